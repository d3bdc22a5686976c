/- of any text, names and entries, what the program makes of them is what the document answers -/
/- Packed by this session's program hbpack.py out of this claim's own texts (Wr, Tn, Ts, Tu, Pq, Ps, Tx, Ty, Ta, Pd, Tb0, Db, Dc, Dt, De, Rx, Re, Rg, Ra, Rh, PureDiffIs, Op, LawDiffIs): the same declarations, without those that the claim does not use. -/
import Derived.Test.YtdcldaknmenklaaGreatDoorPkDiffIs5
import Derived.HandedShaped
import Derived.ProofKit
import Derived.LaidMore
import Derived.Lay
import Derived.Stop.Joined
import Derived.Shelf.Vars
import Derived.Stop.LaidErr
import Derived.Test.YtdcldaknmenklaaGreatDoorRows
import Derived.Lib.ParseIntBCases
import Derived.Laws.BitsLemmas
import Derived.Lib.Strings
import Derived.Lib.IndexBytes
import Derived.OpenShut
import Derived.Deep.Strs
import Derived.SizedLaws
import Derived.WalkKit
import Derived.ShutString
import Derived.ChangeOld
import Derived.Below
import Derived.SevenTiedAt
import Derived.Test.YtdcldaknmenklaaGreatDoorCards
import Derived.Test.YtdcldaknmenklaaGreatDoorTie
section
namespace Go.Proofs.YtdcldaknmenklaaGreatDoor.M
open Go Go.RowKit
variable {H : Type} {enc : TypeId × Value → H}
theorem returns_both {a : Assume} {C : Checked} {os : Os} {f : FuncId} {fn : Func} {s : ChangeSpec} {conds : List PathCond} {apart fresh handsOn again : Bool} {X : World → Array Value → Prop}
  (hX : ∀ (w w' : World) (args : Array Value), w.heap = w'.heap → X w args → X w' args)
  (own : ownKnob C.prog.godebug = none) (started : os.Started) (noInit : C.prog.inits.idxOf? f = none) (hfn : C.prog.funcs[f]? = some fn)
  (witness : ∃ (w : World) (tape : Tape) (i : Input), w.os = os ∧ (w.forCall tape i).Shaped C.prog ∧ i.vars = [] ∧ Input.okWide C.prog (w.forCall tape i) .any w.heap.size f i ∧
   ((s.pre enc C.prog fn conds apart (w.forCall tape i).memory i.args ∧ X (w.forCall tape i).memory i.args) ∧ sizedMet enc C.prog fn (OpenSpec.ofChange s) apart (w.forCall tape i).memory i.args) ∧ a.holds C.prog (lone (Frame.enter C.prog f i.args .normal) [] (w.forCall tape i)))
  (contract : ∀ (W : World) (base : Nat) (args : Array Value) (ds gs : List (DataW H)) (before : List MemPlace),
   (∀ (j : Nat) t v, fn.params[j]? = some t → args[j]? = some v → Value.okWide C.prog W .any base t v) →
   DataW.Whole enc C.prog fn.params.toList s.vars apart W args.toList ds gs before →
   conds.all (PathCond.test C.prog ⟨fn.params.toList, ds, s.plain.varTypes C.prog, gs⟩) = true →
   (DataW.weightsEach C.prog (fn.params.toList ++ s.plain.varTypes C.prog) (ds ++ gs)).all (· ≤ reachBytes) = true → X W args → W.ShapedOpen C.prog →
   Calls C.prog f args W fun e W' => ∃ v, e = .returned v ∧ s.post enc C.prog fn apart fresh handsOn again W args v W') :
  ReturnsInHanded a C os f .any (fun w args => (s.pre enc C.prog fn conds apart w args ∧ X w args) ∧ sizedMet enc C.prog fn (OpenSpec.ofChange s) apart w args) (s.post enc C.prog fn apart fresh handsOn again) := by
 refine returnsInHanded_of_calls own started noInit witness ?_
 intro w tape i _ hsh _ hok hpre hholds
 obtain ⟨_, _, _, fn', hfn', _, _, _, _, hval⟩ := hok
 have e : fn' = fn := Option.some.inj (hfn'.symm.trans hfn)
 subst e
 obtain ⟨⟨⟨ds, gs, before, hw, hc⟩, hx⟩, hz⟩ := hpre
 have hw' := DataW.Whole.of_heap (w' := w.forCall tape i) (by rfl) hw
 refine (contract (w.forCall tape i) w.heap.size i.args ds gs before hval hw' hc (hz.weights hw) (hX _ _ _ (by rfl) hx) hsh).mono fun e W' ⟨v, he, hp⟩ => ?_
 subst he
 exact ChangeSpec.post_blind hp
theorem gw_star : "*" ++ "errors.errorString" = "*errors.errorString" := by decide
theorem gw_row (u : TypeId) (h : Tryz.prog.typeName? 3 u = some "*errors.errorString") : u = 212 :=
 typeName_ptr_named (nm := "errors.errorString") (by rw [gw_star]; kernel_rfl) (by kernel_rfl) (by decide) u (by rw [gw_star]; exact h)
/-- Out of a row's 'laid', from the two sentinels on, and the world's shape. -/
theorem GW.of_mets {r1 r2 : List (String × DataW Unit)} {t1 t2 : List UInt8} {W : World}
  (h1 : laidMet Tryz.prog (("strconv.ErrRange", .iface "*errors.errorString" (.ptr (.agg [.lit (.string t1)]))) :: r1) W)
  (h2 : laidMet Tryz.prog (("strconv.ErrSyntax", .iface "*errors.errorString" (.ptr (.agg [.lit (.string t2)]))) :: r2) W)
  {r3 : List (String × DataW Unit)} (h3 : laidMet Tryz.prog (("strings.asciiSpace", Rows.laid_strings_asciiSpace) :: r3) W)
  {r4 : List (String × DataW Unit)} (h4 : laidMet Tryz.prog (("internal/strconv.uint64pow10", Rows.laid_internal_strconv_uint64pow10) :: r4) W)
  (hsh : W.ShapedOpen Tryz.prog) : GW W := by
 obtain ⟨a0, s0, hv0, -, -, -⟩ := laid_sentinel h1 (g := 1) (ti := 83) (by kernel_rfl) (by kernel_rfl) Tryz.underlying83 gw_row Tryz.underlying212 Tryz.underlying214 rfl rfl Tryz.underlying9 (by kernel_rfl) (by kernel_rfl)
 obtain ⟨a1, s1, hv1, -, -, -⟩ := laid_sentinel h2 (g := 5) (ti := 83) (by kernel_rfl) (by kernel_rfl) Tryz.underlying83 gw_row Tryz.underlying212 Tryz.underlying214 rfl rfl Tryz.underlying9 (by kernel_rfl) (by kernel_rfl)
 have c0 := World.var?_cell (P := Tryz.prog) (g := 1) (by kernel_rfl) hv0 0
 have c1 := World.var?_cell (P := Tryz.prog) (g := 5) (by kernel_rfl) hv1 0
 obtain ⟨m, hm⟩ := cell_of_shapedOpen_int (P := Tryz.prog) (g := 2) (t := 3) (zero := #[.int .i64 0]) hsh (of_decide_eq_true (by kernel_rfl)) (by kernel_rfl) rfl (by kernel_rfl) (by kernel_rfl) Tryz.underlying3
 have e3 : (Rows.laid_strings_asciiSpace : DataW Unit) = Lib.tabData .u8 Lib.asciiSpaceTab := by kernel_rfl
 rw [e3] at h3
 have hsp : Lib.TabIs Tryz.prog W "strings.asciiSpace" .u8 Lib.asciiSpaceTab := Lib.tabIs_of_head (g := 0) (by kernel_rfl) (by kernel_rfl) Tryz.underlying130 Tryz.underlying5 (by kernel_rfl) (by kernel_rfl) h3
 have e4 : (Rows.laid_internal_strconv_uint64pow10 : DataW Unit) = Lib.tabData .u64 Lib.pow10Tab := by kernel_rfl
 rw [e4] at h4
 have hpow : Lib.TabIs Tryz.prog W "internal/strconv.uint64pow10" .u64 Lib.pow10Tab := Lib.tabIs_of_head (g := 3) (by kernel_rfl) (by kernel_rfl) Tryz.underlying144 Tryz.underlying125 (by kernel_rfl) (by kernel_rfl) h4
 exact {
  range := ⟨a0, by simpa using c0⟩
  syn := ⟨a1, by simpa using c1⟩
  max := ⟨m, hm⟩
  space := hsp
  pow := hpow
 }
end Go.Proofs.YtdcldaknmenklaaGreatDoor.M
end
section
namespace Go.Proofs.YtdcldaknmenklaaGreatDoor.M
open Go.RowKit Go.Proofs.YtdcldaknmenklaaGreatDoorW.PrintWords
set_option linter.unusedVariables false
set_option linter.unusedSimpArgs false
def isOct (c : UInt8) : Bool := decide (48 ≤ c.toNat) && decide (c.toNat < 56)
def octs (r : List UInt8) : List UInt8 := (r.take 3).takeWhile isOct
def octFold (acc : Nat) (l : List UInt8) : Nat := l.foldl (fun a c => a * 8 + (c.toNat - 48)) acc
theorem octFold_cons (acc : Nat) (c : UInt8) (l : List UInt8) : octFold acc (c :: l) = octFold (acc * 8 + (c.toNat - 48)) l := by unfold octFold; rw [List.foldl_cons]
theorem octFold_nil (acc : Nat) : octFold acc [] = acc := by unfold octFold; rw [List.foldl_nil]
attribute [irreducible] octFold
set_option maxHeartbeats 1600000 in
theorem number_loop (s : ByteArray) (d : Nat) : ∀ (i acc k : Nat), 3 - i = d → i ≤ 3 → i ≤ s.size → acc < 8 ^ i → d + 1 ≤ k →
  tok_number.l0 k s (acc : Int) (i : Int) = some (((octFold acc (((s.data.toList.drop i).take (3 - i)).takeWhile isOct) : Nat) : Int) % 256, ((i + (((s.data.toList.drop i).take (3 - i)).takeWhile isOct).length : Nat) : Int)) := by
 induction d with
 | zero =>
  intro i acc k hd hi hs ha hk
  obtain ⟨k, rfl⟩ : ∃ k', k = k' + 1 := ⟨k - 1, by omega⟩
  have : i = 3 := by omega
  subst this
  rw [tok_number.l0, if_neg (by omega), show 3 - 3 = 0 from rfl, List.take_zero, List.takeWhile_nil, octFold_nil, List.length_nil, Nat.add_zero]
 | succ d ih =>
  intro i acc k hd hi hs ha hk
  obtain ⟨k, rfl⟩ : ∃ k', k = k' + 1 := ⟨k - 1, by omega⟩
  rw [tok_number.l0, if_pos (by omega)]
  by_cases h1 : i < s.size
  ·rw [if_pos (by omega), if_pos (by omega)]
   have hL : i < s.data.toList.length := by rw [← size_list]; exact h1
   have hdr : (s.data.toList.drop i).take (3 - i) = s.data.toList[i] :: (s.data.toList.drop (i + 1)).take (3 - (i + 1)) := by
    rw [List.drop_eq_getElem_cons hL, show 3 - i = (3 - (i + 1)) + 1 by omega, List.take_succ_cons]
   rw [hdr, bt_get s i h1]
   generalize s.data.toList[i] = c
   by_cases h2 : (c.toNat : Int) ≥ 48
   ·rw [if_pos h2]
    by_cases h3 : (c.toNat : Int) < 56
    ·have ho : isOct c = true := by unfold isOct; rw [Bool.and_eq_true, decide_eq_true_eq, decide_eq_true_eq]; omega
     have hi3 : i = 0 ∨ i = 1 ∨ i = 2 := by omega
     have ha2 : acc * 8 + (c.toNat - 48) < 8 ^ (i + 1) := by rw [Nat.pow_succ]; omega
     have hp : (8 : Nat) ^ i ≤ 64 := by rcases hi3 with rfl | rfl | rfl <;> decide
     rw [if_pos h3, List.takeWhile_cons, if_pos ho, octFold_cons, wrap_small (x := (acc : Int) * 8) (by omega) (by omega), show ((c.toNat : Int) - 48) % 256 = (c.toNat : Int) - 48 by omega,
      wrap_small (x := (acc : Int) * 8 + ((c.toNat : Int) - 48)) (by omega) (by omega), wrap_small (x := (i : Int) + 1) (by omega) (by omega)]
     have := ih (i + 1) (acc * 8 + (c.toNat - 48)) k (by omega) (by omega) (by omega) ha2 (by omega)
     rw [show (acc : Int) * 8 + ((c.toNat : Int) - 48) = ((acc * 8 + (c.toNat - 48) : Nat) : Int) by omega, show (i : Int) + 1 = ((i + 1 : Nat) : Int) by omega, this, List.length_cons]
     congr 3
     omega
    ·have ho : isOct c = false := by unfold isOct; rw [Bool.and_eq_false_iff, decide_eq_false_iff_not, decide_eq_false_iff_not]; omega
     rw [if_neg h3, List.takeWhile_cons, if_neg (by rw [ho]; decide), octFold_nil, List.length_nil, Nat.add_zero]
   ·have ho : isOct c = false := by unfold isOct; rw [Bool.and_eq_false_iff, decide_eq_false_iff_not, decide_eq_false_iff_not]; omega
    rw [if_neg h2, List.takeWhile_cons, if_neg (by rw [ho]; decide), octFold_nil, List.length_nil, Nat.add_zero]
  ·rw [if_neg (by omega)]
   have hdr : s.data.toList.drop i = [] := List.drop_eq_nil_of_le (by rw [← size_list]; omega)
   rw [hdr, List.take_nil, List.takeWhile_nil, octFold_nil, List.length_nil, Nat.add_zero]
theorem number_eq (s : ByteArray) {k : Nat} (hk : 4 ≤ k) : tok_number.f k s = some (((octFold 0 (octs s.data.toList) : Nat) : Int) % 256, ((octs s.data.toList).length : Int)) := by
 unfold tok_number.f octs
 have := number_loop s 3 0 0 k rfl (by omega) (by omega) (by decide) (by omega)
 rw [List.drop_zero, Nat.zero_add] at this
 exact this
def letterOf (c : UInt8) : UInt8 := if c = 110 then 10 else if c = 114 then 13 else if c = 116 then 9 else if c = 98 then 8 else if c = 102 then 12 else c
/-- What a text behind a backslash begins with: its bytes, and how many they take. -/
def escG (r : List UInt8) : List UInt8 × Nat :=
 if 0 < (octs r).length then ([(octFold 0 (octs r) % 256).toUInt8], (octs r).length)
 else match r with
 | [] => ([], 0)
 | c :: t => if [13, 10].isPrefixOf (c :: t) then ([], 2) else if c = 10 ∨ c = 13 then ([], 1) else ([letterOf c], 1)
def idxT (c : UInt8) : Int := if c = 110 then 0 else if c = 114 then 1 else if c = 116 then 2 else if c = 98 then 3 else if c = 102 then 4 else -1
theorem idx_all : ∀ n : Fin 256, strings_IndexByte.f (⟨#[110, 114, 116, 98, 102]⟩ : ByteArray) (n.val : Int) = some (idxT n.val.toUInt8) := by decide +kernel
theorem idx_eq (c : UInt8) : strings_IndexByte.f (⟨#[110, 114, 116, 98, 102]⟩ : ByteArray) (c.toNat : Int) = some (idxT c) := by
 have := idx_all ⟨c.toNat, c.toNat_lt⟩
 rw [show ((⟨c.toNat, c.toNat_lt⟩ : Fin 256).val.toUInt8) = c from UInt8.ofNat_toNat] at this
 exact this
theorem str_one (n : Nat) : strOfNums [((n : Nat) : Int) % 256] = ⟨[(n % 256).toUInt8].toArray⟩ := by
 have : ((n : Nat) : Int) % 256 = ((n % 256 : Nat) : Int) := by omega
 rw [this]
 rfl
theorem letter_eq (c : UInt8) (x : ByteArray) (hx : x = ⟨#[c]⟩) : (if idxT c ≥ 0 then (if 0 ≤ idxT c then (if idxT c ≤ wrap64 (idxT c + 1) then (if wrap64 (idxT c + 1) ≤ 5 then some ((⟨#[10, 13, 9, 8, 12]⟩ : ByteArray).extract (idxT c).toNat (wrap64 (idxT c + 1)).toNat, (1 : Int)) else none) else none) else none) else some (x, 1)) = some (⟨#[letterOf c]⟩, 1) := by
 subst hx
 by_cases h1 : c = 110
 ·subst h1
  rw [show idxT 110 = 0 by decide, show letterOf 110 = 10 by decide, show wrap64 (0 + 1) = 1 from wrap_small (by decide) (by decide), if_pos (by decide), if_pos (by decide), if_pos (by decide), if_pos (by decide), ext_mid]
  rfl
 by_cases h2 : c = 114
 ·subst h2
  rw [show idxT 114 = 1 by decide, show letterOf 114 = 13 by decide, show wrap64 (1 + 1) = 2 from wrap_small (by decide) (by decide), if_pos (by decide), if_pos (by decide), if_pos (by decide), if_pos (by decide), ext_mid]
  rfl
 by_cases h3 : c = 116
 ·subst h3
  rw [show idxT 116 = 2 by decide, show letterOf 116 = 9 by decide, show wrap64 (2 + 1) = 3 from wrap_small (by decide) (by decide), if_pos (by decide), if_pos (by decide), if_pos (by decide), if_pos (by decide), ext_mid]
  rfl
 by_cases h4 : c = 98
 ·subst h4
  rw [show idxT 98 = 3 by decide, show letterOf 98 = 8 by decide, show wrap64 (3 + 1) = 4 from wrap_small (by decide) (by decide), if_pos (by decide), if_pos (by decide), if_pos (by decide), if_pos (by decide), ext_mid]
  rfl
 by_cases h5 : c = 102
 ·subst h5
  rw [show idxT 102 = 4 by decide, show letterOf 102 = 12 by decide, show wrap64 (4 + 1) = 5 from wrap_small (by decide) (by decide), if_pos (by decide), if_pos (by decide), if_pos (by decide), if_pos (by decide), ext_mid]
  rfl
 have e1 : idxT c = -1 := by unfold idxT; simp only [h1, h2, h3, h4, h5, if_false]
 have e2 : letterOf c = c := by unfold letterOf; simp only [h1, h2, h3, h4, h5, if_false]
 rw [e1, e2, if_neg (by decide)]
theorem escaped_eq (s : ByteArray) {k : Nat} (hk : 4 ≤ k) : tok_escaped.f k s = some (⟨(escG s.data.toList).1.toArray⟩, ((escG s.data.toList).2 : Int)) := by
 unfold tok_escaped.f escG
 rw [number_eq s hk, Option.bind_some]
 dsimp only
 by_cases h0 : 0 < (octs s.data.toList).length
 ·rw [if_pos (by omega), if_pos h0, str_one]
 rw [if_neg (by omega), if_neg h0]
 obtain ⟨k, rfl⟩ : ∃ k', k = k' + 1 := ⟨k - 1, by omega⟩
 rw [toList_data]
 rcases hs : s.data.toList with _ | ⟨c, t⟩
 ·rw [if_pos rfl]; rfl
 rw [if_neg (by simp), hasPrefix_eq, Option.bind_some]
 have hsz : s.size = t.length + 1 := by rw [size_list, hs]; rfl
 have hbt : bt s 0 = c.toNat := by
  have := bt_get s 0 (by omega)
  rw [show ((0 : Nat) : Int) = 0 from rfl] at this
  rw [this]
  congr 1
  simp [hs]
 have hex : s.extract 0 1 = ⟨#[c]⟩ := by
  rw [ext_mid, hs]
  rfl
 rw [hs, show (⟨#[13, 10]⟩ : ByteArray).data.toList = [13, 10] from rfl]
 dsimp only
 by_cases hp : [13, 10].isPrefixOf (c :: t) = true
 ·rw [if_pos hp, if_pos hp]; rfl
 rw [if_neg hp, if_neg hp, if_pos (by omega), hbt]
 by_cases h10 : c = 10
 ·subst h10
  rw [if_pos (show (((10 : UInt8).toNat : Nat) : Int) = 10 from rfl), if_pos (show (10 : UInt8) = 10 ∨ (10 : UInt8) = 13 from .inl rfl), tok_escaped.j0, if_pos rfl]; rfl
 have n10 : ¬ ((c.toNat : Int) = 10) := fun e => h10 (UInt8.toNat_inj.1 (by show c.toNat = 10; omega))
 rw [if_neg n10, tok_escaped.j0]
 by_cases h13 : c = 13
 ·subst h13
  rw [if_pos (show ((((13 : UInt8).toNat : Nat) : Int) == 13) = true from rfl), if_pos (show (13 : UInt8) = 10 ∨ (13 : UInt8) = 13 from .inr rfl)]; rfl
 have n13 : ¬ (((c.toNat : Int) == 13) = true) := fun e => h13 (UInt8.toNat_inj.1 (by have := beq_iff_eq.1 e; show c.toNat = 13; omega))
 rw [if_neg n13, if_neg (show ¬ (c = 10 ∨ c = 13) from fun e => e.elim h10 h13), if_pos (show (0 : Int) < (s.size : Int) by omega), hbt, idx_eq, Option.bind_some, if_pos (show (0 : Nat) ≤ 1 by decide), if_pos (show (1 : Int) ≤ (s.size : Int) by omega), letter_eq c _ hex]
 rfl
/-- How many bytes a new line takes that a text begins with, if it is one that begins with a carriage return. -/
def lineG (r : List UInt8) : Nat := if [13, 10].isPrefixOf r then 2 else if [13].isPrefixOf r then 1 else 0
theorem line_eq (s : ByteArray) : tok_line.f s = some (lineG s.data.toList : Int) := by
 unfold tok_line.f lineG
 rw [hasPrefix_eq, hasPrefix_eq, Option.bind_some, show (⟨#[13, 10]⟩ : ByteArray).data.toList = [13, 10] from rfl, show (⟨#[13]⟩ : ByteArray).data.toList = [13] from rfl]
 by_cases h1 : [13, 10].isPrefixOf s.data.toList = true
 ·rw [if_pos h1, if_pos h1]; rfl
 rw [if_neg h1, if_neg h1, Option.bind_some]
 by_cases h2 : [13].isPrefixOf s.data.toList = true
 ·rw [if_pos h2, if_pos h2]; rfl
 ·rw [if_neg h2, if_neg h2]; rfl
def deepG (c : UInt8) (deep : Nat) : Nat := if c = 41 then deep - 1 else if c = 40 then deep + 1 else deep
/-- A Str behind its first bracket: the error, its bytes, and what is left. -/
def strG : Nat → Nat → List UInt8 → List UInt8 → Int × List UInt8 × List UInt8
 | 0, _, _, _ => (2, [], [])
 | _ + 1, _, _, [] => (2, [], [])
 | n + 1, deep, out, c :: t =>
  if c = 92 then (if (escG t).2 = 0 then (2, [], []) else strG n deep (out ++ (escG t).1) (t.drop (escG t).2))
  else if c = 41 ∧ deep = 1 then (0, out, t)
  else if c = 40 ∧ deep = 32 then (5, [], c :: t)
  else if 0 < lineG (c :: t) then strG n (deepG c deep) (out ++ [10]) ((c :: t).drop (lineG (c :: t)))
  else strG n (deepG c deep) (out ++ [c]) t
theorem octs_le (r : List UInt8) : (octs r).length ≤ 3 ∧ (octs r).length ≤ r.length := by
 unfold octs
 have h1 := (List.takeWhile_sublist (p := isOct) (l := r.take 3)).length_le
 rw [List.length_take] at h1
 omega
theorem escG_le (r : List UInt8) : (escG r).2 ≤ r.length ∧ (escG r).1.length ≤ 1 := by
 unfold escG
 have h := octs_le r
 split
 ·exact ⟨h.2, by simp⟩
 ·split
  ·simp
  ·rename_i c t _ _
   split
   ·rename_i hp
    have := (List.isPrefixOf_iff_prefix.1 hp).length_le
    exact ⟨this, by simp⟩
   ·split <;> simp
theorem lineG_le (r : List UInt8) : lineG r ≤ r.length ∧ lineG r ≤ 2 := by
 unfold lineG
 split
 ·rename_i hp
  have := (List.isPrefixOf_iff_prefix.1 hp).length_le
  exact ⟨this, by omega⟩
 ·split
  ·rename_i hp
   have := (List.isPrefixOf_iff_prefix.1 hp).length_le
   exact ⟨this, by omega⟩
  ·exact ⟨by omega, by omega⟩
theorem from_eq (a0 : ByteArray) (i : Nat) (hi : i ≤ a0.size) : tok_source_from.f a0 (i : Int) = some ⟨(a0.data.toList.drop i).toArray⟩ := by
 have hmn : mn (i : Int) (a0.size : Int) = (i : Int) := by unfold mn; split <;> omega
 unfold tok_source_from.f
 rw [hmn, if_pos (by omega), if_pos (by omega), Int.toNat_natCast, ext_from]
def strAns (a0 : ByteArray) (a1 : Int) (x : Int × List UInt8 × List UInt8) : TokR :=
 if x.1 = 0 then (5, a1, 0, ⟨x.2.1.toArray⟩, ((a0.size - x.2.2.length : Nat) : Int), 0) else (0, 0, 0, ⟨#[]⟩, ((a0.size - x.2.2.length : Nat) : Int), x.1)
set_option maxHeartbeats 1600000 in
theorem strung_loop (a0 : ByteArray) (a1 : Int) (hs : a0.size ≤ 140737488351000) (K : Nat) (hK : 4 ≤ K) : ∀ (n i deep k : Nat) (out : List UInt8), i ≤ a0.size → a0.size - i < n → n ≤ k → 1 ≤ deep → deep ≤ 32 → out.length ≤ i →
  tok_source_strung.g K a0 a1 k out (deep : Int) (i : Int) = some (strAns a0 a1 (strG n deep out (a0.data.toList.drop i)))
 | 0, i, deep, k, out => fun _ h => by omega
 | n + 1, i, deep, k, out => by
  intro hi hn hk hd1 hd2 ho
  obtain ⟨k, rfl⟩ : ∃ k', k = k' + 1 := ⟨k - 1, by omega⟩
  have ih := strung_loop a0 a1 hs K hK n
  rw [tok_source_strung.g, if_pos ⟨by omega, by omega, by omega, by omega, by omega, by omega⟩, from_eq a0 i hi, Option.bind_some]
  have hdl : (a0.data.toList.drop i).length = a0.size - i := by rw [List.length_drop, ← size_list]
  have hdd : ∀ m, (a0.data.toList.drop i).drop m = a0.data.toList.drop (i + m) := fun m => by rw [List.drop_drop]
  generalize hr : a0.data.toList.drop i = r at hdl hdd
  rcases r with _ | ⟨c, t⟩
  ·rw [if_pos (show (⟨([] : List UInt8).toArray⟩ : ByteArray).size = 0 from rfl), strG]
   rfl
  have hsz : (⟨(c :: t).toArray⟩ : ByteArray).size = t.length + 1 := by rw [size_list, ba_list]; rfl
  have hbt : bt (⟨(c :: t).toArray⟩ : ByteArray) 0 = (c.toNat : Int) := by
   have := bt_get (⟨(c :: t).toArray⟩ : ByteArray) 0 (by omega)
   rw [show ((0 : Nat) : Int) = 0 from rfl] at this
   rw [this]
   simp
  have htl : (⟨(c :: t).toArray⟩ : ByteArray).extract 1 (⟨(c :: t).toArray⟩ : ByteArray).size = ⟨t.toArray⟩ := by
   have := ext_from (⟨(c :: t).toArray⟩ : ByteArray) 1
   rw [this, ba_list]
   rfl
  rw [List.length_cons] at hdl
  rw [if_neg (by omega), hbt, htl, strG]
  by_cases h92 : c = 92
  ·subst h92
   rw [if_pos (show (((92 : UInt8).toNat : Nat) : Int) = 92 from rfl), if_pos (show (92 : UInt8) = 92 from rfl), escaped_eq _ hK, Option.bind_some, ba_list]
   dsimp only
   have he := escG_le t
   by_cases h0 : (escG t).2 = 0
   ·rw [if_pos (by omega), if_pos h0]
    rfl
   rw [if_neg (by omega), if_neg h0, if_pos ⟨by omega, by omega, by rw [size_list, ba_list]; omega⟩]
   have := ih (i + 1 + (escG t).2) deep k (out ++ (escG t).1) (by omega) (by omega) (by omega) hd1 hd2 (by rw [List.length_append]; omega)
   rw [show (i : Int) + (1 + ((escG t).2 : Int)) = ((i + 1 + (escG t).2 : Nat) : Int) by omega, this]
   have hx := hdd (1 + (escG t).2)
   rw [show i + (1 + (escG t).2) = i + 1 + (escG t).2 by omega, ← List.drop_drop, List.drop_one, List.tail_cons] at hx
   rw [hx]
  have n92 : ¬ ((c.toNat : Int) = 92) := fun e => h92 (UInt8.toNat_inj.1 (by show c.toNat = 92; omega))
  rw [if_neg n92, if_neg h92]
  have cast : ∀ x : UInt8, ((c.toNat : Int) = (x.toNat : Int)) ↔ c = x := fun x => ⟨fun e => UInt8.toNat_inj.1 (by omega), fun e => by rw [e]⟩
  have c41 := cast 41
  have c40 := cast 40
  rw [show (((41 : UInt8).toNat : Nat) : Int) = 41 from rfl] at c41
  rw [show (((40 : UInt8).toNat : Nat) : Int) = 40 from rfl] at c40
  by_cases h41 : c = 41 ∧ deep = 1
  ·rw [if_pos ⟨c41.2 h41.1, by omega⟩, if_pos h41]
   show _ = some (strAns a0 a1 ((0 : Int), out, t))
   unfold strAns
   rw [if_pos rfl]
   dsimp only
   rw [show a0.size - t.length = i + 1 by omega]
   rfl
  rw [if_neg (fun e => h41 ⟨c41.1 e.1, by have := e.2; omega⟩), if_neg h41]
  by_cases h40 : c = 40 ∧ deep = 32
  ·rw [if_pos ⟨c40.2 h40.1, by omega⟩, if_pos h40]
   show _ = some (strAns a0 a1 ((5 : Int), [], c :: t))
   unfold strAns
   rw [if_neg (show ¬ (5 : Int) = 0 by decide)]
   dsimp only
   rw [List.length_cons, show a0.size - (t.length + 1) = i by omega]
  rw [if_neg (fun e => h40 ⟨c40.1 e.1, by have := e.2; omega⟩), if_neg h40]
  have hdp : deepOf (c.toNat : Int) (deep : Int) = ((deepG c deep : Nat) : Int) ∧ 1 ≤ deepG c deep ∧ deepG c deep ≤ 32 := by
   unfold deepOf deepG
   by_cases e1 : c = 41
   ·have : deep ≠ 1 := fun e => h41 ⟨e1, e⟩
    rw [if_pos (c41.2 e1), if_pos e1]
    omega
   rw [if_neg (fun e => e1 (c41.1 e)), if_neg e1]
   by_cases e2 : c = 40
   ·have : deep ≠ 32 := fun e => h40 ⟨e2, e⟩
    rw [if_pos (c40.2 e2), if_pos e2]
    omega
   ·rw [if_neg (fun e => e2 (c40.1 e)), if_neg e2]
    omega
  have hl := lineG_le (c :: t)
  rw [List.length_cons] at hl
  rw [line_eq, Option.bind_some, ba_list, hdp.1]
  by_cases h0 : 0 < lineG (c :: t)
  ·rw [if_pos ⟨by omega, by omega⟩, if_pos h0]
   have := ih (i + lineG (c :: t)) (deepG c deep) k (out ++ [10]) (by omega) (by omega) (by omega) hdp.2.1 hdp.2.2 (by rw [List.length_append, List.length_singleton]; omega)
   rw [show (i : Int) + (lineG (c :: t) : Int) = ((i + lineG (c :: t) : Nat) : Int) by omega, this, hdd]
  ·rw [if_neg (fun e => h0 (by have := e.1; omega)), if_pos (by omega), if_neg h0, show (c.toNat : Int).toNat.toUInt8 = c from by rw [Int.toNat_natCast]; exact UInt8.ofNat_toNat]
   have := ih (i + 1) (deepG c deep) k (out ++ [c]) (by omega) (by omega) (by omega) hdp.2.1 hdp.2.2 (by rw [List.length_append, List.length_singleton]; omega)
   rw [show (i : Int) + 1 = ((i + 1 : Nat) : Int) by omega, this, ← hdd 1]
   rfl
/-- A digit that waits for its second one stands as a byte already. -/
def rowOf (acc : List Int) : Option Int → List Int
 | none => acc
 | some h => acc ++ [h * 16]
def unhG : List Int → Option Int → List UInt8 → Int × List Int × List UInt8
 | acc, hi, [] => (0, rowOf acc hi, [])
 | acc, hi, c :: t => match hexVal c.toNat with
  | some v => (match hi with | none => unhG acc (some v) t | some h => unhG (acc ++ [h * 16 + v]) none t)
  | none => if isWhite c.toNat = true then unhG acc hi t else (1, [], c :: t)
def unhAns (s : ByteArray) (x : Int × List Int × List UInt8) : List Int × Int × Int := if x.1 = 0 then (x.2.1, (s.size : Int), 0) else ([], ((s.size - x.2.2.length : Nat) : Int), 1)
theorem hexVal_lt {c v : Int} (h : hexVal c = some v) : 0 ≤ v ∧ v < 16 := by
 unfold hexVal at h
 split at h
 ·injection h; omega
 ·split at h
  ·injection h; omega
  ·split at h
   ·injection h; omega
   ·cases h
theorem or_all : ∀ h v : Fin 16, Go.bits .or .u8 ((h.val : Int) * 16) (v.val : Int) = (h.val : Int) * 16 + v.val := by decide +kernel
theorem or_eq (h v : Int) (h0 : 0 ≤ h) (h1 : h < 16) (v0 : 0 ≤ v) (v1 : v < 16) : Go.bits .or .u8 (h * 16) v = h * 16 + v := by
 have := or_all ⟨h.toNat, by omega⟩ ⟨v.toNat, by omega⟩
 dsimp only at this
 rw [Int.toNat_of_nonneg h0, Int.toNat_of_nonneg v0] at this
 exact this
theorem rowOf_length (acc : List Int) (hi : Option Int) : (rowOf acc hi).length ≤ acc.length + 1 := by
 unfold rowOf; split <;> simp
set_option maxHeartbeats 1600000 in
theorem unhex_loop (s : ByteArray) (hs : s.size < 140737488355000) (d : Nat) : ∀ (i k : Nat) (acc : List Int) (hi : Option Int), s.size - i = d → i ≤ s.size → 2 * d + 4 ≤ k → acc.length + 1 ≤ i + 1 → (∀ h, hi = some h → 0 ≤ h ∧ h < 16) →
  hex_UnHex.l0 k s (rowOf acc hi) hi.isNone (s.size : Int) (i : Int) = some (unhAns s (unhG acc hi (s.data.toList.drop i))) := by
 induction d with
 | zero =>
  intro i k acc hi hd h0 hk ha hh
  obtain ⟨k, rfl⟩ : ∃ k', k = k' + 1 := ⟨k - 1, by omega⟩
  rw [hex_UnHex.l0, if_neg (by omega), List.drop_eq_nil_of_le (by rw [← size_list]; omega)]
  cases hi <;> rfl
 | succ d ih =>
  intro i k acc hi hd h0 hk ha hh
  obtain ⟨k, rfl⟩ : ∃ k', k = k' + 2 := ⟨k - 2, by omega⟩
  have hlt : i < s.size := by omega
  have hL : i < s.data.toList.length := by rw [← size_list]; exact hlt
  have hdr := List.drop_eq_getElem_cons hL
  have hrem : (s.data.toList.drop i).length = s.size - i := by rw [List.length_drop, ← size_list]
  rw [hex_UnHex.l0, if_pos (by omega), if_pos (by omega), if_pos (by omega), bt_get s i hlt]
  rw [hdr] at hrem ⊢
  generalize s.data.toList[i] = c at hrem ⊢
  have hc := c.toNat_lt
  have hnx : wrap64 ((i : Int) + 1) = ((i + 1 : Nat) : Int) := wrap_small (by omega) (by omega)
  rw [wrap_small (x := (c.toNat : Int)) (by omega) (by omega), digit_eq (by omega) _ (by omega) (by omega), Option.bind_some]
  dsimp only
  rw [unhG]
  have ih2 := ih (i + 1) k
  cases hv : hexVal c.toNat with
  | some v =>
   have hvb := hexVal_lt hv
   rw [if_pos (show (some v).isSome = true from rfl), hex_UnHex.j1, if_neg (show ¬ (false = true) by decide), if_pos (show (some v).isSome = true from rfl), hnx]
   dsimp only [Option.getD_some]
   cases hi with
   | none =>
    rw [if_pos (show (none : Option Int).isNone = true from rfl), if_pos (by have := rowOf_length acc none; omega), wrap_small (x := v * 16) (by omega) (by omega), show v * 16 % 256 = v * 16 by omega]
    have := ih2 acc (some v) (by omega) (by omega) (by omega) (by omega) (fun h e => by cases e; exact hvb)
    exact this
   | some h =>
    have hb := hh h rfl
    have hlen : (rowOf acc (some h)).length = acc.length + 1 := by simp [rowOf]
    rw [if_neg (show ¬ ((some h).isNone = true) by simp), hlen, wrap_small (x := ((acc.length + 1 : Nat) : Int) - 1) (by omega) (by omega), if_pos (by omega), if_pos (by omega), show (((acc.length + 1 : Nat) : Int) - 1) = (acc.length : Int) by omega]
    have hrd : rd (rowOf acc (some h)) (acc.length : Int) = h * 16 := by
     unfold rd rowOf
     rw [Int.toNat_natCast]
     simp
    have hset : (rowOf acc (some h)).set (acc.length : Int).toNat (h * 16 + v) = acc ++ [h * 16 + v] := by
     rw [Int.toNat_natCast]
     simp [rowOf]
    rw [hrd, show v % 256 = v by omega, or_eq h v hb.1 hb.2 hvb.1 hvb.2, hset]
    have := ih2 (acc ++ [h * 16 + v]) none (by omega) (by omega) (by omega) (by rw [List.length_append, List.length_singleton]; omega) (fun h e => by cases e)
    exact this
  | none =>
   rw [if_neg (show ¬ ((none : Option Int).isSome = true) by simp)]
   rw [show hex_White.f (c.toNat : Int) = some (isWhite c.toNat) from rfl, Option.bind_some, hex_UnHex.j1]
   by_cases hw : isWhite c.toNat = true
   ·rw [if_pos hw, if_pos hw, hnx]
    exact ih2 acc hi (by omega) (by omega) (by omega) (by omega) hh
   ·rw [if_neg hw, if_neg hw, if_neg (show ¬ ((none : Option Int).isSome = true) by simp)]
    unfold unhAns
    rw [if_neg (show ¬ (1 : Int) = 0 by decide)]
    dsimp only
    rw [hrem, show s.size - (s.size - i) = i by omega]
theorem unhex_eq (s : ByteArray) (hs : s.size < 140737488355000) {k : Nat} (hk : 2 * s.size + 4 ≤ k) : hex_UnHex.f k s = some (unhAns s (unhG [] none s.data.toList)) := by
 have := unhex_loop s hs s.size 0 k [] none (by omega) (by omega) hk (by simp) (fun h e => by cases e)
 rw [List.drop_zero] at this
 exact this
end Go.Proofs.YtdcldaknmenklaaGreatDoor.M
end
section
namespace Go.Proofs.YtdcldaknmenklaaGreatDoor.M
open Go.RowKit Go.Proofs.YtdcldaknmenklaaGreatDoorW.PrintWords
set_option linter.unusedVariables false
def isRegB (c : UInt8) : Bool := clsOf c.toNat == 0
def wordAt (l : List UInt8) (i : Nat) : List UInt8 := (l.drop i).takeWhile isRegB
def placeN (s : ByteArray) (a : Int) : Nat := (max 0 (min a s.size)).toNat
theorem placeN_le (s : ByteArray) (a : Int) : placeN s a ≤ s.size := by unfold placeN; omega
theorem place_eq (s : ByteArray) (a : Int) : lex_place.f s a = some (placeN s a : Int) := by
 unfold lex_place.f placeN
 congr 1
 unfold mx mn
 repeat' split
 all_goals omega
theorem wordAt_cons (l : List UInt8) (i : Nat) (h : i < l.length) (hr : isRegB l[i] = true) : wordAt l i = l[i] :: wordAt l (i + 1) := by
 unfold wordAt
 rw [List.drop_eq_getElem_cons h, List.takeWhile_cons, if_pos hr]
theorem wordAt_stop (l : List UInt8) (i : Nat) (h : i < l.length) (hr : isRegB l[i] = false) : wordAt l i = [] := by
 unfold wordAt
 rw [List.drop_eq_getElem_cons h, List.takeWhile_cons, if_neg (by simp [hr])]
theorem wordAt_end (l : List UInt8) (i : Nat) (h : l.length ≤ i) : wordAt l i = [] := by
 unfold wordAt
 rw [List.drop_of_length_le h]; rfl
theorem wordAt_le (l : List UInt8) (i : Nat) (h : i ≤ l.length) : i + (wordAt l i).length ≤ l.length := by
 have : (wordAt l i).length ≤ (l.drop i).length := by unfold wordAt; exact (List.takeWhile_prefix _).length_le
 rw [List.length_drop] at this; omega
theorem cls_get (s : ByteArray) (i : Nat) (h : i < s.size) {k : Nat} (hk : 2 ≤ k) : lex_Class.f k (wrap64 (bt s i)) = some (clsOf (s.data.toList[i]'(by simpa using h)).toNat) := by
 have hr := bt_range s i
 rw [wrap_small hr.1 (by omega), bt_get s i h, class_eq hk]
theorem word_loop (s : ByteArray) (hs : s.size < 4611686018427387904) (a : Nat) (d : Nat) : ∀ (i k : Nat), s.size - i = d → i ≤ s.size → a ≤ i → d + 4 ≤ k →
  lex_Word.l0 k s a i = some (s.extract a (i + (wordAt s.data.toList i).length), ((i + (wordAt s.data.toList i).length : Nat) : Int)) := by
 induction d with
 | zero =>
  intro i k hd hi ha hk
  obtain ⟨k, rfl⟩ : ∃ m, k = m + 1 := ⟨k - 1, by omega⟩
  simp only [lex_Word.l0]
  rw [wordAt_end _ _ (by rw [← size_list]; omega), if_neg (by omega), if_pos (by omega), if_pos (by omega), if_pos (by omega)]
  simp
 | succ d ih =>
  intro i k hd hi ha hk
  obtain ⟨k, rfl⟩ : ∃ m, k = m + 1 := ⟨k - 1, by omega⟩
  have hlt : i < s.size := by omega
  have hl : i < s.data.toList.length := by rw [← size_list]; exact hlt
  simp only [lex_Word.l0]
  rw [if_pos (by omega), if_pos (by omega), cls_get s i hlt (by omega)]
  simp only [Option.bind_some]
  by_cases hr : isRegB s.data.toList[i] = true
  ·have h0 : clsOf (s.data.toList[i]).toNat = 0 := by simpa [isRegB] using hr
   rw [if_pos h0, wrap_small (by omega) (by omega)]
   have := ih (i + 1) k (by omega) (by omega) (by omega) (by omega)
   rw [show ((i : Int) + 1) = ((i + 1 : Nat) : Int) by omega, this, wordAt_cons _ _ hl hr]
   simp only [List.length_cons]
   rw [show i + 1 + (wordAt s.data.toList (i + 1)).length = i + ((wordAt s.data.toList (i + 1)).length + 1) by omega]
  ·have h0 : ¬ clsOf (s.data.toList[i]).toNat = 0 := by simpa [isRegB] using hr
   have hr' : isRegB s.data.toList[i] = false := by simpa using hr
   rw [if_neg h0, wordAt_stop _ _ hl hr', if_pos (by omega), if_pos (by omega), if_pos (by omega)]
   simp
/-- What Word tells. -/
theorem word_eq (s : ByteArray) (hs : s.size < 4611686018427387904) (a : Int) {k : Nat} (hk : s.size + 4 ≤ k) :
  lex_Word.f k s a = some (⟨(wordAt s.data.toList (placeN s a)).toArray⟩, ((placeN s a + (wordAt s.data.toList (placeN s a)).length : Nat) : Int)) := by
 unfold lex_Word.f
 rw [place_eq]
 simp only [Option.bind_some]
 rw [word_loop s hs (placeN s a) _ (placeN s a) k rfl (placeN_le s a) (Nat.le_refl _) (by omega), ext_mid]
 have e : (s.data.toList.drop (placeN s a)).take (placeN s a + (wordAt s.data.toList (placeN s a)).length - placeN s a) = wordAt s.data.toList (placeN s a) := by
  rw [Nat.add_sub_cancel_left]
  unfold wordAt
  exact (List.prefix_iff_eq_take.1 (List.takeWhile_prefix _)).symm
 rw [e]
def isNL (c : UInt8) : Bool := c == 10 || c == 13
/-- How many bytes are skipped; the first argument: in a remark. -/
def skipG : Bool → List UInt8 → Nat
 | _, [] => 0
 | true, c :: r => 1 + skipG (!isNL c) r
 | false, c :: r => if c == 37 then 1 + skipG true r else if clsOf c.toNat == 1 then 1 + skipG false r else 0
def nlAt (r : List UInt8) : Nat := (r.takeWhile (fun c => !isNL c)).length
theorem skipG_le : ∀ (l : List UInt8) (b : Bool), skipG b l ≤ l.length
 | [], b => by cases b <;> simp [skipG]
 | c :: r, true => by have := skipG_le r (!isNL c); simp only [skipG, List.length_cons]; omega
 | c :: r, false => by
  have h1 := skipG_le r true
  have h2 := skipG_le r false
  simp only [skipG, List.length_cons]
  split
  ·omega
  ·split <;> omega
theorem skipG_stable : ∀ (l : List UInt8) (b : Bool), skipG false (l.drop (skipG b l)) = 0
 | [], b => by cases b <;> simp [skipG]
 | c :: r, true => by
  have := skipG_stable r (!isNL c)
  simp only [skipG]
  rw [Nat.add_comm, List.drop_succ_cons]; exact this
 | c :: r, false => by
  have h1 := skipG_stable r true
  have h2 := skipG_stable r false
  rw [skipG]
  split
  ·rw [Nat.add_comm, List.drop_succ_cons]; exact h1
  ·split
   ·rw [Nat.add_comm, List.drop_succ_cons]; exact h2
   ·rename_i n1 n2
    rw [List.drop_zero, skipG, if_neg n1, if_neg n2]
theorem skipG_zero (c : UInt8) (r : List UInt8) (h : skipG false (c :: r) = 0) : (c == 37) = false ∧ (clsOf c.toNat == 1) = false := by
 rw [skipG] at h
 split at h
 ·omega
 ·split at h
  ·omega
  ·rename_i n1 n2
   exact ⟨by simpa using n1, by simpa using n2⟩
theorem skipG_remark : ∀ r : List UInt8, skipG true r = if nlAt r < r.length then nlAt r + 1 + skipG false (r.drop (nlAt r + 1)) else r.length
 | [] => by simp [skipG, nlAt]
 | c :: r => by
  have ih := skipG_remark r
  simp only [skipG]
  cases hc : isNL c with
  | true =>
   have e : nlAt (c :: r) = 0 := by simp [nlAt, hc]
   rw [e, if_pos (by simp)]
   simp
  | false =>
   have e : nlAt (c :: r) = nlAt r + 1 := by simp [nlAt, hc]
   rw [e, Bool.not_false, ih]
   simp only [List.length_cons, List.drop_succ_cons]
   by_cases hl : nlAt r < r.length
   ·rw [if_pos hl, if_pos (by omega)]; omega
   ·rw [if_neg hl, if_neg (by omega)]; omega
/-- Where the remark ends, as the program finds it. -/
def endOf (r : List UInt8) : Int := if 0 ≤ Lib.indexByte r 13 ∧ (Lib.indexByte r 10 < 0 ∨ Lib.indexByte r 13 < Lib.indexByte r 10) then Lib.indexByte r 13 else Lib.indexByte r 10
theorem indexByte_cons (c : UInt8) (r : List UInt8) (x : UInt8) : Lib.indexByte (c :: r) x = if c = x then 0 else if Lib.indexByte r x = -1 then -1 else Lib.indexByte r x + 1 := by
 simp [Lib.indexByte]
theorem endOf_eq : ∀ r : List UInt8, endOf r = if nlAt r < r.length then (nlAt r : Int) else -1
 | [] => by simp [endOf, nlAt, Lib.indexByte]
 | c :: r => by
  have ih := endOf_eq r
  have ha := Lib.indexByte_ge r 10
  have hb := Lib.indexByte_ge r 13
  have ea := indexByte_cons c r 10
  have eb := indexByte_cons c r 13
  unfold endOf at ih ⊢
  generalize Lib.indexByte (c :: r) 10 = A at ea ⊢
  generalize Lib.indexByte (c :: r) 13 = B at eb ⊢
  generalize Lib.indexByte r 10 = a at ea ih ha
  generalize Lib.indexByte r 13 = b at eb ih hb
  by_cases h10 : c = 10
  ·subst h10
   have e : nlAt (10 :: r) = 0 := by simp [nlAt, isNL]
   rw [if_pos rfl] at ea
   rw [if_neg (by decide)] at eb
   have hr : (if nlAt (10 :: r) < (10 :: r).length then ((nlAt (10 :: r) : Nat) : Int) else -1) = 0 := by rw [e]; simp
   rw [hr]
   split at eb <;> (split <;> omega)
  ·by_cases h13 : c = 13
   ·subst h13
    have e : nlAt (13 :: r) = 0 := by simp [nlAt, isNL]
    rw [if_pos rfl] at eb
    rw [if_neg (by decide)] at ea
    have hr : (if nlAt (13 :: r) < (13 :: r).length then ((nlAt (13 :: r) : Nat) : Int) else -1) = 0 := by rw [e]; simp
    rw [hr]
    split at ea <;> (split <;> omega)
   ·have e : nlAt (c :: r) = nlAt r + 1 := by simp [nlAt, isNL, h10, h13]
    rw [if_neg h10] at ea
    rw [if_neg h13] at eb
    by_cases hn : nlAt r < r.length
    ·rw [if_pos hn] at ih
     have hr : (if nlAt (c :: r) < (c :: r).length then ((nlAt (c :: r) : Nat) : Int) else -1) = ((nlAt r + 1 : Nat) : Int) := by rw [e, List.length_cons, if_pos (by omega)]
     rw [hr]
     split at ih <;> split at ea <;> split at eb <;> (split <;> omega)
    ·rw [if_neg hn] at ih
     have hr : (if nlAt (c :: r) < (c :: r).length then ((nlAt (c :: r) : Nat) : Int) else -1) = -1 := by rw [e, List.length_cons, if_neg (by omega)]
     rw [hr]
     split at ih <;> split at ea <;> split at eb <;> (split <;> omega)
theorem skip_loop (s : ByteArray) (hs : s.size < 4611686018427387904) (d : Nat) : ∀ (i k : Nat), s.size - i ≤ d → i ≤ s.size → 2 * d + 4 ≤ k →
  lex_Skip.l0 k s i = some ((i + skipG false (s.data.toList.drop i) : Nat) : Int) := by
 induction d with
 | zero =>
  intro i k hd hi hk
  obtain ⟨k, rfl⟩ : ∃ m, k = m + 1 := ⟨k - 1, by omega⟩
  simp only [lex_Skip.l0]
  rw [if_neg (by omega), List.drop_of_length_le (by rw [← size_list]; omega)]
  simp [skipG]
 | succ d ih =>
  intro i k hd hi hk
  obtain ⟨k, rfl⟩ : ∃ m, k = m + 1 := ⟨k - 1, by omega⟩
  by_cases hlt : i < s.size
  ·have hl : i < s.data.toList.length := by rw [← size_list]; exact hlt
   simp only [lex_Skip.l0]
   rw [if_pos (by omega), if_pos (by omega), bt_get s i hlt, List.drop_eq_getElem_cons hl]
   by_cases hc : (s.data.toList[i].toNat : Int) = 37
   ·have hc' : s.data.toList[i] = 37 := UInt8.toNat_inj.1 (show s.data.toList[i].toNat = (37 : UInt8).toNat by have : (37 : UInt8).toNat = 37 := rfl; omega)
    rw [if_pos hc, if_pos (by omega)]
    obtain ⟨k, rfl⟩ : ∃ m, k = m + 1 := ⟨k - 1, by omega⟩
    have hx : s.extract (i : Int).toNat s.size = ⟨(s.data.toList.drop i).toArray⟩ := by rw [Int.toNat_natCast, ext_from]
    rw [hx]
    simp only [strings_IndexByte.f, Option.bind_some, show (Int.toNat 13).toUInt8 = 13 from rfl, show (Int.toNat 10).toUInt8 = 10 from rfl]
    have hb := Lib.indexByte_ge (s.data.toList.drop i) 13
    have ha := Lib.indexByte_ge (s.data.toList.drop i) 10
    have he := endOf_eq (s.data.toList.drop i)
    have hlen : (s.data.toList.drop i).length = s.size - i := by rw [List.length_drop, ← size_list]
    have hnl : nlAt (s.data.toList.drop i) ≤ (s.data.toList.drop i).length := by unfold nlAt; exact (List.takeWhile_prefix _).length_le
    have hsk : skipG false (s.data.toList[i] :: s.data.toList.drop (i + 1)) = skipG true (s.data.toList.drop i) := by
     rw [List.drop_eq_getElem_cons hl, hc']; simp [skipG, isNL]
    rw [hsk, skipG_remark]
    have key : lex_Skip.j1 (k + 1) s i (Lib.indexByte (s.data.toList.drop i) 10) (Lib.indexByte (s.data.toList.drop i) 13) (decide (0 ≤ Lib.indexByte (s.data.toList.drop i) 13 ∧ (Lib.indexByte (s.data.toList.drop i) 10 < 0 ∨ Lib.indexByte (s.data.toList.drop i) 13 < Lib.indexByte (s.data.toList.drop i) 10))) = if endOf (s.data.toList.drop i) < 0 then some (s.size : Int) else lex_Skip.l0 k s (wrap64 ((wrap64 (i + endOf (s.data.toList.drop i))) + 1)) := by
     by_cases hcnd : 0 ≤ Lib.indexByte (s.data.toList.drop i) 13 ∧ (Lib.indexByte (s.data.toList.drop i) 10 < 0 ∨ Lib.indexByte (s.data.toList.drop i) 13 < Lib.indexByte (s.data.toList.drop i) 10)
     ·have e : endOf (s.data.toList.drop i) = Lib.indexByte (s.data.toList.drop i) 13 := by unfold endOf; rw [if_pos hcnd]
      rw [e, decide_eq_true hcnd, lex_Skip.j1, if_pos rfl]
     ·have e : endOf (s.data.toList.drop i) = Lib.indexByte (s.data.toList.drop i) 10 := by unfold endOf; rw [if_neg hcnd]
      rw [e, decide_eq_false hcnd, lex_Skip.j1, if_neg (by decide)]
    have key2 : (if Lib.indexByte (s.data.toList.drop i) 13 ≥ 0 then (if Lib.indexByte (s.data.toList.drop i) 10 < 0 then lex_Skip.j1 (k + 1) s i (Lib.indexByte (s.data.toList.drop i) 10) (Lib.indexByte (s.data.toList.drop i) 13) true else lex_Skip.j1 (k + 1) s i (Lib.indexByte (s.data.toList.drop i) 10) (Lib.indexByte (s.data.toList.drop i) 13) (decide (Lib.indexByte (s.data.toList.drop i) 13 < Lib.indexByte (s.data.toList.drop i) 10))) else lex_Skip.j1 (k + 1) s i (Lib.indexByte (s.data.toList.drop i) 10) (Lib.indexByte (s.data.toList.drop i) 13) false) = lex_Skip.j1 (k + 1) s i (Lib.indexByte (s.data.toList.drop i) 10) (Lib.indexByte (s.data.toList.drop i) 13) (decide (0 ≤ Lib.indexByte (s.data.toList.drop i) 13 ∧ (Lib.indexByte (s.data.toList.drop i) 10 < 0 ∨ Lib.indexByte (s.data.toList.drop i) 13 < Lib.indexByte (s.data.toList.drop i) 10))) := by
     split
     ·rename_i h1
      split
      ·rename_i h2
       rw [decide_eq_true (show _ ∧ _ from ⟨h1, .inl h2⟩)]
      ·rename_i h2
       congr 1
       rw [decide_eq_decide]
       constructor
       ·intro h3; exact ⟨h1, .inr h3⟩
       ·rintro ⟨_, h3 | h3⟩
        ·exact absurd h3 h2
        ·exact h3
     ·rename_i h1
      rw [decide_eq_false (show ¬ (_ ∧ _) from fun h3 => h1 h3.1)]
    rw [key2, key]
    clear key key2 ha hb hx hc hc' hsk
    ·rw [he]
     clear he
     have hih := fun (n : Nat) (h : n < (s.data.toList.drop i).length) => ih (i + n + 1) k (by omega) (by omega) (by omega)
     clear ih
     generalize (s.data.toList.drop i).length = L at *
     generalize hnn : nlAt (s.data.toList.drop i) = n at *
     clear hnn
     by_cases hn : n < L
     ·rw [if_pos hn, if_pos hn, if_neg (by omega)]
      have e1 : wrap64 ((i : Int) + (n : Int)) = (i : Int) + (n : Int) := wrap_small (by omega) (by omega)
      have e2 : wrap64 ((i : Int) + (n : Int) + 1) = ((i + n + 1 : Nat) : Int) := by
       rw [wrap_small (by omega) (by omega)]; omega
      rw [e1, e2, hih n hn, List.drop_drop, show i + n + 1 = i + (n + 1) by omega, Nat.add_assoc]
     ·rw [if_neg hn, if_neg hn, if_pos (by omega)]
      congr 1
      omega
   ·have hc' : (s.data.toList[i] == 37) = false := by
     rw [beq_eq_false_iff_ne]; intro e; apply hc; rw [e]; rfl
    rw [if_neg hc, ← bt_get s i hlt, cls_get s i hlt (by omega)]
    simp only [Option.bind_some]
    have hr : skipG false (s.data.toList[i] :: s.data.toList.drop (i + 1)) = if clsOf (s.data.toList[i]).toNat == 1 then 1 + skipG false (s.data.toList.drop (i + 1)) else 0 := by
     rw [skipG, hc']; rfl
    rw [hr]
    by_cases h1 : clsOf (s.data.toList[i]).toNat = 1
    ·rw [if_pos h1, if_pos (by simpa using h1), wrap_small (by omega) (by omega)]
     have := ih (i + 1) k (by omega) (by omega) (by omega)
     rw [show ((i : Int) + 1) = ((i + 1 : Nat) : Int) by omega, this]
     congr 1
     omega
    ·rw [if_neg h1, if_neg (by simpa using h1)]
     rfl
  ·simp only [lex_Skip.l0]
   rw [if_neg (by omega), List.drop_of_length_le (by rw [← size_list]; omega)]
   simp [skipG]
/-- What Skip tells. -/
def skipN (s : ByteArray) (a : Int) : Nat := placeN s a + skipG false (s.data.toList.drop (placeN s a))
theorem skipN_le (s : ByteArray) (a : Int) : skipN s a ≤ s.size := by
 have h1 := skipG_le (s.data.toList.drop (placeN s a)) false
 have h2 := placeN_le s a
 rw [List.length_drop, ← size_list] at h1
 unfold skipN; omega
theorem skip_eq (s : ByteArray) (hs : s.size < 4611686018427387904) (a : Int) {k : Nat} (hk : 2 * s.size + 4 ≤ k) : lex_Skip.f k s a = some (skipN s a : Int) := by
 unfold lex_Skip.f
 rw [place_eq]
 simp only [Option.bind_some]
 rw [skip_loop s hs s.size _ k (by omega) (placeN_le s a) hk]
 rfl
end Go.Proofs.YtdcldaknmenklaaGreatDoor.M
end
section
namespace Go.Proofs.YtdcldaknmenklaaGreatDoor.M
open Go.RowKit Go.Proofs.YtdcldaknmenklaaGreatDoorW.PrintWords
set_option linter.unusedVariables false
set_option linter.unusedSimpArgs false
/-- Kind, number, text, length (or the error's place), error. -/
abbrev NxR := Int × Int × ByteArray × Nat × Int
def nxErr (len : Nat) (e : Int) : NxR := (0, 0, ⟨#[]⟩, len, e)
def hexedG (t : List UInt8) : NxR :=
  if (Lib.cut t [62]).2.2 = true then
    (if (unhG [] none (Lib.cut t [62]).1).1 = 0 then (4, 0, strOfNums (unhG [] none (Lib.cut t [62]).1).2.1, (Lib.cut t [62]).1.length + 2, 0)
     else nxErr (1 + ((Lib.cut t [62]).1.length - (unhG [] none (Lib.cut t [62]).1).2.2.length)) 1)
  else nxErr (t.length + 1) 2
def strungG (t : List UInt8) : NxR :=
 if (strG (t.length + 1) 1 [] t).1 = 0 then (5, 0, ⟨(strG (t.length + 1) 1 [] t).2.1.toArray⟩, t.length + 1 - (strG (t.length + 1) 1 [] t).2.2.length, 0)
 else nxErr (t.length + 1 - (strG (t.length + 1) 1 [] t).2.2.length) (strG (t.length + 1) 1 [] t).1
def wordedG (r : List UInt8) : NxR :=
 if (lexInt (wordAt r 0)).2 = 0 then (1, (lexInt (wordAt r 0)).1, ⟨#[]⟩, (wordAt r 0).length, 0)
 else if (lexInt (wordAt r 0)).2 = 3 then (3, 0, ⟨(wordAt r 0).toArray⟩, (wordAt r 0).length, 0)
 else nxErr 0 (lexInt (wordAt r 0)).2
def nextR (r : List UInt8) : NxR :=
 match signOf r with
 | some (x, m) => (x, 0, ⟨#[]⟩, m, 0)
 | none => match r with
  | [] => (0, 0, ⟨#[]⟩, 0, 0)
  | c :: t =>
   if c = 41 ∨ c = 62 then nxErr 0 3
   else if c = 47 then (2, 0, ⟨(nameGo (wordAt t 0)).toArray⟩, 1 + (wordAt t 0).length, 0)
   else if c = 60 then hexedG t
   else if c = 40 then strungG t
   else wordedG (c :: t)
def nxAns (p : Nat) (x : NxR) : TokR := if x.2.2.2.2 = 0 then (x.1, (p : Int), x.2.1, x.2.2.1, ((p + x.2.2.2.1 : Nat) : Int), 0) else (0, 0, 0, ⟨#[]⟩, ((p + x.2.2.2.1 : Nat) : Int), x.2.2.2.2)
theorem strG_rem : ∀ (n deep : Nat) (out r : List UInt8), (strG n deep out r).2.2.length ≤ r.length
 | 0, _, _, _ => by simp [strG]
 | _ + 1, _, _, [] => by simp [strG]
 | n + 1, deep, out, c :: t => by
  have ih := strG_rem n
  rw [strG]
  split
  ·split
   ·simp
   ·refine Nat.le_trans (ih _ _ _) ?_
    rw [List.length_drop, List.length_cons]; omega
  ·split
   ·simp
   ·split
    ·simp
    ·split
     ·refine Nat.le_trans (ih _ _ _) ?_
      rw [List.length_drop]; omega
     ·refine Nat.le_trans (ih _ _ _) ?_
      simp
theorem strung_rel (a0 : ByteArray) (p k : Nat) (t : List UInt8) (hs : a0.size ≤ 140737488351000) (hp : p < a0.size) (hk : a0.size + 4 ≤ k) (ht : a0.data.toList.drop (p + 1) = t) :
  tok_source_strung.f k a0 (p : Int) = some (nxAns p (strungG t)) := by
 have hl : t.length = a0.size - (p + 1) := by rw [← ht, List.length_drop, ← size_list]
 unfold tok_source_strung.f
 rw [if_pos ⟨by omega, by omega⟩]
 have := strung_loop a0 p hs k (by omega) (t.length + 1) (p + 1) 1 k [] (by omega) (by omega) (by omega) (by omega) (by omega) (by simp)
 rw [ht] at this
 rw [show (p : Int) + 1 = ((p + 1 : Nat) : Int) by omega, show (1 : Int) = ((1 : Nat) : Int) from rfl, this]
 congr 1
 have hr : (strG (t.length + 1) 1 [] t).2.2.length ≤ t.length := by
  exact strG_rem _ _ _ _
 unfold strAns strungG nxAns
 by_cases h0 : (strG (t.length + 1) 1 [] t).1 = 0
 ·rw [if_pos h0, if_pos h0]
  dsimp only
  rw [if_pos rfl, show p + (t.length + 1 - (strG (t.length + 1) 1 [] t).2.2.length) = a0.size - (strG (t.length + 1) 1 [] t).2.2.length by omega]
 ·rw [if_neg h0, if_neg h0]
  unfold nxErr
  dsimp only
  rw [if_neg h0, show p + (t.length + 1 - (strG (t.length + 1) 1 [] t).2.2.length) = a0.size - (strG (t.length + 1) 1 [] t).2.2.length by omega]
theorem worded_rel (a0 : ByteArray) (p k : Nat) (hs : a0.size ≤ 140737488351000) (hp : p ≤ a0.size) (hk : a0.size + 4 ≤ k) :
  tok_source_worded.f k a0 (p : Int) = some (nxAns p (wordedG (a0.data.toList.drop p))) := by
 have hpl : placeN a0 (p : Int) = p := by unfold placeN; omega
 have hw : wordAt (a0.data.toList.drop p) 0 = wordAt a0.data.toList p := by unfold wordAt; rw [List.drop_zero]
 have hl := wordAt_le a0.data.toList p (by rw [← size_list]; exact hp)
 unfold tok_source_worded.f
 rw [word_eq a0 (by omega) _ hk, Option.bind_some, hpl]
 unfold wordedG
 rw [hw]
 dsimp only
 rw [show lex_Int.f (⟨(wordAt a0.data.toList p).toArray⟩ : ByteArray) = some (lexInt (wordAt a0.data.toList p)) from by
  unfold lex_Int.f
  rw [if_pos (by rw [size_list, ba_list]; rw [← size_list] at hl; omega), ba_list], Option.bind_some]
 by_cases h0 : (lexInt (wordAt a0.data.toList p)).2 = 0
 ·rw [if_pos h0, if_pos h0]
  rfl
 rw [if_neg h0, if_neg h0]
 by_cases h3 : (lexInt (wordAt a0.data.toList p)).2 = 3
 ·rw [if_pos h3, if_pos h3]
  rfl
 rw [if_neg h3, if_neg h3]
 unfold nxAns nxErr
 dsimp only
 rw [if_neg h0, Nat.add_zero]
theorem index_gt : ∀ t : List UInt8, Lib.index t [62] = if 62 ∈ t then ((t.takeWhile (fun c => c != 62)).length : Int) else -1
 | [] => by simp [Lib.index]
 | b :: l => by
  have ih := index_gt l
  rw [Lib.index]
  by_cases hb : b = 62
  ·subst hb
   rw [if_pos (by simp [List.isPrefixOf]), if_pos (by simp)]
   simp
  ·rw [if_neg (by simp [List.isPrefixOf]; exact fun e => hb e.symm), ih]
   by_cases hm : 62 ∈ l
   ·rw [if_pos hm, if_neg (by rw [beq_iff_eq]; omega), if_pos (List.mem_cons_of_mem _ hm), List.takeWhile_cons, if_pos (by simpa using hb), List.length_cons]
    omega
   ·rw [if_neg hm, if_pos (by rfl), if_neg (by simp [hm]; exact fun e => hb e.symm)]
theorem cut_gt (t : List UInt8) : Lib.cut t [62] = if 62 ∈ t then (t.takeWhile (fun c => c != 62), t.drop ((t.takeWhile (fun c => c != 62)).length + 1), true) else (t, [], false) := by
 unfold Lib.cut
 rw [index_gt]
 by_cases hm : 62 ∈ t
 ·rw [if_pos hm, if_pos (by omega), if_pos hm, Int.toNat_natCast, ← List.prefix_iff_eq_take.1 (List.takeWhile_prefix _)]
  rfl
 ·rw [if_neg hm, if_neg (by decide), if_neg hm]
theorem take_gt : ∀ t : List UInt8, 62 ∈ t → (t.takeWhile (fun c => c != 62)).length + 1 ≤ t.length
 | [], h => by cases h
 | b :: l, h => by
  by_cases hb : b = 62
  ·subst hb; simp
  ·have hm : 62 ∈ l := by
    rcases List.mem_cons.1 h with e | e
    ·exact absurd e.symm hb
    ·exact e
   have := take_gt l hm
   rw [List.takeWhile_cons, if_pos (by simpa using hb), List.length_cons, List.length_cons]
   omega
theorem hexed_rel (a0 : ByteArray) (p k : Nat) (t : List UInt8) (hs : a0.size ≤ 4294967000) (hp : p < a0.size) (hk : 2 * a0.size + 4 ≤ k) (ht : a0.data.toList.drop (p + 1) = t) :
  tok_source_hexed.f k a0 (p : Int) = some (nxAns p (hexedG t)) := by
 have hl : t.length = a0.size - (p + 1) := by rw [← ht, List.length_drop, ← size_list]
 have hcl : (Lib.cut t [62]).2.2 = true → (Lib.cut t [62]).1.length + 1 ≤ t.length := by
  rw [cut_gt]
  split
  ·rename_i hm
   exact fun _ => take_gt t hm
  ·exact fun h => by cases h
 unfold tok_source_hexed.f
 rw [wrap_small (x := (p : Int) + 1) (by omega) (by omega), show (p : Int) + 1 = ((p + 1 : Nat) : Int) by omega, from_eq a0 (p + 1) (by omega), ht, Option.bind_some]
 have hts : (⟨t.toArray⟩ : ByteArray).size = t.length := by rw [size_list, ba_list]
 have hcs : (⟨(Lib.cut t [62]).1.toArray⟩ : ByteArray).size = (Lib.cut t [62]).1.length := by rw [size_list, ba_list]
 unfold strings_Cut.f
 rw [if_pos (by omega), Option.bind_some, ba_list, show (⟨#[62]⟩ : ByteArray).data.toList = [62] from rfl]
 unfold hexedG
 dsimp only
 by_cases hf : (Lib.cut t [62]).2.2 = true
 ·have hfl := hcl hf
  rw [if_pos hf, if_pos hf, unhex_eq _ (by omega) (by omega), Option.bind_some, ba_list]
  unfold unhAns
  by_cases h0 : (unhG [] none (Lib.cut t [62]).1).1 = 0
  ·rw [if_pos h0, if_pos h0]
   dsimp only
   rw [if_pos rfl, hcs, wrap_small (x := (p : Int) + ((Lib.cut t [62]).1.length : Int)) (by omega) (by omega), wrap_small (by omega) (by omega)]
   unfold nxAns
   dsimp only
   rw [if_pos rfl, show (p : Int) + ((Lib.cut t [62]).1.length : Int) + 2 = ((p + ((Lib.cut t [62]).1.length + 2) : Nat) : Int) by omega]
  ·rw [if_neg h0, if_neg h0]
   dsimp only
   rw [if_neg (show ¬ (1 : Int) = 0 by decide), hcs]
   unfold nxAns nxErr
   dsimp only
   rw [if_neg (show ¬ (1 : Int) = 0 by decide), wrap_small (by omega) (by omega), show ((p + 1 : Nat) : Int) + (((Lib.cut t [62]).1.length - (unhG [] none (Lib.cut t [62]).1).2.2.length : Nat) : Int) = ((p + (1 + ((Lib.cut t [62]).1.length - (unhG [] none (Lib.cut t [62]).1).2.2.length)) : Nat) : Int) by omega]
 ·rw [if_neg hf, if_neg hf]
  unfold nxAns nxErr
  dsimp only
  rw [if_neg (show ¬ (2 : Int) = 0 by decide), show p + (t.length + 1) = a0.size by omega]
def nextA (s : ByteArray) (a : Int) : TokR := if skipN s a = s.size then (0, (s.size : Int), 0, ⟨#[]⟩, (s.size : Int), 0) else nxAns (skipN s a) (nextR (s.data.toList.drop (skipN s a)))
set_option maxHeartbeats 1600000 in
theorem next_eq (s : ByteArray) (a : Int) (hs : s.size ≤ 4294967000) {k : Nat} (hk : 2 * s.size + 8 ≤ k) : tok_Next.f k s a = some (nextA s a) := by
 unfold tok_Next.f nextA
 rw [skip_eq s (by omega) a (by omega), Option.bind_some]
 have hpl := skipN_le s a
 generalize skipN s a = p at hpl
 by_cases he : p = s.size
 ·rw [if_pos (by omega), if_pos he, he]
 rw [if_neg (by omega), if_neg he]
 have hp : p < s.size := by omega
 have hL : p < s.data.toList.length := by rw [← size_list]; exact hp
 have hdr := List.drop_eq_getElem_cons hL
 have hbt := bt_get s p hp
 rw [show tok_source_sign.f s (p : Int) = (match signOf (s.data.toList.drop p) with | some (x, n) => some (x, (p : Int), 0, ⟨#[]⟩, (p : Int) + n, true) | none => some (0, 0, 0, ⟨#[]⟩, (p : Int), false)) from by
  unfold tok_source_sign.f
  rw [if_pos ⟨by omega, by omega, by omega⟩, Int.toNat_natCast]
  cases signOf (s.data.toList.drop p) <;> rfl]
 unfold nextR
 cases hsg : signOf (s.data.toList.drop p) with
 | some xm =>
  obtain ⟨x, m⟩ := xm
  dsimp only
  rw [Option.bind_some, if_pos rfl]
  unfold nxAns
  dsimp only
  rw [if_pos rfl, show (p : Int) + (m : Int) = ((p + m : Nat) : Int) by omega]
 | none =>
  dsimp only
  rw [Option.bind_some]
  dsimp only
  rw [if_neg (show ¬ (false = true) by decide), if_pos (by omega), if_pos (by omega), hbt]
  have ht : s.data.toList.drop (p + 1) = s.data.toList.drop (p + 1) := rfl
  have hw := worded_rel s p
  rw [hdr] at hw ⊢
  generalize s.data.toList[p] = c at hw ⊢
  generalize hT : s.data.toList.drop (p + 1) = t at hw ⊢
  have hst := fun k => strung_rel s p k t (by omega) hp
  have hhx := fun k => hexed_rel s p k t hs hp
  obtain ⟨k, rfl⟩ : ∃ k', k = k' + 1 := ⟨k - 1, by omega⟩
  have cst : ∀ x : UInt8, ((c.toNat : Int) = (x.toNat : Int)) ↔ c = x := fun x => ⟨fun e => UInt8.toNat_inj.1 (by omega), fun e => by rw [e]⟩
  have c41 : ((c.toNat : Int) = 41) ↔ c = 41 := cst 41
  have c62 : ((c.toNat : Int) = 62) ↔ c = 62 := cst 62
  have c47 : ((c.toNat : Int) = 47) ↔ c = 47 := cst 47
  have c60 : ((c.toNat : Int) = 60) ↔ c = 60 := cst 60
  have c40 : ((c.toNat : Int) = 40) ↔ c = 40 := cst 40
  have key : ∀ b : Bool, (b = true ↔ (c = 41 ∨ c = 62)) → tok_Next.j0 (k + 1) s (p : Int) s (c.toNat : Int) b = some (nxAns p (if c = 41 ∨ c = 62 then nxErr 0 3 else if c = 47 then (2, 0, ⟨(nameGo (wordAt t 0)).toArray⟩, 1 + (wordAt t 0).length, 0) else if c = 60 then hexedG t else if c = 40 then strungG t else wordedG (c :: t))) := by
   intro b hb
   rw [tok_Next.j0]
   by_cases h : c = 41 ∨ c = 62
   ·rw [if_pos (hb.2 h), if_pos h]
    rfl
   rw [if_neg (fun e => h (hb.1 e)), if_neg h]
   by_cases h1 : c = 47
   ·rw [if_pos (c47.2 h1), if_pos h1, wrap_small (x := (p : Int) + 1) (by omega) (by omega), word_eq s (by omega) _ (by omega), Option.bind_some]
    have hpn : placeN s ((p : Int) + 1) = p + 1 := by unfold placeN; omega
    have hwa : wordAt s.data.toList (p + 1) = wordAt t 0 := by unfold wordAt; rw [hT, List.drop_zero]
    have hwl := wordAt_le s.data.toList (p + 1) (by rw [← size_list]; omega)
    rw [← size_list, hwa] at hwl
    rw [hpn, hwa]
    dsimp only
    rw [show lex_Name.f (⟨(wordAt t 0).toArray⟩ : ByteArray) = some ⟨(nameGo (wordAt t 0)).toArray⟩ from by
     unfold lex_Name.f
     rw [if_pos (by rw [size_list, ba_list]; omega), ba_list], Option.bind_some]
    unfold nxAns
    dsimp only
    rw [if_pos rfl, show p + (1 + (wordAt t 0).length) = p + 1 + (wordAt t 0).length by omega]
   rw [if_neg (fun e => h1 (c47.1 e)), if_neg h1]
   by_cases h2 : c = 60
   ·rw [if_pos (c60.2 h2), if_pos h2, hhx k (by omega) hT, Option.bind_some]
   rw [if_neg (fun e => h2 (c60.1 e)), if_neg h2]
   by_cases h3 : c = 40
   ·rw [if_pos (c40.2 h3), if_pos h3, hst k (by omega) hT, Option.bind_some]
   rw [if_neg (fun e => h3 (c40.1 e)), if_neg h3, hw k (by omega) (by omega) (by omega), Option.bind_some]
  by_cases h : (c.toNat : Int) = 41
  ·rw [if_pos h]
   exact key _ ⟨fun _ => .inl (c41.1 h), fun _ => beq_iff_eq.2 h⟩
  ·rw [if_neg h]
   refine key _ ⟨fun e => .inr (c62.1 (beq_iff_eq.1 e)), fun e => beq_iff_eq.2 ?_⟩
   rcases e with e | e
   ·exact absurd (c41.2 e) h
   ·exact c62.2 e
theorem nameGo_len : ∀ l : List UInt8, (nameGo l).length ≤ l.length
 | [] => Nat.le_refl _
 | [c] => by rw [nameGo_short c [] (by simp)]; simp [nameGo]
 | [c, a] => by
  rw [nameGo_short c [a] (by simp), nameGo_short a [] (by simp)]; simp [nameGo]
 | c :: a :: b :: l => by
  have h1 := nameGo_len (a :: b :: l)
  have h2 := nameGo_len l
  by_cases hc : (c == 35) = false
  ·rw [nameGo_plain c _ hc]
   simp only [List.length_cons] at h1 ⊢; omega
  ·cases ha : hexVal a.toNat with
   | none => rw [nameGo_no c a b l (by rw [ha]; rfl)]; simp only [List.length_cons] at h1 ⊢; omega
   | some x => cases hb : hexVal b.toNat with
    | none => rw [nameGo_no c a b l (by rw [ha, hb]; rfl)]; simp only [List.length_cons] at h1 ⊢; omega
    | some y =>
     have hc' : c = 35 := by simpa using hc
     rw [hc', nameGo_yes a b l x y ha hb]; simp only [List.length_cons] at h2 ⊢; omega
theorem strG_out : ∀ (n deep : Nat) (out r : List UInt8), (strG n deep out r).1 = 0 → (strG n deep out r).2.1.length + (strG n deep out r).2.2.length + 1 ≤ out.length + r.length
 | 0, _, _, _ => by intro h; exact absurd h (by simp [strG])
 | _ + 1, _, _, [] => by intro h; exact absurd h (by simp [strG])
 | n + 1, deep, out, c :: t => by
  have ih := strG_out n
  have he := escG_le t
  have hl := lineG_le (c :: t)
  rw [strG]
  split
  ·split
   ·intro h; exact absurd h (by decide)
   ·intro h
    have := ih _ _ _ h
    rw [List.length_append, List.length_drop] at this
    rw [List.length_cons]; omega
  ·split
   ·intro _; simp only [List.length_cons]; omega
   ·split
    ·intro h; exact absurd (show (5 : Int) = 0 from h) (by decide)
    ·split
     ·intro h
      have := ih _ _ _ h
      rw [List.length_append, List.length_drop, List.length_singleton] at this
      omega
     ·intro h
      have := ih _ _ _ h
      rw [List.length_append, List.length_singleton] at this
      rw [List.length_cons]; omega
theorem unhG_out : ∀ (t : List UInt8) (acc : List Int) (hi : Option Int), (unhG acc hi t).2.1.length ≤ acc.length + t.length + 1 ∧ (hi = none → (unhG acc hi t).2.1.length ≤ acc.length + t.length) ∧ (unhG acc hi t).2.2.length ≤ t.length
 | [], acc, hi => by
  rw [unhG]
  have := rowOf_length acc hi
  refine ⟨by simpa using this, ?_, by simp⟩
  rintro rfl
  simp [rowOf]
 | c :: t, acc, hi => by
  rw [unhG]
  cases hexVal c.toNat with
  | some v =>
   cases hi with
   | none =>
    have ih := unhG_out t acc (some v)
    simp only [List.length_cons]
    exact ⟨by omega, fun _ => by omega, by omega⟩
   | some h =>
    have ih := unhG_out t (acc ++ [h * 16 + v]) none
    simp only [List.length_cons, List.length_append, List.length_nil] at ih ⊢
    exact ⟨by omega, fun e => by (cases e), by omega⟩
  | none =>
   dsimp only
   split
   ·have ih := unhG_out t acc hi
    simp only [List.length_cons]
    exact ⟨by omega, fun e => by have := ih.2.1 e; omega, by omega⟩
   ·simp
theorem str_nums_size (l : List Int) : (strOfNums l).size = l.length := by
 unfold strOfNums
 show (List.toArray _).size = _
 simp
/-- What is told of the next token: how long it is, what kind, how long its text is. -/
def NxOk (r : List UInt8) (x : NxR) : Prop := x.2.2.2.1 ≤ r.length ∧ (x.2.2.2.2 = 0 → 1 ≤ x.2.2.2.1 ∧ 1 ≤ x.1 ∧ x.1 ≤ 11 ∧ x.2.2.1.size ≤ x.2.2.2.1)
theorem nxErr_ok (r : List UInt8) (len : Nat) (e : Int) (he : e ≠ 0) (hl : len ≤ r.length) : NxOk r (nxErr len e) := ⟨hl, fun h => absurd h he⟩
theorem hexedG_ok (c : UInt8) (t : List UInt8) : NxOk (c :: t) (hexedG t) := by
 unfold hexedG
 rw [cut_gt]
 by_cases hm : 62 ∈ t
 ·rw [if_pos hm]
  dsimp only
  have ht := take_gt t hm
  have hu := unhG_out (t.takeWhile (fun c => c != 62)) [] none
  rw [if_pos rfl]
  split
  ·refine ⟨by simp only [List.length_cons]; omega, fun _ => ⟨by simp, by show (1 : Int) ≤ 4; decide, by show (4 : Int) ≤ 11; decide, ?_⟩⟩
   dsimp only
   rw [str_nums_size]
   have := hu.2.1 rfl
   simp only [List.length_nil] at this
   omega
  ·exact nxErr_ok _ _ _ (by decide) (by simp only [List.length_cons]; omega)
 ·rw [if_neg hm]
  dsimp only
  rw [if_neg (by decide)]
  exact nxErr_ok _ _ _ (by decide) (by simp)
theorem strungG_ok (c : UInt8) (t : List UInt8) : NxOk (c :: t) (strungG t) := by
 unfold strungG
 have hr := strG_rem (t.length + 1) 1 [] t
 split
 ·rename_i h
  have ho := strG_out (t.length + 1) 1 [] t h
  simp only [List.length_nil] at ho
  refine ⟨by dsimp only; rw [List.length_cons]; omega, fun _ => ⟨by dsimp only; omega, by show (1 : Int) ≤ 5; decide, by show (5 : Int) ≤ 11; decide, ?_⟩⟩
  dsimp only
  rw [ba_size]
  omega
 ·rename_i h
  exact nxErr_ok _ _ _ h (by rw [List.length_cons]; omega)
theorem wordAt_zero (r : List UInt8) : wordAt r 0 = r.takeWhile isRegB := by unfold wordAt; rw [List.drop_zero]
theorem wordedG_ok (r : List UInt8) (h : 1 ≤ (wordAt r 0).length) : NxOk r (wordedG r) := by
 have hl := wordAt_le r 0 (by omega)
 unfold wordedG
 split
 ·refine ⟨by dsimp only; omega, fun _ => ⟨h, by show (1 : Int) ≤ 1; decide, by show (1 : Int) ≤ 11; decide, ?_⟩⟩
  dsimp only
  show 0 ≤ _
  omega
 ·split
  ·refine ⟨by dsimp only; omega, fun _ => ⟨h, by show (1 : Int) ≤ 3; decide, by show (3 : Int) ≤ 11; decide, ?_⟩⟩
   dsimp only
   rw [ba_size]
   omega
  ·rename_i h0 _
   exact nxErr_ok _ _ _ h0 (by omega)
theorem signOf_len (r : List UInt8) (x : Int) (m : Nat) (h : signOf r = some (x, m)) : ∃ s, isSign x s ∧ s.isPrefixOf r = true ∧ m = s.length := by
 unfold signOf at h
 have fin : ∀ (y : Int) (s : List UInt8), isSign y s → s.isPrefixOf r = true → (y, s.length) = (x, m) → ∃ s, isSign x s ∧ s.isPrefixOf r = true ∧ m = s.length := by
  intro y s hy hs e
  injection e with e1 e2
  subst e1 e2
  exact ⟨s, hy, hs, rfl⟩
 split at h
 ·rename_i hp; exact fin 6 [91] (by simp [isSign]) hp (Option.some.inj h)
 split at h
 ·rename_i hp; exact fin 7 [93] (by simp [isSign]) hp (Option.some.inj h)
 split at h
 ·rename_i hp; exact fin 8 [60, 60] (by simp [isSign]) hp (Option.some.inj h)
 split at h
 ·rename_i hp; exact fin 9 [62, 62] (by simp [isSign]) hp (Option.some.inj h)
 split at h
 ·rename_i hp; exact fin 10 [123] (by simp [isSign]) hp (Option.some.inj h)
 split at h
 ·rename_i hp; exact fin 11 [125] (by simp [isSign]) hp (Option.some.inj h)
 ·cases h
theorem sign_ok {x : Int} {s r : List UInt8} (hs : isSign x s) (hp : s.isPrefixOf r = true) : NxOk r (x, 0, ⟨#[]⟩, s.length, 0) := by
 have hl := (List.isPrefixOf_iff_prefix.1 hp).length_le
 refine ⟨hl, fun _ => ?_⟩
 dsimp only
 refine ⟨?_, ?_, ?_, Nat.zero_le _⟩
 ·rcases hs with ⟨rfl, rfl⟩ | ⟨rfl, rfl⟩ | ⟨rfl, rfl⟩ | ⟨rfl, rfl⟩ | ⟨rfl, rfl⟩ | ⟨rfl, rfl⟩ <;> decide
 ·rcases hs with ⟨rfl, rfl⟩ | ⟨rfl, rfl⟩ | ⟨rfl, rfl⟩ | ⟨rfl, rfl⟩ | ⟨rfl, rfl⟩ | ⟨rfl, rfl⟩ <;> decide
 ·rcases hs with ⟨rfl, rfl⟩ | ⟨rfl, rfl⟩ | ⟨rfl, rfl⟩ | ⟨rfl, rfl⟩ | ⟨rfl, rfl⟩ | ⟨rfl, rfl⟩ <;> decide
/-- A byte is regular, a blank, or one of ten. -/
theorem byte_cases : ∀ n : Fin 256, isRegB n.val.toUInt8 = true ∨ (clsOf (n.val.toUInt8).toNat == 1) = true ∨ n.val.toUInt8 ∈ ([40, 41, 60, 62, 91, 93, 123, 125, 47, 37] : List UInt8) := by decide +kernel
theorem byte_case (c : UInt8) : isRegB c = true ∨ (clsOf c.toNat == 1) = true ∨ c ∈ ([40, 41, 60, 62, 91, 93, 123, 125, 47, 37] : List UInt8) := by
 have := byte_cases ⟨c.toNat, c.toNat_lt⟩
 rw [show ((⟨c.toNat, c.toNat_lt⟩ : Fin 256).val.toUInt8) = c from UInt8.ofNat_toNat] at this
 exact this
theorem sign_first {c : UInt8} (t : List UInt8) (h : c = 91 ∨ c = 93 ∨ c = 123 ∨ c = 125) : signOf (c :: t) ≠ none := by
 rcases h with rfl | rfl | rfl | rfl <;> simp [signOf, List.isPrefixOf]
theorem nextR_ok (c : UInt8) (t : List UInt8) (hk : skipG false (c :: t) = 0) : NxOk (c :: t) (nextR (c :: t)) := by
 unfold nextR
 cases hsg : signOf (c :: t) with
 | some xm =>
  obtain ⟨x, m⟩ := xm
  obtain ⟨s, hs, hp, rfl⟩ := signOf_len _ _ _ hsg
  exact sign_ok hs hp
 | none =>
  dsimp only
  split
  ·exact nxErr_ok _ _ _ (by decide) (by simp)
  rename_i n1
  split
  ·have hl := wordAt_le t 0 (by omega)
   have hn := nameGo_len (wordAt t 0)
   refine ⟨by dsimp only; rw [List.length_cons]; omega, fun _ => ⟨by dsimp only; omega, by show (1 : Int) ≤ 2; decide, by show (2 : Int) ≤ 11; decide, ?_⟩⟩
   dsimp only
   rw [ba_size]
   omega
  rename_i n2
  split
  ·exact hexedG_ok c t
  rename_i n3
  split
  ·exact strungG_ok c t
  rename_i n4
  have hz := skipG_zero c t hk
  refine wordedG_ok _ ?_
  rcases byte_case c with h | h | h
  ·rw [wordAt_zero, List.takeWhile_cons, if_pos h, List.length_cons]
   omega
  ·rw [hz.2] at h; cases h
  ·exfalso
   simp only [List.mem_cons, List.mem_nil_iff, or_false] at h
   have h37 : c ≠ 37 := by have := hz.1; rw [beq_eq_false_iff_ne] at this; exact this
   have hs : ¬ (c = 91 ∨ c = 93 ∨ c = 123 ∨ c = 125) := fun h => sign_first t h hsg
   rcases h with h | h | h | h | h | h | h | h | h | h
   ·exact n4 h
   ·exact n1 (.inl h)
   ·exact n3 h
   ·exact n1 (.inr h)
   ·exact hs (.inl h)
   ·exact hs (.inr (.inl h))
   ·exact hs (.inr (.inr (.inl h)))
   ·exact hs (.inr (.inr (.inr h)))
   ·exact n2 h
   ·exact h37 h
/-- All tokens of a text that begins at a place; the place and the error. -/
def allG : Nat → Nat → List UInt8 → List S65 × Nat × Int
 | 0, p, r => ([], p + r.length, 0)
 | n + 1, p, r =>
  if skipG false r = r.length then ([], p + r.length, 0)
  else if (nextR (r.drop (skipG false r))).2.2.2.2 = 0 then
   (if (allG n (p + skipG false r + (nextR (r.drop (skipG false r))).2.2.2.1) (r.drop (skipG false r + (nextR (r.drop (skipG false r))).2.2.2.1))).2.2 = 0 then
    ((⟨(nextR (r.drop (skipG false r))).1, ((p + skipG false r : Nat) : Int), (nextR (r.drop (skipG false r))).2.1, (nextR (r.drop (skipG false r))).2.2.1⟩ : S65) :: (allG n (p + skipG false r + (nextR (r.drop (skipG false r))).2.2.2.1) (r.drop (skipG false r + (nextR (r.drop (skipG false r))).2.2.2.1))).1,
     (allG n (p + skipG false r + (nextR (r.drop (skipG false r))).2.2.2.1) (r.drop (skipG false r + (nextR (r.drop (skipG false r))).2.2.2.1))).2)
   else ([], (allG n (p + skipG false r + (nextR (r.drop (skipG false r))).2.2.2.1) (r.drop (skipG false r + (nextR (r.drop (skipG false r))).2.2.2.1))).2))
  else ([], p + skipG false r + (nextR (r.drop (skipG false r))).2.2.2.1, (nextR (r.drop (skipG false r))).2.2.2.2)
theorem drop_skip (r : List UInt8) (h : skipG false r ≠ r.length) : ∃ c t, r.drop (skipG false r) = c :: t ∧ skipG false (c :: t) = 0 ∧ skipG false r + (t.length + 1) = r.length := by
 have hle := skipG_le r false
 have hst := skipG_stable r false
 have hdl : (r.drop (skipG false r)).length = r.length - skipG false r := List.length_drop
 generalize r.drop (skipG false r) = d at hst hdl
 rcases d with _ | ⟨c, t⟩
 ·simp only [List.length_nil] at hdl; omega
 ·refine ⟨c, t, rfl, hst, ?_⟩
  rw [List.length_cons] at hdl
  omega
/-- One step, spelled by its parts. -/
theorem allG_end (n p : Nat) (r : List UInt8) (h : skipG false r = r.length) : allG n p r = ([], p + r.length, 0) := by
 cases n with
 | zero => rw [allG]
 | succ n => rw [allG, if_pos h]
theorem allG_err (n p : Nat) (r d : List UInt8) (x : NxR) (h : skipG false r ≠ r.length) (hd : r.drop (skipG false r) = d) (hx : nextR d = x) (he : x.2.2.2.2 ≠ 0) : allG (n + 1) p r = ([], p + skipG false r + x.2.2.2.1, x.2.2.2.2) := by
 subst hd; subst hx
 rw [allG, if_neg h, if_neg he]
theorem allG_tok (n p : Nat) (r d : List UInt8) (x : NxR) (y : List S65 × Nat × Int) (h : skipG false r ≠ r.length) (hd : r.drop (skipG false r) = d) (hx : nextR d = x) (he : x.2.2.2.2 = 0)
  (hy : allG n (p + skipG false r + x.2.2.2.1) (d.drop x.2.2.2.1) = y) :
  allG (n + 1) p r = if y.2.2 = 0 then ((⟨x.1, ((p + skipG false r : Nat) : Int), x.2.1, x.2.2.1⟩ : S65) :: y.1, y.2) else ([], y.2) := by
 subst hd; subst hx
 rw [List.drop_drop] at hy
 subst hy
 rw [allG, if_neg h, if_pos he]
theorem nextA_at (s : ByteArray) (i : Nat) (hi : i ≤ s.size) (r : List UInt8) (hr : s.data.toList.drop i = r) :
  nextA s (i : Int) = if skipG false r = r.length then (0, (s.size : Int), 0, ⟨#[]⟩, (s.size : Int), 0) else nxAns (i + skipG false r) (nextR (r.drop (skipG false r))) := by
 have hpl : placeN s (i : Int) = i := by unfold placeN; omega
 have hrl : r.length = s.size - i := by rw [← hr, List.length_drop, ← size_list]
 have hsk : skipN s (i : Int) = i + skipG false r := by unfold skipN; rw [hpl, hr]
 unfold nextA
 rw [hsk, ← List.drop_drop, hr]
 by_cases h : skipG false r = r.length
 ·rw [if_pos h, if_pos (by omega)]
 ·rw [if_neg h, if_neg (by omega)]
def allOut (acc : List S65) (y : List S65 × Nat × Int) : List S65 × Int × Int := if y.2.2 = 0 then (acc ++ y.1, (y.2.1 : Int), 0) else ([], (y.2.1 : Int), y.2.2)
theorem all_loop (s : ByteArray) (hs : s.size ≤ 60000) : ∀ (n i k : Nat) (acc : List S65), i ≤ s.size → s.size - i < n → n + 2 * s.size + 8 ≤ k → acc.length ≤ i →
  tok_All.l0 k s acc (i : Int) = some (allOut acc (allG n i (s.data.toList.drop i)))
 | 0, i, k, acc => fun _ h => by omega
 | n + 1, i, k, acc => by
  intro hi hn hk ha
  obtain ⟨k, rfl⟩ : ∃ k', k = k' + 1 := ⟨k - 1, by omega⟩
  have ih := all_loop s hs n
  have hdl : (s.data.toList.drop i).length = s.size - i := by rw [List.length_drop, ← size_list]
  have hdd : ∀ m, (s.data.toList.drop i).drop m = s.data.toList.drop (i + m) := fun m => by rw [List.drop_drop]
  generalize hr : s.data.toList.drop i = r at hdl hdd
  rw [tok_All.l0, next_eq s _ (by omega) (by omega), Option.bind_some, nextA_at s i hi r hr]
  by_cases h : skipG false r = r.length
  ·rw [if_pos h, allG_end _ _ _ h]
   dsimp only
   rw [if_pos rfl, if_pos rfl]
   unfold allOut
   dsimp only
   rw [if_pos rfl, List.append_nil, hdl, show i + (s.size - i) = s.size by omega]
  rw [if_neg h]
  obtain ⟨c, t, hd, hz, hlen⟩ := drop_skip r h
  have ok := nextR_ok c t hz
  have hdd2 := hdd (skipG false r)
  rw [hd] at hdd2 ⊢
  generalize hx : nextR (c :: t) = x at ok
  have ok1 := ok.1
  rw [List.length_cons] at ok1
  unfold nxAns
  by_cases he : x.2.2.2.2 = 0
  ·obtain ⟨o1, o2, o3, o4⟩ := ok.2 he
   rw [if_pos he]
   dsimp only
   have hlast := ih (i + skipG false r + x.2.2.2.1) k (acc ++ [(⟨x.1, ((i + skipG false r : Nat) : Int), x.2.1, x.2.2.1⟩ : S65)]) (by omega) (by omega) (by omega) (by rw [List.length_append, List.length_singleton]; omega)
   have hdx : s.data.toList.drop (i + skipG false r + x.2.2.2.1) = (c :: t).drop x.2.2.2.1 := by rw [hdd2, List.drop_drop]
   rw [if_pos rfl, if_neg (by omega), if_neg (by omega), if_pos (by omega), hlast, hdx]
   rw [allG_tok n i r (c :: t) x _ h hd hx he rfl]
   congr 1
   unfold allOut
   by_cases hy : (allG n (i + skipG false r + x.2.2.2.1) (List.drop x.2.2.2.1 (c :: t))).2.2 = 0
   ·rw [if_pos hy, if_pos hy]
    dsimp only
    rw [if_pos hy, List.append_assoc]
    rfl
   ·rw [if_neg hy, if_neg hy]
    dsimp only
    rw [if_neg hy]
  ·rw [if_neg he, allG_err n i r (c :: t) x h hd hx he]
   dsimp only
   rw [if_neg he]
   unfold allOut
   dsimp only
   rw [if_neg he]
theorem all_eq (s : ByteArray) (hs : s.size ≤ 60000) {k : Nat} (hk : 3 * s.size + 10 ≤ k) : tok_All.f k s = some (allOut [] (allG (s.size + 1) 0 s.data.toList)) := by
 unfold tok_All.f
 have := all_loop s hs (s.size + 1) 0 k [] (by omega) (by omega) (by omega) (by simp)
 rw [List.drop_zero] at this
 exact this
end Go.Proofs.YtdcldaknmenklaaGreatDoor.M
end
section
namespace Go.Proofs.YtdcldaknmenklaaGreatDoor.M
open Go.RowKit Go.Proofs.YtdcldaknmenklaaGreatDoorW.PrintWords
set_option linter.unusedVariables false
/-- The number that the digits spell, behind those that spell acc. -/
def digN (c : UInt8) : Nat := c.toNat - 48
def valD (acc : Nat) (l : List UInt8) : Nat := l.foldl (fun a c => a * 10 + digN c) acc
theorem valD_nil (acc : Nat) : valD acc [] = acc := rfl
theorem valD_cons (acc : Nat) (c : UInt8) (r : List UInt8) : valD acc (c :: r) = valD (acc * 10 + digN c) r := by
 unfold valD; rw [List.foldl_cons]
attribute [irreducible] valD
theorem valD_ge : ∀ (l : List UInt8) (acc : Nat), acc ≤ valD acc l
 | [], acc => Nat.le_of_eq (valD_nil acc).symm
 | c :: r, acc => by
  have := valD_ge r (acc * 10 + digN c)
  rw [valD_cons]; omega
theorem parseUintM_val : ∀ (l : List UInt8) (acc : Nat), acc ≤ 4294967295 → l.all isDigB = true → Lib.parseUintM 4294967295 acc l = if valD acc l ≤ 4294967295 then .ok (valD acc l) else .range
 | [], acc, ha, _ => by rw [valD_nil, if_pos ha, Lib.parseUintM]
 | c :: r, acc, ha, h => by
  simp only [List.all_cons, Bool.and_eq_true] at h
  have h1 := h.1
  simp only [isDigB, Bool.and_eq_true, decide_eq_true_eq] at h1
  rw [Lib.parseUintM, valD_cons, if_pos (by omega), if_neg (by omega)]
  have hd : digN c = c.toNat - 48 := rfl
  rw [← hd]
  by_cases hle : 4294967295 < acc * 10 + digN c
  ·have := valD_ge r (acc * 10 + digN c)
   rw [if_pos hle, if_neg (by omega)]
  ·rw [if_neg hle]
   exact parseUintM_val r _ (by omega) h.2
theorem parseUintB_val (l : List UInt8) (h0 : l ≠ []) (h : l.all isDigB = true) : Lib.parseUintB 32 l = if valD 0 l ≤ 4294967295 then .ok (valD 0 l) else .range := by
 unfold Lib.parseUintB
 rw [if_neg h0]
 exact parseUintM_val l 0 (by omega) h
theorem whole_digits (l : List UInt8) (h0 : l ≠ []) (h : l.all isDigB = true) : wholeB l = true := by
 match l, h0 with
 | c :: r, _ =>
  have hc : isDigB c = true := by simp only [List.all_cons, Bool.and_eq_true] at h; exact h.1
  have n1 : (c == 43) = false := by rw [beq_eq_false_iff_ne]; rintro rfl; exact absurd hc (by decide)
  have n2 : (c == 45) = false := by rw [beq_eq_false_iff_ne]; rintro rfl; exact absurd hc (by decide)
  have hu : unsign (c :: r) = c :: r := by
   simp only [unsign]
   rw [if_neg (by rw [n1, n2]; decide)]
  unfold wholeB
  rw [hu, h]; rfl
theorem whole_plus (l : List UInt8) (h0 : l ≠ []) (h : l.all isDigB = true) : wholeB (43 :: l) = true := by
 unfold wholeB unsign
 simp only [beq_self_eq_true, Bool.true_or, if_true, h, Bool.and_true]
 cases l with
 | nil => exact absurd rfl h0
 | cons c r => rfl
theorem whole_minus (l : List UInt8) (h0 : l ≠ []) (h : l.all isDigB = true) : wholeB (45 :: l) = true := by
 unfold wholeB unsign
 simp only [beq_self_eq_true, Bool.or_true, if_true, h, Bool.and_true]
 cases l with
 | nil => exact absurd rfl h0
 | cons c r => rfl
theorem lexInt_minus (l : List UInt8) (h0 : l ≠ []) (h : l.all isDigB = true) : lexInt (45 :: l) = if valD 0 l ≤ 2147483648 then (-(valD 0 l : Int), 0) else (0, 4) := by
 unfold lexInt
 rw [if_pos (whole_minus l h0 h), Lib.parseIntB_minus, parseUintB_val l h0 h]
 by_cases h1 : valD 0 l ≤ 2147483648
 ·rw [if_pos h1, if_pos (by omega)]
  simp only [Lib.signedC]
  rw [if_neg (by omega)]
 ·rw [if_neg h1]
  by_cases h2 : valD 0 l ≤ 4294967295
  ·rw [if_pos h2]
   simp only [Lib.signedC]
   rw [if_pos (by omega)]
  ·rw [if_neg h2]
   rfl
theorem signless_val (l : List UInt8) (h0 : l ≠ []) (h : l.all isDigB = true) : (match Lib.signlessC (2 ^ (32 - 1)) (Lib.parseUintB 32 l) with | .ok v => (v, 0) | _ => (0, 4)) = if valD 0 l ≤ 2147483647 then ((valD 0 l : Int), (0 : Int)) else (0, 4) := by
 rw [parseUintB_val l h0 h]
 by_cases h1 : valD 0 l ≤ 2147483647
 ·rw [if_pos h1, if_pos (by omega)]
  simp only [Lib.signlessC]
  rw [if_neg (by omega)]
 ·rw [if_neg h1]
  by_cases h2 : valD 0 l ≤ 4294967295
  ·rw [if_pos h2]
   simp only [Lib.signlessC]
   rw [if_pos (by omega)]
  ·rw [if_neg h2]
   rfl
theorem lexInt_plus (l : List UInt8) (h0 : l ≠ []) (h : l.all isDigB = true) : lexInt (43 :: l) = if valD 0 l ≤ 2147483647 then ((valD 0 l : Int), (0 : Int)) else (0, 4) := by
 unfold lexInt
 rw [if_pos (whole_plus l h0 h), Lib.parseIntB_plus]
 exact signless_val l h0 h
theorem lexInt_digits (l : List UInt8) (h0 : l ≠ []) (h : l.all isDigB = true) : lexInt l = if valD 0 l ≤ 2147483647 then ((valD 0 l : Int), (0 : Int)) else (0, 4) := by
 have hw := whole_digits l h0 h
 match l, h0 with
 | c :: r, h0 =>
  have hc : isDigB c = true := by simp only [List.all_cons, Bool.and_eq_true] at h; exact h.1
  simp only [isDigB, Bool.and_eq_true, decide_eq_true_eq] at hc
  unfold lexInt
  rw [if_pos hw, Lib.parseIntB_plain 32 c r (by omega) (by omega)]
  exact signless_val (c :: r) h0 h
theorem lexInt_none (l : List UInt8) (h : wholeB l = false) : lexInt l = (0, 3) := by
 unfold lexInt; rw [h]; rfl
theorem ba_app (x y : List UInt8) : ((⟨x.toArray⟩ : ByteArray) ++ (⟨y.toArray⟩ : ByteArray)) = ⟨(x ++ y).toArray⟩ := by
 rw [ba_eta (_ ++ _)]; simp
end Go.Proofs.YtdcldaknmenklaaGreatDoor.M
end
section
namespace Go.Proofs.YtdcldaknmenklaaGreatDoor.M
open Go.RowKit Go.Proofs.YtdcldaknmenklaaGreatDoorW.PrintWords
set_option linter.unusedVariables false
set_option linter.unusedSimpArgs false
theorem nDigits_le (k : Nat) : ∀ u : Nat, u < 10 ^ (k + 1) → Lib.nDigits u ≤ k + 1 := by
 induction k with
 | zero => intro u h; rw [Lib.nDigits_small (by simpa using h)]; omega
 | succ k ih =>
  intro u h
  by_cases h1 : u < 10
  ·rw [Lib.nDigits_small h1]; omega
  ·rw [Lib.nDigits_big h1]
   have := ih (u / 10) (by rw [Nat.pow_succ] at h; omega)
   omega
def toE (x : S34) : S32 := ⟨x.f0, x.f1, x.f2⟩
theorem rdE (l : List S34) (i : Nat) (h : i < l.length) : rd_T34 l (i : Int) = l[i] := by
 unfold rd_T34
 rw [Int.toNat_natCast, List.getD_eq_getElem?_getD, List.getElem?_eq_getElem h]
 rfl
theorem few_loop (l : List S34) (d : Nat) : ∀ (i k : Nat), 600 - i = d → i ≤ 600 → i ≤ l.length → (∀ x ∈ l.take i, x.f2.size ≤ 100) → 2 * d + 2 ≤ k →
  ∃ b, hornbookref17_Few.l0 k l (i : Int) = some b ∧ (b = true → l.length ≤ 600 ∧ ∀ x ∈ l, x.f2.size ≤ 100) := by
 have last : ∀ (i k : Nat), i ≤ l.length → (∀ x ∈ l.take i, x.f2.size ≤ 100) → (i = l.length ∨ 600 ≤ i) → ∃ b, hornbookref17_Few.j1 (k + 1) l (i : Int) false = some b ∧ (b = true → l.length ≤ 600 ∧ ∀ x ∈ l, x.f2.size ≤ 100) := by
  intro i k hi hx hc
  rw [hornbookref17_Few.j1, if_neg (by decide)]
  refine ⟨_, rfl, fun hb => ?_⟩
  have hl : l.length ≤ 600 := by have := of_decide_eq_true hb; omega
  refine ⟨hl, ?_⟩
  rwa [List.take_of_length_le (by omega)] at hx
 induction d with
 | zero =>
  intro i k hd h6 hi hx hk
  obtain ⟨k, rfl⟩ : ∃ k', k = k' + 2 := ⟨k - 2, by omega⟩
  have : i = 600 := by omega
  rw [hornbookref17_Few.l0]
  by_cases hl : (i : Int) < (l.length : Int)
  ·rw [if_pos hl, decide_eq_false (show ¬ (i : Int) < 600 by omega)]
   exact last i k hi hx (.inr (by omega))
  ·rw [if_neg hl]
   exact last i k hi hx (.inr (by omega))
 | succ d ih =>
  intro i k hd h6 hi hx hk
  obtain ⟨k, rfl⟩ : ∃ k', k = k' + 2 := ⟨k - 2, by omega⟩
  rw [hornbookref17_Few.l0]
  by_cases hl : i < l.length
  ·rw [if_pos (by omega), decide_eq_true (show (i : Int) < 600 by omega), hornbookref17_Few.j1, if_pos rfl, if_pos (by omega), if_pos (by omega), rdE l i hl]
   by_cases hs : (l[i].f2.size : Int) > 100
   ·rw [if_pos hs]
    exact ⟨false, rfl, fun h => by cases h⟩
   ·rw [if_neg hs, wrap_small (by omega) (by omega), show (i : Int) + 1 = ((i + 1 : Nat) : Int) by omega]
    refine ih (i + 1) k (by omega) (by omega) (by omega) ?_ (by omega)
    intro x hx2
    rw [List.take_succ_eq_append_getElem hl, List.mem_append] at hx2
    rcases hx2 with h | h
    ·exact hx x h
    ·rw [List.mem_singleton] at h
     subst h
     omega
  ·rw [if_neg (by omega)]
   exact last i k hi hx (.inl (by omega))
theorem few_eq (l : List S34) {k : Nat} (hk : 1300 ≤ k) : ∃ b, hornbookref17_Few.f k l = some b ∧ (b = true → l.length ≤ 600 ∧ ∀ x ∈ l, x.f2.size ≤ 100) := by
 unfold hornbookref17_Few.f
 exact few_loop l 600 0 k rfl (by omega) (Nat.zero_le _) (by simp) (by omega)
theorem ours_loop (l : List S34) (hn : l.length ≤ 100000) (d : Nat) : ∀ (i k : Nat) (acc : List S32), l.length - i = d → i ≤ l.length → acc.length = i → d + 1 ≤ k →
  hornbooklaw17_ours.l0 k l acc (i : Int) = some (acc ++ (l.drop i).map toE) := by
 induction d with
 | zero =>
  intro i k acc hd hi ha hk
  obtain ⟨k, rfl⟩ : ∃ k', k = k' + 1 := ⟨k - 1, by omega⟩
  rw [hornbooklaw17_ours.l0, if_neg (by omega), List.drop_eq_nil_of_le (by omega), List.map_nil, List.append_nil]
 | succ d ih =>
  intro i k acc hd hi ha hk
  obtain ⟨k, rfl⟩ : ∃ k', k = k' + 1 := ⟨k - 1, by omega⟩
  have hlt : i < l.length := by omega
  rw [hornbooklaw17_ours.l0, if_pos (by omega), if_pos (by omega), if_pos (by omega), rdE l i hlt, wrap_small (by omega) (by omega)]
  have := ih (i + 1) k (acc ++ [toE l[i]]) (by omega) (by omega) (by rw [List.length_append, List.length_singleton, ha]) (by omega)
  rw [List.drop_eq_getElem_cons hlt, List.map_cons, show (i : Int) + 1 = ((i + 1 : Nat) : Int) by omega]
  unfold toE at this ⊢
  rw [this, List.append_assoc]
  rfl
theorem ours_eq (l : List S34) (hn : l.length ≤ 100000) {k : Nat} (hk : l.length + 1 ≤ k) : hornbooklaw17_ours.f k l = some (l.map toE) := by
 unfold hornbooklaw17_ours.f
 have := ours_loop l hn l.length 0 k [] rfl (Nat.zero_le _) rfl hk
 rw [List.drop_zero, List.nil_append] at this
 exact this
end Go.Proofs.YtdcldaknmenklaaGreatDoor.M
end
section
namespace Go.Proofs.YtdcldaknmenklaaGreatDoor.M
open Go.RowKit Go.Proofs.YtdcldaknmenklaaGreatDoorW.PrintWords
set_option linter.unusedVariables false
def encThere (t : Int) : Bool := match encOf 500 t with
 | some a => decide (t = 1 → (rdOf ByteArray.empty a 67).data.toList = [67])
 | none => false
set_option maxRecDepth 100000 in
theorem encThere_0 : encThere 0 = true := by decide +kernel
set_option maxRecDepth 100000 in
theorem encThere_1 : encThere 1 = true := by decide +kernel
set_option maxRecDepth 100000 in
theorem encThere_2 : encThere 2 = true := by decide +kernel
set_option maxRecDepth 100000 in
theorem encThere_3 : encThere 3 = true := by decide +kernel
theorem enc_there (t : Int) (h0 : 0 ≤ t) (h1 : t < 4) : ∃ L : List ByteArray, L.length = 256 ∧ (∀ k, 500 ≤ k → enc_All.f k t = some L) ∧ (t = 1 → (rdOf ByteArray.empty L 67).data.toList = [67]) := by
 have h : encThere t = true := by
  have : t = 0 ∨ t = 1 ∨ t = 2 ∨ t = 3 := by omega
  rcases this with rfl | rfl | rfl | rfl
  ·exact encThere_0
  ·exact encThere_1
  ·exact encThere_2
  ·exact encThere_3
 unfold encThere at h
 split at h
 ·rename_i a ha
  refine ⟨a, encOf_length ha, fun k hk => ?_, fun e => of_decide_eq_true h e⟩
  unfold enc_All.f
  rw [if_pos ⟨h0, h1⟩]
  exact le_rounds (g := fun k => encOf k t) (fun k => encOf_mono t k) ha hk
 ·cases h
/-- What is made of entries over an encoding. -/
theorem make_eq (t : Int) (h0 : 0 ≤ t) (h1 : t < 4) : ∃ L : List ByteArray, L.length = 256 ∧ (∀ k, 500 ≤ k → ∀ l : List S32, l.length ≤ 1000000 → diff_Make.f k t l = some (applyOut (runG (L, -1) 0 (l.map enOf)))) ∧ (t = 1 → (rdOf ByteArray.empty L 67).data.toList = [67]) := by
 obtain ⟨L, hL, he, hc⟩ := enc_there t h0 h1
 refine ⟨L, hL, fun k hk l hl => ?_, hc⟩
 unfold diff_Make.f diff_Apply.f
 rw [he k hk, Option.bind_some, if_pos hL, if_pos hl, Option.bind_some]
theorem applyOut_ok (s : St) : applyOut (.ok s) = (s.1, 0, 0) := rfl
def enL (x : S32) : Bool × Int × List UInt8 := (x.f0, x.f1, x.f2.data.toList)
def exE : List S32 := [⟨true, 65, ⟨#[]⟩⟩, ⟨false, 0, ⟨#[66]⟩⟩, ⟨false, 0, ⟨#[67]⟩⟩, ⟨true, 97, ⟨#[]⟩⟩, ⟨false, 0, ⟨#[97]⟩⟩]
theorem enL_inj {a b : List S32} (h : a.map enL = b.map enL) : a = b := by
 have e : ∀ l : List S32, (l.map enL).map (fun y => (⟨y.1, y.2.1, ⟨y.2.2.toArray⟩⟩ : S32)) = l := by
  intro l
  rw [List.map_map]
  conv => rhs; rw [← List.map_id l]
  exact List.map_congr_left fun x _ => by rcases x with ⟨a, b, ⟨c⟩⟩; rfl
 rw [← e a, ← e b, h]
def exB : ByteArray := ⟨#[91, 32, 54, 53, 32, 47, 66, 32, 47, 67, 32, 57, 55, 32, 47, 97, 32, 93]⟩
def exParse : Bool := match diff_Parse.f 400 exB with
 | some r => decide (r.1.map enL = exE.map enL) && decide (r.2 = (18, 0))
 | none => false
def exText : Bool := match diff_Text.f exE with
 | some r => decide (r.data.toList = exB.data.toList)
 | none => false
set_option maxRecDepth 100000 in
theorem exParse_ok : exParse = true := by decide +kernel
set_option maxRecDepth 100000 in
theorem exText_ok : exText = true := by decide +kernel
theorem ex_parse {k : Nat} (hk : 400 ≤ k) : diff_Parse.f k exB = some (exE, 18, 0) := by
 have h := exParse_ok
 unfold exParse at h
 split at h
 ·rename_i r hr
  simp only [Bool.and_eq_true, decide_eq_true_eq] at h
  refine le_rounds (g := fun k => diff_Parse.f k exB) (fun k => diff_Parse.mono _ k) ?_ hk
  show diff_Parse.f 400 exB = _
  rw [hr]
  rcases r with ⟨r1, r2⟩
  have h1 : r1 = exE := enL_inj h.1
  have h2 : r2 = (18, 0) := h.2
  rw [h1, h2]
 ·cases h
theorem ex_text : ∃ r, diff_Text.f exE = some r ∧ r.data.toList = exB.data.toList := by
 have h := exText_ok
 unfold exText at h
 split at h
 ·rename_i r hr
  exact ⟨r, hr, of_decide_eq_true h⟩
 ·cases h
theorem awake17 {k : Nat} (hk : 500 ≤ k) : hornbooklaw17_awake.f k = some true := by
 unfold hornbooklaw17_awake.f
 obtain ⟨L, hL, hm, hc⟩ := make_eq 1 (by decide) (by decide)
 obtain ⟨r, hr, hr2⟩ := ex_text
 have hp := ex_parse (k := k) (by omega)
 unfold exB at hp
 rw [hp, Option.bind_some, hm k hk exE (by decide), Option.bind_some]
 have hrun : runG (L, -1) 0 (exE.map enOf) = .ok (((L.set 65 ⟨#[66]⟩).set 66 ⟨#[67]⟩).set 97 ⟨#[97]⟩, 98) := by
  simp [exE, enOf, runG, stepG]
 have hc2 : (rdOf ByteArray.empty L 67).toList = [67] := by rw [toList_data, hc rfl]
 have hlen : (((L.set 65 ⟨#[66]⟩).set 66 ⟨#[67]⟩).set 97 ⟨#[97]⟩).length = 256 := by simp [hL]
 have g65 : rdOf ByteArray.empty (((L.set 65 ⟨#[66]⟩).set 66 ⟨#[67]⟩).set 97 ⟨#[97]⟩) 65 = ⟨#[66]⟩ := by
  unfold rdOf
  rw [show (65 : Int).toNat = 65 from rfl, List.getD_eq_getElem?_getD, List.getElem?_set_ne (by decide), List.getElem?_set_ne (by decide), List.getElem?_set_self (by omega)]
  rfl
 have g66 : rdOf ByteArray.empty (((L.set 65 ⟨#[66]⟩).set 66 ⟨#[67]⟩).set 97 ⟨#[97]⟩) 66 = ⟨#[67]⟩ := by
  unfold rdOf
  rw [show (66 : Int).toNat = 66 from rfl, List.getD_eq_getElem?_getD, List.getElem?_set_ne (by decide), List.getElem?_set_self (by rw [List.length_set]; omega)]
  rfl
 have g67 : rdOf ByteArray.empty (((L.set 65 ⟨#[66]⟩).set 66 ⟨#[67]⟩).set 97 ⟨#[97]⟩) 67 = rdOf ByteArray.empty L 67 := by
  unfold rdOf
  rw [show (67 : Int).toNat = 67 from rfl, List.getD_eq_getElem?_getD, List.getElem?_set_ne (by decide), List.getElem?_set_ne (by decide), List.getElem?_set_ne (by decide), List.getD_eq_getElem?_getD]
 rw [hrun, applyOut_ok]
 dsimp only
 rw [if_pos rfl, if_pos rfl, if_pos rfl, hlen, if_pos (show ((256 : Nat) : Int) = 256 from rfl), if_pos (by decide), g65, if_pos (by rw [toList_data]), if_pos (by decide), g66, if_pos (by rw [toList_data]), if_pos (by decide), g67, if_pos hc2, hr, Option.bind_some, toList_data, hr2]
 rfl
end Go.Proofs.YtdcldaknmenklaaGreatDoor.M
end
section
namespace Go.Proofs.YtdcldaknmenklaaGreatDoor.M
open Go.RowKit Go.Proofs.YtdcldaknmenklaaGreatDoorW.PrintWords
set_option linter.unusedVariables false
set_option linter.unusedSimpArgs false
abbrev TkT := S65
abbrev EnT := S32
/-- The entries' loop: all tokens of entries, and the bracket is left. -/
def entE (t : TkT) : EnT := if t.f0 = 1 then ⟨true, t.f2, ⟨#[]⟩⟩ else ⟨false, 0, t.f3⟩
theorem entries_loop : ∀ (m rest : List TkT) (acc : List EnT) (k : Nat), (∀ t ∈ m, t.f0 = 1 ∨ t.f0 = 2) → (∀ t r, rest = t :: r → t.f0 ≠ 1 ∧ t.f0 ≠ 2) → m.length < k → acc.length + m.length ≤ 1000000 →
  diff_entries.l0 k (m ++ rest) acc = some (acc ++ m.map entE, rest)
 | [], rest, acc, k => by
  intro _ hr hk _
  obtain ⟨k, rfl⟩ : ∃ k', k = k' + 1 := ⟨k - 1, by rw [List.length_nil] at hk; omega⟩
  rw [List.nil_append, List.map_nil, List.append_nil, diff_entries.l0]
  rcases rest with _ | ⟨t, r⟩
  ·rw [if_neg (by simp)]
  ·obtain ⟨h1, h2⟩ := hr t r rfl
   have e0 : rd_T65 (t :: r) 0 = t := rfl
   rw [if_pos (by rw [List.length_cons]; omega), if_pos (by rw [List.length_cons]; omega), e0, if_neg h1, if_neg h2]
 | t :: m, rest, acc, k => by
  intro hm hr hk ha
  rw [List.length_cons] at hk ha
  obtain ⟨k, rfl⟩ : ∃ k', k = k' + 1 := ⟨k - 1, by omega⟩
  have e0 : rd_T65 (t :: m ++ rest) 0 = t := rfl
  have e1 : (t :: m ++ rest).drop 1 = m ++ rest := rfl
  have hl : 0 < (((t :: m ++ rest).length : Nat) : Int) := by rw [List.cons_append, List.length_cons]; omega
  have ih := entries_loop m rest (acc ++ [entE t]) k (fun x hx => hm x (List.mem_cons_of_mem _ hx)) hr (by omega) (by rw [List.length_append, List.length_singleton]; omega)
  rw [diff_entries.l0, if_pos hl, if_pos hl, e0, e1, if_pos (show acc.length < 4398046511104 by omega), if_pos (show 1 ≤ (((t :: m ++ rest).length : Nat) : Int) by omega)]
  rw [List.append_assoc, List.singleton_append] at ih
  rw [List.map_cons]
  rcases hm t (by simp) with h1 | h2
  ·have he : entE t = ⟨true, t.f2, ⟨#[]⟩⟩ := by unfold entE; rw [if_pos h1]
   rw [if_pos h1, ← he]
   exact ih
  ·have h1 : ¬ t.f0 = 1 := by rw [h2]; decide
   have he : entE t = ⟨false, 0, t.f3⟩ := by unfold entE; rw [if_neg h1]
   rw [if_neg h1, if_pos h2, if_pos (show acc.length < 4398046511104 by omega), if_pos (show 1 ≤ (((t :: m ++ rest).length : Nat) : Int) by omega), ← he]
   exact ih
abbrev EnR := S34
def toR (x : EnT) : EnR := ⟨x.f0, x.f1, x.f2⟩
def unEn (x : En) : EnT := ⟨x.1, x.2.1, x.2.2⟩
theorem rdO {l : List ByteArray} {i : Nat} (h : i < l.length) : rdOf ByteArray.empty l (i : Int) = l[i] := by
 unfold rdOf
 rw [Int.toNat_natCast, List.getD_eq_getElem?_getD, List.getElem?_eq_getElem h]
 rfl
theorem rdT (l : List EnT) (i : Nat) (h : i < l.length) : rd_T32 l (i : Int) = l[i] := by
 unfold rd_T32
 rw [Int.toNat_natCast, List.getD_eq_getElem?_getD, List.getElem?_eq_getElem h]
 rfl
theorem toList_iff {a b : ByteArray} : a.toList = b.toList ↔ a = b := by
 constructor
 ·intro h
  rw [toList_data, toList_data] at h
  rcases a with ⟨⟨a⟩⟩
  rcases b with ⟨⟨b⟩⟩
  have : a = b := h
  rw [this]
 ·intro h; rw [h]
theorem of_loop (bs ns : List ByteArray) (hb : bs.length = 256) (hn : ns.length = 256) (d : Nat) : ∀ (i k : Nat) (row : Bool) (acc : List EnT), 256 - i = d → i ≤ 256 → acc.length ≤ 2 * i → 2 * d < k →
  diff_Of.l0 k bs acc row ns 256 (i : Int) = some (acc ++ (ofG i row (bs.drop i) (ns.drop i)).map unEn) := by
 induction d with
 | zero =>
  intro i k row acc hd hi ha hk
  obtain ⟨k, rfl⟩ : ∃ m, k = m + 1 := ⟨k - 1, by omega⟩
  rw [diff_Of.l0, if_neg (by omega), List.drop_eq_nil_of_le (by omega), List.drop_eq_nil_of_le (by omega), ofG, List.map_nil, List.append_nil]
  ·intro b bs n ns h; cases h
 | succ d ih =>
  intro i k row acc hd hi ha hk
  obtain ⟨k, rfl⟩ : ∃ m, k = m + 2 := ⟨k - 2, by omega⟩
  have h1 : i < bs.length := by omega
  have h2 : i < ns.length := by omega
  have hw : wrap64 ((i : Int) + 1) = ((i + 1 : Nat) : Int) := by rw [wrap_small (by omega) (by omega)]; omega
  rw [diff_Of.l0, if_pos (by omega), if_pos (by omega), if_pos (by omega), if_pos (by omega), rdO h1, rdO h2, List.drop_eq_getElem_cons h1, List.drop_eq_getElem_cons h2, ofG]
  by_cases he : bs[i] = ns[i]
  ·have hx : (bs[i].toList != ns[i].toList) = false := by rw [he]; simp
   rw [if_pos (toList_iff.2 he), if_pos he, diff_Of.j2, if_neg (by simp), hx, if_neg (by simp), hw]
   exact ih (i + 1) k false acc (by omega) (by omega) (by omega) (by omega)
  ·have hx : (bs[i].toList != ns[i].toList) = true := by rw [bne_iff_ne]; exact fun e => he (toList_iff.1 e)
   rw [if_neg (fun e => he (toList_iff.1 e)), if_neg he, diff_Of.j2, hx]
   cases row with
   | true =>
    rw [if_neg (by simp), if_pos rfl, if_pos (by omega), hw, if_pos rfl]
    have := ih (i + 1) k true (acc ++ [⟨false, 0, ns[i]⟩]) (by omega) (by omega) (by rw [List.length_append, List.length_singleton]; omega) (by omega)
    rw [this, List.append_assoc]
    rfl
   | false =>
    rw [if_pos (by simp), if_pos (by omega), Option.bind_some, if_pos rfl, if_pos (by rw [List.length_append, List.length_singleton]; omega), hw, if_neg (by simp)]
    have := ih (i + 1) k true (acc ++ [⟨true, (i : Int), ⟨#[]⟩⟩] ++ [⟨false, 0, ns[i]⟩]) (by omega) (by omega) (by rw [List.length_append, List.length_append, List.length_singleton, List.length_singleton]; omega) (by omega)
    rw [this, List.append_assoc, List.append_assoc]
    rfl
theorem of_eq (bs ns : List ByteArray) (hb : bs.length = 256) (hn : ns.length = 256) {k : Nat} (hk : 600 ≤ k) : diff_Of.f k bs ns = some ((ofG 0 false bs ns).map unEn) := by
 obtain ⟨k, rfl⟩ : ∃ m, k = m + 1 := ⟨k - 1, by omega⟩
 have h := of_loop bs ns hb hn 256 0 k false [] rfl (by omega) (by simp) (by omega)
 rw [List.drop_zero, List.drop_zero, List.nil_append] at h
 unfold diff_Of.f
 rw [if_pos (by omega), hn, diff_Of.j0, if_neg (by decide), hn]
 exact h
theorem of_none (bs ns : List ByteArray) (hb : bs.length = 256) (hn : ns.length ≠ 256) {k : Nat} (hk : 1 ≤ k) : diff_Of.f k bs ns = some [] := by
 obtain ⟨k, rfl⟩ : ∃ m, k = m + 1 := ⟨k - 1, by omega⟩
 have hx : ((ns.length : Int) != 256) = true := by rw [bne_iff_ne]; omega
 unfold diff_Of.f
 rw [if_pos (by omega), hx, diff_Of.j0, if_pos rfl]
theorem theirs_loop (l : List EnT) (hn : l.length ≤ 100000) (d : Nat) : ∀ (i k : Nat) (acc : List EnR), l.length - i = d → i ≤ l.length → acc.length = i → d + 1 ≤ k →
  hornbooklaw17_theirs.l0 k l acc (i : Int) = some (acc ++ (l.drop i).map toR) := by
 induction d with
 | zero =>
  intro i k acc hd hi ha hk
  obtain ⟨k, rfl⟩ : ∃ k', k = k' + 1 := ⟨k - 1, by omega⟩
  rw [hornbooklaw17_theirs.l0, if_neg (by omega), List.drop_eq_nil_of_le (by omega), List.map_nil, List.append_nil]
 | succ d ih =>
  intro i k acc hd hi ha hk
  obtain ⟨k, rfl⟩ : ∃ k', k = k' + 1 := ⟨k - 1, by omega⟩
  have hlt : i < l.length := by omega
  rw [hornbooklaw17_theirs.l0, if_pos (by omega), if_pos (by omega), if_pos (by omega), rdT l i hlt, wrap_small (by omega) (by omega)]
  have := ih (i + 1) k (acc ++ [toR l[i]]) (by omega) (by omega) (by rw [List.length_append, List.length_singleton, ha]) (by omega)
  rw [List.drop_eq_getElem_cons hlt, List.map_cons, show (i : Int) + 1 = ((i + 1 : Nat) : Int) by omega]
  unfold toR at this ⊢
  rw [this, List.append_assoc]
  rfl
theorem theirs_eq (l : List EnT) (hn : l.length ≤ 100000) {k : Nat} (hk : l.length + 1 ≤ k) : hornbooklaw17_theirs.f k l = some (l.map toR) := by
 unfold hornbooklaw17_theirs.f
 have := theirs_loop l hn l.length 0 k [] rfl (Nat.zero_le _) rfl hk
 rw [List.drop_zero, List.nil_append] at this
 exact this
theorem same17_loop (l : List EnR) (hl : l.length ≤ 100000) (d : Nat) : ∀ (i k : Nat), l.length - i = d → i ≤ l.length → d < k → hornbookref17_Same.l0 k l l (i : Int) = some true := by
 induction d with
 | zero =>
  intro i k hd hi hk
  obtain ⟨k, rfl⟩ : ∃ m, k = m + 1 := ⟨k - 1, by omega⟩
  rw [hornbookref17_Same.l0, if_neg (by omega)]
 | succ d ih =>
  intro i k hd hi hk
  obtain ⟨k, rfl⟩ : ∃ m, k = m + 1 := ⟨k - 1, by omega⟩
  have hn := ih (i + 1) k (by omega) (by omega) (by omega)
  rw [show (((i + 1 : Nat) : Int)) = (i : Int) + 1 by omega] at hn
  rw [hornbookref17_Same.l0, if_pos (by omega), if_pos (by omega), if_pos (by omega), if_neg (by simp), wrap_small (by omega) (by omega), hn]
theorem same17_refl (l : List EnR) (hl : l.length ≤ 100000) {k : Nat} (hk : l.length < k) : hornbookref17_Same.f k l l = some true := by
 unfold hornbookref17_Same.f
 rw [if_pos rfl]
 exact same17_loop l hl l.length 0 k rfl (Nat.zero_le _) hk
theorem same15_loop (l : List ByteArray) (hl : l.length ≤ 100000) (d : Nat) : ∀ (i k : Nat), l.length - i = d → i ≤ l.length → d < k → hornbookref15_Same.l0 k l l (i : Int) = some true := by
 induction d with
 | zero =>
  intro i k hd hi hk
  obtain ⟨k, rfl⟩ : ∃ m, k = m + 1 := ⟨k - 1, by omega⟩
  rw [hornbookref15_Same.l0, if_neg (by omega)]
 | succ d ih =>
  intro i k hd hi hk
  obtain ⟨k, rfl⟩ : ∃ m, k = m + 1 := ⟨k - 1, by omega⟩
  have hn := ih (i + 1) k (by omega) (by omega) (by omega)
  rw [show (((i + 1 : Nat) : Int)) = (i : Int) + 1 by omega] at hn
  rw [hornbookref15_Same.l0, if_pos (by omega), if_pos (by omega), if_pos (by omega), if_pos rfl, wrap_small (by omega) (by omega), hn]
theorem same15_refl (l : List ByteArray) (hl : l.length ≤ 100000) {k : Nat} (hk : l.length < k) : hornbookref15_Same.f k l l = some true := by
 unfold hornbookref15_Same.f
 rw [if_pos rfl]
 exact same15_loop l hl l.length 0 k rfl (Nat.zero_le _) hk
theorem apply17 (b : List ByteArray) (hb : b.length = 256) (l : List EnT) (hl : l.length ≤ 1000000) : diff_Apply.f b l = some (applyOut (runG (b, -1) 0 (l.map enOf))) := by
 unfold diff_Apply.f
 rw [if_pos hb, if_pos hl]
theorem apply17_none (b : List ByteArray) (hb : ¬ b.length = 256) (l : List EnT) : diff_Apply.f b l = some ([], 0, 11) := by
 unfold diff_Apply.f
 rw [if_neg hb]
end Go.Proofs.YtdcldaknmenklaaGreatDoor.M
end
section
namespace Go.Proofs.YtdcldaknmenklaaGreatDoor.M
open Go.RowKit Go.Proofs.YtdcldaknmenklaaGreatDoorW.PrintWords
set_option linter.unusedVariables false
theorem refWhite_eq (c : Int) : hornbookref01_White.f c = some (isWhite c) := by
 unfold hornbookref01_White.f isWhite
 by_cases h0 : c = 0
 ·subst h0; rfl
 ·by_cases h1 : c = 9
  ·subst h1; rfl
  ·by_cases h2 : c = 10
   ·subst h2; rfl
   ·by_cases h3 : c = 12
    ·subst h3; rfl
    ·by_cases h4 : c = 13
     ·subst h4; rfl
     ·simp [h0, h1, h2, h3, h4]
theorem refClass_loop (c : Int) (t : ByteArray) (ht : t.size < 4611686018427387904) (d : Nat) : ∀ (i k : Nat), t.size - i = d → i ≤ t.size → d + 1 ≤ k →
  hornbookref03_Class.l0 k c t i = some (if (t.data.toList.drop i).any (fun b => (b.toNat : Int) == c) then 2 else 0) := by
 induction d with
 | zero =>
  intro i k hd hi hk
  obtain ⟨k, rfl⟩ : ∃ m, k = m + 1 := ⟨k - 1, by omega⟩
  rw [hornbookref03_Class.l0, if_neg (by omega), List.drop_of_length_le (by rw [← size_list]; omega)]
  rfl
 | succ d ih =>
  intro i k hd hi hk
  obtain ⟨k, rfl⟩ : ∃ m, k = m + 1 := ⟨k - 1, by omega⟩
  have hlt : i < t.size := by omega
  have hl : i < t.data.toList.length := by rw [← size_list]; exact hlt
  have hr := bt_range t i
  rw [hornbookref03_Class.l0, if_pos (by omega), if_pos (by omega), wrap_small (x := bt t i) hr.1 (by omega), bt_get t i hlt, List.drop_eq_getElem_cons hl, List.any_cons]
  generalize t.data.toList[i] = b
  by_cases h : (b.toNat : Int) = c
  ·rw [if_pos h, beq_iff_eq.2 h]; rfl
  ·rw [if_neg h, beq_eq_false_iff_ne.2 h, Bool.false_or, wrap_small (by omega) (by omega), show ((i : Int) + 1) = ((i + 1 : Nat) : Int) by omega]
   exact ih (i + 1) k (by omega) (by omega) (by omega)
theorem white_not_delim (c : Int) (h : isWhite c = true) : isDelim c = false := by
 simp only [isWhite, Bool.or_eq_true, beq_iff_eq] at h
 rcases h with ((((h | h) | h) | h) | h) | h <;> (subst h; rfl)
theorem refClass_eq (c : Int) {k : Nat} (hk : 20 ≤ k) : hornbookref03_Class.f k c = some (clsOf c) := by
 unfold hornbookref03_Class.f
 rw [refWhite_eq]
 simp only [Option.bind_some]
 cases hw : isWhite c with
 | true => unfold clsOf; rw [white_not_delim c hw, hw]; rfl
 | false =>
  have z := refClass_loop c ⟨([40, 41, 60, 62, 91, 93, 123, 125, 47, 37] : List UInt8).toArray⟩ (by decide) _ 0 k rfl (by decide) (by show 10 - 0 + 1 ≤ k; omega)
  rw [List.drop_zero, ba_list] at z
  rw [if_neg (by decide)]
  refine z.trans ?_
  congr 1
  unfold clsOf
  rw [hw]
  have e : (([40, 41, 60, 62, 91, 93, 123, 125, 47, 37] : List UInt8).any fun b => (b.toNat : Int) == c) = isDelim c := by
   rw [Bool.eq_iff_iff, List.any_eq_true]
   simp only [isDelim, Bool.or_eq_true, beq_iff_eq]
   constructor
   ·rintro ⟨b, hb, rfl⟩
    simp only [List.mem_cons, List.not_mem_nil, or_false] at hb
    rcases hb with rfl | rfl | rfl | rfl | rfl | rfl | rfl | rfl | rfl | rfl <;> decide
   ·intro h
    refine ⟨UInt8.ofNat c.toNat, ?_, ?_⟩
    ·rcases h with ((((((((h | h) | h) | h) | h) | h) | h) | h) | h) | h <;> (subst h; decide)
    ·rcases h with ((((((((h | h) | h) | h) | h) | h) | h) | h) | h) | h <;> (subst h; decide)
  rw [e]
  cases isDelim c <;> rfl
theorem refCls_get (s : ByteArray) (i : Nat) (h : i < s.size) {k : Nat} (hk : 20 ≤ k) : hornbookref03_Class.f k (wrap64 (bt s i)) = some (clsOf (s.data.toList[i]'(by simpa using h)).toNat) := by
 have hr := bt_range s i
 rw [wrap_small hr.1 (by omega), bt_get s i h, refClass_eq _ hk]
theorem refPlace_eq (s : ByteArray) (a : Int) : hornbookref03_place.f s a = some (placeN s a : Int) := by
 have := place_eq s a
 unfold lex_place.f at this
 unfold hornbookref03_place.f
 exact this
theorem refWord_loop (s : ByteArray) (hs : s.size < 4611686018427387904) (a : Nat) (d : Nat) : ∀ (i k : Nat), s.size - i = d → i ≤ s.size → a ≤ i → d + 24 ≤ k →
  hornbookref03_Word.l0 k s a i = some (s.extract a (i + (wordAt s.data.toList i).length), ((i + (wordAt s.data.toList i).length : Nat) : Int)) := by
 induction d with
 | zero =>
  intro i k hd hi ha hk
  obtain ⟨k, rfl⟩ : ∃ m, k = m + 1 := ⟨k - 1, by omega⟩
  simp only [hornbookref03_Word.l0]
  rw [wordAt_end _ _ (by rw [← size_list]; omega), if_neg (by omega), if_pos (by omega), if_pos (by omega), if_pos (by omega)]
  simp
 | succ d ih =>
  intro i k hd hi ha hk
  obtain ⟨k, rfl⟩ : ∃ m, k = m + 1 := ⟨k - 1, by omega⟩
  have hlt : i < s.size := by omega
  have hl : i < s.data.toList.length := by rw [← size_list]; exact hlt
  simp only [hornbookref03_Word.l0]
  rw [if_pos (by omega), if_pos (by omega), refCls_get s i hlt (by omega)]
  simp only [Option.bind_some]
  by_cases hr : isRegB s.data.toList[i] = true
  ·have h0 : clsOf (s.data.toList[i]).toNat = 0 := by simpa [isRegB] using hr
   rw [if_pos h0, wrap_small (by omega) (by omega)]
   have := ih (i + 1) k (by omega) (by omega) (by omega) (by omega)
   rw [show ((i : Int) + 1) = ((i + 1 : Nat) : Int) by omega, this, wordAt_cons _ _ hl hr]
   simp only [List.length_cons]
   rw [show i + 1 + (wordAt s.data.toList (i + 1)).length = i + ((wordAt s.data.toList (i + 1)).length + 1) by omega]
  ·have h0 : ¬ clsOf (s.data.toList[i]).toNat = 0 := by simpa [isRegB] using hr
   have hr' : isRegB s.data.toList[i] = false := by simpa using hr
   rw [if_neg h0, wordAt_stop _ _ hl hr', if_pos (by omega), if_pos (by omega), if_pos (by omega)]
   simp
theorem refWord_eq (s : ByteArray) (hs : s.size < 4611686018427387904) (a : Int) {k : Nat} (hk : s.size + 24 ≤ k) :
  hornbookref03_Word.f k s a = some (⟨(wordAt s.data.toList (placeN s a)).toArray⟩, ((placeN s a + (wordAt s.data.toList (placeN s a)).length : Nat) : Int)) := by
 unfold hornbookref03_Word.f
 rw [refPlace_eq]
 simp only [Option.bind_some]
 rw [refWord_loop s hs (placeN s a) _ (placeN s a) k rfl (placeN_le s a) (Nat.le_refl _) (by omega), ext_mid]
 have e : (s.data.toList.drop (placeN s a)).take (placeN s a + (wordAt s.data.toList (placeN s a)).length - placeN s a) = wordAt s.data.toList (placeN s a) := by
  rw [Nat.add_sub_cancel_left]
  unfold wordAt
  exact (List.prefix_iff_eq_take.1 (List.takeWhile_prefix _)).symm
 rw [e]
theorem refSkip_loop (s : ByteArray) (hs : s.size < 4611686018427387904) (d : Nat) : ∀ (b : Bool) (i k : Nat), s.size - i = d → i ≤ s.size → d + 24 ≤ k →
  hornbookref03_Skip.l0 k s b i = some ((i + skipG b (s.data.toList.drop i) : Nat) : Int) := by
 induction d with
 | zero =>
  intro b i k hd hi hk
  obtain ⟨k, rfl⟩ : ∃ m, k = m + 1 := ⟨k - 1, by omega⟩
  rw [hornbookref03_Skip.l0, if_neg (by omega), List.drop_of_length_le (by rw [← size_list]; omega)]
  have e : i = s.size := by omega
  subst e
  cases b <;> simp [skipG]
 | succ d ih =>
  intro b i k hd hi hk
  obtain ⟨k, rfl⟩ : ∃ m, k = m + 1 := ⟨k - 1, by omega⟩
  have hlt : i < s.size := by omega
  have hl : i < s.data.toList.length := by rw [← size_list]; exact hlt
  have step := fun b' => ih b' (i + 1) k (by omega) (by omega) (by omega)
  have ec := refCls_get s i hlt (k := k) (by omega)
  rw [hornbookref03_Skip.l0, if_pos (by omega), if_pos (by omega), ec, bt_get s i hlt, wrap_small (x := (i : Int) + 1) (by omega) (by omega), show ((i : Int) + 1) = ((i + 1 : Nat) : Int) by omega, step, step, step, step, List.drop_eq_getElem_cons hl]
  clear step ih ec
  generalize s.data.toList[i] = c
  generalize s.data.toList.drop (i + 1) = r
  have h10 : ((c.toNat : Int) = 10) ↔ c = 10 := by rw [← UInt8.toNat_inj]; show (c.toNat : Int) = 10 ↔ c.toNat = 10; omega
  have h13 : ((c.toNat : Int) = 13) ↔ c = 13 := by rw [← UInt8.toNat_inj]; show (c.toNat : Int) = 13 ↔ c.toNat = 13; omega
  have h37 : ((c.toNat : Int) = 37) ↔ c = 37 := by rw [← UInt8.toNat_inj]; show (c.toNat : Int) = 37 ↔ c.toNat = 37; omega
  cases b with
  | true =>
   rw [if_pos rfl]
   by_cases e1 : c = 10
   ·rw [if_pos (h10.2 e1)]
    have : isNL c = true := by rw [e1]; rfl
    simp only [skipG, this, Bool.not_true]
    congr 2; omega
   ·rw [if_neg (fun e => e1 (h10.1 e))]
    have e2 : ((c.toNat : Int) != 13) = !isNL c := by
     rw [Bool.eq_iff_iff]
     simp only [isNL, bne_iff_ne, Bool.not_eq_true', Bool.or_eq_false_iff, beq_eq_false_iff_ne, ne_eq]
     constructor
     ·intro h; exact ⟨e1, fun e => h (h13.2 e)⟩
     ·rintro ⟨_, h⟩ e; exact h (h13.1 e)
    rw [e2]
    simp only [skipG]
    congr 2; omega
  | false =>
   rw [if_neg (by decide)]
   by_cases e1 : c = 37
   ·rw [if_pos (h37.2 e1)]
    simp only [skipG]
    rw [if_pos (by rw [e1]; rfl)]
    congr 2; omega
   ·have e1' : (c == 37) = false := beq_eq_false_iff_ne.2 e1
    rw [if_neg (fun e => e1 (h37.1 e))]
    simp only [Option.bind_some, skipG]
    simp only [e1', Bool.false_eq_true, if_false]
    by_cases h1 : clsOf c.toNat = 1
    ·rw [if_pos h1, if_pos (by simpa using h1)]
     congr 2; omega
    ·rw [if_neg h1, if_neg (by simpa using h1)]
     rfl
theorem refSkip_eq (s : ByteArray) (hs : s.size < 4611686018427387904) (a : Int) {k : Nat} (hk : s.size + 24 ≤ k) : hornbookref03_Skip.f k s a = some (skipN s a : Int) := by
 unfold hornbookref03_Skip.f
 rw [refPlace_eq]
 simp only [Option.bind_some]
 rw [refSkip_loop s hs _ false _ k rfl (placeN_le s a) (by omega)]
 rfl
theorem cap_step (v c : Nat) (hv : v ≤ 1099511627776) (hc : c ≤ 9) : mn (wrap64 ((wrap64 ((v : Int) * 10)) + (c : Int))) 1099511627776 = ((min (v * 10 + c) 1099511627776 : Nat) : Int) := by
 rw [wrap_small (x := (v : Int) * 10) (by omega) (by omega), wrap_small (by omega) (by omega)]
 unfold mn
 split <;> omega
def capD (acc : Nat) (l : List UInt8) : Nat := min (valD acc l) 1099511627776
theorem capD_step (acc : Nat) (c : UInt8) (r : List UInt8) : capD (min (acc * 10 + digN c) 1099511627776) r = capD acc (c :: r) := by
 unfold capD
 rw [valD_cons]
 by_cases h : acc * 10 + digN c ≤ 1099511627776
 ·rw [Nat.min_eq_left h]
 ·have h1 := valD_ge r (acc * 10 + digN c)
  have h2 := valD_ge r (min (acc * 10 + digN c) 1099511627776)
  omega
/-- What the document's number is, behind the digits. -/
def refEnd (neg : Bool) (v : Nat) : Int × Int := if neg then (if v ≤ 2147483648 then (-(v : Int), 0) else (0, 4)) else (if v ≤ 2147483647 then ((v : Int), 0) else (0, 4))
theorem refEnd_cap (neg : Bool) (l : List UInt8) : refEnd neg (capD 0 l) = refEnd neg (valD 0 l) := by
 unfold refEnd capD
 cases neg
 ·simp only [Bool.false_eq_true, if_false]
  by_cases h : valD 0 l ≤ 2147483647
  ·rw [if_pos h, Nat.min_eq_left (by omega), if_pos h]
  ·rw [if_neg h, if_neg (by omega)]
 ·simp only [if_true]
  by_cases h : valD 0 l ≤ 2147483648
  ·rw [if_pos h, Nat.min_eq_left (by omega), if_pos h]
  ·rw [if_neg h, if_neg (by omega)]
theorem ref_last (v : Nat) (hv : v ≤ 1099511627776) (b : Int) : (if b = 45 then (if (wrap64 (-(v : Int))) < (-2147483648) then (some ((0 : Int), (4 : Int))) else (if (wrap64 (-(v : Int))) > 2147483647 then (some (0, 4)) else (some (wrap64 (-(v : Int)), 0)))) else (if (v : Int) < (-2147483648) then (some (0, 4)) else (if (v : Int) > 2147483647 then (some (0, 4)) else (some ((v : Int), 0))))) = some (refEnd (b == 45) v) := by
 have hw : wrap64 (-(v : Int)) = -(v : Int) := by unfold wrap64; omega
 rw [hw]
 unfold refEnd
 by_cases hb : b = 45
 ·rw [if_pos hb, beq_iff_eq.2 hb]
  simp only [if_true]
  by_cases h : v ≤ 2147483648
  ·rw [if_neg (by omega), if_neg (by omega), if_pos h]
  ·rw [if_pos (by omega), if_neg h]
 ·rw [if_neg hb, beq_eq_false_iff_ne.2 hb]
  simp only [Bool.false_eq_true, if_false]
  rw [if_neg (by omega)]
  by_cases h : v ≤ 2147483647
  ·rw [if_neg (by omega), if_pos h]
  ·rw [if_pos (by omega), if_neg h]
theorem refInt_loop (s : ByteArray) (hs : s.size < 4611686018427387904) (h0 : 0 < s.size) (d : Nat) : ∀ (i k v : Nat), s.size - i = d → i ≤ s.size → v ≤ 1099511627776 → d + 4 ≤ k →
  hornbookref03_Int.l0 k s v i = if (s.data.toList.drop i).all isDigB then some (refEnd (bt s 0 == 45) (capD v (s.data.toList.drop i))) else some (0, 3) := by
 induction d with
 | zero =>
  intro i k v hd hi hv hk
  obtain ⟨k, rfl⟩ : ∃ m, k = m + 1 := ⟨k - 1, by omega⟩
  rw [hornbookref03_Int.l0, if_neg (by omega), if_pos (by omega), List.drop_of_length_le (by rw [← size_list]; omega), ref_last v hv]
  unfold capD
  rw [valD_nil, Nat.min_eq_left hv]; rfl
 | succ d ih =>
  intro i k v hd hi hv hk
  obtain ⟨k, rfl⟩ : ∃ m, k = m + 1 := ⟨k - 1, by omega⟩
  have hlt : i < s.size := by omega
  have hl : i < s.data.toList.length := by rw [← size_list]; exact hlt
  rw [hornbookref03_Int.l0, if_pos (by omega), if_pos (by omega), bt_get s i hlt, List.drop_eq_getElem_cons hl, List.all_cons]
  have step := fun v' hv' => ih (i + 1) k v' (by omega) (by omega) hv' (by omega)
  clear ih
  generalize s.data.toList[i] = c at *
  by_cases h1 : (c.toNat : Int) < 48
  ·have : isDigB c = false := by unfold isDigB; rw [decide_eq_false (by omega : ¬ 48 ≤ c.toNat)]; rfl
   rw [if_pos h1, this]; rfl
  ·by_cases h2 : (c.toNat : Int) > 57
   ·have : isDigB c = false := by unfold isDigB; rw [decide_eq_false (by omega : ¬ c.toNat ≤ 57), Bool.and_false]
    rw [if_neg h1, if_pos h2, this]; rfl
   ·have : isDigB c = true := by unfold isDigB; rw [decide_eq_true (by omega : 48 ≤ c.toNat), decide_eq_true (by omega : c.toNat ≤ 57)]; rfl
    have hd9 : digN c ≤ 9 := by unfold digN; omega
    have e1 : ((c.toNat : Int) - 48) % 256 = ((digN c : Nat) : Int) := by unfold digN; omega
    rw [if_neg h1, if_neg h2, this, Bool.true_and, e1, cap_step v _ hv hd9, wrap_small (by omega) (by omega), show ((i : Int) + 1) = ((i + 1 : Nat) : Int) by omega, step _ (by omega), capD_step]
theorem refInt_eq (l : List UInt8) (hs : l.length < 4611686018427387904) {k : Nat} (hk : l.length + 10 ≤ k) : hornbookref03_Int.f k ⟨l.toArray⟩ = some (lexInt l) := by
 have hz := ba_size l
 unfold hornbookref03_Int.f
 obtain ⟨k, rfl⟩ : ∃ m, k = m + 2 := ⟨k - 2, by omega⟩
 cases l with
 | nil =>
  rw [if_neg (by rw [hz]; simp), hornbookref03_Int.j0, if_neg (by decide), hornbookref03_Int.j1, if_pos (by rw [hz]; rfl)]
  rfl
 | cons c r =>
  rw [List.length_cons] at hz hs hk
  have hb : bt ⟨(c :: r).toArray⟩ 0 = (c.toNat : Int) := bt_get ⟨(c :: r).toArray⟩ 0 (by omega)
  have hd1 : (⟨(c :: r).toArray⟩ : ByteArray).data.toList.drop 1 = r := by rw [ba_list]; rfl
  have hd0 : (⟨(c :: r).toArray⟩ : ByteArray).data.toList.drop 0 = c :: r := by rw [ba_list]; rfl
  have signed : c = 43 ∨ c = 45 → hornbookref03_Int.j1 (k + 1) ⟨(c :: r).toArray⟩ 1 = some (lexInt (c :: r)) := by
   intro hc
   rw [hornbookref03_Int.j1]
   cases hr : r with
   | nil =>
    subst hr
    rw [if_pos (by rw [hz]; rfl)]
    rcases hc with rfl | rfl <;> rfl
   | cons x y =>
    rw [← hr]
    have h0 : r ≠ [] := by rw [hr]; simp
    have hrl : 0 < r.length := by rw [hr]; simp
    have z := refInt_loop ⟨(c :: r).toArray⟩ (by omega) (by omega) _ 1 k 0 rfl (by omega) (by omega) (by omega)
    rw [hd1, refEnd_cap, hb] at z
    rw [if_neg (by omega)]
    refine z.trans ?_
    cases hall : r.all isDigB with
    | true =>
     rw [if_pos rfl]
     rcases hc with rfl | rfl
     ·rw [lexInt_plus r h0 hall]; rfl
     ·rw [lexInt_minus r h0 hall]; rfl
    | false =>
     rw [if_neg (by decide), lexInt_none]
     unfold wholeB unsign
     rcases hc with rfl | rfl
     ·simp [hall]
     ·simp [hall]
  rw [if_pos (by omega), if_pos (by omega), hb]
  by_cases h43 : (c.toNat : Int) = 43
  ·have e : c = 43 := UInt8.toNat_inj.1 (show c.toNat = (43 : UInt8).toNat by have : (43 : UInt8).toNat = 43 := rfl; omega)
   rw [if_pos h43, hornbookref03_Int.j0, if_pos rfl]
   exact signed (.inl e)
  ·rw [if_neg h43]
   by_cases h45 : (c.toNat : Int) = 45
   ·have e : c = 45 := UInt8.toNat_inj.1 (show c.toNat = (45 : UInt8).toNat by have : (45 : UInt8).toNat = 45 := rfl; omega)
    rw [beq_iff_eq.2 h45, hornbookref03_Int.j0, if_pos rfl]
    exact signed (.inr e)
   ·rw [beq_eq_false_iff_ne.2 h45, hornbookref03_Int.j0, if_neg (by decide), hornbookref03_Int.j1, if_neg (by omega)]
    have z := refInt_loop ⟨(c :: r).toArray⟩ (by omega) (by omega) _ 0 k 0 rfl (by omega) (by omega) (by omega)
    rw [hd0, refEnd_cap, hb, beq_eq_false_iff_ne.2 h45] at z
    refine z.trans ?_
    cases hall : (c :: r).all isDigB with
    | true =>
     rw [if_pos rfl, lexInt_digits _ (by simp) hall]; rfl
    | false =>
     rw [if_neg (by decide), lexInt_none]
     have n1 : (c == 43) = false := by rw [beq_eq_false_iff_ne]; rintro rfl; exact h43 rfl
     have n2 : (c == 45) = false := by rw [beq_eq_false_iff_ne]; rintro rfl; exact h45 rfl
     unfold wholeB
     have hu : unsign (c :: r) = c :: r := by
      simp only [unsign]
      rw [if_neg (by rw [n1, n2]; decide)]
     rw [hu, hall, Bool.and_false]
theorem refDigit_eq {k : Nat} (hk : 20 ≤ k) (c : Int) (h0 : 0 ≤ c) (h1 : c ≤ 255) : hornbookref01_Digit.f k c = some ((hexVal c).getD 0, (hexVal c).isSome) := by
 have : ∀ n : Fin 256, hornbookref01_Digit.f 20 (n.val : Int) = some ((hexVal n.val).getD 0, (hexVal n.val).isSome) := by decide +kernel
 have h := this ⟨c.toNat, by omega⟩
 have e : ((c.toNat : Nat) : Int) = c := by omega
 simp only [e] at h
 exact le_rounds (g := fun k => hornbookref01_Digit.f k c) (fun k => hornbookref01_Digit.mono c k) h hk
theorem refHex_eq {k : Nat} (hk : 4 ≤ k) (c : UInt8) : hornbookref01_Hex.f k [(c.toNat : Int)] = some ⟨(hexOf c.toNat).toArray⟩ := by
 have : ∀ n : Fin 256, hornbookref01_Hex.f 4 [(n.val : Int)] = some ⟨(hexOf n.val).toArray⟩ := by decide +kernel
 have h := this ⟨c.toNat, c.toNat_lt⟩
 exact le_rounds (g := fun k => hornbookref01_Hex.f k [(c.toNat : Int)]) (fun k => hornbookref01_Hex.mono _ k) h hk
theorem u8_back (c : UInt8) : UInt8.ofNat ((c.toNat : Int)).toNat = c := by rw [Int.toNat_natCast]; exact UInt8.ofNat_toNat
def outOf (o : List Int) : List UInt8 := o.map fun n => UInt8.ofNat n.toNat
theorem outOf_str (o : List Int) : strOfNums o = ⟨(outOf o).toArray⟩ := rfl
theorem outOf_app (o : List Int) (n : Int) : outOf (o ++ [n]) = outOf o ++ [UInt8.ofNat n.toNat] := by simp [outOf]
theorem wrap_dig (x y : Int) (hx : 0 ≤ x ∧ x ≤ 15) (hy : 0 ≤ y ∧ y ≤ 15) : wrap64 (wrap64 (16 * x) + y) = 16 * x + y := by
 rw [wrap_small (x := 16 * x) (by omega) (by omega), wrap_small (by omega) (by omega)]
theorem wrap_next (n : Nat) (h : n < 4611686018427387904) : wrap64 ((n : Int) + 1) = ((n + 1 : Nat) : Int) := by
 exact wrap_small (x := ((n + 1 : Nat) : Int)) (by omega) (by omega)
theorem dig_byte (x y : Int) (hx : 0 ≤ x ∧ x ≤ 15) (hy : 0 ≤ y ∧ y ≤ 15) : UInt8.ofNat ((16 * x + y) % 256).toNat = (x * 16 + y).toNat.toUInt8 := by
 have : ((16 * x + y) % 256).toNat = (x * 16 + y).toNat := by omega
 rw [this]
theorem refName_loop (s : ByteArray) (hs : s.size ≤ 1000) (d : Nat) : ∀ (o : List Int) (i k : Nat), s.size - i ≤ d → i ≤ s.size → o.length ≤ i → 2 * d + 30 ≤ k →
  hornbookref03_Name.l0 k s o i = some ⟨(outOf o ++ nameGo (s.data.toList.drop i)).toArray⟩ := by
 induction d with
 | zero =>
  intro o i k hd hi ho hk
  obtain ⟨k, rfl⟩ : ∃ m, k = m + 1 := ⟨k - 1, by omega⟩
  rw [hornbookref03_Name.l0, if_neg (by omega), List.drop_of_length_le (by rw [← size_list]; omega), nameGo, List.append_nil, outOf_str]
 | succ d ih =>
  intro o i k hd hi ho hk
  obtain ⟨k, rfl⟩ : ∃ m, k = m + 2 := ⟨k - 2, by omega⟩
  by_cases hlt : i < s.size
  ·have hl : i < s.data.toList.length := by rw [← size_list]; exact hlt
   have q1 : (0 : Int) ≤ (i : Int) := by omega
   have q2 : (i : Int) < (s.size : Int) := by omega
   have q3 : o.length < 140737488355328 := by omega
   have push : nameGo (s.data.toList[i] :: s.data.toList.drop (i + 1)) = s.data.toList[i] :: nameGo (s.data.toList.drop (i + 1)) →
     hornbookref03_Name.l0 k s (o ++ [bt s i]) (wrap64 ((i : Int) + 1)) = some ⟨(outOf o ++ nameGo (s.data.toList.drop i)).toArray⟩ := by
    intro hn
    rw [wrap_small (by omega) (by omega), show ((i : Int) + 1) = ((i + 1 : Nat) : Int) by omega, ih (o ++ [bt s i]) (i + 1) k (by omega) (by omega) (by simp; omega) (by omega),
     List.drop_eq_getElem_cons hl, hn, outOf_app, bt_get s i hlt, u8_back, List.append_assoc]
    rfl
   have short : nameGo (s.data.toList[i] :: s.data.toList.drop (i + 1)) = s.data.toList[i] :: nameGo (s.data.toList.drop (i + 1)) →
     hornbookref03_Name.j1 (k + 1) s o i false = some ⟨(outOf o ++ nameGo (s.data.toList.drop i)).toArray⟩ := by
    intro hn
    rw [hornbookref03_Name.j1, if_neg (by decide), if_pos (by omega), if_pos (by omega), if_pos (by omega)]
    exact push hn
   rw [hornbookref03_Name.l0, if_pos (by omega), if_pos (by omega)]
   by_cases h35 : bt s i = 35
   ·rw [if_pos h35, wrap_small (x := (i : Int) + 2) (by omega) (by omega)]
    have ec : s.data.toList[i] = 35 := by
     rw [bt_get s i hlt] at h35
     exact UInt8.toNat_inj.1 (show s.data.toList[i].toNat = (35 : UInt8).toNat by have : (35 : UInt8).toNat = 35 := rfl; omega)
    by_cases h2 : i + 2 < s.size
    ·have g1 : s.size - (i + 3) ≤ d := by omega
     have g2 : i + 3 ≤ s.size := by omega
     have g3 : ∀ n : Int, (o ++ [n]).length ≤ i + 3 := by intro n; simp; omega
     have g4 : 2 * d + 30 ≤ k := by omega
     have g5 : i + 2 < 4611686018427387904 := by omega
     have hl1 : i + 1 < s.data.toList.length := by rw [← size_list]; omega
     have hl2 : i + 2 < s.data.toList.length := by rw [← size_list]; omega
     have r1 := bt_range s (i + 1 : Nat)
     have r2 := bt_range s (i + 2 : Nat)
     have b1 := bt_get s (i + 1) (by omega)
     have b2 := bt_get s (i + 2) (by omega)
     rw [decide_eq_true (by omega), hornbookref03_Name.j1, if_pos (c := true = true) rfl, wrap_small (x := (i : Int) + 1) (by omega) (by omega), wrap_small (x := (i : Int) + 2) (by omega) (by omega),
      show ((i : Int) + 1) = ((i + 1 : Nat) : Int) by omega, show ((i : Int) + 2) = ((i + 2 : Nat) : Int) by omega,
      wrap_small (x := bt s (i + 1 : Nat)) r1.1 (by omega), wrap_small (x := bt s (i + 2 : Nat)) r2.1 (by omega),
      refDigit_eq (by omega) _ r1.1 r1.2, refDigit_eq (by omega) _ r2.1 r2.2]
     simp only [Option.bind_some]
     rw [if_pos (by omega), if_pos (by omega), if_pos (by omega), if_pos (by omega)]
     have dr : s.data.toList.drop (i + 1) = s.data.toList[i + 1] :: s.data.toList[i + 2] :: s.data.toList.drop (i + 3) := by
      rw [List.drop_eq_getElem_cons hl1, List.drop_eq_getElem_cons hl2]
     have fail : ((hexVal (bt s (i + 1 : Nat))).isSome && (hexVal (bt s (i + 2 : Nat))).isSome) = false → hornbookref03_Name.l0 k s (o ++ [bt s i]) (wrap64 ((i + 1 : Nat) : Int)) = some ⟨(outOf o ++ nameGo (s.data.toList.drop i)).toArray⟩ := by
      intro hf
      have p := push (by
       rw [dr]
       rw [b1, b2] at hf
       exact nameGo_no _ _ _ _ hf)
      rw [show ((i : Int) + 1) = ((i + 1 : Nat) : Int) by omega] at p
      exact p
     have wi : wrap64 ((i + 1 : Nat) : Int) = ((i + 1 : Nat) : Int) := wrap_small (by omega) (by omega)
     rw [wi] at fail
     cases hx : hexVal (bt s (i + 1 : Nat)) with
     | none =>
      rw [hx] at fail
      simp only [Option.isSome_none, Bool.false_and] at fail ⊢
      rw [if_neg (by decide), if_pos q1, if_pos q2, if_pos q3]
      exact fail trivial
     | some x =>
      cases hy : hexVal (bt s (i + 2 : Nat)) with
      | none =>
       rw [hx, hy] at fail
       simp only [Option.isSome_none, Option.isSome_some, Bool.and_false] at fail ⊢
       rw [if_pos trivial, if_neg (by decide), if_pos q1, if_pos q2, if_pos q3]
       exact fail trivial
      | some y =>
       have hxr := hexVal_range _ _ hx
       have hyr := hexVal_range _ _ hy
       simp only [Option.isSome_some, Option.getD_some]
       rw [if_pos trivial, if_pos trivial, if_pos q3, wrap_dig x y hxr hyr, wrap_next _ g5, ih (o ++ [(16 * x + y) % 256]) (i + 2 + 1) k g1 g2 (g3 _) g4, List.drop_eq_getElem_cons hl, dr, ec]
       rw [b1] at hx
       rw [b2] at hy
       rw [nameGo_yes _ _ _ x y hx hy, outOf_app, List.append_assoc, dig_byte x y hxr hyr]
       rfl
    ·rw [decide_eq_false (by omega)]
     exact short (nameGo_short _ _ (by rw [List.length_drop, ← size_list]; omega))
   ·rw [if_neg h35]
    refine short (nameGo_plain _ _ ?_)
    rw [beq_eq_false_iff_ne]
    intro e
    rw [bt_get s i hlt, e] at h35
    exact h35 rfl
  ·rw [hornbookref03_Name.l0, if_neg (by omega), List.drop_of_length_le (by rw [← size_list]; omega), nameGo, List.append_nil, outOf_str]
theorem refWrite_loop (s : ByteArray) (hs : s.size ≤ 1000) (d : Nat) : ∀ (o : List UInt8) (i k : Nat), s.size - i = d → i ≤ s.size → o.length ≤ 3 * i → d + 30 ≤ k →
  hornbookref03_Write.l0 k s ⟨o.toArray⟩ i = some ⟨(o ++ writeBytes (s.data.toList.drop i)).toArray⟩ := by
 induction d with
 | zero =>
  intro o i k hd hi ho hk
  obtain ⟨k, rfl⟩ : ∃ m, k = m + 1 := ⟨k - 1, by omega⟩
  rw [hornbookref03_Write.l0, if_neg (by omega), List.drop_of_length_le (by rw [← size_list]; omega)]
  simp [writeBytes]
 | succ d ih =>
  intro o i k hd hi ho hk
  obtain ⟨k, rfl⟩ : ∃ m, k = m + 1 := ⟨k - 1, by omega⟩
  have hlt : i < s.size := by omega
  have hl : i < s.data.toList.length := by rw [← size_list]; exact hlt
  have ec := refCls_get s i hlt (k := k) (by omega)
  have step : ∀ x : List UInt8, x = writeOf s.data.toList[i] → hornbookref03_Write.l0 k s ⟨(o ++ x).toArray⟩ (wrap64 ((i : Int) + 1)) = some ⟨(o ++ writeBytes (s.data.toList.drop i)).toArray⟩ := by
   rintro x rfl
   have hw := writeOf_length s.data.toList[i]
   rw [wrap_small (by omega) (by omega), show ((i : Int) + 1) = ((i + 1 : Nat) : Int) by omega, ih _ (i + 1) k (by omega) (by omega) (by rw [List.length_append]; omega) (by omega), List.drop_eq_getElem_cons hl, List.append_assoc]
   simp only [writeBytes, List.flatMap_cons]
  have s1 := ba_size o
  have s2 := ba_size (o ++ [35])
  have s3 := ba_size (hexOf s.data.toList[i].toNat)
  have e35 : (⟨#[35]⟩ : ByteArray) = ⟨([35] : List UInt8).toArray⟩ := rfl
  rw [hornbookref03_Write.l0, if_pos (by omega), if_pos (by omega), ec]
  simp only [Option.bind_some]
  rw [bt_get s i hlt, refHex_eq (by omega), e35]
  simp only [Option.bind_some, ba_app]
  simp only [List.length_append, List.length_cons, List.length_nil] at s2
  have s3' : (hexOf s.data.toList[i].toNat).length = 2 := rfl
  have z1 : (⟨o.toArray⟩ : ByteArray).size + 1 ≤ 9223372036854775807 := by omega
  have z2 : (⟨(o ++ [35]).toArray⟩ : ByteArray).size + (⟨(hexOf s.data.toList[i].toNat).toArray⟩ : ByteArray).size ≤ 9223372036854775807 := by omega
  rw [if_pos z1, if_pos z2]
  have one : strOfNums [(s.data.toList[i].toNat : Int)] = ⟨[s.data.toList[i]].toArray⟩ := by rw [outOf_str]; simp only [outOf, List.map_cons, List.map_nil, u8_back]
  have sone := ba_size [s.data.toList[i]]
  rw [one]
  simp only [ba_app]
  rw [List.length_singleton] at sone
  have z3 : (⟨o.toArray⟩ : ByteArray).size + (⟨[s.data.toList[i]].toArray⟩ : ByteArray).size ≤ 9223372036854775807 := by omega
  rw [if_pos z3]
  have hexs : isPlainB s.data.toList[i].toNat = false → hornbookref03_Write.l0 k s ⟨(o ++ [35] ++ hexOf s.data.toList[i].toNat).toArray⟩ (wrap64 ((i : Int) + 1)) = some ⟨(o ++ writeBytes (s.data.toList.drop i)).toArray⟩ := by
   intro hp
   rw [List.append_assoc]
   refine step _ ?_
   unfold writeOf
   rw [if_neg (by rw [hp]; decide)]; rfl
  clear ih ec s1 s2 s3 sone one
  have key : isPlainB s.data.toList[i].toNat = (clsOf s.data.toList[i].toNat == 0 && (s.data.toList[i].toNat : Int) != 35 && decide (33 ≤ (s.data.toList[i].toNat : Int)) && decide ((s.data.toList[i].toNat : Int) ≤ 126)) := rfl
  by_cases h0 : clsOf s.data.toList[i].toNat = 0
  ·rw [if_pos h0]
   by_cases h1 : (s.data.toList[i].toNat : Int) = 35
   ·rw [if_pos h1]; exact hexs (by rw [key, h1]; simp)
   ·rw [if_neg h1]
    by_cases h2 : (s.data.toList[i].toNat : Int) < 33
    ·rw [if_pos h2]; exact hexs (by rw [key, decide_eq_false (show ¬ 33 ≤ (s.data.toList[i].toNat : Int) by omega)]; simp)
    ·rw [if_neg h2]
     by_cases h3 : (s.data.toList[i].toNat : Int) > 126
     ·rw [if_pos h3]; exact hexs (by rw [key, decide_eq_false (show ¬ (s.data.toList[i].toNat : Int) ≤ 126 by omega)]; simp)
     ·rw [if_neg h3]
      refine step _ ?_
      unfold writeOf
      rw [if_pos (by rw [key, h0, decide_eq_true (show 33 ≤ (s.data.toList[i].toNat : Int) by omega), decide_eq_true (show (s.data.toList[i].toNat : Int) ≤ 126 by omega), bne_iff_ne.2 h1]; rfl)]
  ·rw [if_neg h0]; exact hexs (by rw [key, beq_eq_false_iff_ne.2 h0]; simp)
end Go.Proofs.YtdcldaknmenklaaGreatDoor.M
end
section
namespace Go.Proofs.YtdcldaknmenklaaGreatDoor.M
open Go.RowKit Go.Proofs.YtdcldaknmenklaaGreatDoorW.PrintWords
set_option linter.unusedVariables false
set_option linter.unusedSimpArgs false
def flatD (ps : List (Int × Int)) (hi : Option Int) : List Int := ps.flatMap (fun p => [p.1, p.2]) ++ hi.toList
def valP (ps : List (Int × Int)) : List Int := ps.map fun p => p.1 * 16 + p.2
theorem flat_length (ps : List (Int × Int)) : (ps.flatMap (fun p => [p.1, p.2])).length = 2 * ps.length := by
 induction ps with
 | nil => rfl
 | cons p ps ih => rw [List.flatMap_cons, List.length_append, ih, List.length_cons]; simp; omega
theorem flat_get (ps : List (Int × Int)) : ∀ (j : Nat) (h : j < ps.length), (ps.flatMap (fun p => [p.1, p.2]))[2 * j]? = some ps[j].1 ∧ (ps.flatMap (fun p => [p.1, p.2]))[2 * j + 1]? = some ps[j].2 := by
 induction ps with
 | nil => intro j h; simp at h
 | cons p ps ih =>
  intro j h
  rw [List.flatMap_cons]
  cases j with
  | zero => exact ⟨rfl, rfl⟩
  | succ j =>
   have := ih j (by simpa using h)
   rw [show 2 * (j + 1) = 2 * j + 1 + 1 by omega, show 2 * j + 1 + 1 + 1 = (2 * j + 1) + 1 + 1 by omega]
   simpa using this
def DigP (ps : List (Int × Int)) : Prop := ∀ p ∈ ps, 0 ≤ p.1 ∧ p.1 ≤ 15 ∧ 0 ≤ p.2 ∧ p.2 ≤ 15
theorem unhex_vals (s : ByteArray) (ps : List (Int × Int)) (hp : DigP ps) (hl : ps.length ≤ 1000) (d : Nat) : ∀ (j k : Nat) (out : List Int), ps.length - j = d → j ≤ ps.length → out.length ≤ j → d < k →
  hornbookref01_UnHex.l1 k s (ps.flatMap (fun p => [p.1, p.2])) out ((2 * j : Nat) : Int) = some (out ++ valP (ps.drop j), (s.size : Int), 0) := by
 have hfl := flat_length ps
 induction d with
 | zero =>
  intro j k out hd hj ho hk
  obtain ⟨k, rfl⟩ : ∃ k', k = k' + 1 := ⟨k - 1, by omega⟩
  rw [hornbookref01_UnHex.l1, wrap_next _ (by omega), if_neg (by omega), List.drop_eq_nil_of_le (by omega)]
  unfold valP
  rw [List.map_nil, List.append_nil]
 | succ d ih =>
  intro j k out hd hj ho hk
  obtain ⟨k, rfl⟩ : ∃ k', k = k' + 1 := ⟨k - 1, by omega⟩
  have hlt : j < ps.length := by omega
  obtain ⟨g1, g2⟩ := flat_get ps j hlt
  have r1 : rd (ps.flatMap (fun p => [p.1, p.2])) ((2 * j : Nat) : Int) = ps[j].1 := by unfold rd; rw [Int.toNat_natCast, List.getD_eq_getElem?_getD, g1]; rfl
  have r2 : rd (ps.flatMap (fun p => [p.1, p.2])) ((2 * j + 1 : Nat) : Int) = ps[j].2 := by unfold rd; rw [Int.toNat_natCast, List.getD_eq_getElem?_getD, g2]; rfl
  have hb := hp ps[j] (List.getElem_mem hlt)
  have hw2 : wrap64 (((2 * j : Nat) : Int) + 2) = ((2 * (j + 1) : Nat) : Int) := by rw [wrap_small (by omega) (by omega)]; omega
  rw [hornbookref01_UnHex.l1, wrap_next _ (by omega), if_pos (by omega), if_pos (by omega), if_pos (by omega), if_pos (by omega), if_pos (by omega), r1, r2, hw2, wrap_small (x := 16 * ps[j].1) (by omega) (by omega), wrap_small (x := 16 * ps[j].1 + ps[j].2) (by omega) (by omega), show (16 * ps[j].1 + ps[j].2) % 256 = ps[j].1 * 16 + ps[j].2 by omega,
   ih (j + 1) k _ (by omega) (by omega) (by rw [List.length_append, List.length_singleton]; omega) (by omega), List.drop_eq_getElem_cons hlt]
  unfold valP
  rw [List.map_cons, List.append_assoc]
  rfl
theorem refUnhex_loop (s : ByteArray) (hs : s.size ≤ 1000) (d : Nat) : ∀ (i k : Nat) (ps : List (Int × Int)) (hi : Option Int), s.size - i = d → i ≤ s.size → 2 * d + 1100 ≤ k → 2 * ps.length + hi.toList.length ≤ i → DigP ps → (∀ h, hi = some h → 0 ≤ h ∧ h ≤ 15) →
  hornbookref01_UnHex.l0 k s (flatD ps hi) (i : Int) = some (unhAns s (unhG (valP ps) hi (s.data.toList.drop i))) := by
 induction d with
 | zero =>
  intro i k ps hi hd h0 hk ha hp hh
  obtain ⟨k, rfl⟩ : ∃ k', k = k' + 2 := ⟨k - 2, by omega⟩
  have hfl := flat_length ps
  rw [hornbookref01_UnHex.l0, if_neg (by omega), List.drop_eq_nil_of_le (by rw [← size_list]; omega), unhG]
  unfold unhAns
  rw [if_pos rfl]
  cases hi with
  | none =>
   have e : flatD ps none = ps.flatMap (fun p => [p.1, p.2]) := by unfold flatD; simp
   rw [e, if_neg (by rw [hfl]; omega), hornbookref01_UnHex.j2]
   have := unhex_vals s ps hp (by omega) ps.length 0 k [] (by omega) (by omega) (by simp) (by omega)
   rw [List.drop_zero, List.nil_append] at this
   exact this
  | some h =>
   have hb := hh h rfl
   have e : flatD ps (some h) = ps.flatMap (fun p => [p.1, p.2]) ++ [h] := rfl
   have e2 : flatD ps (some h) ++ [0] = (ps ++ [(h, 0)]).flatMap (fun p : Int × Int => [p.1, p.2]) := by rw [e, List.flatMap_append, List.append_assoc]; rfl
   have hp2 : DigP (ps ++ [(h, 0)]) := by
    intro p hp3
    rcases List.mem_append.1 hp3 with h1 | h1
    ·exact hp p h1
    ·rw [List.mem_singleton] at h1
     subst h1
     exact ⟨hb.1, hb.2, by show (0 : Int) ≤ 0; decide, by show (0 : Int) ≤ 15; decide⟩
   have hlen : (flatD ps (some h)).length = 2 * ps.length + 1 := by rw [e, List.length_append, hfl]; rfl
   rw [if_pos (by rw [hlen]; omega), if_pos (by rw [hlen]; omega), e2, hornbookref01_UnHex.j2]
   have := unhex_vals s (ps ++ [(h, 0)]) hp2 (by rw [List.length_append]; simp; omega) (ps ++ [(h, 0)]).length 0 k [] (by omega) (by omega) (by simp) (by rw [List.length_append]; simp; omega)
   rw [List.drop_zero, List.nil_append] at this
   refine Eq.trans this ?_
   unfold valP rowOf
   rw [List.map_append]
   simp
 | succ d ih =>
  intro i k ps hi hd h0 hk ha hp hh
  obtain ⟨k, rfl⟩ : ∃ k', k = k' + 2 := ⟨k - 2, by omega⟩
  have hlt : i < s.size := by omega
  have hL : i < s.data.toList.length := by rw [← size_list]; exact hlt
  have hdr := List.drop_eq_getElem_cons hL
  have hrem : (s.data.toList.drop i).length = s.size - i := by rw [List.length_drop, ← size_list]
  have hfl := flat_length ps
  have hfd : (flatD ps hi).length ≤ 2 * ps.length + 1 := by
   unfold flatD
   rw [List.length_append, hfl]
   cases hi <;> simp
  rw [hornbookref01_UnHex.l0, if_pos (by omega), if_pos (by omega), bt_get s i hlt]
  rw [hdr] at hrem ⊢
  generalize s.data.toList[i] = c at hrem ⊢
  have hc := c.toNat_lt
  rw [wrap_small (x := (c.toNat : Int)) (by omega) (by omega), refDigit_eq (by omega) _ (by omega) (by omega), Option.bind_some, unhG]
  dsimp only
  have ih2 := ih (i + 1) k
  cases hv : hexVal c.toNat with
  | some v =>
   have hvb := hexVal_lt hv
   rw [if_pos (show (some v).isSome = true from rfl), hornbookref01_UnHex.j1, if_neg (by decide), if_pos (show (some v).isSome = true from rfl), if_pos (by omega), wrap_next i (by omega)]
   dsimp only [Option.getD_some]
   cases hi with
   | none =>
    have := ih2 ps (some v) (by omega) (by omega) (by omega) (by simp at ha ⊢; omega) hp (fun h e => by cases e; omega)
    have e : flatD ps none ++ [v] = flatD ps (some v) := by unfold flatD; simp
    rw [e]
    exact this
   | some h =>
    have hb := hh h rfl
    have e : flatD ps (some h) ++ [v] = flatD (ps ++ [(h, v)]) none := by unfold flatD; simp
    have hp2 : DigP (ps ++ [(h, v)]) := by
     intro p hp3
     rcases List.mem_append.1 hp3 with h1 | h1
     ·exact hp p h1
     ·rw [List.mem_singleton] at h1
      subst h1
      exact ⟨hb.1, hb.2, by omega, by omega⟩
    have := ih2 (ps ++ [(h, v)]) none (by omega) (by omega) (by omega) (by simp at ha ⊢; omega) hp2 (fun h e => by cases e)
    have ev : valP (ps ++ [(h, v)]) = valP ps ++ [h * 16 + v] := by unfold valP; rw [List.map_append]; rfl
    rw [e, this, ev]
  | none =>
   rw [if_neg (show ¬ ((none : Option Int).isSome = true) by simp), refWhite_eq, Option.bind_some, hornbookref01_UnHex.j1]
   dsimp only
   cases hw : isWhite c.toNat with
   | true =>
    rw [if_neg (by decide), if_neg (show ¬ ((none : Option Int).isSome = true) by simp), wrap_next i (by omega), if_pos rfl]
    exact ih2 ps hi (by omega) (by omega) (by omega) (by omega) hp hh
   | false =>
    rw [if_pos (by decide), if_neg (by decide)]
    unfold unhAns
    rw [if_neg (show ¬ (1 : Int) = 0 by decide)]
    dsimp only
    rw [hrem, show s.size - (s.size - i) = i by omega]
theorem refUnhex_eq (s : ByteArray) (hs : s.size ≤ 1000) {k : Nat} (hk : 3200 ≤ k) : hornbookref01_UnHex.f k s = some (unhAns s (unhG [] none s.data.toList)) := by
 have := refUnhex_loop s hs s.size 0 k [] none (by omega) (by omega) (by omega) (by simp) (fun p h => by cases h) (fun h e => by cases e)
 rw [List.drop_zero] at this
 exact this
theorem refHexed_loop (s : ByteArray) (hs : s.size ≤ 1000) (p : Nat) (d : Nat) : ∀ (i k : Nat), s.size - i = d → i ≤ s.size → d < k →
  hornbookref04_hexed.l0 k s (p : Int) (i : Int) = hornbookref04_hexed.j1 (k - 1 - ((s.data.toList.drop i).takeWhile (fun c => c != 62)).length) s (p : Int) ((i + ((s.data.toList.drop i).takeWhile (fun c => c != 62)).length : Nat) : Int) := by
 induction d with
 | zero =>
  intro i k hd hi hk
  obtain ⟨k, rfl⟩ : ∃ k', k = k' + 1 := ⟨k - 1, by omega⟩
  rw [hornbookref04_hexed.l0, if_neg (by omega), List.drop_eq_nil_of_le (by rw [← size_list]; omega), List.takeWhile_nil, List.length_nil]
  rfl
 | succ d ih =>
  intro i k hd hi hk
  obtain ⟨k, rfl⟩ : ∃ k', k = k' + 1 := ⟨k - 1, by omega⟩
  have hlt : i < s.size := by omega
  have hL : i < s.data.toList.length := by rw [← size_list]; exact hlt
  rw [hornbookref04_hexed.l0, if_pos (by omega), if_pos (by omega), bt_get s i hlt, List.drop_eq_getElem_cons hL, List.takeWhile_cons]
  generalize s.data.toList[i] = c
  by_cases h62 : c = 62
  ·subst h62
   rw [if_pos (show (((62 : UInt8).toNat : Nat) : Int) = 62 from rfl), if_neg (by decide), List.length_nil]
   rfl
  ·have hn : ¬ ((c.toNat : Int) = 62) := fun e => h62 (UInt8.toNat_inj.1 (by show c.toNat = 62; omega))
   rw [if_neg hn, if_pos (by simpa using h62), wrap_next i (by omega), ih (i + 1) k (by omega) (by omega) (by omega), List.length_cons]
   congr 1
   ·omega
   ·omega
theorem refHexed_eq (s : ByteArray) (hs : s.size ≤ 1000) (p k : Nat) (t : List UInt8) (hp : p < s.size) (hk : 4300 ≤ k) (ht : s.data.toList.drop (p + 1) = t) :
  hornbookref04_hexed.f k s (p : Int) = some (nxAns p (hexedG t)) := by
 have hl : t.length = s.size - (p + 1) := by rw [← ht, List.length_drop, ← size_list]
 have htk : (t.takeWhile (fun c => c != 62)).length ≤ t.length := (List.takeWhile_sublist _).length_le
 unfold hornbookref04_hexed.f
 rw [wrap_next p (by omega), refHexed_loop s hs p _ (p + 1) k rfl (by omega) (by omega), ht]
 obtain ⟨k', hk'⟩ : ∃ k', k - 1 - (t.takeWhile (fun c => c != 62)).length = k' + 1 := ⟨k - 1 - (t.takeWhile (fun c => c != 62)).length - 1, by omega⟩
 rw [hk', hornbookref04_hexed.j1]
 unfold hexedG
 rw [cut_gt]
 by_cases hm : 62 ∈ t
 ·have hlt := take_gt t hm
  rw [if_pos hm]
  dsimp only
  rw [if_neg (by omega), if_pos rfl, wrap_next p (by omega), if_pos (by omega), if_pos (by omega), if_pos (by omega), Int.toNat_natCast, Int.toNat_natCast, ext_mid, ht, show p + 1 + (t.takeWhile (fun c => c != 62)).length - (p + 1) = (t.takeWhile (fun c => c != 62)).length by omega,
   ← List.prefix_iff_eq_take.1 (List.takeWhile_prefix _), refUnhex_eq _ (by rw [size_list, ba_list]; omega) (by omega), Option.bind_some, ba_list]
  unfold unhAns
  have hcs : (⟨(t.takeWhile (fun c => c != 62)).toArray⟩ : ByteArray).size = (t.takeWhile (fun c => c != 62)).length := by rw [size_list, ba_list]
  by_cases h0 : (unhG [] none (t.takeWhile (fun c => c != 62))).1 = 0
  ·rw [if_pos h0, if_pos h0]
   dsimp only
   rw [if_pos rfl, wrap_next _ (by omega)]
   unfold nxAns
   dsimp only
   rw [if_pos rfl, show p + 1 + (t.takeWhile (fun c => c != 62)).length + 1 = p + ((t.takeWhile (fun c => c != 62)).length + 2) by omega]
  ·rw [if_neg h0, if_neg h0]
   dsimp only
   rw [if_neg (show ¬ (1 : Int) = 0 by decide), hcs, wrap_small (by omega) (by omega)]
   unfold nxAns nxErr hornbookref04_fail.f
   rw [Option.bind_some]
   dsimp only
   rw [if_neg (show ¬ (1 : Int) = 0 by decide), show ((p + 1 : Nat) : Int) + (((t.takeWhile (fun c => c != 62)).length - (unhG [] none (t.takeWhile (fun c => c != 62))).2.2.length : Nat) : Int) = ((p + (1 + ((t.takeWhile (fun c => c != 62)).length - (unhG [] none (t.takeWhile (fun c => c != 62))).2.2.length)) : Nat) : Int) by omega]
 ·have hall : t.takeWhile (fun c => c != 62) = t := by
   have tw : ∀ l : List UInt8, 62 ∉ l → l.takeWhile (fun c => c != 62) = l := by
    intro l
    induction l with
    | nil => exact fun _ => rfl
    | cons b l ih =>
     intro h
     rw [List.takeWhile_cons, if_pos (by simpa using fun e : b = 62 => h (by rw [e]; simp)), ih (fun e => h (List.mem_cons_of_mem _ e))]
   exact tw t hm
  rw [if_neg hm, hall]
  dsimp only
  rw [if_pos (by omega), if_neg (by decide)]
  unfold nxAns nxErr hornbookref04_fail.f
  rw [Option.bind_some]
  dsimp only
  rw [if_neg (show ¬ (2 : Int) = 0 by decide), show p + (t.length + 1) = s.size by omega]
theorem tmod256 (n : Nat) : Int.tmod (n : Int) 256 = (n : Int) % 256 := Int.tmod_eq_emod_of_nonneg (Int.natCast_nonneg n)
theorem refOctal_loop (s : ByteArray) (hs : s.size ≤ 1000) (a : Nat) (d : Nat) : ∀ (i acc k : Nat), 3 - i = d → i ≤ 3 → a + i ≤ s.size → acc < 8 ^ i → d + 1 ≤ k →
  hornbookref04_octal.l0 k s (a : Int) (acc : Int) (i : Int) = some (((octFold acc (((s.data.toList.drop (a + i)).take (3 - i)).takeWhile isOct) : Nat) : Int) % 256, ((i + (((s.data.toList.drop (a + i)).take (3 - i)).takeWhile isOct).length : Nat) : Int)) := by
 induction d with
 | zero =>
  intro i acc k hd hi hs2 ha hk
  obtain ⟨k, rfl⟩ : ∃ k', k = k' + 1 := ⟨k - 1, by omega⟩
  have : i = 3 := by omega
  subst this
  rw [hornbookref04_octal.l0, if_neg (by omega), show 3 - 3 = 0 from rfl, List.take_zero, List.takeWhile_nil, octFold_nil, List.length_nil, Nat.add_zero, tmod256]
 | succ d ih =>
  intro i acc k hd hi hs2 ha hk
  obtain ⟨k, rfl⟩ : ∃ k', k = k' + 1 := ⟨k - 1, by omega⟩
  have hw : wrap64 ((a : Int) + (i : Int)) = ((a + i : Nat) : Int) := by rw [wrap_small (by omega) (by omega)]; omega
  rw [hornbookref04_octal.l0, if_pos (by omega), hw, tmod256]
  by_cases h1 : a + i < s.size
  ·rw [if_pos (by omega), if_pos (by omega)]
   have hL : a + i < s.data.toList.length := by rw [← size_list]; exact h1
   have hdr : (s.data.toList.drop (a + i)).take (3 - i) = s.data.toList[a + i] :: (s.data.toList.drop (a + (i + 1))).take (3 - (i + 1)) := by
    rw [List.drop_eq_getElem_cons hL, show 3 - i = (3 - (i + 1)) + 1 by omega, List.take_succ_cons, Nat.add_assoc]
   rw [hdr, bt_get s (a + i) h1]
   generalize s.data.toList[a + i] = c
   by_cases h2 : (c.toNat : Int) ≥ 48
   ·rw [if_pos h2]
    by_cases h3 : (c.toNat : Int) ≤ 55
    ·have ho : isOct c = true := by unfold isOct; rw [Bool.and_eq_true, decide_eq_true_eq, decide_eq_true_eq]; omega
     have hi3 : i = 0 ∨ i = 1 ∨ i = 2 := by omega
     have ha2 : acc * 8 + (c.toNat - 48) < 8 ^ (i + 1) := by rw [Nat.pow_succ]; omega
     have hp : (8 : Nat) ^ i ≤ 64 := by rcases hi3 with rfl | rfl | rfl <;> decide
     rw [if_pos h3, List.takeWhile_cons, if_pos ho, octFold_cons, wrap_small (x := (acc : Int) * 8) (by omega) (by omega), show ((c.toNat : Int) - 48) % 256 = (c.toNat : Int) - 48 by omega,
      wrap_small (x := (acc : Int) * 8 + ((c.toNat : Int) - 48)) (by omega) (by omega), wrap_small (x := (i : Int) + 1) (by omega) (by omega)]
     have := ih (i + 1) (acc * 8 + (c.toNat - 48)) k (by omega) (by omega) (by omega) ha2 (by omega)
     rw [show (acc : Int) * 8 + ((c.toNat : Int) - 48) = ((acc * 8 + (c.toNat - 48) : Nat) : Int) by omega, show (i : Int) + 1 = ((i + 1 : Nat) : Int) by omega, this, List.length_cons]
     congr 3
     omega
    ·have ho : isOct c = false := by unfold isOct; rw [Bool.and_eq_false_iff, decide_eq_false_iff_not, decide_eq_false_iff_not]; omega
     rw [if_neg h3, List.takeWhile_cons, if_neg (by rw [ho]; decide), octFold_nil, List.length_nil, Nat.add_zero]
   ·have ho : isOct c = false := by unfold isOct; rw [Bool.and_eq_false_iff, decide_eq_false_iff_not, decide_eq_false_iff_not]; omega
    rw [if_neg h2, List.takeWhile_cons, if_neg (by rw [ho]; decide), octFold_nil, List.length_nil, Nat.add_zero]
  ·rw [if_neg (by omega)]
   have hdr : s.data.toList.drop (a + i) = [] := List.drop_eq_nil_of_le (by rw [← size_list]; omega)
   rw [hdr, List.take_nil, List.takeWhile_nil, octFold_nil, List.length_nil, Nat.add_zero]
theorem refOctal_eq (s : ByteArray) (hs : s.size ≤ 1000) (a : Nat) (ha : a ≤ s.size) {k : Nat} (hk : 4 ≤ k) : hornbookref04_octal.f k s (a : Int) = some (((octFold 0 (octs (s.data.toList.drop a)) : Nat) : Int) % 256, ((octs (s.data.toList.drop a)).length : Int)) := by
 unfold hornbookref04_octal.f octs
 have := refOctal_loop s hs a 3 0 0 k rfl (by omega) (by omega) (by decide) (by omega)
 rw [Nat.add_zero, Nat.zero_add] at this
 exact this
theorem refIs_eq (s : ByteArray) (hs : s.size ≤ 1000) (a : Nat) (x : UInt8) : hornbookref04_is.f s (a : Int) (x.toNat : Int) = some ([x].isPrefixOf (s.data.toList.drop a)) := by
 unfold hornbookref04_is.f
 rw [if_pos (by omega)]
 by_cases h : a < s.size
 ·have hL : a < s.data.toList.length := by rw [← size_list]; exact h
  rw [if_pos (by omega), if_pos (by omega), bt_get s a h, List.drop_eq_getElem_cons hL]
  generalize s.data.toList[a] = c
  congr 1
  rw [List.isPrefixOf_cons_cons, List.isPrefixOf_nil_left, Bool.and_true]
  by_cases e : x = c
  ·subst e; simp
  ·rw [beq_eq_false_iff_ne.2 (fun h : (c.toNat : Int) = (x.toNat : Int) => e (UInt8.toNat_inj.1 (by omega))), beq_eq_false_iff_ne.2 e]
 ·rw [if_neg (by omega), List.drop_eq_nil_of_le (by rw [← size_list]; omega)]
  rfl
def numsB (l : List UInt8) : List Int := l.map fun b => (b.toNat : Int)
theorem numsB_app (a b : List UInt8) : numsB (a ++ b) = numsB a ++ numsB b := List.map_append
theorem numsB_len (a : List UInt8) : (numsB a).length = a.length := List.length_map _
theorem numsB_str (l : List UInt8) : strOfNums (numsB l) = ⟨l.toArray⟩ := by
 unfold strOfNums numsB
 rw [List.map_map]
 have : l.map ((fun n : Int => UInt8.ofNat n.toNat) ∘ fun b : UInt8 => (b.toNat : Int)) = l := by
  conv => rhs; rw [← List.map_id l]
  exact List.map_congr_left fun b _ => u8_back b
 rw [this]
theorem refEsc_eq (s : ByteArray) (hs : s.size ≤ 1000) (a : Nat) {k : Nat} (hk : 4 ≤ k) : hornbookref04_escaped.f k s (a : Int) = some (numsB (escG (s.data.toList.drop a)).1, ((escG (s.data.toList.drop a)).2 : Int)) := by
 unfold hornbookref04_escaped.f escG
 by_cases ha : a < s.size
 ·have hL : a < s.data.toList.length := by rw [← size_list]; exact ha
  rw [if_neg (by omega), refOctal_eq s hs a (by omega) hk, Option.bind_some]
  dsimp only
  by_cases h0 : 0 < (octs (s.data.toList.drop a)).length
  ·rw [if_pos (by omega), if_pos h0]
   congr 2
  rw [if_neg (by omega), if_neg h0, if_pos (by omega), if_pos (by omega), bt_get s a ha, wrap_next a (by omega)]
  have hpre := refIs_eq s hs (a + 1) 10
  rw [show (((10 : UInt8).toNat : Nat) : Int) = 10 from rfl] at hpre
  rw [hpre, List.drop_eq_getElem_cons hL]
  generalize s.data.toList[a] = c
  generalize s.data.toList.drop (a + 1) = t
  have cst : ∀ x : UInt8, ((c.toNat : Int) = (x.toNat : Int)) ↔ c = x := fun x => ⟨fun e => UInt8.toNat_inj.1 (by omega), fun e => by rw [e]⟩
  have c1 : ((c.toNat : Int) = 110) ↔ c = 110 := cst 110
  have c2 : ((c.toNat : Int) = 114) ↔ c = 114 := cst 114
  have c3 : ((c.toNat : Int) = 116) ↔ c = 116 := cst 116
  have c4 : ((c.toNat : Int) = 98) ↔ c = 98 := cst 98
  have c5 : ((c.toNat : Int) = 102) ↔ c = 102 := cst 102
  have c6 : ((c.toNat : Int) = 10) ↔ c = 10 := cst 10
  have c7 : ((c.toNat : Int) = 13) ↔ c = 13 := cst 13
  dsimp only
  have np : ∀ t' : List UInt8, c ≠ 13 → ([13, 10].isPrefixOf (c :: t')) = false := by
   intro t' h
   rw [List.isPrefixOf_cons_cons, beq_eq_false_iff_ne.2 (fun e : (13 : UInt8) = c => h e.symm)]
   rfl
  by_cases h1 : c = 110
  ·subst h1; rw [if_pos (c1.2 rfl), if_neg (by rw [np t (by decide)]; decide), if_neg (by decide)]; rfl
  rw [if_neg (fun e => h1 (c1.1 e))]
  by_cases h2 : c = 114
  ·subst h2; rw [if_pos (c2.2 rfl), if_neg (by rw [np t (by decide)]; decide), if_neg (by decide)]; rfl
  rw [if_neg (fun e => h2 (c2.1 e))]
  by_cases h3 : c = 116
  ·subst h3; rw [if_pos (c3.2 rfl), if_neg (by rw [np t (by decide)]; decide), if_neg (by decide)]; rfl
  rw [if_neg (fun e => h3 (c3.1 e))]
  by_cases h4 : c = 98
  ·subst h4; rw [if_pos (c4.2 rfl), if_neg (by rw [np t (by decide)]; decide), if_neg (by decide)]; rfl
  rw [if_neg (fun e => h4 (c4.1 e))]
  by_cases h5 : c = 102
  ·subst h5; rw [if_pos (c5.2 rfl), if_neg (by rw [np t (by decide)]; decide), if_neg (by decide)]; rfl
  rw [if_neg (fun e => h5 (c5.1 e))]
  by_cases h6 : c = 10
  ·subst h6; rw [if_pos (c6.2 rfl), if_neg (by rw [np t (by decide)]; decide), if_pos (.inl rfl)]; rfl
  rw [if_neg (fun e => h6 (c6.1 e))]
  by_cases h7 : c = 13
  ·subst h7
   rw [if_pos (c7.2 rfl), Option.bind_some]
   have e : [13, 10].isPrefixOf ((13 : UInt8) :: t) = [10].isPrefixOf t := by rw [List.isPrefixOf_cons_cons]; simp
   rw [e]
   cases [10].isPrefixOf t with
   | true => rfl
   | false => rw [if_neg (by decide), if_neg (by decide), if_pos (.inr rfl)]; rfl
  rw [if_neg (fun e => h7 (c7.1 e)), if_neg (by rw [np t h7]; decide), if_neg (fun e => e.elim h6 h7)]
  have e2 : letterOf c = c := by unfold letterOf; simp only [h1, h2, h3, h4, h5, if_false]
  rw [e2]
  rfl
 ·rw [if_pos (by omega), List.drop_eq_nil_of_le (by rw [← size_list]; omega), if_neg (by decide)]
  rfl
theorem byteEq (c x : UInt8) : ((c.toNat : Int) = (x.toNat : Int)) ↔ c = x := ⟨fun e => UInt8.toNat_inj.1 (by omega), fun e => by rw [e]⟩
theorem line_13 (t : List UInt8) : lineG ((13 : UInt8) :: t) = if [10].isPrefixOf t = true then 2 else 1 := by
 unfold lineG
 have e : [13, 10].isPrefixOf ((13 : UInt8) :: t) = [10].isPrefixOf t := by simp [List.isPrefixOf]
 rw [e]
 by_cases h : [10].isPrefixOf t = true
 ·rw [if_pos h, if_pos h]
 ·rw [if_neg h, if_neg h, if_pos (by simp [List.isPrefixOf])]
theorem line_no (c : UInt8) (t : List UInt8) (h : c ≠ 13) : lineG (c :: t) = 0 := by
 unfold lineG
 have e : ∀ r, ((13 : UInt8) :: r).isPrefixOf (c :: t) = false := by
  intro r
  simp [List.isPrefixOf]
  intro e
  exact absurd e.symm h
 rw [e, e, if_neg (by decide), if_neg (by decide)]
theorem refStrung_loop (s : ByteArray) (hs : s.size ≤ 1000) (p : Int) : ∀ (n i deep k : Nat) (out : List UInt8), i ≤ s.size → s.size - i < n → 3 * n + 10 ≤ k → 1 ≤ deep → deep ≤ 32 → out.length ≤ i →
  hornbookref04_strung.l0 k s p (numsB out) (deep : Int) (i : Int) = some (strAns s p (strG n deep out (s.data.toList.drop i)))
 | 0, i, deep, k, out => fun _ h => by omega
 | n + 1, i, deep, k, out => by
  intro hi hn hk hd1 hd2 ho
  obtain ⟨k, rfl⟩ : ∃ k', k = k' + 3 := ⟨k - 3, by omega⟩
  have ih := refStrung_loop s hs p n
  have hdl : (s.data.toList.drop i).length = s.size - i := by rw [List.length_drop, ← size_list]
  have hdd : ∀ m, (s.data.toList.drop i).drop m = s.data.toList.drop (i + m) := fun m => by rw [List.drop_drop]
  rw [hornbookref04_strung.l0]
  by_cases hlt : i < s.size
  ·have hL : i < s.data.toList.length := by rw [← size_list]; exact hlt
   have hE := refEsc_eq s hs (i + 1) (k := k + 2) (by omega)
   have hIs := refIs_eq s hs (i + 1) 10
   rw [show (((10 : UInt8).toNat : Nat) : Int) = 10 from rfl] at hIs
   have hdr := List.drop_eq_getElem_cons hL
   rw [if_pos (by omega), if_pos (by omega), bt_get s i hlt, wrap_next i (by omega), hE]
   rw [hdr] at hdl hdd ⊢
   generalize s.data.toList[i] = c at hdl hdd ⊢
   have hT : s.data.toList.drop (i + 1) = s.data.toList.drop (i + 1) := rfl
   generalize hTt : s.data.toList.drop (i + 1) = t at hdl hdd hIs hE ⊢
   rw [List.length_cons] at hdl
   rw [strG]
   have c92 : ((c.toNat : Int) = 92) ↔ c = 92 := byteEq c 92
   have c40 : ((c.toNat : Int) = 40) ↔ c = 40 := byteEq c 40
   have c41 : ((c.toNat : Int) = 41) ↔ c = 41 := byteEq c 41
   have c13 : ((c.toNat : Int) = 13) ↔ c = 13 := byteEq c 13
   by_cases h92 : c = 92
   ·rw [if_pos (c92.2 h92), if_pos h92, Option.bind_some]
    have he := escG_le t
    dsimp only
    by_cases h0 : (escG t).2 = 0
    ·rw [if_pos (by omega), if_pos h0]
     rfl
    ·have hdt : t.drop (escG t).2 = s.data.toList.drop (i + 1 + (escG t).2) := by rw [← hTt, List.drop_drop]
     have hl1 : (numsB out).length + (numsB (escG t).1).length < 140737488355328 := by rw [numsB_len, numsB_len]; omega
     rw [if_neg (by omega), if_neg h0, if_pos hl1, ← numsB_app, wrap_small (by omega) (by omega), show ((i + 1 : Nat) : Int) + ((escG t).2 : Int) = ((i + 1 + (escG t).2 : Nat) : Int) by omega,
      ih (i + 1 + (escG t).2) deep (k + 2) _ (by omega) (by omega) (by omega) hd1 hd2 (by rw [List.length_append]; omega), hdt]
   rw [if_neg (fun e => h92 (c92.1 e)), if_neg h92]
   -- the last step: the byte is taken
   have last : ∀ deep' : Nat, 1 ≤ deep' → deep' ≤ 32 → hornbookref04_strung.j2 (k + 1) s p (numsB out) (deep' : Int) (i : Int) (c.toNat : Int) =
     some (strAns s p (if 0 < lineG (c :: t) then strG n deep' (out ++ [10]) ((c :: t).drop (lineG (c :: t))) else strG n deep' (out ++ [c]) t)) := by
    intro deep' h1 h2
    have hl1 : (numsB out).length < 140737488355328 := by rw [numsB_len]; omega
    rw [hornbookref04_strung.j2, wrap_next i (by omega)]
    by_cases h13 : c = 13
    ·subst h13
     rw [if_pos (c13.2 rfl), hIs, Option.bind_some, line_13]
     have e10 : numsB out ++ [10] = numsB (out ++ [10]) := by rw [numsB_app]; rfl
     cases hp : [10].isPrefixOf t with
     | true =>
      have := hdd 2
      rw [if_pos rfl, if_pos hl1, e10, if_pos rfl, if_pos (by decide), wrap_next (i + 1) (by omega), ih (i + 1 + 1) deep' k _ (by
       have := (List.isPrefixOf_iff_prefix.1 hp).length_le
       rw [List.length_singleton] at this
       omega) (by omega) (by omega) h1 h2 (by rw [List.length_append, List.length_singleton]; omega), this]
     | false =>
      have := hdd 1
      rw [if_neg (by decide), if_pos hl1, e10, if_pos (by decide), if_neg (by decide), ih (i + 1) deep' k _ (by omega) (by omega) (by omega) h1 h2 (by rw [List.length_append, List.length_singleton]; omega), this]
    ·have ec : numsB out ++ [(c.toNat : Int)] = numsB (out ++ [c]) := by rw [numsB_app]; rfl
     rw [if_neg (fun e => h13 (c13.1 e)), if_pos hl1, ec, line_no c t h13, if_neg (by decide), ih (i + 1) deep' k _ (by omega) (by omega) (by omega) h1 h2 (by rw [List.length_append, List.length_singleton]; omega), hTt]
   by_cases h40 : c = 40
   ·have h41 : ¬ (c = 41 ∧ deep = 1) := by rintro ⟨e, -⟩; rw [h40] at e; exact absurd e (by decide)
    rw [if_pos (c40.2 h40), wrap_next deep (by omega), if_neg h41]
    by_cases h32 : deep = 32
    ·rw [if_pos (by omega), if_pos ⟨h40, h32⟩]
     unfold strAns hornbookref04_fail.f
     rw [Option.bind_some, if_neg (show ¬ (5 : Int) = 0 by decide)]
     dsimp only
     rw [List.length_cons, show s.size - (t.length + 1) = i by omega]
    ·have hdg : deepG c deep = deep + 1 := by unfold deepG; rw [if_neg (by rw [h40]; decide), if_pos h40]
     rw [if_neg (by omega), if_neg (fun e => h32 e.2), hornbookref04_strung.j1, if_neg (fun e => absurd ((c41.1 e).symm.trans h40) (by decide)), last (deep + 1) (by omega) (by omega), hdg]
   ·rw [if_neg (fun e => h40 (c40.1 e)), hornbookref04_strung.j1]
    by_cases h41 : c = 41
    ·rw [if_pos (c41.2 h41), wrap_small (x := (deep : Int) - 1) (by omega) (by omega)]
     by_cases h1 : deep = 1
     ·rw [if_pos (by omega), if_pos ⟨h41, h1⟩, numsB_str]
      unfold strAns
      rw [if_pos rfl]
      dsimp only
      rw [wrap_next i (by omega), show s.size - t.length = i + 1 by omega]
     ·have hdg : deepG c deep = deep - 1 := by unfold deepG; rw [if_pos h41]
      rw [if_neg (by omega), if_neg (fun e => h1 e.2), if_neg (fun e => h40 e.1), show (deep : Int) - 1 = ((deep - 1 : Nat) : Int) by omega, last (deep - 1) (by omega) (by omega), hdg]
    ·have hdg : deepG c deep = deep := by unfold deepG; rw [if_neg h41, if_neg h40]
     rw [if_neg (fun e => h41 (c41.1 e)), if_neg (fun e => h41 e.1), if_neg (fun e => h40 e.1), last deep hd1 hd2, hdg]
  ·rw [if_neg (by omega), List.drop_eq_nil_of_le (by rw [← size_list]; omega), strG]
   rfl
theorem refStrung_eq (a0 : ByteArray) (p k : Nat) (t : List UInt8) (hs : a0.size ≤ 1000) (hp : p < a0.size) (hk : 3100 ≤ k) (ht : a0.data.toList.drop (p + 1) = t) :
  hornbookref04_strung.f k a0 (p : Int) = some (nxAns p (strungG t)) := by
 have hl : t.length = a0.size - (p + 1) := by rw [← ht, List.length_drop, ← size_list]
 unfold hornbookref04_strung.f
 have := refStrung_loop a0 hs p (t.length + 1) (p + 1) 1 k [] (by omega) (by omega) (by omega) (by omega) (by omega) (by simp)
 rw [ht] at this
 rw [wrap_next p (by omega), show (1 : Int) = ((1 : Nat) : Int) from rfl]
 refine Eq.trans this ?_
 congr 1
 have hr : (strG (t.length + 1) 1 [] t).2.2.length ≤ t.length := strG_rem _ _ _ _
 unfold strAns strungG nxAns
 by_cases h0 : (strG (t.length + 1) 1 [] t).1 = 0
 ·rw [if_pos h0, if_pos h0]
  dsimp only
  rw [if_pos rfl, show p + (t.length + 1 - (strG (t.length + 1) 1 [] t).2.2.length) = a0.size - (strG (t.length + 1) 1 [] t).2.2.length by omega]
 ·rw [if_neg h0, if_neg h0]
  unfold nxErr
  dsimp only
  rw [if_neg h0, show p + (t.length + 1 - (strG (t.length + 1) 1 [] t).2.2.length) = a0.size - (strG (t.length + 1) 1 [] t).2.2.length by omega]
theorem lexInt_codes (l : List UInt8) : (lexInt l).2 = 0 ∨ (lexInt l).2 = 3 ∨ (lexInt l).2 = 4 := by
 unfold lexInt
 split
 ·split
  ·exact .inl rfl
  ·exact .inr (.inr rfl)
 ·exact .inr (.inl rfl)
theorem refWorded_eq (s : ByteArray) (p k : Nat) (hs : s.size ≤ 1000) (hp : p ≤ s.size) (hk : 1100 ≤ k) :
  hornbookref04_worded.f k s (p : Int) = some (nxAns p (wordedG (s.data.toList.drop p))) := by
 have hpl : placeN s (p : Int) = p := by unfold placeN; omega
 have hw : wordAt (s.data.toList.drop p) 0 = wordAt s.data.toList p := by unfold wordAt; rw [List.drop_zero]
 have hl := wordAt_le s.data.toList p (by rw [← size_list]; exact hp)
 rw [← size_list] at hl
 unfold hornbookref04_worded.f
 rw [refWord_eq s (by omega) _ (by omega), Option.bind_some, hpl]
 dsimp only
 rw [refInt_eq _ (by omega) (by omega), Option.bind_some]
 unfold wordedG
 rw [hw]
 rcases lexInt_codes (wordAt s.data.toList p) with h | h | h
 ·rw [if_neg (by omega), if_pos h, if_pos h]
  unfold nxAns
  dsimp only
  rw [if_pos rfl]
 ·rw [if_neg (by omega), if_neg (by omega), if_neg (by omega), if_pos h]
  unfold nxAns
  dsimp only
  rw [if_pos rfl]
 ·rw [if_pos h, if_neg (by omega), if_neg (by omega)]
  unfold nxAns nxErr hornbookref04_fail.f
  rw [Option.bind_some]
  dsimp only
  rw [if_neg (by omega), Nat.add_zero]
theorem isSign_cases {c : UInt8} {t : List UInt8} (h1 : c ≠ 91) (h2 : c ≠ 93) (h3 : ¬ (c = 60 ∧ [60].isPrefixOf t = true)) (h4 : ¬ (c = 62 ∧ [62].isPrefixOf t = true)) (h5 : c ≠ 123) (h6 : c ≠ 125) : signOf (c :: t) = none := by
 refine signOf_none fun x s hx => ?_
 rcases hx with ⟨-, rfl⟩ | ⟨-, rfl⟩ | ⟨-, rfl⟩ | ⟨-, rfl⟩ | ⟨-, rfl⟩ | ⟨-, rfl⟩
 ·simp [List.isPrefixOf]; exact fun e => h1 e.symm
 ·simp [List.isPrefixOf]; exact fun e => h2 e.symm
 ·rw [Bool.eq_false_iff]
  intro h
  rw [List.isPrefixOf, Bool.and_eq_true, beq_iff_eq] at h
  exact h3 ⟨h.1.symm, h.2⟩
 ·rw [Bool.eq_false_iff]
  intro h
  rw [List.isPrefixOf, Bool.and_eq_true, beq_iff_eq] at h
  exact h4 ⟨h.1.symm, h.2⟩
 ·simp [List.isPrefixOf]; exact fun e => h5 e.symm
 ·simp [List.isPrefixOf]; exact fun e => h6 e.symm
theorem sign_hit (x : Int) (s t : List UInt8) (h : isSign x s) : signOf (s ++ t) = some (x, s.length) := signOf_hit h (List.isPrefixOf_iff_prefix.2 (List.prefix_append s t))
theorem pre_split {x : UInt8} {t : List UInt8} (h : [x].isPrefixOf t = true) : ∃ r, t = x :: r := by
 obtain ⟨r, hr⟩ := List.isPrefixOf_iff_prefix.1 h
 exact ⟨r, hr.symm⟩
theorem refNext_eq (s : ByteArray) (a : Int) (hs : s.size ≤ 1000) {k : Nat} (hk : 4400 ≤ k) : hornbookref04_Next.f k s a = some (nextA s a) := by
 unfold hornbookref04_Next.f nextA
 rw [refSkip_eq s (by omega) a (by omega), Option.bind_some]
 have hpl := skipN_le s a
 generalize skipN s a = p at hpl
 by_cases he : p = s.size
 ·rw [if_pos (by omega), if_pos he, he]
 rw [if_neg (by omega), if_neg he]
 have hp : p < s.size := by omega
 have hL : p < s.data.toList.length := by rw [← size_list]; exact hp
 have hdr := List.drop_eq_getElem_cons hL
 have hw := refWorded_eq s p k hs (by omega) (by omega)
 have hi60 := refIs_eq s hs (p + 1) 60
 have hi62 := refIs_eq s hs (p + 1) 62
 rw [show (((60 : UInt8).toNat : Nat) : Int) = 60 from rfl] at hi60
 rw [show (((62 : UInt8).toNat : Nat) : Int) = 62 from rfl] at hi62
 rw [if_pos (by omega), if_pos (by omega), bt_get s p hp, wrap_next p (by omega), show wrap64 ((p : Int) + 2) = ((p + 2 : Nat) : Int) by rw [wrap_small (by omega) (by omega)]; omega, hi60, hi62, hw]
 rw [hdr]
 generalize s.data.toList[p] = c
 generalize hT : s.data.toList.drop (p + 1) = t
 have hst := refStrung_eq s p k t hs hp (by omega) hT
 have hhx := refHexed_eq s hs p k t hp (by omega) hT
 rw [hst, hhx]
 simp only [Option.bind_some]
 have q : ∀ x : UInt8, ((c.toNat : Int) = (x.toNat : Int)) ↔ c = x := byteEq c
 have c91 : ((c.toNat : Int) = 91) ↔ c = 91 := q 91
 have c93 : ((c.toNat : Int) = 93) ↔ c = 93 := q 93
 have c123 : ((c.toNat : Int) = 123) ↔ c = 123 := q 123
 have c125 : ((c.toNat : Int) = 125) ↔ c = 125 := q 125
 have c41 : ((c.toNat : Int) = 41) ↔ c = 41 := q 41
 have c62 : ((c.toNat : Int) = 62) ↔ c = 62 := q 62
 have c47 : ((c.toNat : Int) = 47) ↔ c = 47 := q 47
 have c60 : ((c.toNat : Int) = 60) ↔ c = 60 := q 60
 have c40 : ((c.toNat : Int) = 40) ↔ c = 40 := q 40
 have sg : ∀ (x : Int) (m : Nat), signOf (c :: t) = some (x, m) → some (nxAns p (nextR (c :: t))) = some (x, (p : Int), 0, (⟨#[]⟩ : ByteArray), ((p + m : Nat) : Int), 0) := by
  intro x m h
  unfold nextR
  rw [h]
  rfl
 have no : signOf (c :: t) = none → nextR (c :: t) = if c = 41 ∨ c = 62 then nxErr 0 3 else if c = 47 then (2, 0, ⟨(nameGo (wordAt t 0)).toArray⟩, 1 + (wordAt t 0).length, 0) else if c = 60 then hexedG t else if c = 40 then strungG t else wordedG (c :: t) := by
  intro h
  unfold nextR
  rw [h]
 by_cases h1 : c = 91
 ·subst h1
  rw [if_pos (c91.2 rfl), sg 6 1 (sign_hit 6 [91] t (.inl ⟨rfl, rfl⟩))]
 rw [if_neg (fun e => h1 (c91.1 e))]
 by_cases h2 : c = 93
 ·subst h2
  rw [if_pos (c93.2 rfl), sg 7 1 (sign_hit 7 [93] t (.inr (.inl ⟨rfl, rfl⟩)))]
 rw [if_neg (fun e => h2 (c93.1 e))]
 by_cases h5 : c = 123
 ·subst h5
  rw [if_pos (c123.2 rfl), sg 10 1 (sign_hit 10 [123] t (.inr (.inr (.inr (.inr (.inl ⟨rfl, rfl⟩))))))]
 rw [if_neg (fun e => h5 (c123.1 e))]
 by_cases h6 : c = 125
 ·subst h6
  rw [if_pos (c125.2 rfl), sg 11 1 (sign_hit 11 [125] t (.inr (.inr (.inr (.inr (.inr ⟨rfl, rfl⟩))))))]
 rw [if_neg (fun e => h6 (c125.1 e))]
 have fail3 : some (nxAns p (nxErr 0 3)) = (hornbookref04_fail.f (p : Int) 3).bind fun z => some (z.1, z.2.1, z.2.2.1, z.2.2.2.1, z.2.2.2.2.1, z.2.2.2.2.2) := by
  unfold nxAns nxErr hornbookref04_fail.f
  rfl
 by_cases h41 : c = 41
 ·subst h41
  rw [if_pos (c41.2 rfl), no (isSign_cases (by decide) (by decide) (fun e => absurd e.1 (by decide)) (fun e => absurd e.1 (by decide)) (by decide) (by decide)), if_pos (.inl rfl), fail3]
 rw [if_neg (fun e => h41 (c41.1 e))]
 by_cases h62 : c = 62
 ·subst h62
  rw [if_pos (c62.2 rfl)]
  cases hpp : [62].isPrefixOf t with
  | true =>
   obtain ⟨r, rfl⟩ := pre_split hpp
   rw [if_pos rfl, sg 9 2 (sign_hit 9 [62, 62] r (.inr (.inr (.inr (.inl ⟨rfl, rfl⟩)))))]
  | false =>
   rw [if_neg (by decide), no (isSign_cases (by decide) (by decide) (fun e => absurd e.1 (by decide)) (fun e => by rw [hpp] at e; exact absurd e.2 (by decide)) (by decide) (by decide)), if_pos (.inr rfl), fail3]
 rw [if_neg (fun e => h62 (c62.1 e))]
 by_cases h47 : c = 47
 ·subst h47
  have hpn : placeN s ((p + 1 : Nat) : Int) = p + 1 := by unfold placeN; omega
  have hwa : wordAt s.data.toList (p + 1) = wordAt t 0 := by unfold wordAt; rw [hT, List.drop_zero]
  have hwl := wordAt_le s.data.toList (p + 1) (by rw [← size_list]; omega)
  rw [← size_list, hwa] at hwl
  have hnm : hornbookref03_Name.f k ⟨(wordAt t 0).toArray⟩ = some ⟨(nameGo (wordAt t 0)).toArray⟩ := by
   unfold hornbookref03_Name.f
   have hsz : (⟨(wordAt t 0).toArray⟩ : ByteArray).size = (wordAt t 0).length := by rw [size_list, ba_list]
   have := refName_loop ⟨(wordAt t 0).toArray⟩ (by omega) (⟨(wordAt t 0).toArray⟩ : ByteArray).size [] 0 k (by omega) (by omega) (by simp) (by omega)
   rw [List.drop_zero, ba_list] at this
   exact this
  rw [if_pos (c47.2 rfl), refWord_eq s (by omega) _ (by omega), Option.bind_some, hpn, hwa]
  dsimp only
  rw [hnm, Option.bind_some, no (isSign_cases (by decide) (by decide) (fun e => absurd e.1 (by decide)) (fun e => absurd e.1 (by decide)) (by decide) (by decide)), if_neg (by decide), if_pos rfl]
  unfold nxAns
  dsimp only
  rw [if_pos rfl, show p + (1 + (wordAt t 0).length) = p + 1 + (wordAt t 0).length by omega]
 rw [if_neg (fun e => h47 (c47.1 e))]
 by_cases h60 : c = 60
 ·subst h60
  rw [if_pos (c60.2 rfl)]
  cases hpp : [60].isPrefixOf t with
  | true =>
   obtain ⟨r, rfl⟩ := pre_split hpp
   rw [if_pos rfl, sg 8 2 (sign_hit 8 [60, 60] r (.inr (.inr (.inl ⟨rfl, rfl⟩))))]
  | false =>
   rw [if_neg (by decide), no (isSign_cases (by decide) (by decide) (fun e => by rw [hpp] at e; exact absurd e.2 (by decide)) (fun e => absurd e.1 (by decide)) (by decide) (by decide)), if_neg (by decide), if_neg (by decide), if_pos rfl]
 have hR : nextR (c :: t) = if c = 40 then strungG t else wordedG (c :: t) := by
  rw [no (isSign_cases h1 h2 (fun e => h60 e.1) (fun e => h62 e.1) h5 h6), if_neg (fun e => e.elim h41 h62), if_neg h47, if_neg h60]
 rw [if_neg (fun e => h60 (c60.1 e)), hR]
 by_cases h40 : c = 40
 ·rw [if_pos (c40.2 h40), if_pos h40]
 ·rw [if_neg (fun e => h40 (c40.1 e)), if_neg h40]
theorem refAll_step (s : ByteArray) (hs : s.size ≤ 1000) : ∀ (k : Nat) (acc : List S65) (i : Int) (r : List S65 × Int × Int), tok_All.l0 k s acc i = some r → hornbookref04_All.l0 (k + 4400) s acc i = some r
 | 0, acc, i, r, h => by simp [tok_All.l0] at h
 | k + 1, acc, i, r, h => by
  rw [tok_All.l0] at h
  obtain ⟨y, hy, h⟩ := Option.bind_eq_some_iff.1 h
  have hy2 : tok_Next.f (k + 4400) s i = some y := le_rounds (g := fun k => tok_Next.f k s i) (fun k => tok_Next.mono _ _ k) hy (by omega)
  rw [next_eq s i (by omega) (by omega)] at hy2
  have ey : nextA s i = y := Option.some.inj hy2
  rw [show k + 1 + 4400 = (k + 4400) + 1 by omega, hornbookref04_All.l0, refNext_eq s i hs (by omega), Option.bind_some, ey]
  by_cases h1 : y.2.2.2.2.2 = 0
  ·rw [if_pos h1] at h ⊢
   by_cases h2 : y.1 = 0
   ·rw [if_pos h2] at h ⊢
    exact h
   ·rw [if_neg h2] at h ⊢
    by_cases h3 : (acc.length : Int) = 65536
    ·rw [if_pos h3] at h ⊢
     exact h
    ·rw [if_neg h3] at h ⊢
     by_cases h4 : acc.length < 3518437208883
     ·rw [if_pos h4] at h ⊢
      exact refAll_step s hs k _ _ r h
     ·rw [if_neg h4] at h
      cases h
  ·rw [if_neg h1] at h ⊢
   exact h
/-- The document's tokens are the program's. -/
theorem refTok_eq (s : ByteArray) (hs : s.size ≤ 1000) {k : Nat} (hk : 8000 ≤ k) : hornbookref04_All.f k s = some (allOut [] (allG (s.size + 1) 0 s.data.toList)) := by
 obtain ⟨j, rfl⟩ : ∃ j, k = j + 4400 := ⟨k - 4400, (Nat.sub_add_cancel (Nat.le_trans (by decide) hk)).symm⟩
 have hj : 3600 ≤ j := by omega
 have h := all_eq s (by omega) (k := j) (by omega)
 exact refAll_step s hs j [] 0 _ h
end Go.Proofs.YtdcldaknmenklaaGreatDoor.M
end
section
namespace Go.Proofs.YtdcldaknmenklaaGreatDoor.M
open Go.RowKit Go.Proofs.YtdcldaknmenklaaGreatDoorW.PrintWords
set_option linter.unusedVariables false
def rowsOf : List UInt8 → List UInt8 → List ByteArray
 | [], _ => []
 | c :: r, w => if c = 32 then (if w = [45] then ⟨#[]⟩ else ⟨w.toArray⟩) :: rowsOf r [] else rowsOf r (w ++ [c])
theorem take_one_more (L : List UInt8) (f i : Nat) (hf : f ≤ i) (hi : i < L.length) : (L.drop f).take (i + 1 - f) = (L.drop f).take (i - f) ++ [L[i]] := by
 have e : i + 1 - f = (i - f) + 1 := by omega
 rw [e, List.take_succ_eq_append_getElem (by rw [List.length_drop]; omega), List.getElem_drop]
 congr 2
 congr 1
 omega
theorem refAll_loop (s : ByteArray) (hs : s.size < 1099511627776) (d : Nat) : ∀ (i f k : Nat) (x3 : List ByteArray), s.size - i = d → f ≤ i → i ≤ s.size → d < k → x3.length + d < 8796093022208 →
  hornbookref15_All.l0 k x3 s f i = some (x3 ++ rowsOf (s.data.toList.drop i) ((s.data.toList.drop f).take (i - f))) := by
 induction d with
 | zero =>
  intro i f k x3 hd hf hi hk hx
  obtain ⟨k, rfl⟩ : ∃ m, k = m + 1 := ⟨k - 1, by omega⟩
  have : i = s.size := by omega
  subst this
  rw [hornbookref15_All.l0, if_neg (by omega), size_list, List.drop_length, rowsOf, List.append_nil]
 | succ d ih =>
  intro i f k x3 hd hf hi hk hx
  obtain ⟨k, rfl⟩ : ∃ m, k = m + 1 := ⟨k - 1, by omega⟩
  have hlt : i < s.size := by omega
  have hl : i < s.data.toList.length := by rw [← size_list]; exact hlt
  have hw : wrap64 ((i : Int) + 1) = ((i + 1 : Nat) : Int) := by rw [wrap_small (by omega) (by omega)]; omega
  rw [hornbookref15_All.l0, if_pos (by omega), if_pos (by omega), bt_get s i hlt, hw, List.drop_eq_getElem_cons hl, rowsOf]
  by_cases h32 : s.data.toList[i] = 32
  ·rw [if_pos h32, if_pos (by rw [h32]; rfl), if_pos (by omega), if_pos (by omega), if_pos (by omega), Int.toNat_natCast, Int.toNat_natCast, ext_mid, ba_toList]
   have h1 := fun x : ByteArray => ih (i + 1) (i + 1) k (x3 ++ [x]) (by omega) (by omega) (by omega) (by omega) (by rw [List.length_append, List.length_singleton]; omega)
   rw [Nat.sub_self, List.take_zero] at h1
   by_cases hd1 : (s.data.toList.drop f).take (i - f) = [45]
   ·rw [if_pos hd1, if_pos hd1, if_pos (by omega), h1, List.append_assoc]; rfl
   ·rw [if_neg hd1, if_neg hd1, if_pos (by omega), h1, List.append_assoc]; rfl
  ·have hn : ¬ ((s.data.toList[i].toNat : Int) = 32) := by
    intro e
    apply h32
    apply UInt8.toNat_inj.1
    show s.data.toList[i].toNat = 32
    omega
   rw [if_neg h32, if_neg hn, ih (i + 1) f k x3 (by omega) (by omega) (by omega) (by omega) (by omega), take_one_more _ _ _ hf hl]
/-- The document's names of an encoding that is there. -/
theorem refAll_eq (t : Int) (h0 : 0 ≤ t) (h1 : t < 4) (s : ByteArray) (hs : hornbookref15_rows.f t = some s) (hz : s.size < 1099511627776) {k : Nat} (hk : s.size < k) :
  hornbookref15_All.f k t = some (List.replicate 32 ⟨#[]⟩ ++ rowsOf s.data.toList []) := by
 unfold hornbookref15_All.f hornbookref15_Sane.f
 rw [if_pos h0, Option.bind_some, if_pos (decide_eq_true (by omega)), if_pos (by decide), hs, Option.bind_some]
 have := refAll_loop s hz s.size 0 0 k (List.replicate 32 ⟨#[]⟩) (by omega) (Nat.le_refl _) (by omega) hk (by rw [List.length_replicate]; omega)
 exact this
end Go.Proofs.YtdcldaknmenklaaGreatDoor.M
end
section
namespace Go.Proofs.YtdcldaknmenklaaGreatDoor.M
open Go.RowKit Go.Proofs.YtdcldaknmenklaaGreatDoorW.PrintWords
set_option linter.unusedVariables false
set_option linter.unusedSimpArgs false
def isE (t : TkT) : Bool := t.f0 == 1 || t.f0 == 2
def mapR (z : List EnT × Int × Int) : List EnR × Int × Int := (z.1.map toR, z.2.1, z.2.2)
theorem rdK (l : List TkT) (i : Nat) (h : i < l.length) : rd_T65 l (i : Int) = l[i] := by
 unfold rd_T65
 rw [Int.toNat_natCast, List.getD_eq_getElem?_getD, List.getElem?_eq_getElem h]
 rfl
theorem refDone (s : ByteArray) (toks : List TkT) (acc : List EnT) (i k : Nat) (hl : toks.length ≤ 1000) (hi : 1 ≤ i) (hi2 : i ≤ toks.length) (hk : 5 ≤ k) :
  hornbookref17_Parse.l0 k s toks (acc.map toR) true (i : Int) = some (mapR (match toks.drop i with | [] => (acc, (s.size : Int), 0) | u :: _ => ([], u.f1, 3))) := by
 obtain ⟨k, rfl⟩ : ∃ k', k = k' + 4 := ⟨k - 4, by omega⟩
 rw [hornbookref17_Parse.l0]
 by_cases h : i < toks.length
 ·rw [if_pos (by omega), if_pos (by omega), if_neg (by omega), rdK toks i h, List.drop_eq_getElem_cons h, hornbookref17_Parse.j1, if_neg (by decide), if_pos (by omega), if_pos rfl, hornbookref17_Parse.j2, if_neg (by decide), if_pos (by omega), if_pos rfl, hornbookref17_Parse.j3, if_neg (by decide), if_pos (by omega), if_pos rfl]
  rfl
 ·rw [if_neg (by omega), if_pos rfl, List.drop_eq_nil_of_le (by omega)]
  rfl
theorem refParse_loop (s : ByteArray) (toks : List TkT) (hl : toks.length ≤ 1000) (d : Nat) : ∀ (i k : Nat) (acc : List EnT), toks.length - i = d → 1 ≤ i → i ≤ toks.length → acc.length ≤ i → 4 * d + 10 ≤ k →
  hornbookref17_Parse.l0 k s toks (acc.map toR) false (i : Int) = some (mapR (parseRest (s.size : Int) (acc ++ ((toks.drop i).takeWhile isE).map entE, (toks.drop i).dropWhile isE))) := by
 induction d with
 | zero =>
  intro i k acc hd h1 hi ha hk
  obtain ⟨k, rfl⟩ : ∃ k', k = k' + 1 := ⟨k - 1, by omega⟩
  rw [hornbookref17_Parse.l0, if_neg (by omega), if_neg (by decide), List.drop_eq_nil_of_le (by omega)]
  rfl
 | succ d ih =>
  intro i k acc hd h1 hi ha hk
  obtain ⟨k, rfl⟩ : ∃ k', k = k' + 4 := ⟨k - 4, by omega⟩
  have hlt : i < toks.length := by omega
  have hw := wrap_next i (by omega)
  have hac : (acc.map toR).length < 4398046511104 := by rw [List.length_map]; omega
  have hdone := refDone s toks acc (i + 1) k hl (by omega) (by omega) (by omega)
  have ih2 := fun x => ih (i + 1) (k + 1) (acc ++ [x]) (by omega) (by omega) (by omega) (by rw [List.length_append, List.length_singleton]; omega) (by omega)
  have ih3 := fun x => ih (i + 1) k (acc ++ [x]) (by omega) (by omega) (by omega) (by rw [List.length_append, List.length_singleton]; omega) (by omega)
  rw [hornbookref17_Parse.l0, if_pos (by omega), if_pos (by omega), if_neg (by omega), rdK toks i hlt, hornbookref17_Parse.j1, if_neg (by decide), if_pos (by omega), if_neg (by decide), List.drop_eq_getElem_cons hlt]
  generalize toks[i] = t
  have ih1 := ih2 (entE t)
  have ih4 := ih3 (entE t)
  rw [List.map_append, List.map_cons, List.map_nil, List.append_assoc] at ih1 ih4
  by_cases k1 : t.f0 = 1
  ·have he : isE t = true := by unfold isE; rw [k1]; rfl
   have hb : (t.f0 == 1) = true := beq_iff_eq.2 k1
   have ee : toR (entE t) = (⟨true, t.f2, ⟨#[]⟩⟩ : EnR) := by unfold entE toR; rw [if_pos k1]
   rw [ee] at ih1
   rw [hb, hornbookref17_Parse.j2, if_pos rfl, if_pos hac, hw, List.takeWhile_cons, if_pos he, List.dropWhile_cons, if_pos he, List.map_cons]
   exact ih1
  ·have hb : (t.f0 == 1) = false := beq_eq_false_iff_ne.2 k1
   rw [hb, hornbookref17_Parse.j2, if_neg (by decide), if_pos (by omega), if_neg (by decide)]
   by_cases k2 : t.f0 = 2
   ·have he : isE t = true := by unfold isE; rw [k2]; rfl
    have hb2 : (t.f0 == 2) = true := beq_iff_eq.2 k2
    have ee : toR (entE t) = (⟨false, 0, t.f3⟩ : EnR) := by unfold entE toR; rw [if_neg k1]
    rw [ee] at ih4
    rw [hb2, hornbookref17_Parse.j3, if_pos rfl, if_pos hac, hw, List.takeWhile_cons, if_pos he, List.dropWhile_cons, if_pos he, List.map_cons]
    exact ih4
   ·have he : isE t = false := by unfold isE; rw [beq_eq_false_iff_ne.2 k1, beq_eq_false_iff_ne.2 k2]; rfl
    have hb2 : (t.f0 == 2) = false := beq_eq_false_iff_ne.2 k2
    have hne : ¬ isE t = true := by rw [he]; decide
    have e1 : (t :: toks.drop (i + 1)).takeWhile isE = [] := by rw [List.takeWhile_cons, if_neg hne]
    have e2 : (t :: toks.drop (i + 1)).dropWhile isE = t :: toks.drop (i + 1) := by rw [List.dropWhile_cons, if_neg hne]
    rw [hb2, hornbookref17_Parse.j3, if_neg (by decide), if_pos (by omega), if_neg (by decide), e1, e2, List.map_nil, List.append_nil]
    unfold parseRest
    dsimp only
    by_cases k7 : t.f0 = 7
    ·rw [if_pos k7, if_pos k7, hw, hdone]
     cases toks.drop (i + 1) <;> rfl
    ·rw [if_neg k7, if_neg k7]
     rfl
theorem allG_len : ∀ (n p : Nat) (r : List UInt8), (allG n p r).1.length ≤ n
 | 0, p, r => by rw [allG]; exact Nat.le_refl _
 | n + 1, p, r => by
  have ih := allG_len n
  rw [allG]
  split
  ·exact Nat.zero_le _
  ·split
   ·split
    ·dsimp only
     rw [List.length_cons]
     have := ih (p + skipG false r + (nextR (r.drop (skipG false r))).2.2.2.1) (r.drop (skipG false r + (nextR (r.drop (skipG false r))).2.2.2.1))
     omega
    ·exact Nat.zero_le _
   ·exact Nat.zero_le _
theorem tw_dw (l : List TkT) : l.takeWhile isE ++ l.dropWhile isE = l := List.takeWhile_append_dropWhile
theorem tw_all : ∀ (l : List TkT), ∀ t ∈ l.takeWhile isE, t.f0 = 1 ∨ t.f0 = 2
 | [], t, h => by cases h
 | x :: l, t, h => by
  rw [List.takeWhile_cons] at h
  split at h
  ·rename_i hx
   rcases List.mem_cons.1 h with rfl | h
   ·unfold isE at hx
    simpa using hx
   ·exact tw_all l t h
  ·cases h
theorem dw_head : ∀ (l : List TkT) (t : TkT) (r : List TkT), l.dropWhile isE = t :: r → t.f0 ≠ 1 ∧ t.f0 ≠ 2
 | [], t, r, h => by cases h
 | x :: l, t, r, h => by
  rw [List.dropWhile_cons] at h
  split at h
  ·exact dw_head l t r h
  ·rename_i hx
   injection h with h1 h2
   subst h1
   unfold isE at hx
   simpa using hx
theorem parse17_eq (s : ByteArray) (hs : s.size ≤ 500) {k : Nat} (hk : 9000 ≤ k) : ∃ z : List EnT × Int × Int, diff_Parse.f k s = some z ∧ hornbookref17_Parse.f k s = some (mapR z) ∧ z.1.length ≤ 1000 := by
 have hA := all_eq s (by omega) (k := k) (by omega)
 have hB := refTok_eq s (by omega) (k := k) (by omega)
 have hlen := allG_len (s.size + 1) 0 s.data.toList
 unfold diff_Parse.f hornbookref17_Parse.f
 rw [hA, hB, Option.bind_some, Option.bind_some]
 unfold allOut
 generalize allG (s.size + 1) 0 s.data.toList = g at hlen
 by_cases h0 : g.2.2 = 0
 ·rw [if_pos h0]
  dsimp only
  rw [if_pos rfl, if_pos rfl, List.nil_append]
  rcases g with ⟨toks, p, e⟩
  dsimp only at hlen ⊢
  rcases toks with _ | ⟨x, l⟩
  ·refine ⟨([], (s.size : Int), 2), rfl, ?_, Nat.zero_le _⟩
   obtain ⟨k, rfl⟩ : ∃ k', k = k' + 1 := ⟨k - 1, by omega⟩
   rw [hornbookref17_Parse.l0, if_neg (by decide), if_neg (by decide)]
   rfl
  ·rw [List.length_cons] at hlen
   have hR : hornbookref17_Parse.l0 k s (x :: l) [] false 0 = if x.f0 = 6 then hornbookref17_Parse.l0 (k - 2) s (x :: l) [] false 1 else some ([], x.f1, 3) := by
    obtain ⟨k, rfl⟩ : ∃ k', k = k' + 4 := ⟨k - 4, by omega⟩
    have e0 : rd_T65 (x :: l) 0 = x := rfl
    rw [hornbookref17_Parse.l0, if_pos (by rw [List.length_cons]; omega), if_pos (by decide), if_pos rfl, e0, hornbookref17_Parse.j1]
    by_cases h6 : x.f0 = 6
    ·rw [if_pos (beq_iff_eq.2 h6), if_pos h6, show wrap64 (0 + 1) = 1 from wrap_small (by decide) (by decide)]
     rfl
    ·rw [if_neg (by rw [beq_iff_eq]; exact h6), if_neg h6, if_neg (by decide), hornbookref17_Parse.j2, if_neg (by decide), if_neg (by decide), hornbookref17_Parse.j3, if_neg (by decide), if_neg (by decide)]
   rw [hR]
   by_cases h6 : x.f0 = 6
   ·have hent := entries_loop (l.takeWhile isE) (l.dropWhile isE) [] k (tw_all l) (dw_head l) (by have := (List.takeWhile_sublist (p := isE) (l := l)).length_le; omega) (by have := (List.takeWhile_sublist (p := isE) (l := l)).length_le; rw [List.length_nil]; omega)
    rw [tw_dw, List.nil_append] at hent
    have href := refParse_loop s (x :: l) (by rw [List.length_cons]; omega) l.length 1 (k - 2) [] (by rw [List.length_cons]; omega) (Nat.le_refl _) (by rw [List.length_cons]; omega) (by simp) (by omega)
    rw [List.map_nil, List.nil_append, show (x :: l).drop 1 = l from rfl] at href
    refine ⟨parseRest (s.size : Int) ((l.takeWhile isE).map entE, l.dropWhile isE), ?_, ?_, ?_⟩
    ·dsimp only
     rw [if_pos h6]
     unfold diff_entries.f
     rw [hent, Option.bind_some]
    ·rw [if_pos h6]
     exact href
    ·unfold parseRest
     have := (List.takeWhile_sublist (p := isE) (l := l)).length_le
     split
     ·exact Nat.zero_le _
     ·split
      ·split
       ·dsimp only; rw [List.length_map]; omega
       ·exact Nat.zero_le _
      ·exact Nat.zero_le _
   ·refine ⟨([], x.f1, 3), ?_, ?_, Nat.zero_le _⟩
    ·dsimp only
     rw [if_neg h6]
    ·rw [if_neg h6]; rfl
 ·rw [if_neg h0]
  dsimp only
  rw [if_neg h0, if_neg h0]
  exact ⟨_, rfl, rfl, Nat.zero_le _⟩
theorem refApply_loop (l : List EnR) (hl : l.length ≤ 600) (d : Nat) : ∀ (i k : Nat) (out : List ByteArray) (a : Int), l.length - i = d → i ≤ l.length → out.length = 256 → -1 ≤ a → a ≤ 300 → d < k →
  hornbookref17_Apply.l0 k l out a (i : Int) = some (applyOut (runG (out, a) i (((l.drop i).map toE).map enOf))) := by
 induction d with
 | zero =>
  intro i k out a hd hi ho ha ha2 hk
  obtain ⟨k, rfl⟩ : ∃ k', k = k' + 1 := ⟨k - 1, by omega⟩
  rw [hornbookref17_Apply.l0, if_neg (by omega), List.drop_eq_nil_of_le (by omega)]
  rfl
 | succ d ih =>
  intro i k out a hd hi ho ha ha2 hk
  obtain ⟨k, rfl⟩ : ∃ k', k = k' + 1 := ⟨k - 1, by omega⟩
  have hlt : i < l.length := by omega
  rw [hornbookref17_Apply.l0, if_pos (by omega), if_pos (by omega), rdE l i hlt, wrap_next i (by omega), List.drop_eq_getElem_cons hlt, List.map_cons, List.map_cons, runG]
  generalize l[i] = x
  rcases x with ⟨b, n, nm⟩
  have e : enOf (toE ⟨b, n, nm⟩) = (b, n, nm) := rfl
  rw [e]
  unfold stepG
  dsimp only
  cases b with
  | true =>
   rw [if_pos rfl, if_pos rfl]
   by_cases h0 : n < 0
   ·rw [if_pos h0, if_pos (.inl h0)]
    rfl
   rw [if_neg h0]
   by_cases h1 : n > 255
   ·rw [if_pos h1, if_pos (.inr (by omega))]
    rfl
   rw [if_neg h1, if_neg (by omega)]
   exact ih (i + 1) k out n (by omega) (by omega) ho (by omega) (by omega) (by omega)
  | false =>
   rw [if_neg (show ¬ (false = true) by decide), if_neg (show ¬ (false = true) by decide)]
   by_cases h0 : a < 0
   ·rw [if_pos h0, if_pos h0]
    rfl
   rw [if_neg h0, if_neg h0]
   by_cases h1 : a > 255
   ·rw [if_pos h1, if_pos (by omega)]
    rfl
   rw [if_neg h1, if_pos (by omega), if_pos (by omega), if_neg (by omega), wrap_small (x := a + 1) (by omega) (by omega)]
   exact ih (i + 1) k _ (a + 1) (by omega) (by omega) (by rw [List.length_set]; exact ho) (by omega) (by omega) (by omega)
theorem refApply_eq (b : List ByteArray) (hb : b.length = 256) (l : List EnR) (hl : l.length ≤ 600) {k : Nat} (hk : 700 ≤ k) : hornbookref17_Apply.f k b l = some (applyOut (runG (b, -1) 0 ((l.map toE).map enOf))) := by
 unfold hornbookref17_Apply.f
 have := refApply_loop l hl l.length 0 k b (-1) rfl (Nat.zero_le _) hb (by decide) (by decide) (by omega)
 rw [List.drop_zero] at this
 rw [if_pos (by omega), Option.bind_some, if_pos (by rw [List.length_nil]; omega), List.nil_append]
 exact this
theorem refApply_none (b : List ByteArray) (hb : ¬ b.length = 256) (l : List EnR) (k : Nat) : hornbookref17_Apply.f k b l = some ([], 0, 11) := by
 unfold hornbookref17_Apply.f
 rw [if_neg (by omega)]
def sameN17 (t : Int) : Bool := match encOf 500 t, hornbookref15_rows.f t with
 | some a, some s => decide (s.size < 2400) && decide (a.map (fun x : ByteArray => x.data.toList) = (List.replicate 32 (⟨#[]⟩ : ByteArray) ++ rowsOf s.data.toList []).map (fun x : ByteArray => x.data.toList))
 | _, _ => false
set_option maxRecDepth 100000 in
theorem sameN17_0 : sameN17 0 = true := by decide +kernel
set_option maxRecDepth 100000 in
theorem sameN17_1 : sameN17 1 = true := by decide +kernel
set_option maxRecDepth 100000 in
theorem sameN17_2 : sameN17 2 = true := by decide +kernel
set_option maxRecDepth 100000 in
theorem sameN17_3 : sameN17 3 = true := by decide +kernel
theorem bytes_inj17 {a b : List ByteArray} (h : a.map (·.data.toList) = b.map (·.data.toList)) : a = b := by
 induction a generalizing b with
 | nil => cases b with
  | nil => rfl
  | cons y b => simp at h
 | cons x a ih => cases b with
  | nil => simp at h
  | cons y b =>
   simp only [List.map_cons, List.cons.injEq] at h
   rw [ih h.2]
   congr 1
   rcases x with ⟨⟨x⟩⟩
   rcases y with ⟨⟨y⟩⟩
   have := h.1
   simp at this
   rw [this]
theorem names17 (t : Int) (h0 : 0 ≤ t) (h1 : t < 4) : ∃ L : List ByteArray, L.length = 256 ∧ ∀ k, 2500 ≤ k → enc_All.f k t = some L ∧ hornbookref15_All.f k t = some L := by
 have h : sameN17 t = true := by
  have : t = 0 ∨ t = 1 ∨ t = 2 ∨ t = 3 := by omega
  rcases this with rfl | rfl | rfl | rfl
  ·exact sameN17_0
  ·exact sameN17_1
  ·exact sameN17_2
  ·exact sameN17_3
 unfold sameN17 at h
 split at h
 ·rename_i a s ha hs
  simp only [Bool.and_eq_true, decide_eq_true_eq] at h
  obtain ⟨hz, e⟩ := h
  have e := bytes_inj17 e
  refine ⟨a, encOf_length ha, fun k hk => ⟨?_, ?_⟩⟩
  ·unfold enc_All.f
   rw [if_pos ⟨h0, h1⟩]
   exact le_rounds (g := fun k => encOf k t) (fun k => encOf_mono t k) ha (by omega)
  ·rw [refAll_eq t h0 h1 s hs (by omega) (by omega), e]
 ·cases h
theorem make17_eq (t : Int) (l : List EnR) (hl : l.length ≤ 600) {k : Nat} (hk : 2500 ≤ k) : ∃ z : List ByteArray × Int × Int, diff_Make.f k t (l.map toE) = some z ∧ hornbookref17_Make.f k t l = some z ∧ z.1.length ≤ 256 := by
 unfold diff_Make.f hornbookref17_Make.f hornbookref15_Sane.f
 by_cases hs : 0 ≤ t ∧ t < 4
 ·obtain ⟨L, hL, he⟩ := names17 t hs.1 hs.2
  rw [(he k hk).1, Option.bind_some, apply17 L hL _ (by rw [List.length_map]; omega), Option.bind_some, if_pos (show t ≥ 0 from hs.1), Option.bind_some, if_pos (decide_eq_true (by omega)), (he k hk).2, Option.bind_some, refApply_eq L hL l hl (by omega), Option.bind_some]
  refine ⟨_, rfl, rfl, ?_⟩
  dsimp only
  unfold applyOut
  split
  ·rename_i s h
   rw [runG_size _ _ _ _ h, hL]
   exact Nat.le_refl _
  ·exact Nat.zero_le _
 ·have hA : enc_All.f k t = some [] := by unfold enc_All.f; rw [if_neg hs]
  have hS : (if t ≥ 0 then some (decide (t ≤ 3)) else some false) = some false := by
   by_cases h : t ≥ 0
   ·rw [if_pos h, decide_eq_false (by omega)]
   ·rw [if_neg h]
  rw [hA, Option.bind_some, apply17_none [] (by decide), Option.bind_some, hS, Option.bind_some, if_neg (by decide)]
  exact ⟨_, rfl, rfl, Nat.zero_le _⟩
theorem refOf_loop (bs ns : List ByteArray) (hb : bs.length = 256) (hn : ns.length = 256) (d : Nat) : ∀ (i k : Nat) (row : Bool) (acc : List EnT), 256 - i = d → i ≤ 256 → (row = true ↔ 0 < i ∧ bs[i - 1]? ≠ ns[i - 1]?) → acc.length ≤ 2 * i → d < k →
  hornbookref17_Of.l0 k bs ns (acc.map toR) (i : Int) = some ((acc ++ (ofG i row (bs.drop i) (ns.drop i)).map unEn).map toR) := by
 induction d with
 | zero =>
  intro i k row acc hd hi hr ha hk
  obtain ⟨k, rfl⟩ : ∃ k', k = k' + 1 := ⟨k - 1, by omega⟩
  rw [hornbookref17_Of.l0, if_neg (by omega), List.drop_eq_nil_of_le (by omega), List.drop_eq_nil_of_le (by omega), ofG, List.map_nil, List.append_nil]
  intro b bs n ns h; cases h
 | succ d ih =>
  intro i k row acc hd hi hr ha hk
  obtain ⟨k, rfl⟩ : ∃ k', k = k' + 1 := ⟨k - 1, by omega⟩
  have h1 : i < bs.length := by omega
  have h2 : i < ns.length := by omega
  have hw := wrap_next i (by omega)
  have g1 : bs[i]? = some bs[i] := List.getElem?_eq_getElem h1
  have g2 : ns[i]? = some ns[i] := List.getElem?_eq_getElem h2
  have hm : (acc.map toR).length ≤ 2 * i := by rw [List.length_map]; exact ha
  rw [hornbookref17_Of.l0, if_pos (by omega), if_pos (by omega), if_pos (by omega), if_pos (by omega), rdO h1, rdO h2, hw, List.drop_eq_getElem_cons h1, List.drop_eq_getElem_cons h2, ofG]
  have one : ∀ x : EnT, acc.map toR ++ [toR x] = (acc ++ [x]).map toR := fun x => by rw [List.map_append]; rfl
  by_cases he : bs[i] = ns[i]
  ·rw [if_pos (toList_iff.2 he), if_pos he]
   exact ih (i + 1) k false acc (by omega) (by omega) (by rw [Nat.add_sub_cancel, g1, g2, he]; simp) (by omega) (by omega)
  ·have hnext : ((true : Bool) = true ↔ 0 < i + 1 ∧ bs[i + 1 - 1]? ≠ ns[i + 1 - 1]?) := by
    rw [Nat.add_sub_cancel, g1, g2]
    simp [he]
   have two : some (((acc ++ [(⟨true, (i : Int), ⟨#[]⟩⟩ : EnT)] ++ [(⟨false, 0, ns[i]⟩ : EnT)]) ++ (ofG (i + 1) true (bs.drop (i + 1)) (ns.drop (i + 1))).map unEn).map toR) = some ((acc ++ ((true, (i : Int), (⟨#[]⟩ : ByteArray)) :: (false, 0, ns[i]) :: ofG (i + 1) true (bs.drop (i + 1)) (ns.drop (i + 1)) : List En).map unEn).map toR) := by
    rw [List.append_assoc, List.append_assoc]
    rfl
   have hrow : row = false → (if acc.length < 4398046511104 then ((some (acc.map toR ++ [(⟨true, (i : Int), (⟨#[]⟩ : ByteArray)⟩ : EnR)] : List EnR)).bind fun y => (if y.length < 4398046511104 then (hornbookref17_Of.l0 k bs ns (y ++ [(⟨false, 0, ns[i]⟩ : EnR)]) ((i + 1 : Nat) : Int)) else none)) else none) =
     some ((acc ++ ((true, (i : Int), (⟨#[]⟩ : ByteArray)) :: (false, 0, ns[i]) :: ofG (i + 1) true (bs.drop (i + 1)) (ns.drop (i + 1)) : List En).map unEn).map toR) := by
    intro _
    rw [if_pos (by omega), Option.bind_some, if_pos (by rw [List.length_append, List.length_singleton]; omega)]
    have e1 := one ⟨true, (i : Int), ⟨#[]⟩⟩
    have e2 : (acc ++ [(⟨true, (i : Int), ⟨#[]⟩⟩ : EnT)]).map toR ++ [toR (⟨false, 0, ns[i]⟩ : EnT)] = (acc ++ [(⟨true, (i : Int), ⟨#[]⟩⟩ : EnT)] ++ [(⟨false, 0, ns[i]⟩ : EnT)]).map toR := by rw [List.map_append (l₁ := acc ++ _)]; rfl
    have := ih (i + 1) k true (acc ++ [⟨true, (i : Int), ⟨#[]⟩⟩] ++ [⟨false, 0, ns[i]⟩]) (by omega) (by omega) hnext (by rw [List.length_append, List.length_append, List.length_singleton, List.length_singleton]; omega) (by omega)
    rw [← two, ← this, ← e2, ← e1]
    rfl
   rw [if_neg (fun e => he (toList_iff.1 e)), if_neg he]
   rw [List.length_map] at hm ⊢
   by_cases h0 : i = 0
   ·have hrf : row = false := by
     cases row with
     | false => rfl
     | true => exact absurd (hr.1 rfl).1 (by omega)
    rw [if_pos (by omega), hrf, if_neg (show ¬ (false = true) by decide)]
    exact hrow hrf
   ·have hw2 : wrap64 ((i : Int) - 1) = ((i - 1 : Nat) : Int) := by rw [wrap_small (by omega) (by omega)]; omega
    have q1 : i - 1 < bs.length := by omega
    have q2 : i - 1 < ns.length := by omega
    rw [if_neg (by omega), hw2, if_pos (by omega), if_pos (by omega), if_pos (by omega), rdO q1, rdO q2]
    rw [List.getElem?_eq_getElem q1, List.getElem?_eq_getElem q2] at hr
    by_cases hp : bs[i - 1] = ns[i - 1]
    ·have hrf : row = false := by
      cases row with
      | false => rfl
      | true => exact absurd (congrArg some hp) (hr.1 rfl).2
     rw [if_pos (toList_iff.2 hp), hrf, if_neg (show ¬ (false = true) by decide)]
     exact hrow hrf
    ·have hrt : row = true := hr.2 ⟨by omega, fun e => hp (Option.some.inj e)⟩
     rw [if_neg (fun e => hp (toList_iff.1 e)), hrt, if_pos rfl, if_pos (by omega)]
     have := ih (i + 1) k true (acc ++ [⟨false, 0, ns[i]⟩]) (by omega) (by omega) hnext (by rw [List.length_append, List.length_singleton]; omega) (by omega)
     have e1 := one ⟨false, 0, ns[i]⟩
     rw [← e1] at this
     refine Eq.trans this ?_
     rw [List.append_assoc]
     rfl
theorem of17_eq (bs ns : List ByteArray) {k : Nat} (hk : 700 ≤ k) : ∃ d : List EnT, diff_Of.f k bs ns = some d ∧ hornbookref17_Of.f k bs ns = some (d.map toR) ∧ d.length ≤ 600 := by
 by_cases hb : bs.length = 256
 ·by_cases hn : ns.length = 256
  ·refine ⟨_, of_eq bs ns hb hn (by omega), ?_, ?_⟩
   ·obtain ⟨k, rfl⟩ : ∃ k', k = k' + 1 := ⟨k - 1, by omega⟩
    unfold hornbookref17_Of.f
    rw [if_pos (by omega), hn, hornbookref17_Of.j0, if_neg (by decide)]
    have := refOf_loop bs ns hb hn 256 0 k false [] rfl (by omega) (by simp) (by simp) (by omega)
    rw [List.drop_zero, List.drop_zero, List.nil_append] at this
    exact this
   ·have := (ofG_like bs ns 0 false (by omega) (by omega)).2.2
    rw [List.length_map]
    omega
  ·refine ⟨[], of_none bs ns hb hn (by omega), ?_, Nat.zero_le _⟩
   obtain ⟨k, rfl⟩ : ∃ k', k = k' + 1 := ⟨k - 1, by omega⟩
   have hx : ((ns.length : Int) != 256) = true := by rw [bne_iff_ne]; omega
   unfold hornbookref17_Of.f
   rw [if_pos (by omega), hx, hornbookref17_Of.j0, if_pos rfl]
   rfl
 ·refine ⟨[], ?_, ?_, Nat.zero_le _⟩
  ·obtain ⟨k, rfl⟩ : ∃ k', k = k' + 1 := ⟨k - 1, by omega⟩
   unfold diff_Of.f
   rw [if_neg (by omega), diff_Of.j0, if_pos rfl]
  ·obtain ⟨k, rfl⟩ : ∃ k', k = k' + 1 := ⟨k - 1, by omega⟩
   unfold hornbookref17_Of.f
   rw [if_neg (by omega), hornbookref17_Of.j0, if_pos rfl]
   rfl
def tailT (l : List EnR) : List UInt8 := Lib.joinTail [32] (l.map (fun x => shownL (toE x)))
theorem tailT_cons (x : EnR) (l : List EnR) : tailT (x :: l) = 32 :: (shownL (toE x) ++ tailT l) := by
 unfold tailT Lib.joinTail
 simp
theorem itoa_len64 (n : Int) (h0 : -9223372036854775808 ≤ n) (h1 : n ≤ 9223372036854775807) : (Lib.itoa n).length ≤ 21 := by
 unfold Lib.itoa
 split
 ·have := nDigits_le 19 n.natAbs (by show _ < 100000000000000000000; omega)
  rw [List.length_cons, Lib.decDigits_length]; omega
 ·have := nDigits_le 19 n.toNat (by show _ < 100000000000000000000; omega)
  rw [Lib.decDigits_length]; omega
def OkR (x : EnR) : Prop := -9223372036854775808 ≤ x.f1 ∧ x.f1 ≤ 9223372036854775807 ∧ x.f2.size ≤ 100
theorem shown_len (x : EnR) (h : OkR x) : (shownL (toE x)).length ≤ 301 := by
 rcases x with ⟨b, n, s⟩
 cases b with
 | true =>
  have := itoa_len64 n h.1 h.2.1
  show (Lib.itoa n).length ≤ 301
  omega
 | false =>
  have h1 := (writeBytes_length s.data.toList).2
  have h2 := h.2.2
  have h3 : s.data.toList.length = s.size := rfl
  dsimp only at h2
  show (47 :: writeBytes s.data.toList).length ≤ 301
  rw [List.length_cons]
  omega
theorem refWrite_eq (s : ByteArray) (hs : s.size ≤ 1000) {k : Nat} (hk : 1100 ≤ k) : hornbookref03_Write.f k s = some ⟨(writeBytes s.data.toList).toArray⟩ := by
 unfold hornbookref03_Write.f
 have := refWrite_loop s hs _ [] 0 k rfl (by omega) (by simp) (by omega)
 rw [List.drop_zero] at this
 exact this
theorem ba_app17 (a b : List UInt8) : (⟨a.toArray⟩ : ByteArray) ++ ⟨b.toArray⟩ = ⟨(a ++ b).toArray⟩ := by
 apply ByteArray.ext
 simp
theorem ba_sz17 (a : List UInt8) : (⟨a.toArray⟩ : ByteArray).size = a.length := by
 show (List.toArray _).size = _
 simp
theorem refText_loop (l : List EnR) (hl : l.length ≤ 600) (hok : ∀ x ∈ l, OkR x) (d : Nat) : ∀ (i k : Nat) (acc : List UInt8), l.length - i = d → i ≤ l.length → acc.length ≤ 302 * i + 1 → d + 1100 ≤ k →
  hornbookref17_Text.l0 k l ⟨acc.toArray⟩ (i : Int) = some ⟨(acc ++ (tailT (l.drop i) ++ [32, 93])).toArray⟩ := by
 induction d with
 | zero =>
  intro i k acc hd hi ha hk
  obtain ⟨k, rfl⟩ : ∃ k', k = k' + 1 := ⟨k - 1, by omega⟩
  rw [hornbookref17_Text.l0, if_neg (by omega), List.drop_eq_nil_of_le (by omega), ba_sz17, if_pos (by omega), show (⟨#[32, 93]⟩ : ByteArray) = ⟨([32, 93] : List UInt8).toArray⟩ from rfl, ba_app17]
  rfl
 | succ d ih =>
  intro i k acc hd hi ha hk
  obtain ⟨k, rfl⟩ : ∃ k', k = k' + 1 := ⟨k - 1, by omega⟩
  have hlt : i < l.length := by omega
  have hx := hok l[i] (List.getElem_mem hlt)
  have hsl := shown_len l[i] hx
  have ih2 := ih (i + 1) k (acc ++ 32 :: shownL (toE l[i])) (by omega) (by omega) (by rw [List.length_append, List.length_cons]; omega) (by omega)
  rw [hornbookref17_Text.l0, if_pos (by omega), if_pos (by omega), rdE l i hlt, wrap_next i (by omega), List.drop_eq_getElem_cons hlt, tailT_cons, ba_sz17]
  have eend : acc ++ 32 :: shownL (toE l[i]) ++ (tailT (l.drop (i + 1)) ++ [32, 93]) = acc ++ (32 :: (shownL (toE l[i]) ++ tailT (l.drop (i + 1))) ++ [32, 93]) := by simp
  rw [eend] at ih2
  by_cases hb : l[i].f0 = true
  ·have es : shownL (toE l[i]) = Lib.itoa l[i].f1 := by unfold shownL; rw [if_pos (show (toE l[i]).f0 = true from hb)]; rfl
   have hI : strconv_Itoa.f l[i].f1 = some ⟨(Lib.itoa l[i].f1).toArray⟩ := by unfold strconv_Itoa.f; rw [if_pos ⟨hx.1, hx.2.1⟩]
   rw [es] at hsl ih2 ⊢
   rw [if_pos hb, if_pos (by omega), hI, Option.bind_some, show (⟨#[32]⟩ : ByteArray) = ⟨([32] : List UInt8).toArray⟩ from rfl, ba_app17, ba_app17, ba_sz17, ba_sz17, if_pos (by rw [List.length_append, List.length_singleton]; omega), List.append_assoc]
   exact ih2
  ·have es : shownL (toE l[i]) = 47 :: writeBytes l[i].f2.data.toList := by unfold shownL; rw [if_neg (show ¬ (toE l[i]).f0 = true from hb)]; rfl
   have hW := refWrite_eq l[i].f2 (by have := hx.2.2; omega) (k := k) (by omega)
   rw [es] at hsl ih2 ⊢
   rw [List.length_cons] at hsl
   rw [if_neg hb, if_pos (by omega), hW, Option.bind_some, show (⟨#[32, 47]⟩ : ByteArray) = ⟨([32, 47] : List UInt8).toArray⟩ from rfl, ba_app17, ba_app17, ba_sz17, ba_sz17, if_pos (by rw [List.length_append]; simp; omega), List.append_assoc]
   exact ih2
theorem tailT_len : ∀ (l : List EnR), (∀ x ∈ l, OkR x) → (tailT l).length ≤ 302 * l.length
 | [], _ => by simp [tailT, Lib.joinTail]
 | x :: l, h => by
  have h1 := shown_len x (h x (by simp))
  have h2 := tailT_len l (fun y hy => h y (List.mem_cons_of_mem _ hy))
  rw [tailT_cons, List.length_cons, List.length_append, List.length_cons]
  omega
theorem text17_eq (l : List EnR) (hl : l.length ≤ 600) (hok : ∀ x ∈ l, OkR x) {k : Nat} (hk : 2000 ≤ k) : ∃ s, diff_Text.f (l.map toE) = some s ∧ hornbookref17_Text.f k l = some s := by
 have hR := refText_loop l hl hok l.length 0 k [91] rfl (Nat.zero_le _) (by simp) (by omega)
 rw [List.drop_zero] at hR
 refine ⟨_, ?_, hR⟩
 have hlen := tailT_len l hok
 unfold diff_Text.f
 have hsh : ∀ x ∈ l.map toE, okShown x := by
  intro x hx
  obtain ⟨y, hy, rfl⟩ := List.mem_map.1 hx
  obtain ⟨h1, h2, h3⟩ := hok y hy
  refine ⟨h1, h2, ?_⟩
  show y.f2.size * 3 ≤ _
  omega
 rw [if_pos ⟨by rw [List.length_map]; omega, hsh⟩]
 have e : joinB (wordsOf (l.map toE)) ⟨#[32]⟩ = [91] ++ (tailT l ++ [32, 93]) := by
  unfold joinB wordsOf
  rw [List.map_cons, Lib.join_cons, List.map_append, List.map_map, List.map_map]
  unfold tailT Lib.joinTail
  rw [List.map_append, List.flatten_append]
  rfl
 unfold strings_Join.f
 rw [e, if_pos ⟨by unfold wordsOf; rw [List.length_cons, List.length_append, List.length_map, List.length_map, List.length_singleton]; omega, by rw [List.length_append, List.length_append]; simp; omega⟩]
end Go.Proofs.YtdcldaknmenklaaGreatDoor.M
end
section
namespace Go.Proofs.YtdcldaknmenklaaGreatDoor.M
open Go.RowKit Go.Proofs.YtdcldaknmenklaaGreatDoorW.PrintWords
set_option linter.unusedVariables false
theorem apply17_eq (b : List ByteArray) (l : List EnR) (hl : l.length ≤ 600) {k : Nat} (hk : 700 ≤ k) : ∃ z : List ByteArray × Int × Int, diff_Apply.f b (l.map toE) = some z ∧ hornbookref17_Apply.f k b l = some z ∧ z.1.length ≤ 256 := by
 by_cases hb : b.length = 256
 ·refine ⟨_, apply17 b hb _ (by rw [List.length_map]; omega), refApply_eq b hb l hl hk, ?_⟩
  unfold applyOut
  split
  ·rename_i s h
   rw [runG_size _ _ _ _ h, hb]
   exact Nat.le_refl _
  ·exact Nat.zero_le _
 ·exact ⟨_, apply17_none b hb _, refApply_none b hb l k, Nat.zero_le _⟩
theorem DiffIs : hornbooklaw17_DiffIs.Pure := by
 intro src base names l t _ _ _ _ _ _ _ _ _ hwf _
 refine ⟨10000, ?_⟩
 have hend : hornbooklaw17_DiffIs.j0 10000 src base names l t true true = some true := by rw [hornbooklaw17_DiffIs.j0, if_pos rfl]
 unfold hornbooklaw17_DiffIs.f
 rw [awake17 (by omega), Option.bind_some]
 by_cases h1 : (src.size : Int) > 500
 ·rw [if_pos h1]; exact hend
 rw [if_neg h1]
 by_cases h2 : (base.length : Int) > 300
 ·rw [if_pos h2]; exact hend
 rw [if_neg h2]
 by_cases h3 : (names.length : Int) > 300
 ·rw [if_pos h3]; exact hend
 rw [if_neg h3]
 obtain ⟨b, hb, hb2⟩ := few_eq l (k := 10000) (by decide)
 rw [hb, Option.bind_some]
 cases b with
 | false => exact hend
 | true =>
  obtain ⟨hl, hs⟩ := hb2 rfl
  have hokR : ∀ x ∈ l, OkR x := fun x hx => by
   have h := bounds_i64 (hwf x hx).2.1
   exact ⟨h.1, h.2, hs x hx⟩
  obtain ⟨z, p1, p2, p3⟩ := parse17_eq src (by omega) (k := 9999) (by omega)
  obtain ⟨y, a1, a2, a3⟩ := apply17_eq base l hl (k := 9999) (by omega)
  obtain ⟨m, m1, m2, m3⟩ := make17_eq t l hl (k := 9999) (by omega)
  obtain ⟨d, d1, d2, d3⟩ := of17_eq base names (k := 9999) (by omega)
  obtain ⟨tx, t1, t2⟩ := text17_eq l hl hokR (k := 9999) (by omega)
  have ho := ours_eq l (k := 9999) (by omega) (by omega)
  have hz := theirs_eq z.1 (k := 9999) (by omega) (by omega)
  have hd := theirs_eq d (k := 9999) (by omega) (by omega)
  have hlz : (z.1.map toR).length ≤ 1000 := by rw [List.length_map]; exact p3
  have hld : (d.map toR).length ≤ 600 := by rw [List.length_map]; exact d3
  have hsz := same17_refl (z.1.map toR) (k := 9999) (by omega) (by omega)
  have hsd := same17_refl (d.map toR) (k := 9999) (by omega) (by omega)
  have hsy := same15_refl y.1 (k := 9999) (by omega) (by omega)
  have hsm := same15_refl m.1 (k := 9999) (by omega) (by omega)
  show hornbooklaw17_DiffIs.j0 (9999 + 1) src base names l t true false = some true
  rw [hornbooklaw17_DiffIs.j0, if_neg (by decide), p1, Option.bind_some, p2, Option.bind_some, ho, Option.bind_some, a1, Option.bind_some, a2, Option.bind_some, Option.bind_some, m1, Option.bind_some, m2, Option.bind_some, if_pos rfl, hz, Option.bind_some]
  unfold mapR
  dsimp only
  rw [hsz, Option.bind_some, if_pos rfl, if_pos rfl, if_pos rfl, hsy, Option.bind_some, if_pos rfl, if_pos rfl, if_pos rfl, hsm, Option.bind_some, if_pos rfl, if_pos rfl, if_pos rfl, d1, Option.bind_some, hd, Option.bind_some, d2, Option.bind_some, hsd, Option.bind_some, if_pos rfl, Option.bind_some, t1, Option.bind_some, t2, Option.bind_some]
  simp
end Go.Proofs.YtdcldaknmenklaaGreatDoor.M
end
section
namespace Go.Proofs.YtdcldaknmenklaaGreatDoor.M
open Go Go.ChangeShapes Go.WideShapes Go.RowKit Go.Proofs.YtdcldaknmenklaaGreatDoorW.PrintWords
set_option linter.unusedVariables false
theorem weights_all {H : Type} {P : Program} {e : TypeId} {l : List (DataW H)} {y : DataW H} (hy : y ∈ l) {q : Nat} (hq : q ∈ DataW.weights P e y) : q ∈ DataW.weightsAll P e l := by
 induction l with
 | nil => cases hy
 | cons z r ih =>
  rw [DataW.weightsAll, List.mem_append]
  rcases List.mem_cons.1 hy with rfl | h
  ·exact .inl hq
  ·exact .inr (ih h)
section
variable {H α : Type} {enc : TypeId × Value → H} {P : Program} {W : World} {base : Nat} {spare : Nat → Bool} {held : Bool} {t e : TypeId}
/-- A slice's one cell, opened: its elements by their kind. -/
theorem open_cells (d : Kd α) (Q : α → Prop) (hu : P.underlying t = some (.slice e)) (hc : P.cellsOf e = d.sz)
  (he : ∀ n cs y, DataW.trod enc P W base spare held n e cs = some y → (∀ q ∈ DataW.weights P e y.1, q ≤ reachBytes) → ∃ x : α, d.K W x cs ∧ Q x)
  {n : Nat} {cs : List Value} {y : DataW H × List MemPlace} (h : DataW.trod enc P W base spare held n t cs = some y) (hw : ∀ q ∈ DataW.weights P t y.1, q ≤ reachBytes) :
  ∃ (a : Option Addr) (len cap : Nat) (l : List α), cs = [.slice a len cap] ∧ l.length = len ∧ l.length ≤ cap ∧ l.length ≤ maxLen ∧ d.C W a l.length l ∧ l.length * P.bytesOf e ≤ reachBytes ∧ ∀ x ∈ l, Q x := by
 rcases Go.Deep.open_slice hu h with ⟨rfl, rfl⟩ | ⟨a, len, cap, m, n', D, Pl, rfl, hb, hl, hm, hmm, rfl, hx⟩
 ·exact ⟨none, 0, 0, [], rfl, rfl, Nat.le_refl _, Nat.zero_le _, Kd.C_nil _ _, by simp, fun x h => by cases h⟩
 have hle : len ≤ m := by
  rw [hmm]
  split <;> omega
 have hws : ∀ i, i < len → ∀ q ∈ DataW.weights P e (D i), q ≤ reachBytes := by
  intro i hi q hq
  refine hw q ?_
  show q ∈ DataW.weights P t (DataW.slice _ _)
  rw [DataW.weights, hu]
  exact List.mem_cons_of_mem _ (List.mem_append_left _ (weights_all (List.mem_map.2 ⟨i, List.mem_range.2 hi, rfl⟩) hq))
 have each : ∀ i, i < len → ∃ x : α, (∃ cs', W.cells? base (a.add (i * P.cellsOf e)) (P.cellsOf e) = some cs' ∧ d.K W x cs') ∧ Q x := by
  intro i hi
  obtain ⟨cs', h1, h2⟩ := hx i (Nat.lt_of_lt_of_le hi hle)
  obtain ⟨x, h3, h4⟩ := he _ _ _ h2 (hws i hi)
  exact ⟨x, ⟨cs', h1, h3⟩, h4⟩
 have build : ∀ k, k ≤ len → ∃ l : List α, l.length = k ∧ ∀ i x, l[i]? = some x → (∃ cs', W.cells? base (a.add (i * P.cellsOf e)) (P.cellsOf e) = some cs' ∧ d.K W x cs') ∧ Q x := by
  intro k
  induction k with
  | zero => exact fun _ => ⟨[], rfl, fun i x h => by simp at h⟩
  | succ k ih =>
   intro hk
   obtain ⟨l, hl1, hl2⟩ := ih (by omega)
   obtain ⟨x, hx1⟩ := each k (by omega)
   refine ⟨l ++ [x], by simp [hl1], fun i z hz => ?_⟩
   rcases Nat.lt_or_ge i l.length with h0 | h0
   ·rw [List.getElem?_append_left h0] at hz
    exact hl2 i z hz
   ·rw [List.getElem?_append_right h0] at hz
    have h1 : i - l.length < 1 := by
     have := (List.getElem?_eq_some_iff.1 hz).1
     simpa using this
    have h2 : i = k := by omega
    subst h2
    have h3 : x = z := by
     rw [show i - l.length = 0 by omega] at hz
     simpa using hz
    subst h3
    exact hx1
 obtain ⟨l, hl1, hl2⟩ := build len (Nat.le_refl _)
 subst hl1
 refine ⟨some a, l.length, cap, l, rfl, rfl, hl, Nat.le_trans hl hm, ⟨rfl, Nat.le_trans (Nat.le_trans hl hm) (by decide), fun _ => ⟨a, rfl, fun j p hj => ?_⟩⟩, ?_, fun x hx' => ?_⟩
 ·obtain ⟨⟨cs', h1, h2⟩, _⟩ := hl2 j p hj
  rw [hc] at h1
  obtain ⟨_, h3, h4⟩ := World.cells?_some h1
  refine ⟨cs', h3, h2, fun i u hi => ?_⟩
  have h5 : i < d.sz := by
   have := (List.getElem?_eq_some_iff.1 hi).1
   omega
  rw [← Go.Deep.add_add, h4 i h5, hi]
 ·refine Nat.le_trans ?_ (hw ((((List.range l.length).map D).length + ((List.range (m - l.length)).map fun j => D (l.length + j)).length) * P.bytesOf e) ?_)
  ·refine Nat.mul_le_mul_right _ ?_
   simp
  ·show _ ∈ DataW.weights P t (DataW.slice _ _)
   rw [DataW.weights, hu]
   exact List.mem_cons_self
 ·obtain ⟨i, hi⟩ := List.getElem?_of_mem hx'
  exact (hl2 i x hi).2
/-- .. as an argument of a law. -/
theorem open_rows (d : Kd α) (Q : α → Prop) {a : Option Addr} {len cap : Nat} {dt : DataW H} {ps : List MemPlace} {ts : List TypeId} {ds : List (DataW H)} {j : Nat}
  (hsz : (DataW.weightsEach P ts ds).all (· ≤ reachBytes) = true) (ht : ts[j]? = some t) (hd : ds[j]? = some dt) (hu : P.underlying t = some (.slice e)) (hc : P.cellsOf e = d.sz) {B : Nat} (hB : P.bytesOf e = B)
  (he : ∀ n cs y, DataW.trod enc P W base spare held n e cs = some y → (∀ q ∈ DataW.weights P e y.1, q ≤ reachBytes) → ∃ x : α, d.K W x cs ∧ Q x)
  (h : DataW.Trod enc P W base spare held t (.slice a len cap) dt ps) :
  ∃ l : List α, l.length = len ∧ l.length ≤ cap ∧ l.length ≤ maxLen ∧ d.C W a l.length l ∧ l.length * B ≤ 140737488351232 ∧ ∀ x ∈ l, Q x := by
 obtain ⟨fuel, hf⟩ := h
 obtain ⟨a', len', cap', l, hcs, h1, h2, h3, h4, h5, h6⟩ := open_cells d Q hu hc he hf (fun q hq => by
  have := List.all_eq_true.1 hsz _ (DataW.weights_mem_each ht hd q hq)
  simpa using this)
 simp [Value.cells] at hcs
 obtain ⟨rfl, rfl, rfl⟩ := hcs
 rw [hB] at h5
 exact ⟨l, h1, h2, h3, h4, h5, h6⟩
theorem el_string (he : P.underlying e = some .string) : ∀ n cs (y : DataW H × List MemPlace), DataW.trod enc P W base spare held n e cs = some y → (∀ q ∈ DataW.weights P e y.1, q ≤ reachBytes) → ∃ x : ByteArray, Kd.string.K W x cs ∧ x.size ≤ 140737488351232 := by
 intro n cs y h hw
 obtain ⟨s, rfl, rfl, hs⟩ := DataW.trod_string he h
 refine ⟨s, rfl, ?_⟩
 have := hw s.data.toList.length (by simp [DataW.weights])
 rwa [data_length] at this
theorem el_int {k : IntKind} (he : P.underlying e = some (.int k)) : ∀ n cs (y : DataW H × List MemPlace), DataW.trod enc P W base spare held n e cs = some y → (∀ q ∈ DataW.weights P e y.1, q ≤ reachBytes) → ∃ x : Int, (Kd.int k).K W x cs ∧ (Lit.int k x).wf = true := by
 intro n cs y h hw
 obtain ⟨s, rfl, rfl, hs⟩ := DataW.trod_int he h
 exact ⟨s, rfl, hs⟩
theorem el_bool (he : P.underlying e = some .bool) : ∀ n cs (y : DataW H × List MemPlace), DataW.trod enc P W base spare held n e cs = some y → (∀ q ∈ DataW.weights P e y.1, q ≤ reachBytes) → ∃ x : Bool, Kd.bool.K W x cs ∧ True := by
 intro n cs y h hw
 obtain ⟨s, rfl, rfl⟩ := DataW.trod_bool he h
 exact ⟨s, rfl, trivial⟩
/-- A struct: fields are opened one by one; a field's cells and weights. -/
theorem struct_len {fs : Array Field} {n : Nat} {cs : List Value} {y : DataW H × List MemPlace} (ht : P.underlying t = some (.struct fs)) (h : DataW.trod enc P W base spare held n t cs = some y) {c : Nat} (hc : P.cellsOf t = c) : cs.length = c := by
 obtain ⟨xs, n', _, rfl, hl, hlen, hf⟩ := DataW.trod_struct ht h
 rw [hl, hc]
theorem struct_field {fs : Array Field} {n : Nat} {cs : List Value} {y : DataW H × List MemPlace} (ht : P.underlying t = some (.struct fs)) (h : DataW.trod enc P W base spare held n t cs = some y) (hw : ∀ q ∈ DataW.weights P t y.1, q ≤ reachBytes)
  (i : Nat) (f : Field) (hi : fs[i]? = some f) (ft : TypeId) (o s : Nat) (hft : f.type = ft) (ho : f.offset = o) (hs : P.cellsOf ft = s) :
  ∃ n' y', DataW.trod enc P W base spare held n' ft ((cs.drop o).take s) = some y' ∧ ∀ q ∈ DataW.weights P ft y'.1, q ≤ reachBytes := by
 obtain ⟨xs, n', _, rfl, hl, hlen, hf⟩ := DataW.trod_struct ht h
 have h1 := hf i f hi
 have h2 : i < xs.length := by
  rw [hlen]
  exact (Array.getElem?_eq_some_iff.1 hi).1
 rw [List.getElem?_eq_getElem h2, hft, ho, hs] at h1
 refine ⟨n', _, h1, fun q hq => hw q ?_⟩
 show q ∈ DataW.weights P t (DataW.agg _)
 rw [DataW.weights, ht]
 refine DataW.weights_mem_each (j := i) (t := ft) (d := xs[i].1) ?_ ?_ q hq
 ·rw [List.getElem?_map, Array.getElem?_toList, hi]
  exact congrArg some hft
 ·rw [List.getElem?_map, List.getElem?_eq_getElem h2]
  rfl
end
end Go.Proofs.YtdcldaknmenklaaGreatDoor.M
end
section
/- of any text, names and entries, what the program makes of them is what the document answers -/
namespace Go.Proofs.YtdcldaknmenklaaGreatDoor.diffIs
open Go Go.ChangeShapes Go.WideShapes Go.ChangeAt Go.RowKit
open Go.ChangeMaps (open_string shut_string)
set_option linter.unusedVariables false
open Go.Proofs.YtdcldaknmenklaaGreatDoorW.PrintWords
theorem own : ownKnob Tryz.prog.godebug = none := by kernel_rfl
theorem laidOut : laidOutB Tryz.prog = true := by kernel_rfl
theorem el_S34 {H : Type} {enc : TypeId × Value → H} {W : World} {base : Nat} {spare : Nat → Bool} {held : Bool} : ∀ n cs (y : DataW H × List MemPlace), DataW.trod enc Tryz.prog W base spare held n 34 cs = some y → (∀ q ∈ DataW.weights Tryz.prog 34 y.1, q ≤ reachBytes) → ∃ x : M.S34, M.k34.K W x cs ∧ (True ∧ (Lit.int .i64 x.f1).wf = true ∧ x.f2.size ≤ 140737488351232) := by
 intro n cs y h hw
 have hl := M.struct_len Tryz.underlying34 h (c := 3) (by kernel_rfl)
 obtain ⟨n0, y0, h0, w0⟩ := M.struct_field Tryz.underlying34 h hw 0 _ rfl 4 0 1 rfl rfl (by kernel_rfl)
 obtain ⟨x0, kx0, q0⟩ := (M.el_bool Tryz.underlying4) _ _ _ h0 w0
 obtain ⟨n1, y1, h1, w1⟩ := M.struct_field Tryz.underlying34 h hw 1 _ rfl 3 1 1 rfl rfl (by kernel_rfl)
 obtain ⟨x1, kx1, q1⟩ := (M.el_int Tryz.underlying3) _ _ _ h1 w1
 obtain ⟨n2, y2, h2, w2⟩ := M.struct_field Tryz.underlying34 h hw 2 _ rfl 9 2 1 rfl rfl (by kernel_rfl)
 obtain ⟨x2, kx2, q2⟩ := (M.el_string Tryz.underlying9) _ _ _ h2 w2
 have hcs : cs = (cs.drop 0).take 1 ++ ((cs.drop 1).take 1 ++ ((cs.drop 2).take 1)) := by
  match cs, hl with
  | [c0, c1, c2], _ => rfl
 exact ⟨⟨x0, x1, x2⟩, ⟨_, _, hcs, kx0, _, _, rfl, kx1, kx2⟩, q0, q1, q2⟩
set_option maxRecDepth 100000 in
theorem lifted (os : Os) (started : os.Started) (H : Type) (enc : TypeId × Value → H) :
  ReturnsInHanded {} Tryz.checked os 6 .any (fun w args => (Rows.diffIsSpec.pre enc Tryz.prog Tryz.f6 Rows.diffIsRow.domain false w args ∧ laidMetH Tryz.prog Rows.diffIsRow.laid w) ∧ sizedMet enc Tryz.prog Tryz.f6 (OpenSpec.ofChange Rows.diffIsSpec) false w args)
   (Rows.diffIsSpec.post enc Tryz.prog Tryz.f6 false true false false) := by
 refine M.returns_both (C := Tryz.checked) (X := fun w _ => laidMetH Tryz.prog Rows.diffIsRow.laid w) (fun _ _ _ hh h => h.of_heap hh) own started (by kernel_rfl) Tryz.func6
  (ChangeSpec.witness_shaped (enc := enc) (C := Tryz.checked) (os := os) (X := fun w _ => laidMetH Tryz.prog Rows.diffIsRow.laid w) false (World.laidAll Tryz.prog os Rows.diffIsRow.laid) #[.string ByteArray.empty, .slice none 0 0, .slice none 0 0, .slice none 0 0, .int .i64 0] 8 (World.laidAll_os _ _ _)
   (World.shaped_of_ZipB (by kernel_rfl) (by kernel_rfl)) (by kernel_rfl) (by kernel_rfl) (by kernel_rfl)
   (by rw [MakeChecks.laidMetH_plain _ _ _ (by kernel_rfl)]; exact laidMet_laidAll _ (by kernel_rfl) (by kernel_rfl))) ?_
 intro W base args ds gs before hval0 hW hcnd hsz0 hL hshape
 have hsz : (DataW.weightsEach Tryz.prog (Tryz.f6.params.toList ++ Rows.diffIsSpec.plain.varTypes Tryz.prog) (ds ++ gs)).all (· ≤ reachBytes) = true := hsz0
 have hval : ∀ (j : Nat) t v, Tryz.f6.params[j]? = some t → args[j]? = some v → Value.okWide Tryz.prog W .any base t v := hval0
 have hLp := hL
 rw [MakeChecks.laidMetH_plain _ _ _ (by kernel_rfl)] at hLp
 have hG : M.GW W := M.GW.of_mets (hLp.tail.tail.tail.tail) (hLp.tail.tail.tail.tail.tail) (hLp.tail.tail.tail.tail.tail.tail.tail) (hLp.tail.tail) hshape
 have hW' := hW
 obtain ⟨p, q, hA0, hV, rfl, hfz, hnd⟩ := hW
 have hA : DataW.TrodAll enc Tryz.prog W 0 (fun _ => true) true Tryz.f6.params.toList args.toList ds p := hA0
 rw [Tryz.params6] at hA hval hsz
 obtain ⟨v0, vs0, d0, ds0, p0, q0, hargs, rfl, rfl, h0, r0⟩ := trodAll_cons hA
 obtain ⟨v1, vs1, d1, ds1, p1, q1, rfl, rfl, rfl, h1, r1⟩ := trodAll_cons r0
 obtain ⟨v2, vs2, d2, ds2, p2, q2, rfl, rfl, rfl, h2, r2⟩ := trodAll_cons r1
 obtain ⟨v3, vs3, d3, ds3, p3, q3, rfl, rfl, rfl, h3, r3⟩ := trodAll_cons r2
 obtain ⟨v4, vs4, d4, ds4, p4, q4, rfl, rfl, rfl, h4, r4⟩ := trodAll_cons r3
 obtain ⟨rfl, rfl, rfl⟩ := trodAll_nil r4
 obtain rfl : args = #[v0, v1, v2, v3, v4] := by cases args; simp_all
 obtain ⟨rfl, rfl⟩ := trodVars_none hV
 obtain ⟨a0, rfl, rfl, rfl, y0⟩ := open_string Tryz.underlying9 (hval 0 9 v0 rfl rfl) h0
 have w0 : a0.size ≤ 140737488351232 := by
  have z := sized_string hsz (j := 0) (t := 9) rfl rfl
  rw [Array.length_toList] at z
  exact z
 obtain ⟨a1, len1, cap1, rfl⟩ := okWide_slice Tryz.underlying25 (hval 1 25 v1 rfl rfl)
 have k1 := h1
 have lt1 : ∀ x ∈ p1, x.block < W.heap.size := by obtain ⟨m, hm⟩ := k1; exact DataW.trod_lt m _ _ _ hm
 obtain ⟨l1, el1, hc1, w1, hr1, y1, q1⟩ := M.open_rows Kd.string (fun z => z.size ≤ 140737488351232) hsz (j := 1) (t := 25) rfl rfl Tryz.underlying25 (by kernel_rfl) (B := 16) (by kernel_rfl) (M.el_string Tryz.underlying9) h1
 subst el1
 obtain ⟨a2, len2, cap2, rfl⟩ := okWide_slice Tryz.underlying25 (hval 2 25 v2 rfl rfl)
 have k2 := h2
 have lt2 : ∀ x ∈ p2, x.block < W.heap.size := by obtain ⟨m, hm⟩ := k2; exact DataW.trod_lt m _ _ _ hm
 obtain ⟨l2, el2, hc2, w2, hr2, y2, q2⟩ := M.open_rows Kd.string (fun z => z.size ≤ 140737488351232) hsz (j := 2) (t := 25) rfl rfl Tryz.underlying25 (by kernel_rfl) (B := 16) (by kernel_rfl) (M.el_string Tryz.underlying9) h2
 subst el2
 obtain ⟨a3, len3, cap3, rfl⟩ := okWide_slice Tryz.underlying22 (hval 3 22 v3 rfl rfl)
 have k3 := h3
 have lt3 : ∀ x ∈ p3, x.block < W.heap.size := by obtain ⟨m, hm⟩ := k3; exact DataW.trod_lt m _ _ _ hm
 obtain ⟨l3, el3, hc3, w3, hr3, y3, q3⟩ := M.open_rows M.k34 (fun z => (True ∧ (Lit.int .i64 z.f1).wf = true ∧ z.f2.size ≤ 140737488351232)) hsz (j := 3) (t := 22) rfl rfl Tryz.underlying22 (by kernel_rfl) (B := 32) (by kernel_rfl) el_S34 h3
 subst el3
 obtain ⟨a4, rfl, rfl, rfl, w4⟩ := open_int Tryz.underlying3 (hval 4 3 v4 rfl rfl) h4
 clear hA0 hval0 hsz0 hsz
 refine (M.hornbooklaw17_DiffIs.walk M.DiffIs a0 a1 cap1 l1 a2 cap2 l2 a3 cap3 l3 a4 W w0 hr1 hc1 w1 y1 q1 hr2 hc2 w2 y2 q2 hr3 hc3 w3 y3 q3 w4 hG).mono fun e W' ⟨he, bel⟩ => ?_
 subst he
 exact ⟨_, rfl, _, _, _, [], _, [], hW', trodAll_mk1 (shut_bool Tryz.underlying4 _), (trodAll_cons_mk (shut_string Tryz.underlying9 y0) (trodAll_cons_mk (Below.trod laidOut (by kernel_rfl) (of_decide_eq_true (by kernel_rfl)) k1 bel lt1) (trodAll_cons_mk (Below.trod laidOut (by kernel_rfl) (of_decide_eq_true (by kernel_rfl)) k2 bel lt2) (trodAll_cons_mk (Below.trod laidOut (by kernel_rfl) (of_decide_eq_true (by kernel_rfl)) k3 bel lt3) (trodAll_cons_mk (shut_int Tryz.underlying3 w4) trodAll_mk0))))), rfl, bel.frame _, fun h => by cases h⟩
theorem over : Rows.diffIsRow.holds Tryz.pinned (OpenSpec.ofChange Rows.diffIsSpec) :=
 OpenClaim.holds_of_wide 6 Tryz.f6 rfl rfl rfl rfl rfl rfl rfl ⟨rfl, rfl, rfl, rfl, rfl⟩ rfl rfl rfl rfl rfl (by kernel_rfl) Tryz.func6 (by kernel_rfl)
  (of_decide_eq_true (by kernel_rfl)) (by unfold Func.isWrapper; first | (rw [if_pos (by decide +kernel)]; kernel_rfl) | (rw [if_neg (by decide +kernel)]; exact ⟨rfl, rfl⟩))
  (fun os started H enc _ => lifted os started H enc)
theorem proved : Rows.DiffIsSaid := over
theorem card : Rows.DiffIsCardSaid :=
 Claim7.holds_tied_plain_at .later [] [.data, .data, .data, .data, .sentinel, .sentinel, .listed, .data, .pinned] true (true, "0afd4bafc3317950a78f067166de83fbf789a8e3cacd5b6c49203b0034216e5a") true
  proved (fun _ h => by cases h) (by kernel_rfl) (fun _ h => by cases h) diffIs_row_tie rfl ⟨rfl, rfl⟩ (by kernel_rfl) rfl
  (fun f fn hf hfn => by
   obtain rfl : f = 6 := Option.some.inj ((show Tryz.prog.funcNamed "hornbook/hornbooklaw17.DiffIs" = some 6 by kernel_rfl).symm.trans hf) |>.symm
   obtain rfl : fn = Tryz.f6 := (Option.some.inj (Tryz.func6.symm.trans hfn)).symm
   exact ⟨by kernel_rfl, fun j t ht => by
    rw [Tryz.params6] at ht
    have hm : t ∈ [9, 25, 25, 22, 3] := by simpa using Array.mem_of_getElem? ht
    have hall : ([9, 25, 25, 22, 3].all fun u => !Tryz.prog.wantsStandIn u) = true := by kernel_rfl
    exact (show Tryz.prog.wantsStandIn t = false by simpa using List.all_eq_true.1 hall t hm)⟩)
  (by kernel_rfl)
end Go.Proofs.YtdcldaknmenklaaGreatDoor.diffIs
namespace Go.Proofs.YtdcldaknmenklaaGreatDoor
/-- The statement, under a short name, for the claim. -/
theorem diffIs_holds : Rows.DiffIsCardSaid := diffIs.card
#print axioms diffIs_holds
end Go.Proofs.YtdcldaknmenklaaGreatDoor
end
