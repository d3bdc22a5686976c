/- A byte and its least twin have one name, of every encoding and name. -/
/- Packed by this session's program hbpack.py out of this claim's own texts (Wr, Lr, Q16, Q50, Q51, Q52, Q53, Q35, Q21, Ra, Pe0, Pe, Q4, Ix, PureEncBack, LawEncBack): the same declarations, without those that the claim does not use. -/
import Derived.Test.YtniehnkiicliaaaDoorPkEncBack3
import Derived.HandedShaped
import Derived.ProofKit
import Derived.LaidMore
import Derived.Lay
import Derived.Stop.Joined
import Derived.Shelf.Vars
import Derived.Stop.LaidErr
import Derived.Test.YtniehnkiicliaaaDoorRows
import Derived.Laws.BitsLemmas
import Derived.Lib.Strings
import Derived.Lib.IndexBytes
import Derived.WalkKit
import Derived.OpenShut
import Derived.ShutString
import Derived.ChangeOld
import Derived.Below
import Derived.SizedLaws
import Derived.SevenTiedAt
import Derived.Test.YtniehnkiicliaaaDoorCards
import Derived.Test.YtniehnkiicliaaaDoorTie
section
namespace Go.Proofs.YtniehnkiicliaaaDoor.M
open Go Go.RowKit
variable {H : Type} {enc : TypeId × Value → H}
theorem returns_both {a : Assume} {C : Checked} {os : Os} {f : FuncId} {fn : Func} {s : ChangeSpec} {conds : List PathCond} {apart fresh handsOn again : Bool} {X : World → Array Value → Prop}
    (hX : ∀ (w w' : World) (args : Array Value), w.heap = w'.heap → X w args → X w' args)
    (own : ownKnob C.prog.godebug = none) (started : os.Started) (noInit : C.prog.inits.idxOf? f = none) (hfn : C.prog.funcs[f]? = some fn)
    (witness : ∃ (w : World) (tape : Tape) (i : Input), w.os = os ∧ (w.forCall tape i).Shaped C.prog ∧ i.vars = [] ∧ Input.okWide C.prog (w.forCall tape i) .any w.heap.size f i ∧
      ((s.pre enc C.prog fn conds apart (w.forCall tape i).memory i.args ∧ X (w.forCall tape i).memory i.args) ∧ sizedMet enc C.prog fn (OpenSpec.ofChange s) apart (w.forCall tape i).memory i.args) ∧ a.holds C.prog (lone (Frame.enter C.prog f i.args .normal) [] (w.forCall tape i)))
    (contract : ∀ (W : World) (base : Nat) (args : Array Value) (ds gs : List (DataW H)) (before : List MemPlace),
      (∀ (j : Nat) t v, fn.params[j]? = some t → args[j]? = some v → Value.okWide C.prog W .any base t v) →
      DataW.Whole enc C.prog fn.params.toList s.vars apart W args.toList ds gs before →
      conds.all (PathCond.test C.prog ⟨fn.params.toList, ds, s.plain.varTypes C.prog, gs⟩) = true →
      (DataW.weightsEach C.prog (fn.params.toList ++ s.plain.varTypes C.prog) (ds ++ gs)).all (· ≤ reachBytes) = true → X W args → W.ShapedOpen C.prog →
      Calls C.prog f args W fun e W' => ∃ v, e = .returned v ∧ s.post enc C.prog fn apart fresh handsOn again W args v W') :
    ReturnsInHanded a C os f .any (fun w args => (s.pre enc C.prog fn conds apart w args ∧ X w args) ∧ sizedMet enc C.prog fn (OpenSpec.ofChange s) apart w args) (s.post enc C.prog fn apart fresh handsOn again) := by
  refine returnsInHanded_of_calls own started noInit witness ?_
  intro w tape i _ hsh _ hok hpre hholds
  obtain ⟨_, _, _, fn', hfn', _, _, _, _, hval⟩ := hok
  have e : fn' = fn := Option.some.inj (hfn'.symm.trans hfn)
  subst e
  obtain ⟨⟨⟨ds, gs, before, hw, hc⟩, hx⟩, hz⟩ := hpre
  have hw' := DataW.Whole.of_heap (w' := w.forCall tape i) (by rfl) hw
  refine (contract (w.forCall tape i) w.heap.size i.args ds gs before hval hw' hc (hz.weights hw) (hX _ _ _ (by rfl) hx) hsh).mono fun e W' ⟨v, he, hp⟩ => ?_
  subst he
  exact ChangeSpec.post_blind hp
theorem gw_star : "*" ++ "errors.errorString" = "*errors.errorString" := by decide
theorem gw_row (u : TypeId) (h : Tryd.prog.typeName? 3 u = some "*errors.errorString") : u = 142 :=
  typeName_ptr_named (nm := "errors.errorString") (by rw [gw_star]; kernel_rfl) (by kernel_rfl) (by decide) u (by rw [gw_star]; exact h)
/-- Out of a row's 'laid', from the two sentinels on, and the world's shape. -/
theorem GW.of_mets {r1 r2 : List (String × DataW Unit)} {t1 t2 : List UInt8} {W : World}
    (h1 : laidMet Tryd.prog (("strconv.ErrRange", .iface "*errors.errorString" (.ptr (.agg [.lit (.string t1)]))) :: r1) W)
    (h2 : laidMet Tryd.prog (("strconv.ErrSyntax", .iface "*errors.errorString" (.ptr (.agg [.lit (.string t2)]))) :: r2) W)
    {r3 : List (String × DataW Unit)} (h3 : laidMet Tryd.prog (("strings.asciiSpace", Rows.laid_strings_asciiSpace) :: r3) W)
    (hsh : W.ShapedOpen Tryd.prog) : GW W := by
  obtain ⟨a0, s0, hv0, -, -, -⟩ := laid_sentinel h1 (g := 4) (ti := 64) (by kernel_rfl) (by kernel_rfl) Tryd.underlying64 gw_row Tryd.underlying142 Tryd.underlying144 rfl rfl Tryd.underlying9 (by kernel_rfl) (by kernel_rfl)
  obtain ⟨a1, s1, hv1, -, -, -⟩ := laid_sentinel h2 (g := 3) (ti := 64) (by kernel_rfl) (by kernel_rfl) Tryd.underlying64 gw_row Tryd.underlying142 Tryd.underlying144 rfl rfl Tryd.underlying9 (by kernel_rfl) (by kernel_rfl)
  have c0 := World.var?_cell (P := Tryd.prog) (g := 4) (by kernel_rfl) hv0 0
  have c1 := World.var?_cell (P := Tryd.prog) (g := 3) (by kernel_rfl) hv1 0
  obtain ⟨m, hm⟩ := cell_of_shapedOpen_int (P := Tryd.prog) (g := 2) (t := 3) (zero := #[.int .i64 0]) hsh (of_decide_eq_true (by kernel_rfl)) (by kernel_rfl) rfl (by kernel_rfl) (by kernel_rfl) Tryd.underlying3
  have e3 : (Rows.laid_strings_asciiSpace : DataW Unit) = Lib.tabData .u8 Lib.asciiSpaceTab := by kernel_rfl
  rw [e3] at h3
  have hsp : Lib.TabIs Tryd.prog W "strings.asciiSpace" .u8 Lib.asciiSpaceTab := Lib.tabIs_of_head (g := 0) (by kernel_rfl) (by kernel_rfl) Tryd.underlying79 Tryd.underlying5 (by kernel_rfl) (by kernel_rfl) h3
  exact ⟨⟨a0, by simpa using c0⟩, ⟨a1, by simpa using c1⟩, ⟨m, hm⟩, hsp⟩
end Go.Proofs.YtniehnkiicliaaaDoor.M
end
section
namespace Go.Proofs.YtniehnkiicliaaaDoor.M
open Go.RowKit Go.Proofs.YtniehnkiicliaaaDoorW.PrintWords
set_option linter.unusedVariables false
theorem le_rounds {α : Type} {g : Nat → Option α} (hm : ∀ k, LeO (g k) (g (k + 1))) {k : Nat} {r : α} (h : g k = some r) : ∀ {m : Nat}, k ≤ m → g m = some r := by
  intro m hk
  induction m with
  | zero => obtain rfl : k = 0 := by omega
            exact h
  | succ m ih =>
    by_cases e : k = m + 1
    · subst e; exact h
    · exact hm m r (ih (by omega))
theorem ba_eta (a : ByteArray) : a = ⟨a.data.toList.toArray⟩ := by cases a; rfl
theorem toList_data (a : ByteArray) : a.toList = a.data.toList := ByteArray.toList_eq a
theorem bt_get (a : ByteArray) (i : Nat) (h : i < a.size) : bt a (i : Int) = (a.data.toList[i]'(by simpa using h)).toNat := by
  unfold bt
  simp only [Int.toNat_natCast, h, dif_pos]
  rfl
theorem ba_list (l : List UInt8) : (⟨l.toArray⟩ : ByteArray).data.toList = l := by simp
theorem ba_toList (l : List UInt8) : (⟨l.toArray⟩ : ByteArray).toList = l := by rw [toList_data, ba_list]
theorem size_list (s : ByteArray) : s.size = s.data.toList.length := rfl
theorem ext_mid (s : ByteArray) (i j : Nat) : s.extract i j = ⟨((s.data.toList.drop i).take (j - i)).toArray⟩ := by
  rw [ba_eta (s.extract i j), Lib.extract_data]
theorem wrap_small {x : Int} (h0 : 0 ≤ x) (h1 : x < 9223372036854775808) : wrap64 x = x := by unfold wrap64; omega
end Go.Proofs.YtniehnkiicliaaaDoor.M
end
section
/- Laid by this session's program hbprint.py out of the translation: the function hornbook/hornbookref15.Sane and its contract. -/
namespace Go.Proofs.YtniehnkiicliaaaDoor.M
open Go.RowKit Go.Proofs.YtniehnkiicliaaaDoorW.PrintWords Go.Proofs.YtniehnkiicliaaaDoorW.PrintLast Go.Proofs.YtniehnkiicliaaaDoorW.PrintMore
attribute [local go_sem] max2_int min2_int max_two min_two max_three min_three max_four min_four
set_option linter.unusedVariables false
set_option linter.unusedSimpArgs false
def hornbookref15_Sane.f (a0 : Int) : Option (Bool) := if a0 ≥ 0 then (some (decide (a0 ≤ 3))) else (some false)
end Go.Proofs.YtniehnkiicliaaaDoor.M
end
section
/- Laid by this session's program hbprint.py out of the translation: the function hornbook/hornbookref15.standard and its contract. -/
namespace Go.Proofs.YtniehnkiicliaaaDoor.M
open Go.RowKit Go.Proofs.YtniehnkiicliaaaDoorW.PrintWords Go.Proofs.YtniehnkiicliaaaDoorW.PrintLast Go.Proofs.YtniehnkiicliaaaDoorW.PrintMore
attribute [local go_sem] max2_int min2_int max_two min_two max_three min_three max_four min_four
set_option linter.unusedVariables false
set_option linter.unusedSimpArgs false
def hornbookref15_standard.f  : Option (ByteArray) := some (⟨#[115, 112, 97, 99, 101, 32, 101, 120, 99, 108, 97, 109, 32, 113, 117, 111, 116, 101, 100, 98, 108, 32, 110, 117, 109, 98, 101, 114, 115, 105, 103, 110, 32, 100, 111, 108, 108, 97, 114, 32, 112, 101, 114, 99, 101, 110, 116, 32, 97, 109, 112, 101, 114, 115, 97, 110, 100, 32, 113, 117, 111, 116, 101, 114, 105, 103, 104, 116, 32, 112, 97, 114, 101, 110, 108, 101, 102, 116, 32, 112, 97, 114, 101, 110, 114, 105, 103, 104, 116, 32, 97, 115, 116, 101, 114, 105, 115, 107, 32, 112, 108, 117, 115, 32, 99, 111, 109, 109, 97, 32, 104, 121, 112, 104, 101, 110, 32, 112, 101, 114, 105, 111, 100, 32, 115, 108, 97, 115, 104, 32, 122, 101, 114, 111, 32, 111, 110, 101, 32, 116, 119, 111, 32, 116, 104, 114, 101, 101, 32, 102, 111, 117, 114, 32, 102, 105, 118, 101, 32, 115, 105, 120, 32, 115, 101, 118, 101, 110, 32, 101, 105, 103, 104, 116, 32, 110, 105, 110, 101, 32, 99, 111, 108, 111, 110, 32, 115, 101, 109, 105, 99, 111, 108, 111, 110, 32, 108, 101, 115, 115, 32, 101, 113, 117, 97, 108, 32, 103, 114, 101, 97, 116, 101, 114, 32, 113, 117, 101, 115, 116, 105, 111, 110, 32, 97, 116, 32, 65, 32, 66, 32, 67, 32, 68, 32, 69, 32, 70, 32, 71, 32, 72, 32, 73, 32, 74, 32, 75, 32, 76, 32, 77, 32, 78, 32, 79, 32, 80, 32, 81, 32, 82, 32, 83, 32, 84, 32, 85, 32, 86, 32, 87, 32, 88, 32, 89, 32, 90, 32, 98, 114, 97, 99, 107, 101, 116, 108, 101, 102, 116, 32, 98, 97, 99, 107, 115, 108, 97, 115, 104, 32, 98, 114, 97, 99, 107, 101, 116, 114, 105, 103, 104, 116, 32, 97, 115, 99, 105, 105, 99, 105, 114, 99, 117, 109, 32, 117, 110, 100, 101, 114, 115, 99, 111, 114, 101, 32, 113, 117, 111, 116, 101, 108, 101, 102, 116, 32, 97, 32, 98, 32, 99, 32, 100, 32, 101, 32, 102, 32, 103, 32, 104, 32, 105, 32, 106, 32, 107, 32, 108, 32, 109, 32, 110, 32, 111, 32, 112, 32, 113, 32, 114, 32, 115, 32, 116, 32, 117, 32, 118, 32, 119, 32, 120, 32, 121, 32, 122, 32, 98, 114, 97, 99, 101, 108, 101, 102, 116, 32, 98, 97, 114, 32, 98, 114, 97, 99, 101, 114, 105, 103, 104, 116, 32, 97, 115, 99, 105, 105, 116, 105, 108, 100, 101, 32, 45, 32, 45, 32, 45, 32, 45, 32, 45, 32, 45, 32, 45, 32, 45, 32, 45, 32, 45, 32, 45, 32, 45, 32, 45, 32, 45, 32, 45, 32, 45, 32, 45, 32, 45, 32, 45, 32, 45, 32, 45, 32, 45, 32, 45, 32, 45, 32, 45, 32, 45, 32, 45, 32, 45, 32, 45, 32, 45, 32, 45, 32, 45, 32, 45, 32, 45, 32, 101, 120, 99, 108, 97, 109, 100, 111, 119, 110, 32, 99, 101, 110, 116, 32, 115, 116, 101, 114, 108, 105, 110, 103, 32, 102, 114, 97, 99, 116, 105, 111, 110, 32, 121, 101, 110, 32, 102, 108, 111, 114, 105, 110, 32, 115, 101, 99, 116, 105, 111, 110, 32, 99, 117, 114, 114, 101, 110, 99, 121, 32, 113, 117, 111, 116, 101, 115, 105, 110, 103, 108, 101, 32, 113, 117, 111, 116, 101, 100, 98, 108, 108, 101, 102, 116, 32, 103, 117, 105, 108, 108, 101, 109, 111, 116, 108, 101, 102, 116, 32, 103, 117, 105, 108, 115, 105, 110, 103, 108, 108, 101, 102, 116, 32, 103, 117, 105, 108, 115, 105, 110, 103, 108, 114, 105, 103, 104, 116, 32, 102, 105, 32, 102, 108, 32, 45, 32, 101, 110, 100, 97, 115, 104, 32, 100, 97, 103, 103, 101, 114, 32, 100, 97, 103, 103, 101, 114, 100, 98, 108, 32, 112, 101, 114, 105, 111, 100, 99, 101, 110, 116, 101, 114, 101, 100, 32, 45, 32, 112, 97, 114, 97, 103, 114, 97, 112, 104, 32, 98, 117, 108, 108, 101, 116, 32, 113, 117, 111, 116, 101, 115, 105, 110, 103, 108, 98, 97, 115, 101, 32, 113, 117, 111, 116, 101, 100, 98, 108, 98, 97, 115, 101, 32, 113, 117, 111, 116, 101, 100, 98, 108, 114, 105, 103, 104, 116, 32, 103, 117, 105, 108, 108, 101, 109, 111, 116, 114, 105, 103, 104, 116, 32, 101, 108, 108, 105, 112, 115, 105, 115, 32, 112, 101, 114, 116, 104, 111, 117, 115, 97, 110, 100, 32, 45, 32, 113, 117, 101, 115, 116, 105, 111, 110, 100, 111, 119, 110, 32, 45, 32, 103, 114, 97, 118, 101, 32, 97, 99, 117, 116, 101, 32, 99, 105, 114, 99, 117, 109, 102, 108, 101, 120, 32, 116, 105, 108, 100, 101, 32, 109, 97, 99, 114, 111, 110, 32, 98, 114, 101, 118, 101, 32, 100, 111, 116, 97, 99, 99, 101, 110, 116, 32, 100, 105, 101, 114, 101, 115, 105, 115, 32, 45, 32, 114, 105, 110, 103, 32, 99, 101, 100, 105, 108, 108, 97, 32, 45, 32, 104, 117, 110, 103, 97, 114, 117, 109, 108, 97, 117, 116, 32, 111, 103, 111, 110, 101, 107, 32, 99, 97, 114, 111, 110, 32, 101, 109, 100, 97, 115, 104, 32, 45, 32, 45, 32, 45, 32, 45, 32, 45, 32, 45, 32, 45, 32, 45, 32, 45, 32, 45, 32, 45, 32, 45, 32, 45, 32, 45, 32, 45, 32, 45, 32, 65, 69, 32, 45, 32, 111, 114, 100, 102, 101, 109, 105, 110, 105, 110, 101, 32, 45, 32, 45, 32, 45, 32, 45, 32, 76, 115, 108, 97, 115, 104, 32, 79, 115, 108, 97, 115, 104, 32, 79, 69, 32, 111, 114, 100, 109, 97, 115, 99, 117, 108, 105, 110, 101, 32, 45, 32, 45, 32, 45, 32, 45, 32, 45, 32, 97, 101, 32, 45, 32, 45, 32, 45, 32, 100, 111, 116, 108, 101, 115, 115, 105, 32, 45, 32, 45, 32, 108, 115, 108, 97, 115, 104, 32, 111, 115, 108, 97, 115, 104, 32, 111, 101, 32, 103, 101, 114, 109, 97, 110, 100, 98, 108, 115, 32, 45, 32, 45, 32, 45, 32, 45, 32]⟩ : ByteArray)
end Go.Proofs.YtniehnkiicliaaaDoor.M
end
section
/- Laid by this session's program hbprint.py out of the translation: the function hornbook/hornbookref15.win and its contract. -/
namespace Go.Proofs.YtniehnkiicliaaaDoor.M
open Go.RowKit Go.Proofs.YtniehnkiicliaaaDoorW.PrintWords Go.Proofs.YtniehnkiicliaaaDoorW.PrintLast Go.Proofs.YtniehnkiicliaaaDoorW.PrintMore
attribute [local go_sem] max2_int min2_int max_two min_two max_three min_three max_four min_four
set_option linter.unusedVariables false
set_option linter.unusedSimpArgs false
def hornbookref15_win.f  : Option (ByteArray) := some (⟨#[115, 112, 97, 99, 101, 32, 101, 120, 99, 108, 97, 109, 32, 113, 117, 111, 116, 101, 100, 98, 108, 32, 110, 117, 109, 98, 101, 114, 115, 105, 103, 110, 32, 100, 111, 108, 108, 97, 114, 32, 112, 101, 114, 99, 101, 110, 116, 32, 97, 109, 112, 101, 114, 115, 97, 110, 100, 32, 113, 117, 111, 116, 101, 115, 105, 110, 103, 108, 101, 32, 112, 97, 114, 101, 110, 108, 101, 102, 116, 32, 112, 97, 114, 101, 110, 114, 105, 103, 104, 116, 32, 97, 115, 116, 101, 114, 105, 115, 107, 32, 112, 108, 117, 115, 32, 99, 111, 109, 109, 97, 32, 104, 121, 112, 104, 101, 110, 32, 112, 101, 114, 105, 111, 100, 32, 115, 108, 97, 115, 104, 32, 122, 101, 114, 111, 32, 111, 110, 101, 32, 116, 119, 111, 32, 116, 104, 114, 101, 101, 32, 102, 111, 117, 114, 32, 102, 105, 118, 101, 32, 115, 105, 120, 32, 115, 101, 118, 101, 110, 32, 101, 105, 103, 104, 116, 32, 110, 105, 110, 101, 32, 99, 111, 108, 111, 110, 32, 115, 101, 109, 105, 99, 111, 108, 111, 110, 32, 108, 101, 115, 115, 32, 101, 113, 117, 97, 108, 32, 103, 114, 101, 97, 116, 101, 114, 32, 113, 117, 101, 115, 116, 105, 111, 110, 32, 97, 116, 32, 65, 32, 66, 32, 67, 32, 68, 32, 69, 32, 70, 32, 71, 32, 72, 32, 73, 32, 74, 32, 75, 32, 76, 32, 77, 32, 78, 32, 79, 32, 80, 32, 81, 32, 82, 32, 83, 32, 84, 32, 85, 32, 86, 32, 87, 32, 88, 32, 89, 32, 90, 32, 98, 114, 97, 99, 107, 101, 116, 108, 101, 102, 116, 32, 98, 97, 99, 107, 115, 108, 97, 115, 104, 32, 98, 114, 97, 99, 107, 101, 116, 114, 105, 103, 104, 116, 32, 97, 115, 99, 105, 105, 99, 105, 114, 99, 117, 109, 32, 117, 110, 100, 101, 114, 115, 99, 111, 114, 101, 32, 103, 114, 97, 118, 101, 32, 97, 32, 98, 32, 99, 32, 100, 32, 101, 32, 102, 32, 103, 32, 104, 32, 105, 32, 106, 32, 107, 32, 108, 32, 109, 32, 110, 32, 111, 32, 112, 32, 113, 32, 114, 32, 115, 32, 116, 32, 117, 32, 118, 32, 119, 32, 120, 32, 121, 32, 122, 32, 98, 114, 97, 99, 101, 108, 101, 102, 116, 32, 98, 97, 114, 32, 98, 114, 97, 99, 101, 114, 105, 103, 104, 116, 32, 97, 115, 99, 105, 105, 116, 105, 108, 100, 101, 32, 98, 117, 108, 108, 101, 116, 32, 69, 117, 114, 111, 32, 98, 117, 108, 108, 101, 116, 32, 113, 117, 111, 116, 101, 115, 105, 110, 103, 108, 98, 97, 115, 101, 32, 102, 108, 111, 114, 105, 110, 32, 113, 117, 111, 116, 101, 100, 98, 108, 98, 97, 115, 101, 32, 101, 108, 108, 105, 112, 115, 105, 115, 32, 100, 97, 103, 103, 101, 114, 32, 100, 97, 103, 103, 101, 114, 100, 98, 108, 32, 99, 105, 114, 99, 117, 109, 102, 108, 101, 120, 32, 112, 101, 114, 116, 104, 111, 117, 115, 97, 110, 100, 32, 83, 99, 97, 114, 111, 110, 32, 103, 117, 105, 108, 115, 105, 110, 103, 108, 108, 101, 102, 116, 32, 79, 69, 32, 98, 117, 108, 108, 101, 116, 32, 90, 99, 97, 114, 111, 110, 32, 98, 117, 108, 108, 101, 116, 32, 98, 117, 108, 108, 101, 116, 32, 113, 117, 111, 116, 101, 108, 101, 102, 116, 32, 113, 117, 111, 116, 101, 114, 105, 103, 104, 116, 32, 113, 117, 111, 116, 101, 100, 98, 108, 108, 101, 102, 116, 32, 113, 117, 111, 116, 101, 100, 98, 108, 114, 105, 103, 104, 116, 32, 98, 117, 108, 108, 101, 116, 32, 101, 110, 100, 97, 115, 104, 32, 101, 109, 100, 97, 115, 104, 32, 116, 105, 108, 100, 101, 32, 116, 114, 97, 100, 101, 109, 97, 114, 107, 32, 115, 99, 97, 114, 111, 110, 32, 103, 117, 105, 108, 115, 105, 110, 103, 108, 114, 105, 103, 104, 116, 32, 111, 101, 32, 98, 117, 108, 108, 101, 116, 32, 122, 99, 97, 114, 111, 110, 32, 89, 100, 105, 101, 114, 101, 115, 105, 115, 32, 115, 112, 97, 99, 101, 32, 101, 120, 99, 108, 97, 109, 100, 111, 119, 110, 32, 99, 101, 110, 116, 32, 115, 116, 101, 114, 108, 105, 110, 103, 32, 99, 117, 114, 114, 101, 110, 99, 121, 32, 121, 101, 110, 32, 98, 114, 111, 107, 101, 110, 98, 97, 114, 32, 115, 101, 99, 116, 105, 111, 110, 32, 100, 105, 101, 114, 101, 115, 105, 115, 32, 99, 111, 112, 121, 114, 105, 103, 104, 116, 32, 111, 114, 100, 102, 101, 109, 105, 110, 105, 110, 101, 32, 103, 117, 105, 108, 108, 101, 109, 111, 116, 108, 101, 102, 116, 32, 108, 111, 103, 105, 99, 97, 108, 110, 111, 116, 32, 104, 121, 112, 104, 101, 110, 32, 114, 101, 103, 105, 115, 116, 101, 114, 101, 100, 32, 109, 97, 99, 114, 111, 110, 32, 100, 101, 103, 114, 101, 101, 32, 112, 108, 117, 115, 109, 105, 110, 117, 115, 32, 116, 119, 111, 115, 117, 112, 101, 114, 105, 111, 114, 32, 116, 104, 114, 101, 101, 115, 117, 112, 101, 114, 105, 111, 114, 32, 97, 99, 117, 116, 101, 32, 109, 117, 32, 112, 97, 114, 97, 103, 114, 97, 112, 104, 32, 112, 101, 114, 105, 111, 100, 99, 101, 110, 116, 101, 114, 101, 100, 32, 99, 101, 100, 105, 108, 108, 97, 32, 111, 110, 101, 115, 117, 112, 101, 114, 105, 111, 114, 32, 111, 114, 100, 109, 97, 115, 99, 117, 108, 105, 110, 101, 32, 103, 117, 105, 108, 108, 101, 109, 111, 116, 114, 105, 103, 104, 116, 32, 111, 110, 101, 113, 117, 97, 114, 116, 101, 114, 32, 111, 110, 101, 104, 97, 108, 102, 32, 116, 104, 114, 101, 101, 113, 117, 97, 114, 116, 101, 114, 115, 32, 113, 117, 101, 115, 116, 105, 111, 110, 100, 111, 119, 110, 32, 65, 103, 114, 97, 118, 101, 32, 65, 97, 99, 117, 116, 101, 32, 65, 99, 105, 114, 99, 117, 109, 102, 108, 101, 120, 32, 65, 116, 105, 108, 100, 101, 32, 65, 100, 105, 101, 114, 101, 115, 105, 115, 32, 65, 114, 105, 110, 103, 32, 65, 69, 32, 67, 99, 101, 100, 105, 108, 108, 97, 32, 69, 103, 114, 97, 118, 101, 32, 69, 97, 99, 117, 116, 101, 32, 69, 99, 105, 114, 99, 117, 109, 102, 108, 101, 120, 32, 69, 100, 105, 101, 114, 101, 115, 105, 115, 32, 73, 103, 114, 97, 118, 101, 32, 73, 97, 99, 117, 116, 101, 32, 73, 99, 105, 114, 99, 117, 109, 102, 108, 101, 120, 32, 73, 100, 105, 101, 114, 101, 115, 105, 115, 32, 69, 116, 104, 32, 78, 116, 105, 108, 100, 101, 32, 79, 103, 114, 97, 118, 101, 32, 79, 97, 99, 117, 116, 101, 32, 79, 99, 105, 114, 99, 117, 109, 102, 108, 101, 120, 32, 79, 116, 105, 108, 100, 101, 32, 79, 100, 105, 101, 114, 101, 115, 105, 115, 32, 109, 117, 108, 116, 105, 112, 108, 121, 32, 79, 115, 108, 97, 115, 104, 32, 85, 103, 114, 97, 118, 101, 32, 85, 97, 99, 117, 116, 101, 32, 85, 99, 105, 114, 99, 117, 109, 102, 108, 101, 120, 32, 85, 100, 105, 101, 114, 101, 115, 105, 115, 32, 89, 97, 99, 117, 116, 101, 32, 84, 104, 111, 114, 110, 32, 103, 101, 114, 109, 97, 110, 100, 98, 108, 115, 32, 97, 103, 114, 97, 118, 101, 32, 97, 97, 99, 117, 116, 101, 32, 97, 99, 105, 114, 99, 117, 109, 102, 108, 101, 120, 32, 97, 116, 105, 108, 100, 101, 32, 97, 100, 105, 101, 114, 101, 115, 105, 115, 32, 97, 114, 105, 110, 103, 32, 97, 101, 32, 99, 99, 101, 100, 105, 108, 108, 97, 32, 101, 103, 114, 97, 118, 101, 32, 101, 97, 99, 117, 116, 101, 32, 101, 99, 105, 114, 99, 117, 109, 102, 108, 101, 120, 32, 101, 100, 105, 101, 114, 101, 115, 105, 115, 32, 105, 103, 114, 97, 118, 101, 32, 105, 97, 99, 117, 116, 101, 32, 105, 99, 105, 114, 99, 117, 109, 102, 108, 101, 120, 32, 105, 100, 105, 101, 114, 101, 115, 105, 115, 32, 101, 116, 104, 32, 110, 116, 105, 108, 100, 101, 32, 111, 103, 114, 97, 118, 101, 32, 111, 97, 99, 117, 116, 101, 32, 111, 99, 105, 114, 99, 117, 109, 102, 108, 101, 120, 32, 111, 116, 105, 108, 100, 101, 32, 111, 100, 105, 101, 114, 101, 115, 105, 115, 32, 100, 105, 118, 105, 100, 101, 32, 111, 115, 108, 97, 115, 104, 32, 117, 103, 114, 97, 118, 101, 32, 117, 97, 99, 117, 116, 101, 32, 117, 99, 105, 114, 99, 117, 109, 102, 108, 101, 120, 32, 117, 100, 105, 101, 114, 101, 115, 105, 115, 32, 121, 97, 99, 117, 116, 101, 32, 116, 104, 111, 114, 110, 32, 121, 100, 105, 101, 114, 101, 115, 105, 115, 32]⟩ : ByteArray)
end Go.Proofs.YtniehnkiicliaaaDoor.M
end
section
/- Laid by this session's program hbprint.py out of the translation: the function hornbook/hornbookref15.mac and its contract. -/
namespace Go.Proofs.YtniehnkiicliaaaDoor.M
open Go.RowKit Go.Proofs.YtniehnkiicliaaaDoorW.PrintWords Go.Proofs.YtniehnkiicliaaaDoorW.PrintLast Go.Proofs.YtniehnkiicliaaaDoorW.PrintMore
attribute [local go_sem] max2_int min2_int max_two min_two max_three min_three max_four min_four
set_option linter.unusedVariables false
set_option linter.unusedSimpArgs false
def hornbookref15_mac.f  : Option (ByteArray) := some (⟨#[115, 112, 97, 99, 101, 32, 101, 120, 99, 108, 97, 109, 32, 113, 117, 111, 116, 101, 100, 98, 108, 32, 110, 117, 109, 98, 101, 114, 115, 105, 103, 110, 32, 100, 111, 108, 108, 97, 114, 32, 112, 101, 114, 99, 101, 110, 116, 32, 97, 109, 112, 101, 114, 115, 97, 110, 100, 32, 113, 117, 111, 116, 101, 115, 105, 110, 103, 108, 101, 32, 112, 97, 114, 101, 110, 108, 101, 102, 116, 32, 112, 97, 114, 101, 110, 114, 105, 103, 104, 116, 32, 97, 115, 116, 101, 114, 105, 115, 107, 32, 112, 108, 117, 115, 32, 99, 111, 109, 109, 97, 32, 104, 121, 112, 104, 101, 110, 32, 112, 101, 114, 105, 111, 100, 32, 115, 108, 97, 115, 104, 32, 122, 101, 114, 111, 32, 111, 110, 101, 32, 116, 119, 111, 32, 116, 104, 114, 101, 101, 32, 102, 111, 117, 114, 32, 102, 105, 118, 101, 32, 115, 105, 120, 32, 115, 101, 118, 101, 110, 32, 101, 105, 103, 104, 116, 32, 110, 105, 110, 101, 32, 99, 111, 108, 111, 110, 32, 115, 101, 109, 105, 99, 111, 108, 111, 110, 32, 108, 101, 115, 115, 32, 101, 113, 117, 97, 108, 32, 103, 114, 101, 97, 116, 101, 114, 32, 113, 117, 101, 115, 116, 105, 111, 110, 32, 97, 116, 32, 65, 32, 66, 32, 67, 32, 68, 32, 69, 32, 70, 32, 71, 32, 72, 32, 73, 32, 74, 32, 75, 32, 76, 32, 77, 32, 78, 32, 79, 32, 80, 32, 81, 32, 82, 32, 83, 32, 84, 32, 85, 32, 86, 32, 87, 32, 88, 32, 89, 32, 90, 32, 98, 114, 97, 99, 107, 101, 116, 108, 101, 102, 116, 32, 98, 97, 99, 107, 115, 108, 97, 115, 104, 32, 98, 114, 97, 99, 107, 101, 116, 114, 105, 103, 104, 116, 32, 97, 115, 99, 105, 105, 99, 105, 114, 99, 117, 109, 32, 117, 110, 100, 101, 114, 115, 99, 111, 114, 101, 32, 103, 114, 97, 118, 101, 32, 97, 32, 98, 32, 99, 32, 100, 32, 101, 32, 102, 32, 103, 32, 104, 32, 105, 32, 106, 32, 107, 32, 108, 32, 109, 32, 110, 32, 111, 32, 112, 32, 113, 32, 114, 32, 115, 32, 116, 32, 117, 32, 118, 32, 119, 32, 120, 32, 121, 32, 122, 32, 98, 114, 97, 99, 101, 108, 101, 102, 116, 32, 98, 97, 114, 32, 98, 114, 97, 99, 101, 114, 105, 103, 104, 116, 32, 97, 115, 99, 105, 105, 116, 105, 108, 100, 101, 32, 45, 32, 65, 100, 105, 101, 114, 101, 115, 105, 115, 32, 65, 114, 105, 110, 103, 32, 67, 99, 101, 100, 105, 108, 108, 97, 32, 69, 97, 99, 117, 116, 101, 32, 78, 116, 105, 108, 100, 101, 32, 79, 100, 105, 101, 114, 101, 115, 105, 115, 32, 85, 100, 105, 101, 114, 101, 115, 105, 115, 32, 97, 97, 99, 117, 116, 101, 32, 97, 103, 114, 97, 118, 101, 32, 97, 99, 105, 114, 99, 117, 109, 102, 108, 101, 120, 32, 97, 100, 105, 101, 114, 101, 115, 105, 115, 32, 97, 116, 105, 108, 100, 101, 32, 97, 114, 105, 110, 103, 32, 99, 99, 101, 100, 105, 108, 108, 97, 32, 101, 97, 99, 117, 116, 101, 32, 101, 103, 114, 97, 118, 101, 32, 101, 99, 105, 114, 99, 117, 109, 102, 108, 101, 120, 32, 101, 100, 105, 101, 114, 101, 115, 105, 115, 32, 105, 97, 99, 117, 116, 101, 32, 105, 103, 114, 97, 118, 101, 32, 105, 99, 105, 114, 99, 117, 109, 102, 108, 101, 120, 32, 105, 100, 105, 101, 114, 101, 115, 105, 115, 32, 110, 116, 105, 108, 100, 101, 32, 111, 97, 99, 117, 116, 101, 32, 111, 103, 114, 97, 118, 101, 32, 111, 99, 105, 114, 99, 117, 109, 102, 108, 101, 120, 32, 111, 100, 105, 101, 114, 101, 115, 105, 115, 32, 111, 116, 105, 108, 100, 101, 32, 117, 97, 99, 117, 116, 101, 32, 117, 103, 114, 97, 118, 101, 32, 117, 99, 105, 114, 99, 117, 109, 102, 108, 101, 120, 32, 117, 100, 105, 101, 114, 101, 115, 105, 115, 32, 100, 97, 103, 103, 101, 114, 32, 100, 101, 103, 114, 101, 101, 32, 99, 101, 110, 116, 32, 115, 116, 101, 114, 108, 105, 110, 103, 32, 115, 101, 99, 116, 105, 111, 110, 32, 98, 117, 108, 108, 101, 116, 32, 112, 97, 114, 97, 103, 114, 97, 112, 104, 32, 103, 101, 114, 109, 97, 110, 100, 98, 108, 115, 32, 114, 101, 103, 105, 115, 116, 101, 114, 101, 100, 32, 99, 111, 112, 121, 114, 105, 103, 104, 116, 32, 116, 114, 97, 100, 101, 109, 97, 114, 107, 32, 97, 99, 117, 116, 101, 32, 100, 105, 101, 114, 101, 115, 105, 115, 32, 45, 32, 65, 69, 32, 79, 115, 108, 97, 115, 104, 32, 45, 32, 112, 108, 117, 115, 109, 105, 110, 117, 115, 32, 45, 32, 45, 32, 121, 101, 110, 32, 109, 117, 32, 45, 32, 45, 32, 45, 32, 45, 32, 45, 32, 111, 114, 100, 102, 101, 109, 105, 110, 105, 110, 101, 32, 111, 114, 100, 109, 97, 115, 99, 117, 108, 105, 110, 101, 32, 45, 32, 97, 101, 32, 111, 115, 108, 97, 115, 104, 32, 113, 117, 101, 115, 116, 105, 111, 110, 100, 111, 119, 110, 32, 101, 120, 99, 108, 97, 109, 100, 111, 119, 110, 32, 108, 111, 103, 105, 99, 97, 108, 110, 111, 116, 32, 45, 32, 102, 108, 111, 114, 105, 110, 32, 45, 32, 45, 32, 103, 117, 105, 108, 108, 101, 109, 111, 116, 108, 101, 102, 116, 32, 103, 117, 105, 108, 108, 101, 109, 111, 116, 114, 105, 103, 104, 116, 32, 101, 108, 108, 105, 112, 115, 105, 115, 32, 115, 112, 97, 99, 101, 32, 65, 103, 114, 97, 118, 101, 32, 65, 116, 105, 108, 100, 101, 32, 79, 116, 105, 108, 100, 101, 32, 79, 69, 32, 111, 101, 32, 101, 110, 100, 97, 115, 104, 32, 101, 109, 100, 97, 115, 104, 32, 113, 117, 111, 116, 101, 100, 98, 108, 108, 101, 102, 116, 32, 113, 117, 111, 116, 101, 100, 98, 108, 114, 105, 103, 104, 116, 32, 113, 117, 111, 116, 101, 108, 101, 102, 116, 32, 113, 117, 111, 116, 101, 114, 105, 103, 104, 116, 32, 100, 105, 118, 105, 100, 101, 32, 45, 32, 121, 100, 105, 101, 114, 101, 115, 105, 115, 32, 89, 100, 105, 101, 114, 101, 115, 105, 115, 32, 102, 114, 97, 99, 116, 105, 111, 110, 32, 99, 117, 114, 114, 101, 110, 99, 121, 32, 103, 117, 105, 108, 115, 105, 110, 103, 108, 108, 101, 102, 116, 32, 103, 117, 105, 108, 115, 105, 110, 103, 108, 114, 105, 103, 104, 116, 32, 102, 105, 32, 102, 108, 32, 100, 97, 103, 103, 101, 114, 100, 98, 108, 32, 112, 101, 114, 105, 111, 100, 99, 101, 110, 116, 101, 114, 101, 100, 32, 113, 117, 111, 116, 101, 115, 105, 110, 103, 108, 98, 97, 115, 101, 32, 113, 117, 111, 116, 101, 100, 98, 108, 98, 97, 115, 101, 32, 112, 101, 114, 116, 104, 111, 117, 115, 97, 110, 100, 32, 65, 99, 105, 114, 99, 117, 109, 102, 108, 101, 120, 32, 69, 99, 105, 114, 99, 117, 109, 102, 108, 101, 120, 32, 65, 97, 99, 117, 116, 101, 32, 69, 100, 105, 101, 114, 101, 115, 105, 115, 32, 69, 103, 114, 97, 118, 101, 32, 73, 97, 99, 117, 116, 101, 32, 73, 99, 105, 114, 99, 117, 109, 102, 108, 101, 120, 32, 73, 100, 105, 101, 114, 101, 115, 105, 115, 32, 73, 103, 114, 97, 118, 101, 32, 79, 97, 99, 117, 116, 101, 32, 79, 99, 105, 114, 99, 117, 109, 102, 108, 101, 120, 32, 45, 32, 79, 103, 114, 97, 118, 101, 32, 85, 97, 99, 117, 116, 101, 32, 85, 99, 105, 114, 99, 117, 109, 102, 108, 101, 120, 32, 85, 103, 114, 97, 118, 101, 32, 100, 111, 116, 108, 101, 115, 115, 105, 32, 99, 105, 114, 99, 117, 109, 102, 108, 101, 120, 32, 116, 105, 108, 100, 101, 32, 109, 97, 99, 114, 111, 110, 32, 98, 114, 101, 118, 101, 32, 100, 111, 116, 97, 99, 99, 101, 110, 116, 32, 114, 105, 110, 103, 32, 99, 101, 100, 105, 108, 108, 97, 32, 104, 117, 110, 103, 97, 114, 117, 109, 108, 97, 117, 116, 32, 111, 103, 111, 110, 101, 107, 32, 99, 97, 114, 111, 110, 32]⟩ : ByteArray)
end Go.Proofs.YtniehnkiicliaaaDoor.M
end
section
/- Laid by this session's program hbprint.py out of the translation: the function hornbook/hornbookref15.symbol and its contract. -/
namespace Go.Proofs.YtniehnkiicliaaaDoor.M
open Go.RowKit Go.Proofs.YtniehnkiicliaaaDoorW.PrintWords Go.Proofs.YtniehnkiicliaaaDoorW.PrintLast Go.Proofs.YtniehnkiicliaaaDoorW.PrintMore
attribute [local go_sem] max2_int min2_int max_two min_two max_three min_three max_four min_four
set_option linter.unusedVariables false
set_option linter.unusedSimpArgs false
def hornbookref15_symbol.f  : Option (ByteArray) := some (⟨#[115, 112, 97, 99, 101, 32, 101, 120, 99, 108, 97, 109, 32, 117, 110, 105, 118, 101, 114, 115, 97, 108, 32, 110, 117, 109, 98, 101, 114, 115, 105, 103, 110, 32, 101, 120, 105, 115, 116, 101, 110, 116, 105, 97, 108, 32, 112, 101, 114, 99, 101, 110, 116, 32, 97, 109, 112, 101, 114, 115, 97, 110, 100, 32, 115, 117, 99, 104, 116, 104, 97, 116, 32, 112, 97, 114, 101, 110, 108, 101, 102, 116, 32, 112, 97, 114, 101, 110, 114, 105, 103, 104, 116, 32, 97, 115, 116, 101, 114, 105, 115, 107, 109, 97, 116, 104, 32, 112, 108, 117, 115, 32, 99, 111, 109, 109, 97, 32, 109, 105, 110, 117, 115, 32, 112, 101, 114, 105, 111, 100, 32, 115, 108, 97, 115, 104, 32, 122, 101, 114, 111, 32, 111, 110, 101, 32, 116, 119, 111, 32, 116, 104, 114, 101, 101, 32, 102, 111, 117, 114, 32, 102, 105, 118, 101, 32, 115, 105, 120, 32, 115, 101, 118, 101, 110, 32, 101, 105, 103, 104, 116, 32, 110, 105, 110, 101, 32, 99, 111, 108, 111, 110, 32, 115, 101, 109, 105, 99, 111, 108, 111, 110, 32, 108, 101, 115, 115, 32, 101, 113, 117, 97, 108, 32, 103, 114, 101, 97, 116, 101, 114, 32, 113, 117, 101, 115, 116, 105, 111, 110, 32, 99, 111, 110, 103, 114, 117, 101, 110, 116, 32, 65, 108, 112, 104, 97, 32, 66, 101, 116, 97, 32, 67, 104, 105, 32, 68, 101, 108, 116, 97, 32, 69, 112, 115, 105, 108, 111, 110, 32, 80, 104, 105, 32, 71, 97, 109, 109, 97, 32, 69, 116, 97, 32, 73, 111, 116, 97, 32, 116, 104, 101, 116, 97, 49, 32, 75, 97, 112, 112, 97, 32, 76, 97, 109, 98, 100, 97, 32, 77, 117, 32, 78, 117, 32, 79, 109, 105, 99, 114, 111, 110, 32, 80, 105, 32, 84, 104, 101, 116, 97, 32, 82, 104, 111, 32, 83, 105, 103, 109, 97, 32, 84, 97, 117, 32, 85, 112, 115, 105, 108, 111, 110, 32, 115, 105, 103, 109, 97, 49, 32, 79, 109, 101, 103, 97, 32, 88, 105, 32, 80, 115, 105, 32, 90, 101, 116, 97, 32, 98, 114, 97, 99, 107, 101, 116, 108, 101, 102, 116, 32, 116, 104, 101, 114, 101, 102, 111, 114, 101, 32, 98, 114, 97, 99, 107, 101, 116, 114, 105, 103, 104, 116, 32, 112, 101, 114, 112, 101, 110, 100, 105, 99, 117, 108, 97, 114, 32, 117, 110, 100, 101, 114, 115, 99, 111, 114, 101, 32, 45, 32, 97, 108, 112, 104, 97, 32, 98, 101, 116, 97, 32, 99, 104, 105, 32, 100, 101, 108, 116, 97, 32, 101, 112, 115, 105, 108, 111, 110, 32, 112, 104, 105, 32, 103, 97, 109, 109, 97, 32, 101, 116, 97, 32, 105, 111, 116, 97, 32, 112, 104, 105, 49, 32, 107, 97, 112, 112, 97, 32, 108, 97, 109, 98, 100, 97, 32, 109, 117, 32, 110, 117, 32, 111, 109, 105, 99, 114, 111, 110, 32, 112, 105, 32, 116, 104, 101, 116, 97, 32, 114, 104, 111, 32, 115, 105, 103, 109, 97, 32, 116, 97, 117, 32, 117, 112, 115, 105, 108, 111, 110, 32, 111, 109, 101, 103, 97, 49, 32, 111, 109, 101, 103, 97, 32, 120, 105, 32, 112, 115, 105, 32, 122, 101, 116, 97, 32, 98, 114, 97, 99, 101, 108, 101, 102, 116, 32, 98, 97, 114, 32, 98, 114, 97, 99, 101, 114, 105, 103, 104, 116, 32, 115, 105, 109, 105, 108, 97, 114, 32, 45, 32, 45, 32, 45, 32, 45, 32, 45, 32, 45, 32, 45, 32, 45, 32, 45, 32, 45, 32, 45, 32, 45, 32, 45, 32, 45, 32, 45, 32, 45, 32, 45, 32, 45, 32, 45, 32, 45, 32, 45, 32, 45, 32, 45, 32, 45, 32, 45, 32, 45, 32, 45, 32, 45, 32, 45, 32, 45, 32, 45, 32, 45, 32, 45, 32, 69, 117, 114, 111, 32, 85, 112, 115, 105, 108, 111, 110, 49, 32, 109, 105, 110, 117, 116, 101, 32, 108, 101, 115, 115, 101, 113, 117, 97, 108, 32, 102, 114, 97, 99, 116, 105, 111, 110, 32, 105, 110, 102, 105, 110, 105, 116, 121, 32, 102, 108, 111, 114, 105, 110, 32, 99, 108, 117, 98, 32, 100, 105, 97, 109, 111, 110, 100, 32, 104, 101, 97, 114, 116, 32, 115, 112, 97, 100, 101, 32, 97, 114, 114, 111, 119, 98, 111, 116, 104, 32, 97, 114, 114, 111, 119, 108, 101, 102, 116, 32, 97, 114, 114, 111, 119, 117, 112, 32, 97, 114, 114, 111, 119, 114, 105, 103, 104, 116, 32, 97, 114, 114, 111, 119, 100, 111, 119, 110, 32, 100, 101, 103, 114, 101, 101, 32, 112, 108, 117, 115, 109, 105, 110, 117, 115, 32, 115, 101, 99, 111, 110, 100, 32, 103, 114, 101, 97, 116, 101, 114, 101, 113, 117, 97, 108, 32, 109, 117, 108, 116, 105, 112, 108, 121, 32, 112, 114, 111, 112, 111, 114, 116, 105, 111, 110, 97, 108, 32, 112, 97, 114, 116, 105, 97, 108, 100, 105, 102, 102, 32, 98, 117, 108, 108, 101, 116, 32, 100, 105, 118, 105, 100, 101, 32, 110, 111, 116, 101, 113, 117, 97, 108, 32, 101, 113, 117, 105, 118, 97, 108, 101, 110, 99, 101, 32, 97, 112, 112, 114, 111, 120, 101, 113, 117, 97, 108, 32, 101, 108, 108, 105, 112, 115, 105, 115, 32, 45, 32, 45, 32, 45, 32, 97, 108, 101, 112, 104, 32, 73, 102, 114, 97, 107, 116, 117, 114, 32, 82, 102, 114, 97, 107, 116, 117, 114, 32, 119, 101, 105, 101, 114, 115, 116, 114, 97, 115, 115, 32, 99, 105, 114, 99, 108, 101, 109, 117, 108, 116, 105, 112, 108, 121, 32, 99, 105, 114, 99, 108, 101, 112, 108, 117, 115, 32, 101, 109, 112, 116, 121, 115, 101, 116, 32, 105, 110, 116, 101, 114, 115, 101, 99, 116, 105, 111, 110, 32, 117, 110, 105, 111, 110, 32, 112, 114, 111, 112, 101, 114, 115, 117, 112, 101, 114, 115, 101, 116, 32, 114, 101, 102, 108, 101, 120, 115, 117, 112, 101, 114, 115, 101, 116, 32, 110, 111, 116, 115, 117, 98, 115, 101, 116, 32, 112, 114, 111, 112, 101, 114, 115, 117, 98, 115, 101, 116, 32, 114, 101, 102, 108, 101, 120, 115, 117, 98, 115, 101, 116, 32, 101, 108, 101, 109, 101, 110, 116, 32, 110, 111, 116, 101, 108, 101, 109, 101, 110, 116, 32, 97, 110, 103, 108, 101, 32, 103, 114, 97, 100, 105, 101, 110, 116, 32, 45, 32, 45, 32, 45, 32, 112, 114, 111, 100, 117, 99, 116, 32, 114, 97, 100, 105, 99, 97, 108, 32, 100, 111, 116, 109, 97, 116, 104, 32, 108, 111, 103, 105, 99, 97, 108, 110, 111, 116, 32, 108, 111, 103, 105, 99, 97, 108, 97, 110, 100, 32, 108, 111, 103, 105, 99, 97, 108, 111, 114, 32, 97, 114, 114, 111, 119, 100, 98, 108, 98, 111, 116, 104, 32, 97, 114, 114, 111, 119, 100, 98, 108, 108, 101, 102, 116, 32, 97, 114, 114, 111, 119, 100, 98, 108, 117, 112, 32, 97, 114, 114, 111, 119, 100, 98, 108, 114, 105, 103, 104, 116, 32, 97, 114, 114, 111, 119, 100, 98, 108, 100, 111, 119, 110, 32, 108, 111, 122, 101, 110, 103, 101, 32, 97, 110, 103, 108, 101, 108, 101, 102, 116, 32, 45, 32, 45, 32, 45, 32, 115, 117, 109, 109, 97, 116, 105, 111, 110, 32, 45, 32, 45, 32, 45, 32, 45, 32, 45, 32, 45, 32, 45, 32, 45, 32, 45, 32, 45, 32, 45, 32, 97, 110, 103, 108, 101, 114, 105, 103, 104, 116, 32, 105, 110, 116, 101, 103, 114, 97, 108, 32, 45, 32, 45, 32, 45, 32, 45, 32, 45, 32, 45, 32, 45, 32, 45, 32, 45, 32, 45, 32, 45, 32, 45, 32, 45, 32]⟩ : ByteArray)
end Go.Proofs.YtniehnkiicliaaaDoor.M
end
section
/- Laid by this session's program hbprint.py out of the translation: the function hornbook/hornbookref15.rows and its contract. -/
namespace Go.Proofs.YtniehnkiicliaaaDoor.M
open Go.RowKit Go.Proofs.YtniehnkiicliaaaDoorW.PrintWords Go.Proofs.YtniehnkiicliaaaDoorW.PrintLast Go.Proofs.YtniehnkiicliaaaDoorW.PrintMore
attribute [local go_sem] max2_int min2_int max_two min_two max_three min_three max_four min_four
set_option linter.unusedVariables false
set_option linter.unusedSimpArgs false
def hornbookref15_rows.f (a0 : Int) : Option (ByteArray) := if a0 = 0 then ((hornbookref15_standard.f).bind fun t176 => (some t176)) else (if a0 = 1 then ((hornbookref15_win.f).bind fun t177 => (some t177)) else (if a0 = 2 then ((hornbookref15_mac.f).bind fun t178 => (some t178)) else (if a0 = 3 then ((hornbookref15_symbol.f).bind fun t179 => (some t179)) else (some (⟨#[]⟩ : ByteArray)))))
end Go.Proofs.YtniehnkiicliaaaDoor.M
end
section
/- Laid by this session's program hbprint.py out of the translation: the function hornbook/hornbookref15.All and its contract. -/
namespace Go.Proofs.YtniehnkiicliaaaDoor.M
open Go.RowKit Go.Proofs.YtniehnkiicliaaaDoorW.PrintWords Go.Proofs.YtniehnkiicliaaaDoorW.PrintLast Go.Proofs.YtniehnkiicliaaaDoorW.PrintMore
attribute [local go_sem] max2_int min2_int max_two min_two max_three min_three max_four min_four
set_option linter.unusedVariables false
set_option linter.unusedSimpArgs false
def hornbookref15_All.l0 : Nat → List ByteArray → ByteArray → Int → Int → Option (List ByteArray)
  | 0, _, _, _, _ => none
  | k + 1, x3, x4, x5, x6 => if x6 < (x4.size : Int) then (if 0 ≤ x6 then (if (bt x4 x6) = 32 then (if 0 ≤ x5 then (if x5 ≤ x6 then (if x6 ≤ (x4.size : Int) then (if (x4.extract (x5 : Int).toNat (x6 : Int).toNat).toList = ([45] : List UInt8) then (if x3.length < 8796093022208 then (hornbookref15_All.l0 k (x3 ++ [(⟨#[]⟩ : ByteArray)]) x4 (wrap64 (x6 + 1)) (wrap64 (x6 + 1))) else (none)) else (if x3.length < 8796093022208 then (hornbookref15_All.l0 k (x3 ++ [x4.extract (x5 : Int).toNat (x6 : Int).toNat]) x4 (wrap64 (x6 + 1)) (wrap64 (x6 + 1))) else (none))) else (none)) else (none)) else (none)) else (hornbookref15_All.l0 k x3 x4 x5 (wrap64 (x6 + 1)))) else (none)) else (some x3)
def hornbookref15_All.f (k : Nat) (a0 : Int) : Option (List ByteArray) := (hornbookref15_Sane.f a0).bind fun t180 => (if t180 = true then (if 32 ≤ 17592186044416 then ((hornbookref15_rows.f a0).bind fun t184 => (hornbookref15_All.l0 k (List.replicate 32 (⟨#[]⟩ : ByteArray)) t184 0 0)) else (none)) else (some ([] : List ByteArray)))
end Go.Proofs.YtniehnkiicliaaaDoor.M
end
section
namespace Go.Proofs.YtniehnkiicliaaaDoor.M
open Go.RowKit Go.Proofs.YtniehnkiicliaaaDoorW.PrintWords
set_option linter.unusedVariables false
def rowsOf : List UInt8 → List UInt8 → List ByteArray
  | [], _ => []
  | c :: r, w => if c = 32 then (if w = [45] then ⟨#[]⟩ else ⟨w.toArray⟩) :: rowsOf r [] else rowsOf r (w ++ [c])
theorem take_one_more (L : List UInt8) (f i : Nat) (hf : f ≤ i) (hi : i < L.length) : (L.drop f).take (i + 1 - f) = (L.drop f).take (i - f) ++ [L[i]] := by
  have e : i + 1 - f = (i - f) + 1 := by omega
  rw [e, List.take_succ_eq_append_getElem (by rw [List.length_drop]; omega), List.getElem_drop]
  congr 2
  congr 1
  omega
theorem refAll_loop (s : ByteArray) (hs : s.size < 1099511627776) (d : Nat) : ∀ (i f k : Nat) (x3 : List ByteArray), s.size - i = d → f ≤ i → i ≤ s.size → d < k → x3.length + d < 8796093022208 →
    hornbookref15_All.l0 k x3 s f i = some (x3 ++ rowsOf (s.data.toList.drop i) ((s.data.toList.drop f).take (i - f))) := by
  induction d with
  | zero =>
    intro i f k x3 hd hf hi hk hx
    obtain ⟨k, rfl⟩ : ∃ m, k = m + 1 := ⟨k - 1, by omega⟩
    have : i = s.size := by omega
    subst this
    rw [hornbookref15_All.l0, if_neg (by omega), size_list, List.drop_length, rowsOf, List.append_nil]
  | succ d ih =>
    intro i f k x3 hd hf hi hk hx
    obtain ⟨k, rfl⟩ : ∃ m, k = m + 1 := ⟨k - 1, by omega⟩
    have hlt : i < s.size := by omega
    have hl : i < s.data.toList.length := by rw [← size_list]; exact hlt
    have hw : wrap64 ((i : Int) + 1) = ((i + 1 : Nat) : Int) := by rw [wrap_small (by omega) (by omega)]; omega
    rw [hornbookref15_All.l0, if_pos (by omega), if_pos (by omega), bt_get s i hlt, hw, List.drop_eq_getElem_cons hl, rowsOf]
    by_cases h32 : s.data.toList[i] = 32
    · rw [if_pos h32, if_pos (by rw [h32]; rfl), if_pos (by omega), if_pos (by omega), if_pos (by omega), Int.toNat_natCast, Int.toNat_natCast, ext_mid, ba_toList]
      have h1 := fun x : ByteArray => ih (i + 1) (i + 1) k (x3 ++ [x]) (by omega) (by omega) (by omega) (by omega) (by rw [List.length_append, List.length_singleton]; omega)
      rw [Nat.sub_self, List.take_zero] at h1
      by_cases hd1 : (s.data.toList.drop f).take (i - f) = [45]
      · rw [if_pos hd1, if_pos hd1, if_pos (by omega), h1, List.append_assoc]; rfl
      · rw [if_neg hd1, if_neg hd1, if_pos (by omega), h1, List.append_assoc]; rfl
    · have hn : ¬ ((s.data.toList[i].toNat : Int) = 32) := by
        intro e
        apply h32
        apply UInt8.toNat_inj.1
        show s.data.toList[i].toNat = 32
        omega
      rw [if_neg h32, if_neg hn, ih (i + 1) f k x3 (by omega) (by omega) (by omega) (by omega) (by omega), take_one_more _ _ _ hf hl]
/-- The document's names of an encoding that is there. -/
theorem refAll_eq (t : Int) (h0 : 0 ≤ t) (h1 : t < 4) (s : ByteArray) (hs : hornbookref15_rows.f t = some s) (hz : s.size < 1099511627776) {k : Nat} (hk : s.size < k) :
    hornbookref15_All.f k t = some (List.replicate 32 ⟨#[]⟩ ++ rowsOf s.data.toList []) := by
  unfold hornbookref15_All.f hornbookref15_Sane.f
  rw [if_pos h0, Option.bind_some, if_pos (decide_eq_true (by omega)), if_pos (by decide), hs, Option.bind_some]
  have := refAll_loop s hz s.size 0 0 k (List.replicate 32 ⟨#[]⟩) (by omega) (Nat.le_refl _) (by omega) hk (by rw [List.length_replicate]; omega)
  exact this
end Go.Proofs.YtniehnkiicliaaaDoor.M
end
section
namespace Go.Proofs.YtniehnkiicliaaaDoor.M
open Go.RowKit Go.Proofs.YtniehnkiicliaaaDoorW.PrintWords
set_option linter.unusedVariables false
def sameNames (t : Int) : Bool :=
  match encOf 500 t, hornbookref15_rows.f t with
  | some a, some s => decide (s.size < 2400) && decide (a.map (fun x : ByteArray => x.data.toList) = (List.replicate 32 (⟨#[]⟩ : ByteArray) ++ rowsOf s.data.toList []).map (fun x : ByteArray => x.data.toList)) && decide ((rdOf ByteArray.empty a 65).data.toList = if t = 3 then [65, 108, 112, 104, 97] else [65]) && decide (t = 2 → slices_Index_string_string.f 500 a ⟨#[65]⟩ = some 65)
  | _, _ => false
set_option maxRecDepth 100000 in
theorem sameNames_0 : sameNames 0 = true := by decide +kernel
set_option maxRecDepth 100000 in
theorem sameNames_1 : sameNames 1 = true := by decide +kernel
set_option maxRecDepth 100000 in
theorem sameNames_2 : sameNames 2 = true := by decide +kernel
set_option maxRecDepth 100000 in
theorem sameNames_3 : sameNames 3 = true := by decide +kernel
end Go.Proofs.YtniehnkiicliaaaDoor.M
end
section
namespace Go.Proofs.YtniehnkiicliaaaDoor.M
open Go.RowKit Go.Proofs.YtniehnkiicliaaaDoorW.PrintWords
set_option linter.unusedVariables false
theorem bytes_inj {a b : List ByteArray} (h : a.map (·.data.toList) = b.map (·.data.toList)) : a = b := by
  induction a generalizing b with
  | nil => cases b with
    | nil => rfl
    | cons y b => simp at h
  | cons x a ih => cases b with
    | nil => simp at h
    | cons y b =>
      simp only [List.map_cons, List.cons.injEq] at h
      rw [ih h.2]
      congr 1
      rcases x with ⟨⟨x⟩⟩
      rcases y with ⟨⟨y⟩⟩
      have := h.1
      simp at this
      rw [this]
/-- Of an encoding that is there: its 256 names, in the program and in the document. -/
theorem names_of (t : Int) (h0 : 0 ≤ t) (h1 : t < 4) : ∃ L : List ByteArray, L.length = 256 ∧ (∀ k, 2500 ≤ k → encOf k t = some L ∧ hornbookref15_All.f k t = some L) ∧
    ((rdOf ByteArray.empty L 65).data.toList = if t = 3 then [65, 108, 112, 104, 97] else [65]) ∧ (t = 2 → ∀ k, 2500 ≤ k → slices_Index_string_string.f k L ⟨#[65]⟩ = some 65) := by
  have h : sameNames t = true := by
    have : t = 0 ∨ t = 1 ∨ t = 2 ∨ t = 3 := by omega
    rcases this with rfl | rfl | rfl | rfl
    · exact sameNames_0
    · exact sameNames_1
    · exact sameNames_2
    · exact sameNames_3
  unfold sameNames at h
  split at h
  · rename_i a s ha hs
    simp only [Bool.and_eq_true, decide_eq_true_eq] at h
    obtain ⟨⟨⟨hz, e⟩, h65⟩, h2⟩ := h
    have e := bytes_inj e
    refine ⟨a, encOf_length ha, fun k hk => ⟨le_rounds (g := fun k => encOf k t) (fun k => encOf_mono t k) ha (by omega), ?_⟩, h65, fun ht k hk => le_rounds (g := fun k => slices_Index_string_string.f k a ⟨#[65]⟩) (fun k => slices_Index_string_string.mono _ _ k) (h2 ht) (by omega)⟩
    rw [refAll_eq t h0 h1 s hs (by omega) (by omega), e]
  · cases h
theorem awake15 {k : Nat} (hk : 2500 ≤ k) : hornbooklaw15_awake.f k = some true := by
  obtain ⟨L0, l0, e0, -, -⟩ := names_of 0 (by decide) (by decide)
  obtain ⟨L1, l1, e1, a1, -⟩ := names_of 1 (by decide) (by decide)
  obtain ⟨L2, l2, e2, a2, i2⟩ := names_of 2 (by decide) (by decide)
  obtain ⟨L3, l3, e3, a3, -⟩ := names_of 3 (by decide) (by decide)
  have a1' : (rdOf ByteArray.empty L1 65).toList = [65] := by rw [toList_data, a1]; rfl
  unfold hornbooklaw15_awake.f
  have c : enc_Code.f k 2 ⟨#[65]⟩ = some (65, true) := by
    unfold enc_Code.f enc_All.f
    rw [if_neg (by rw [toList_data]; decide), if_pos (by decide), (e2 k hk).1, Option.bind_some, i2 rfl k hk]
    rfl
  have n1 : enc_Name.f k 1 65 = some (rdOf ByteArray.empty L1 65) := by
    unfold enc_Name.f
    rw [if_pos (by decide), (e1 k hk).1]; rfl
  have n3 : enc_Name.f k 3 65 = some (rdOf ByteArray.empty L3 65) := by
    unfold enc_Name.f
    rw [if_pos (by decide), (e3 k hk).1]; rfl
  have all0 : enc_All.f k 0 = some L0 := by
    unfold enc_All.f
    rw [if_pos (by decide), (e0 k hk).1]
  have a3' : (rdOf ByteArray.empty L3 65).toList = [65, 108, 112, 104, 97] := by
    rw [toList_data, a3]; rfl
  rw [c, Option.bind_some, n1, Option.bind_some, if_pos a1', n3, Option.bind_some, if_pos a3', if_pos rfl, if_pos rfl, all0, Option.bind_some, if_pos (by rw [l0]; rfl), sane_yes (by decide) (by decide)]
  rfl
end Go.Proofs.YtniehnkiicliaaaDoor.M
end
section
/- Laid by this session's program hbprint.py out of the translation: the function hornbook/hornbooklaw15.EncAll and its contract. -/
namespace Go.Proofs.YtniehnkiicliaaaDoor.M
open Go.RowKit Go.Proofs.YtniehnkiicliaaaDoorW.PrintWords Go.Proofs.YtniehnkiicliaaaDoorW.PrintLast Go.Proofs.YtniehnkiicliaaaDoorW.PrintMore
attribute [local go_sem] max2_int min2_int max_two min_two max_three min_three max_four min_four
set_option linter.unusedVariables false
set_option linter.unusedSimpArgs false
end Go.Proofs.YtniehnkiicliaaaDoor.M
end
section
namespace Go.Proofs.YtniehnkiicliaaaDoor.M
open Go.RowKit Go.Proofs.YtniehnkiicliaaaDoorW.PrintWords
set_option linter.unusedVariables false
def firstIn (n : List UInt8) : List ByteArray → Nat → Int
  | [], _ => -1
  | x :: r, i => if x.toList = n then (i : Int) else firstIn n r (i + 1)
def firstFrom (n : ByteArray) (L : List ByteArray) (i : Nat) : Int := firstIn n.toList (L.drop i) i
theorem firstFrom_end (n : ByteArray) (L : List ByteArray) (i : Nat) (h : L.length ≤ i) : firstFrom n L i = -1 := by
  unfold firstFrom
  rw [List.drop_eq_nil_of_le h, firstIn]
theorem rdOf_get (L : List ByteArray) (i : Nat) (h : i < L.length) : rdOf ByteArray.empty L (i : Int) = L[i] := by
  unfold rdOf
  rw [Int.toNat_natCast, List.getD_eq_getElem?_getD, List.getElem?_eq_getElem h, Option.getD_some]
theorem firstFrom_hit (n : ByteArray) (L : List ByteArray) (i : Nat) (h : i < L.length) (e : (rdOf ByteArray.empty L (i : Int)).toList = n.toList) : firstFrom n L i = i := by
  unfold firstFrom
  rw [List.drop_eq_getElem_cons h, firstIn, if_pos (by rw [← rdOf_get L i h]; exact e)]
theorem firstFrom_miss (n : ByteArray) (L : List ByteArray) (i : Nat) (h : i < L.length) (e : ¬ (rdOf ByteArray.empty L (i : Int)).toList = n.toList) : firstFrom n L i = firstFrom n L (i + 1) := by
  unfold firstFrom
  rw [List.drop_eq_getElem_cons h, firstIn, if_neg (by rw [← rdOf_get L i h]; exact e)]
theorem index_loop (n : ByteArray) (L : List ByteArray) (hL : L.length ≤ 1000000) (d : Nat) : ∀ (i k : Nat), L.length - i = d → i ≤ L.length → d < k →
    slices_Index_string_string.l0 k L n L.length i = some (firstFrom n L i) := by
  induction d with
  | zero =>
    intro i k hd hi hk
    obtain ⟨k, rfl⟩ : ∃ m, k = m + 1 := ⟨k - 1, by omega⟩
    rw [slices_Index_string_string.l0, if_neg (by omega), firstFrom_end n L i (by omega)]
  | succ d ih =>
    intro i k hd hi hk
    obtain ⟨k, rfl⟩ : ∃ m, k = m + 1 := ⟨k - 1, by omega⟩
    have hlt : i < L.length := by omega
    have hw : wrap64 ((i : Int) + 1) = ((i + 1 : Nat) : Int) := by rw [wrap_small (by omega) (by omega)]; omega
    rw [slices_Index_string_string.l0, if_pos (by omega), if_pos (by omega), if_pos (by omega), hw]
    by_cases he : (rdOf ByteArray.empty L (i : Int)).toList = n.toList
    · rw [if_pos he.symm, firstFrom_hit n L i hlt he]
    · rw [if_neg (fun e => he e.symm), firstFrom_miss n L i hlt he, ih (i + 1) k (by omega) (by omega) (by omega)]
theorem index_eq (n : ByteArray) (L : List ByteArray) (hL : L.length ≤ 1000000) {k : Nat} (hk : L.length < k) : slices_Index_string_string.f k L n = some (firstFrom n L 0) := by
  unfold slices_Index_string_string.f
  exact index_loop n L hL L.length 0 k (by omega) (by omega) hk
end Go.Proofs.YtniehnkiicliaaaDoor.M
end
section
namespace Go.Proofs.YtniehnkiicliaaaDoor.M
open Go.RowKit Go.Proofs.YtniehnkiicliaaaDoorW.PrintWords
set_option linter.unusedVariables false
theorem back_loop (n : ByteArray) (b6 : Int) (b7 : Bool) (L : List ByteArray) (hL : L.length ≤ 1000000) (hn : n.toList ≠ []) (d : Nat) : ∀ (i k : Nat) (f : Int), L.length - i = d → i ≤ L.length → d < k →
    hornbooklaw15_EncBack.l0 k n true b6 b7 L f i = hornbooklaw15_EncBack.l0 1 n true b6 b7 L (if 0 ≤ f then f else firstFrom n L i) L.length := by
  induction d with
  | zero =>
    intro i k f hd hi hk
    obtain ⟨k, rfl⟩ : ∃ m, k = m + 1 := ⟨k - 1, by omega⟩
    have : i = L.length := by omega
    subst this
    have e : (if 0 ≤ f then f else firstFrom n L L.length) = if 0 ≤ f then f else -1 := by rw [firstFrom_end n L _ (Nat.le_refl _)]
    have hend : ¬ ((L.length : Int) < (L.length : Int)) := by omega
    by_cases hf : 0 ≤ f
    · rw [e, if_pos hf, hornbooklaw15_EncBack.l0, hornbooklaw15_EncBack.l0, if_neg hend, if_neg hend]
    · rw [e, if_neg hf, hornbooklaw15_EncBack.l0, hornbooklaw15_EncBack.l0, if_neg hend, if_neg hend, if_pos rfl, if_pos rfl, if_neg (show ¬ f ≥ 0 by omega), if_neg (show ¬ f ≥ 0 by omega), if_neg (show ¬ (-1 : Int) ≥ 0 by decide), if_neg (show ¬ (-1 : Int) ≥ 0 by decide)]
  | succ d ih =>
    intro i k f hd hi hk
    obtain ⟨k, rfl⟩ : ∃ m, k = m + 1 := ⟨k - 1, by omega⟩
    have hlt : i < L.length := by omega
    have hw : wrap64 ((i : Int) + 1) = ((i + 1 : Nat) : Int) := by rw [wrap_small (by omega) (by omega)]; omega
    rw [hornbooklaw15_EncBack.l0, if_pos (by omega), if_pos (by omega), hw]
    by_cases he : (rdOf ByteArray.empty L (i : Int)).toList = n.toList
    · rw [if_pos he, if_neg hn, firstFrom_hit n L i hlt he]
      by_cases hf : f < 0
      · rw [if_pos hf, ih (i + 1) k i (by omega) (by omega) (by omega), if_pos (by omega), if_neg (by omega)]
      · rw [if_neg hf, ih (i + 1) k f (by omega) (by omega) (by omega), if_pos (by omega), if_pos (by omega)]
    · rw [if_neg he, firstFrom_miss n L i hlt he, ih (i + 1) k f (by omega) (by omega) (by omega)]
theorem back_empty (n : ByteArray) (L : List ByteArray) (hL : L.length ≤ 1000000) (hn : n.toList = []) (d : Nat) : ∀ (i k : Nat), L.length - i = d → i ≤ L.length → d < k →
    hornbooklaw15_EncBack.l0 k n true 0 false L (-1) i = some true := by
  induction d with
  | zero =>
    intro i k hd hi hk
    obtain ⟨k, rfl⟩ : ∃ m, k = m + 1 := ⟨k - 1, by omega⟩
    rw [hornbooklaw15_EncBack.l0, if_neg (by omega)]
    rfl
  | succ d ih =>
    intro i k hd hi hk
    obtain ⟨k, rfl⟩ : ∃ m, k = m + 1 := ⟨k - 1, by omega⟩
    have hw : wrap64 ((i : Int) + 1) = ((i + 1 : Nat) : Int) := by rw [wrap_small (by omega) (by omega)]; omega
    rw [hornbooklaw15_EncBack.l0, if_pos (by omega), if_pos (by omega), hw, if_pos hn, ih (i + 1) k (by omega) (by omega) (by omega)]
    split <;> rfl
theorem EncBack : hornbooklaw15_EncBack.Pure := by
  intro a0 a1 _ _
  refine ⟨2500, ?_⟩
  unfold hornbooklaw15_EncBack.f
  rw [awake15 (Nat.le_refl _), Option.bind_some]
  by_cases hz : (a1.size : Int) > 100
  · rw [if_pos hz]
  rw [if_neg hz]
  obtain ⟨L, hA, hl⟩ : ∃ L, enc_All.f 2500 a0 = some L ∧ L.length ≤ 256 := by
    unfold enc_All.f
    by_cases hs : 0 ≤ a0 ∧ a0 < 4
    · obtain ⟨L, hl, he, -, -⟩ := names_of a0 hs.1 hs.2
      rw [if_pos hs]
      exact ⟨L, (he 2500 (Nat.le_refl _)).1, by omega⟩
    · rw [if_neg hs]
      exact ⟨[], rfl, by simp⟩
  unfold enc_Code.f
  by_cases hn : a1.toList = []
  · rw [if_pos hn, Option.bind_some, hA, Option.bind_some]
    exact back_empty a1 L (by omega) hn L.length 0 2500 (by omega) (by omega) (by omega)
  · rw [if_neg hn, hA, Option.bind_some, index_eq a1 L (by omega) (by omega), Option.bind_some, Option.bind_some, Option.bind_some]
    have hb := back_loop a1 (mx (firstFrom a1 L 0) 0) (decide (firstFrom a1 L 0 ≥ 0)) L (by omega) hn L.length 0 2500 (-1) (by omega) (by omega) (by omega)
    have h0 : ((0 : Nat) : Int) = 0 := rfl
    rw [h0] at hb
    rw [hb, if_neg (by decide), hornbooklaw15_EncBack.l0, if_neg (by omega), if_pos rfl]
    by_cases hf : firstFrom a1 L 0 ≥ 0
    · rw [if_pos (decide_eq_true hf), if_pos hf, if_pos (by unfold mx; rw [if_neg (by omega)])]
    · rw [if_neg (by rw [decide_eq_false hf]; decide), if_neg hf]
      unfold mx
      rw [if_pos (by omega)]
      rfl
end Go.Proofs.YtniehnkiicliaaaDoor.M
end
section
/- A byte and its least twin have one name, of every encoding and name. -/
namespace Go.Proofs.YtniehnkiicliaaaDoor.encBack
open Go Go.ChangeShapes Go.WideShapes Go.ChangeAt Go.RowKit
open Go.ChangeMaps (open_string shut_string)
set_option linter.unusedVariables false
theorem own : ownKnob Tryd.prog.godebug = none := by kernel_rfl
set_option maxRecDepth 100000 in
theorem lifted (os : Os) (started : os.Started) (H : Type) (enc : TypeId × Value → H) :
    ReturnsInHanded {} Tryd.checked os 5 .any (fun w args => (Rows.encBackSpec.pre enc Tryd.prog Tryd.f5 Rows.encBackRow.domain false w args ∧ laidMetH Tryd.prog Rows.encBackRow.laid w) ∧ sizedMet enc Tryd.prog Tryd.f5 (OpenSpec.ofChange Rows.encBackSpec) false w args)
      (Rows.encBackSpec.post enc Tryd.prog Tryd.f5 false true false false) := by
  refine M.returns_both (C := Tryd.checked) (X := fun w _ => laidMetH Tryd.prog Rows.encBackRow.laid w) (fun _ _ _ hh h => h.of_heap hh) own started (by kernel_rfl) Tryd.func5
    (ChangeSpec.witness_shaped (enc := enc) (C := Tryd.checked) (os := os) (X := fun w _ => laidMetH Tryd.prog Rows.encBackRow.laid w) false (World.laidAll Tryd.prog os Rows.encBackRow.laid) #[.int .i64 0, .string ByteArray.empty] 8 (World.laidAll_os _ _ _)
      (World.shaped_of_ZipB (by kernel_rfl) (by kernel_rfl)) (by kernel_rfl) (by kernel_rfl) (by kernel_rfl)
      (by rw [MakeChecks.laidMetH_plain _ _ _ (by kernel_rfl)]; exact laidMet_laidAll _ (by kernel_rfl) (by kernel_rfl))) ?_
  intro W base args ds gs before hval0 hW hcnd hsz0 hL hshape
  have hsz : (DataW.weightsEach Tryd.prog (Tryd.f5.params.toList ++ Rows.encBackSpec.plain.varTypes Tryd.prog) (ds ++ gs)).all (· ≤ reachBytes) = true := hsz0
  have hval : ∀ (j : Nat) t v, Tryd.f5.params[j]? = some t → args[j]? = some v → Value.okWide Tryd.prog W .any base t v := hval0
  have hLp := hL
  rw [MakeChecks.laidMetH_plain _ _ _ (by kernel_rfl)] at hLp
  have hG : M.GW W := M.GW.of_mets (hLp.tail.tail.tail) (hLp.tail.tail.tail.tail) (hLp.tail.tail.tail.tail.tail.tail) hshape
  have hW' := hW
  obtain ⟨p, q, hA0, hV, rfl, hfz, hnd⟩ := hW
  have hA : DataW.TrodAll enc Tryd.prog W 0 (fun _ => true) true Tryd.f5.params.toList args.toList ds p := hA0
  rw [Tryd.params5] at hA hval hsz
  obtain ⟨v0, vs0, d0, ds0, p0, q0, hargs, rfl, rfl, h0, r0⟩ := trodAll_cons hA
  obtain ⟨v1, vs1, d1, ds1, p1, q1, rfl, rfl, rfl, h1, r1⟩ := trodAll_cons r0
  obtain ⟨rfl, rfl, rfl⟩ := trodAll_nil r1
  obtain rfl : args = #[v0, v1] := by cases args; simp_all
  obtain ⟨rfl, rfl⟩ := trodVars_none hV
  obtain ⟨a0, rfl, rfl, rfl, w0⟩ := open_int Tryd.underlying3 (hval 0 3 v0 rfl rfl) h0
  obtain ⟨a1, rfl, rfl, rfl, y1⟩ := open_string Tryd.underlying9 (hval 1 9 v1 rfl rfl) h1
  have w1 : a1.size ≤ 140737488351232 := by
    have z := sized_string hsz (j := 1) (t := 9) rfl rfl
    rw [Array.length_toList] at z
    exact z
  clear hA0 hval0 hsz0 hsz
  refine (M.hornbooklaw15_EncBack.walk M.EncBack a0 a1 W w0 w1 hG).mono fun e W' ⟨he, bel⟩ => ?_
  subst he
  exact ⟨_, rfl, _, _, _, [], _, [], hW', trodAll_mk1 (shut_bool Tryd.underlying4 _), (trodAll_cons_mk (shut_int Tryd.underlying3 w0) (trodAll_cons_mk (shut_string Tryd.underlying9 y1) trodAll_mk0)), rfl, bel.frame _, fun h => by cases h⟩
theorem over : Rows.encBackRow.holds Tryd.pinned (OpenSpec.ofChange Rows.encBackSpec) :=
  OpenClaim.holds_of_wide 5 Tryd.f5 rfl rfl rfl rfl rfl rfl rfl ⟨rfl, rfl, rfl, rfl, rfl⟩ rfl rfl rfl rfl rfl (by kernel_rfl) Tryd.func5 (by kernel_rfl)
    (of_decide_eq_true (by kernel_rfl)) (by unfold Func.isWrapper; first | (rw [if_pos (by decide +kernel)]; kernel_rfl) | (rw [if_neg (by decide +kernel)]; exact ⟨rfl, rfl⟩))
    (fun os started H enc _ => lifted os started H enc)
theorem proved : Rows.EncBackSaid := over
theorem card : Rows.EncBackCardSaid :=
  Claim7.holds_tied_plain_at .later [] [.data, .data, .data, .sentinel, .sentinel, .listed, .data] true (true, "5f9ff1a42316a4d4725f9c01a666ae2751b9b31bcc55bdfc676b0087572aa2e8") true
    proved (fun _ h => by cases h) (by kernel_rfl) (fun _ h => by cases h) encBack_row_tie rfl ⟨rfl, rfl⟩ (by kernel_rfl) rfl
    (fun f fn hf hfn => by
      obtain rfl : f = 5 := Option.some.inj ((show Tryd.prog.funcNamed "hornbook/hornbooklaw15.EncBack" = some 5 by kernel_rfl).symm.trans hf) |>.symm
      obtain rfl : fn = Tryd.f5 := (Option.some.inj (Tryd.func5.symm.trans hfn)).symm
      exact ⟨by kernel_rfl, fun j t ht => by
        rw [Tryd.params5] at ht
        have hm : t ∈ [3, 9] := by simpa using Array.mem_of_getElem? ht
        have hall : ([3, 9].all fun u => !Tryd.prog.wantsStandIn u) = true := by kernel_rfl
        exact (show Tryd.prog.wantsStandIn t = false by simpa using List.all_eq_true.1 hall t hm)⟩)
    (by kernel_rfl)
end Go.Proofs.YtniehnkiicliaaaDoor.encBack
namespace Go.Proofs.YtniehnkiicliaaaDoor
/-- The statement, under a short name, for the claim. -/
theorem encBack_holds : Rows.EncBackCardSaid := encBack.card
#print axioms encBack_holds
end Go.Proofs.YtniehnkiicliaaaDoor
end
