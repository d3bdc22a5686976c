/- Packed by this session's program hbpack.py out of this claim's own texts (Q43, Q22, Is, Q44, Q23, Q13, Q24, Q26, Q25, Q27, Q14, Rf, Q15, Q10, Q9, QE0, Q8): the same declarations, without those that the claim does not use. -/
import Derived.Test.YtfdikkdbmlcjiaaGreatDoorPkTokPlaces2
import Derived.WalkMore
import Derived.ScopeJumps
import Derived.LaidEql
import Derived.Stop.Asserts
import Derived.RowKitTokens
import Derived.Lib.AppendIntMem
import Derived.Laws.BitsLemmas
import Derived.Laws.Rows
import Derived.Laws.Tables
import Derived.Deep.RegionWith
section
/- Laid by this session's program hbprint.py out of the translation: the function hornbook/tok.line and its contract. -/
namespace Go.Proofs.YtfdikkdbmlcjiaaGreatDoor.M
open Go.RowKit Go.Proofs.YtfdikkdbmlcjiaaGreatDoorW.PrintWords Go.Proofs.YtfdikkdbmlcjiaaGreatDoorW.PrintLast Go.Proofs.YtfdikkdbmlcjiaaGreatDoorW.PrintMore
attribute [local go_sem] max2_int min2_int max_two min_two max_three min_three max_four min_four
set_option linter.unusedVariables false
set_option linter.unusedSimpArgs false
def tok_line.f (a0 : ByteArray) : Option (Int) := (strings_HasPrefix.f a0 (⟨#[13, 10]⟩ : ByteArray)).bind fun t136 => (if t136 = true then (some 2) else ((strings_HasPrefix.f a0 (⟨#[13]⟩ : ByteArray)).bind fun t137 => (if t137 = true then (some 1) else (some 0))))
set_option maxHeartbeats 8000000 in
set_option maxRecDepth 100000 in
theorem tok_line.calls (a0 : ByteArray) (r : Int) (w : World) (h : tok_line.f a0 = some r) :
    Calls Tryz.prog 43 #[.string a0] w fun e w' => e = .returned (.int .i64 r) ∧ Drawn0 w w' := by
  have H : ((strings_HasPrefix.f a0 (⟨#[13, 10]⟩ : ByteArray)).bind fun t136 => (if t136 = true then (some 2) else ((strings_HasPrefix.f a0 (⟨#[13]⟩ : ByteArray)).bind fun t137 => (if t137 = true then (some 1) else (some 0))))) = some r := h
  clear h
  replace H := Option.bind_eq_some_iff.mp H
  obtain ⟨t136, A20, H⟩ := H
  replace H : (if t136 = true then (some 2) else ((strings_HasPrefix.f a0 (⟨#[13]⟩ : ByteArray)).bind fun t137 => (if t137 = true then (some 1) else (some 0)))) = some r := H
  have A2 := Aside0.mk A20
  clear A20
  by_cases c3 : t136 = true
  · subst c3
    have H1 : (some 2) = some r := by rw [if_pos rfl] at H; exact H
    clear H
    have H := H1
    clear H1
    obtain rfl := Option.some.inj H
    go_enter Tryz.func43, Tryz.ntmps43
    go_wp2_with (first | ((with_reducible refine gate_callee (f := 36) rfl ?_); refine goesL_ (some 5) rfl rfl Tryz.func36 (by kernel_rfl) rfl #[.string a0, .string (⟨#[13, 10]⟩ : ByteArray)] rfl (by (try simp only [List.map_toArray, List.map_cons, List.map_nil]); first | done | rfl | (simp only [List.length_drop, List.length_take]; rfl)) ?_; (with_reducible refine (strings_HasPrefix.calls a0 (⟨#[13, 10]⟩ : ByteArray) true _ A2.out).mono ?_); rintro e w' ⟨rfl, ⟨nd, rfl⟩⟩; refine ⟨_, rfl, ?_⟩))
    go_ret
    exact ⟨by first | rfl | (simp; done) | (simp [*]; done), by repeat (first | exact Drawn0.refl _ | apply Drawn0.step)⟩
  · replace c3 := Bool.eq_false_iff.mpr c3
    subst c3
    have H1 : ((strings_HasPrefix.f a0 (⟨#[13]⟩ : ByteArray)).bind fun t137 => (if t137 = true then (some 1) else (some 0))) = some r := by rw [if_neg (show ¬ (false = true) by decide)] at H; exact H
    clear H
    have H := H1
    clear H1
    replace H := Option.bind_eq_some_iff.mp H
    obtain ⟨t137, A40, H⟩ := H
    replace H : (if t137 = true then (some 1) else (some 0)) = some r := H
    have A4 := Aside0.mk A40
    clear A40
    by_cases c5 : t137 = true
    · subst c5
      have H1 : (some 1) = some r := by rw [if_pos rfl] at H; exact H
      clear H
      have H := H1
      clear H1
      obtain rfl := Option.some.inj H
      go_enter Tryz.func43, Tryz.ntmps43
      go_wp2_with (first | ((with_reducible refine gate_callee (f := 36) rfl ?_); refine goesL_ (some 5) rfl rfl Tryz.func36 (by kernel_rfl) rfl #[.string a0, .string (⟨#[13, 10]⟩ : ByteArray)] rfl (by (try simp only [List.map_toArray, List.map_cons, List.map_nil]); first | done | rfl | (simp only [List.length_drop, List.length_take]; rfl)) ?_; (with_reducible refine (strings_HasPrefix.calls a0 (⟨#[13, 10]⟩ : ByteArray) false _ A2.out).mono ?_); rintro e w' ⟨rfl, ⟨nd, rfl⟩⟩; refine ⟨_, rfl, ?_⟩) | ((with_reducible refine gate_callee (f := 36) rfl ?_); refine goesL_ (some 8) rfl rfl Tryz.func36 (by kernel_rfl) rfl #[.string a0, .string (⟨#[13]⟩ : ByteArray)] rfl (by (try simp only [List.map_toArray, List.map_cons, List.map_nil]); first | done | rfl | (simp only [List.length_drop, List.length_take]; rfl)) ?_; (with_reducible refine (strings_HasPrefix.calls a0 (⟨#[13]⟩ : ByteArray) true _ A4.out).mono ?_); rintro e w' ⟨rfl, ⟨nd, rfl⟩⟩; refine ⟨_, rfl, ?_⟩))
      go_ret
      exact ⟨by first | rfl | (simp; done) | (simp [*]; done), by repeat (first | exact Drawn0.refl _ | apply Drawn0.step)⟩
    · replace c5 := Bool.eq_false_iff.mpr c5
      subst c5
      have H1 : (some 0) = some r := by rw [if_neg (show ¬ (false = true) by decide)] at H; exact H
      clear H
      have H := H1
      clear H1
      obtain rfl := Option.some.inj H
      go_enter Tryz.func43, Tryz.ntmps43
      go_wp2_with (first | ((with_reducible refine gate_callee (f := 36) rfl ?_); refine goesL_ (some 5) rfl rfl Tryz.func36 (by kernel_rfl) rfl #[.string a0, .string (⟨#[13, 10]⟩ : ByteArray)] rfl (by (try simp only [List.map_toArray, List.map_cons, List.map_nil]); first | done | rfl | (simp only [List.length_drop, List.length_take]; rfl)) ?_; (with_reducible refine (strings_HasPrefix.calls a0 (⟨#[13, 10]⟩ : ByteArray) false _ A2.out).mono ?_); rintro e w' ⟨rfl, ⟨nd, rfl⟩⟩; refine ⟨_, rfl, ?_⟩) | ((with_reducible refine gate_callee (f := 36) rfl ?_); refine goesL_ (some 8) rfl rfl Tryz.func36 (by kernel_rfl) rfl #[.string a0, .string (⟨#[13]⟩ : ByteArray)] rfl (by (try simp only [List.map_toArray, List.map_cons, List.map_nil]); first | done | rfl | (simp only [List.length_drop, List.length_take]; rfl)) ?_; (with_reducible refine (strings_HasPrefix.calls a0 (⟨#[13]⟩ : ByteArray) false _ A4.out).mono ?_); rintro e w' ⟨rfl, ⟨nd, rfl⟩⟩; refine ⟨_, rfl, ?_⟩))
      go_ret
      exact ⟨by first | rfl | (simp; done) | (simp [*]; done), by repeat (first | exact Drawn0.refl _ | apply Drawn0.step)⟩
end Go.Proofs.YtfdikkdbmlcjiaaGreatDoor.M
end
section
namespace Go.Proofs.YtfdikkdbmlcjiaaGreatDoor.M
open Go.RowKit Go.Proofs.YtfdikkdbmlcjiaaGreatDoorW.PrintWords Go.Proofs.YtfdikkdbmlcjiaaGreatDoorW.PrintLast
set_option linter.unusedVariables false
set_option linter.unusedSimpArgs false
abbrev TokR := Int × Int × Int × ByteArray × Int × Int
def deepOf (c deep : Int) : Int := if c = 41 then deep - 1 else if c = 40 then deep + 1 else deep
def tok_source_strung.g (K : Nat) (a0 : ByteArray) (a1 : Int) : Nat → List UInt8 → Int → Int → Option TokR
  | 0, _, _, _ => none
  | n + 1, out, deep, p =>
    if out.length ≤ 140737488351232 ∧ 0 ≤ p ∧ p ≤ 4611686018427387904 ∧ 1 ≤ deep ∧ deep ≤ 32 ∧ a0.size ≤ 140737488351232 then
      (tok_source_from.f a0 p).bind fun rest =>
      if rest.size = 0 then some (0, 0, 0, ⟨#[]⟩, a0.size, 2)
      else if bt rest 0 = 92 then
        (tok_escaped.f K (rest.extract 1 rest.size)).bind fun bn =>
        if bn.2 = 0 then some (0, 0, 0, ⟨#[]⟩, a0.size, 2)
        else if 0 < bn.2 ∧ bn.2 ≤ 4611686018427387900 ∧ out.length + bn.1.size ≤ 140737488351232 then tok_source_strung.g K a0 a1 n (out ++ bn.1.data.toList) deep (p + (1 + bn.2)) else none
      else if bt rest 0 = 41 ∧ deep = 1 then some (5, a1, 0, ⟨out.toArray⟩, p + 1, 0)
      else if bt rest 0 = 40 ∧ deep = 32 then some (0, 0, 0, ⟨#[]⟩, p, 5)
      else
        (tok_line.f rest).bind fun m =>
        if 0 < m ∧ m ≤ 2 then tok_source_strung.g K a0 a1 n (out ++ [10]) (deepOf (bt rest 0) deep) (p + m)
        else if m = 0 then tok_source_strung.g K a0 a1 n (out ++ [(bt rest 0).toNat.toUInt8]) (deepOf (bt rest 0) deep) (p + 1)
        else none
    else none
def tok_source_strung.f (K : Nat) (a0 : ByteArray) (a1 : Int) : Option TokR := if 0 ≤ a1 ∧ a1 ≤ 140737488351232 then tok_source_strung.g K a0 a1 K [] 1 (a1 + 1) else none
theorem tok_source_strung.mono_g (K : Nat) (a0 : ByteArray) (a1 : Int) : ∀ n out deep p, LeO (tok_source_strung.g K a0 a1 n out deep p) (tok_source_strung.g (K + 1) a0 a1 (n + 1) out deep p)
  | 0, _, _, _ => fun r h => by simp [tok_source_strung.g] at h
  | n + 1, out, deep, p => by
    have ih := tok_source_strung.mono_g K a0 a1 n
    unfold tok_source_strung.g
    repeat' first
      | (with_reducible exact ih _ _ _)
      | (with_reducible exact tok_escaped.mono _ _)
      | (with_reducible exact LeO.refl _)
      | (with_reducible exact LeO.none _)
      | (with_reducible refine LeO.ite ?_ ?_)
      | (with_reducible refine LeO.bind ?_ (fun _ => ?_))
theorem tok_source_strung.mono : ∀ a0 a1 k, LeO (tok_source_strung.f k a0 a1) (tok_source_strung.f (k + 1) a0 a1) := by
  intro a0 a1 k
  unfold tok_source_strung.f
  refine LeO.ite ?_ (LeO.none _)
  exact tok_source_strung.mono_g k a0 a1 k [] 1 (a1 + 1)
theorem from_lt {a0 rest : ByteArray} {p : Int} (h : tok_source_from.f a0 p = some rest) (hp : 0 ≤ p) (h0 : rest.size ≠ 0) : p < a0.size ∧ rest.size ≤ a0.size := by
  unfold tok_source_from.f at h
  split at h
  case isFalse => cases h
  split at h
  case isFalse => cases h
  obtain rfl := Option.some.inj h
  rw [ByteArray.size_extract] at h0 ⊢
  unfold mn at *
  split at h0 <;> omega
/-- A pass from the label holds at the first one too. -/
theorem wp_scope_once {P : Program} {a : Act} {w : World} {Q : Exit → Act → World → Prop} {c rest : Code} (l : Nat) (J : Act → World → Prop) (μ : Act → World → Nat) (hf : findLabel c l = some (Code.skip.seq rest))
    (pass : ∀ a w, J a w → rest.wp P (Exit.jump l (fun a' w' => J a' w' ∧ μ a' w' < μ a w) Q) a w)
    (first : Aside0 (∀ a w, J a w → rest.wp P (Exit.jump l J Q) a w) → c.wp P (Exit.jump l J Q) a w) : (Code.scope c).wp P Q a w := by
  refine wp_scope_jumps l J μ hf (first ⟨?_⟩) (fun a w hJ => wp_seq (wp_skip (pass a w hJ)))
  intro a w hJ b k cs
  obtain ⟨e, a', w', hq, ha⟩ := pass a w hJ b k cs
  refine ⟨e, a', w', ?_, ha⟩
  cases e <;> first | exact hq | exact ⟨hq.1, hq.2.1⟩
theorem strung_bt (rest : ByteArray) (h : rest.size ≠ 0) : ∃ c : UInt8, bt rest 0 = (c.toNat : Int) ∧ ∀ h : 0 < rest.size, rest[0]'h = c := by
  refine ⟨rest[0]'(by omega), ?_, fun _ => rfl⟩
  exact (bt_at rest 0 (by omega)).symm
def StrJ (K : Nat) (a0 : ByteArray) (a1 : Int) (R : TokR) (Z : Array Value) (w : World) (a' : Act) (w' : World) : Prop :=
  ∃ (n : Nat) (out : List UInt8) (deep p : Int) (u2 u3 u10 u11 u12 u13 u14 u15 u16 u17 u18 u19 u20 u21 u22 u23 u24 u25 u26 u27 u28 u29 u30 u31 u32 u33 u34 u35 u36 u37 u38 u39 u40 u41 u42 u43 u44 u45 u46 u47 u48 u49 u50 u51 u52 u53 u54 u55 u56 u57 u58 u59 u60 u61 u62 u63 u64 u65 u66 u67 u68 u69 u70 u71 u72 u73 u74 u75 u76 u77 u78 u79 u80 u81 u82 u83 u84 u85 u86 u87 u88 u89 u90 u91 u92 u93 : Value), a' = { tmps := #[.string a0, .int .i64 a1, u2, u3, .pointer (some ⟨w.heap.size, 0, none⟩), .int .i64 0, .int .i64 0, .pointer (some ⟨w.heap.size + 1, 0, none⟩), .int .i64 deep, .int .i64 p, u10, u11, u12, u13, u14, u15, u16, u17, u18, u19, u20, u21, u22, u23, u24, u25, u26, u27, u28, u29, u30, u31, u32, u33, u34, u35, u36, u37, u38, u39, u40, u41, u42, u43, u44, u45, u46, u47, u48, u49, u50, u51, u52, u53, u54, u55, u56, u57, u58, u59, u60, u61, u62, u63, u64, u65, u66, u67, u68, u69, u70, u71, u72, u73, u74, u75, u76, u77, u78, u79, u80, u81, u82, u83, u84, u85, u86, u87, u88, u89, u90, u91, u92, u93], defers := [] } ∧ Aside0 (tok_source_strung.g K a0 a1 n out deep p = some R) ∧ 0 ≤ p ∧ Aside0 (IsBd (w.heap.size + 1) (w.heap.size + 1) out w') ∧ Aside0 (Below w.heap.size w w') ∧ Aside0 (w'.heap[w.heap.size]? = some (.cells Z 31 (0, 0))) ∧ w.heap.size + 2 ≤ w'.heap.size
set_option maxHeartbeats 4000000 in
set_option maxRecDepth 1000000 in
theorem tok_source_strung.calls (k : Nat) (a0 : ByteArray) (a1 : Int) (r1 : Int) (r2 : Int) (r3 : Int) (r4 : ByteArray) (r5 : Int) (r6 : Int) (w : World) (h : tok_source_strung.f k a0 a1 = some (r1, r2, r3, r4, r5, r6)) :
    Calls Tryz.prog 22 #[.string a0, .int .i64 a1] w fun e w' => e = .returned (.tuple #[.agg #[.int .i64 r1, .int .i64 r2, .int .i64 r3, .string r4], .int .i64 r5, .int .i64 r6]) ∧ Below w.heap.size w w' := by
  unfold tok_source_strung.f at h
  split at h
  case isFalse => cases h
  rename_i hb
  obtain ⟨hb0, hb1⟩ := hb
  have H := Aside0.mk h
  clear h
  generalize hZ : (#[Value.int IntKind.i64 0, Value.int IntKind.i64 0, Value.int IntKind.i64 0, Value.string ⟨#[]⟩] : Array Value) = Z
  have hzs : Z.size = 4 := by rw [← hZ]; rfl
  have HZ := Aside0.mk hZ
  clear hZ
  go_enter Tryz.func22, Tryz.ntmps22
  go_wp2
  refine wp_scope_once 0 (StrJ k a0 a1 (r1, r2, r3, r4, r5, r6) Z w) (fun a' _ => a0.size + 1 - (intOf (a'.tmps.getD 9 undef)).toNat) rfl ?pass ?first
  case first =>
    intro hp
    go_wp2
    go_step3
    rename_i hK
    refine hK _ _ (hp.out _ _ ⟨k, [], 1, a1 + 1, _, _, _, _, _, _, _, _, _, _, _, _, _, _, _, _, _, _, _, _, _, _, _, _, _, _, _, _, _, _, _, _, _, _, _, _, _, _, _, _, _, _, _, _, _, _, _, _, _, _, _, _, _, _, _, _, _, _, _, _, _, _, _, _, _, _, _, _, _, _, _, _, _, _, _, _, _, _, _, _, _, _, _, _, _, _, rfl, H, by omega, ⟨?_⟩, ⟨?_⟩, ⟨?_⟩, ?_⟩)
    · have h := Lib.IsBuilderF.of (Lib.fresh_isBuilder 57 5 (w.alloc (.cells #[.int .i64 0, .int .i64 0, .int .i64 0, .string ⟨#[]⟩] 31)))
      rw [show (w.alloc (.cells #[.int .i64 0, .int .i64 0, .int .i64 0, .string ⟨#[]⟩] 31)).heap.size = w.heap.size + 1 from Array.size_push ..] at h
      exact h
    · exact below_alloc (below_alloc (Below.refl _ w) _) _
    · rw [← HZ.out]
      show ((w.heap.push _).push _)[w.heap.size]? = _
      rw [Array.getElem?_push, if_neg (by rw [Array.size_push]; omega), Array.getElem?_push_size]
    · simp
  case pass =>
    rintro a' w' ⟨n, out, deep, p, u2, u3, u10, u11, u12, u13, u14, u15, u16, u17, u18, u19, u20, u21, u22, u23, u24, u25, u26, u27, u28, u29, u30, u31, u32, u33, u34, u35, u36, u37, u38, u39, u40, u41, u42, u43, u44, u45, u46, u47, u48, u49, u50, u51, u52, u53, u54, u55, u56, u57, u58, u59, u60, u61, u62, u63, u64, u65, u66, u67, u68, u69, u70, u71, u72, u73, u74, u75, u76, u77, u78, u79, u80, u81, u82, u83, u84, u85, u86, u87, u88, u89, u90, u91, u92, u93, rfl, HG, hp0, HI, HB, HZ1, hs⟩
    cases n with
    | zero => exact absurd HG.out (by simp [tok_source_strung.g])
    | succ n =>
    have hg := HG.out
    clear HG
    rw [tok_source_strung.g] at hg
    split at hg
    case isFalse => cases hg
    rename_i hc
    obtain ⟨ho, -, hp2, hd1, hd2, ha0⟩ := hc
    obtain ⟨rest, hfrom, hg⟩ := Option.bind_eq_some_iff.1 hg
    have HF := Aside0.mk hfrom
    have HG := Aside0.mk hg
    have HLT := Aside0.mk (fun h => from_lt hfrom hp0 h)
    clear hfrom hg
    go_wp2_with fail
    with_reducible refine (tok_source_from.calls a0 p rest _ HF.out).mono ?_
    rintro e W1 ⟨rfl, hb⟩
    have HI1 := Aside0.mk (IsBd.below HI.out hb)
    have HZ2 : Aside0 (W1.heap[w.heap.size]? = some (.cells Z 31 (0, 0))) := ⟨(hb.block w.heap.size (by omega)).trans HZ1.out⟩
    have HB1 : Aside0 (Below w.heap.size w W1) := ⟨below_step HB.out hb⟩
    have hs1 : w.heap.size + 2 ≤ W1.heap.size := by have := hb.size; omega
    clear hb HZ1 HB HI
    have hg := HG.out
    clear HG
    by_cases h0 : rest.size = 0
    · rw [if_pos h0] at hg
      have hr : rest = ⟨#[]⟩ := by
        apply ByteArray.ext
        exact Array.size_eq_zero_iff.1 h0
      subst hr
      simp only [Option.some.injEq, Prod.mk.injEq] at hg
      obtain ⟨rfl, rfl, rfl, rfl, rfl, rfl⟩ := hg
      clear h0 HLT HF
      go_wp2_with (refine wpList_store_row rfl 31 (.tmp 4) (.tmp 22) rfl w.heap.size #[.int .i64 0, .int .i64 0, .int .i64 0, .string ⟨#[]⟩] rfl rfl 31 _ HZ2.out tok_info (by rw [hzs]; rfl) (tok_one _ _ _ _) ?_)
      simp only [Exit.jump]
      refine bodyPost_ret (v := .tuple #[.agg #[.int .i64 0, .int .i64 0, .int .i64 0, .string ⟨#[]⟩], .int .i64 a0.size, .int .i64 2]) ?_ rfl ⟨rfl, below_setRow HB1.out (Nat.le_refl _) _⟩
      exact results_ctt (fn := Tryz.f22) (p := 4) (u := 5) (v := 6) (ty := 31) rfl _ _ w.heap.size 31 _ (0, 0) _ rfl (setRow_heap W1 w.heap.size _ _ 31 (0, 0) HZ2.out) Tryz.underlying31 rfl tok_info
    rw [if_neg h0] at hg
    obtain ⟨hlt, hrs⟩ := HLT.out h0
    obtain ⟨c, hbt, hc0⟩ := strung_bt rest h0
    rw [hbt] at hg
    have h00 : 0 < rest.size := by omega
    have hne : (rest.toList == ([] : List UInt8)) = false := by
      rw [beq_eq_false_iff_ne]
      intro e
      rw [toList_data] at e
      apply h0
      rw [size_list, e]
      rfl
    clear HLT HF hbt h0
    by_cases e92 : c = 92
    · subst e92
      rw [if_pos (show (((92 : UInt8).toNat : Nat) : Int) = 92 from rfl)] at hg
      obtain ⟨⟨eb, en⟩, hesc, hg⟩ := Option.bind_eq_some_iff.1 hg
      dsimp only at hg
      have HE := Aside0.mk hesc
      have HG := Aside0.mk hg
      have h01 : 1 ≤ rest.size := by omega
      clear hesc hg
      go_wp2_with fail
      with_reducible refine (tok_escaped.calls k _ eb en _ HE.out).mono ?_
      rintro e W2 ⟨rfl, hb⟩
      have HI3 := Aside0.mk (IsBd.below HI1.out hb)
      have HZ3 : Aside0 (W2.heap[w.heap.size]? = some (.cells Z 31 (0, 0))) := ⟨(hb.block w.heap.size (by omega)).trans HZ2.out⟩
      have HB3 : Aside0 (Below w.heap.size w W2) := ⟨below_step HB1.out hb⟩
      have hs2 : w.heap.size + 2 ≤ W2.heap.size := by have := hb.size; omega
      clear hb HZ2 HB1 HI1 HE
      have hg := HG.out
      clear HG
      by_cases hn : en = 0
      · subst hn
        rw [if_pos rfl] at hg
        simp only [Option.some.injEq, Prod.mk.injEq] at hg
        obtain ⟨rfl, rfl, rfl, rfl, rfl, rfl⟩ := hg
        go_wp2_with (refine wpList_store_row rfl 31 (.tmp 4) (.tmp 37) rfl w.heap.size #[.int .i64 0, .int .i64 0, .int .i64 0, .string ⟨#[]⟩] rfl rfl 31 _ HZ3.out tok_info (by rw [hzs]; rfl) (tok_one _ _ _ _) ?_)
        simp only [Exit.jump]
        refine bodyPost_ret (v := .tuple #[.agg #[.int .i64 0, .int .i64 0, .int .i64 0, .string ⟨#[]⟩], .int .i64 a0.size, .int .i64 2]) ?_ rfl ⟨rfl, below_setRow HB3.out (Nat.le_refl _) _⟩
        exact results_ctt (fn := Tryz.f22) (p := 4) (u := 5) (v := 6) (ty := 31) rfl _ _ w.heap.size 31 _ (0, 0) _ rfl (setRow_heap W2 w.heap.size _ _ 31 (0, 0) HZ3.out) Tryz.underlying31 rfl tok_info
      · rw [if_neg hn] at hg
        split at hg
        case isFalse => cases hg
        rename_i hcn
        obtain ⟨hn0, hn1, hol⟩ := hcn
        have hen : (en == 0) = false := beq_eq_false_iff_ne.2 hn
        have HG := Aside0.mk hg
        have HOL := Aside0.mk hol
        clear hg hol
        go_wp2_with (go_at_call 30; refine (WriteString_k (w.heap.size + 1) (w.heap.size + 1) _ eb _ HI3.out ?c1 ?c2).mono ?_)
        case c1 => rw [Lib.byteCells_length]; have := HOL.out; omega
        case c2 => omega
        rintro e W3 ⟨rfl, h3, b3, -⟩
        have HI4 : Aside0 (IsBd (w.heap.size + 1) (w.heap.size + 1) (out ++ eb.data.toList) W3) := ⟨by rw [IsBd, Lib.byteCells_append]; exact .inr h3⟩
        have HZ4 : Aside0 (W3.heap[w.heap.size]? = some (.cells Z 31 (0, 0))) := ⟨(b3.block w.heap.size (by omega)).trans HZ3.out⟩
        have HB4 : Aside0 (Below w.heap.size w W3) := ⟨HB3.out.trans (b3.mono (by omega))⟩
        have hs3 : w.heap.size + 2 ≤ W3.heap.size := by have := b3.size; omega
        clear h3 b3 HZ3 HB3 HI3
        go_wp2
        go_step3
        refine ⟨rfl, ⟨n, _, deep, p + (1 + en), _, _, _, _, _, _, _, _, _, _, _, _, _, _, _, _, _, _, _, _, _, _, _, _, _, _, _, _, _, _, _, _, _, _, _, _, _, _, _, _, _, _, _, _, _, _, _, _, _, _, _, _, _, _, _, _, _, _, _, _, _, _, _, _, _, _, _, _, _, _, _, _, _, _, _, _, _, _, _, _, _, _, _, _, _, _, rfl, HG, by omega, HI4, HB4, HZ4, hs3⟩, ?_⟩
        simp [intOf]
        omega
    rw [if_neg (show ¬ (c.toNat : Int) = 92 from fun e => e92 (UInt8.toNat_inj.1 (by show c.toNat = 92; omega)))] at hg
    by_cases e41 : c = 41
    · subst e41
      by_cases d1 : deep = 1
      · subst d1
        rw [if_pos (show (((41 : UInt8).toNat : Nat) : Int) = 41 ∧ (1 : Int) = 1 from ⟨rfl, rfl⟩)] at hg
        simp only [Option.some.injEq, Prod.mk.injEq] at hg
        obtain ⟨rfl, rfl, rfl, rfl, rfl, rfl⟩ := hg
        go_wp2_with (go_at_call 31; refine (Tryz.Builder_String_any_k (w.heap.size + 1) (w.heap.size + 1) _ _ HI1.out ?c1).mono ?_)
        case c1 => omega
        rintro e W2 ⟨rfl, -, b2, -⟩
        have HZ3 : Aside0 (W2.heap[w.heap.size]? = some (.cells Z 31 (0, 0))) := ⟨(b2.block w.heap.size (by omega)).trans HZ2.out⟩
        have HB3 : Aside0 (Below w.heap.size w W2) := ⟨HB1.out.trans (b2.mono (by omega))⟩
        clear b2 HZ2 HB1 HI1
        go_wp2_with (refine wpList_store_row rfl 31 (.tmp 4) (.tmp 56) rfl w.heap.size #[.int .i64 5, .int .i64 a1, .int .i64 0, .string ⟨out.toArray⟩] rfl rfl 31 _ HZ3.out tok_info (by rw [hzs]; rfl) (tok_one _ _ _ _) ?_)
        simp only [Exit.jump]
        refine bodyPost_ret (v := .tuple #[.agg #[.int .i64 5, .int .i64 a1, .int .i64 0, .string ⟨out.toArray⟩], .int .i64 (p + 1), .int .i64 0]) ?_ rfl ⟨rfl, below_setRow HB3.out (Nat.le_refl _) _⟩
        exact results_ctt (fn := Tryz.f22) (p := 4) (u := 5) (v := 6) (ty := 31) rfl _ _ w.heap.size 31 _ (0, 0) _ rfl (setRow_heap W2 w.heap.size _ _ 31 (0, 0) HZ3.out) Tryz.underlying31 rfl tok_info
      · rw [if_neg (fun e => d1 e.2), if_neg (show ¬ ((((41 : UInt8).toNat : Nat) : Int) = 40 ∧ deep = 32) from fun e => absurd e.1 (by decide)), show deepOf (((41 : UInt8).toNat : Nat) : Int) deep = deep - 1 from rfl, show (((41 : UInt8).toNat : Nat) : Int).toNat.toUInt8 = 41 from rfl] at hg
        have dd1 : (deep == 1) = false := beq_eq_false_iff_ne.2 d1
        obtain ⟨m, hln, hg⟩ := Option.bind_eq_some_iff.1 hg
        have HL := Aside0.mk hln
        have HG := Aside0.mk hg
        clear hln hg
        go_wp2_with fail
        with_reducible refine (tok_line.calls rest m _ HL.out).mono ?_
        rintro e W2 ⟨rfl, ⟨nd, rfl⟩⟩
        have HI3 : Aside0 (IsBd (w.heap.size + 1) (w.heap.size + 1) out (W1.drewN nd)) := HI1
        have HZ3 : Aside0 ((W1.drewN nd).heap[w.heap.size]? = some (.cells Z 31 (0, 0))) := HZ2
        have HB3 : Aside0 (Below w.heap.size w (W1.drewN nd)) := ⟨pw_below_drewN HB1.out nd⟩
        have hs2 : w.heap.size + 2 ≤ (W1.drewN nd).heap.size := hs1
        clear HZ2 HB1 HI1 hs1
        generalize W1.drewN nd = W2 at HI3 HZ3 HB3 hs2 ⊢
        have hg := HG.out
        clear HG
        split at hg
        · rename_i hm
          have HG := Aside0.mk hg
          have hm2 : decide (0 < m) = true := decide_eq_true hm.1
          have hm0 := hm.1
          have hm1 := hm.2
          clear hg hm
          go_wp2_with (go_at_call 39; refine (WriteByte_k (w.heap.size + 1) (w.heap.size + 1) _ 10 _ HI3.out ?c1 ?c2).mono ?_)
          case c1 => rw [Lib.byteCells_length]; omega
          case c2 => omega
          rintro e W3 ⟨rfl, h3, b3, -⟩
          have HI4 : Aside0 (IsBd (w.heap.size + 1) (w.heap.size + 1) (out ++ [10]) W3) := ⟨by rw [IsBd, Lib.byteCells_append]; exact .inr h3⟩
          have HZ4 : Aside0 (W3.heap[w.heap.size]? = some (.cells Z 31 (0, 0))) := ⟨(b3.block w.heap.size (by omega)).trans HZ3.out⟩
          have HB4 : Aside0 (Below w.heap.size w W3) := ⟨HB3.out.trans (b3.mono (by omega))⟩
          have hs3 : w.heap.size + 2 ≤ W3.heap.size := by have := b3.size; omega
          clear h3 b3 HZ3 HB3 HI3
          go_wp2
          go_step3
          refine ⟨rfl, ⟨n, _, deep - 1, p + m, _, _, _, _, _, _, _, _, _, _, _, _, _, _, _, _, _, _, _, _, _, _, _, _, _, _, _, _, _, _, _, _, _, _, _, _, _, _, _, _, _, _, _, _, _, _, _, _, _, _, _, _, _, _, _, _, _, _, _, _, _, _, _, _, _, _, _, _, _, _, _, _, _, _, _, _, _, _, _, _, _, _, _, _, _, _, rfl, HG, by omega, HI4, HB4, HZ4, hs3⟩, ?_⟩
          simp [intOf]
          omega
        · split at hg
          case isFalse => cases hg
          rename_i hm
          subst hm
          have HG := Aside0.mk hg
          clear hg
          go_wp2_with (go_at_call 39; refine (WriteByte_k (w.heap.size + 1) (w.heap.size + 1) _ 41 _ HI3.out ?c1 ?c2).mono ?_)
          case c1 => rw [Lib.byteCells_length]; omega
          case c2 => omega
          rintro e W3 ⟨rfl, h3, b3, -⟩
          have HI4 : Aside0 (IsBd (w.heap.size + 1) (w.heap.size + 1) (out ++ [41]) W3) := ⟨by rw [IsBd, Lib.byteCells_append]; exact .inr h3⟩
          have HZ4 : Aside0 (W3.heap[w.heap.size]? = some (.cells Z 31 (0, 0))) := ⟨(b3.block w.heap.size (by omega)).trans HZ3.out⟩
          have HB4 : Aside0 (Below w.heap.size w W3) := ⟨HB3.out.trans (b3.mono (by omega))⟩
          have hs3 : w.heap.size + 2 ≤ W3.heap.size := by have := b3.size; omega
          clear h3 b3 HZ3 HB3 HI3
          go_wp2
          go_step3
          refine ⟨rfl, ⟨n, _, deep - 1, p + 1, _, _, _, _, _, _, _, _, _, _, _, _, _, _, _, _, _, _, _, _, _, _, _, _, _, _, _, _, _, _, _, _, _, _, _, _, _, _, _, _, _, _, _, _, _, _, _, _, _, _, _, _, _, _, _, _, _, _, _, _, _, _, _, _, _, _, _, _, _, _, _, _, _, _, _, _, _, _, _, _, _, _, _, _, _, _, rfl, HG, by omega, HI4, HB4, HZ4, hs3⟩, ?_⟩
          simp [intOf]
          omega
    rw [if_neg (show ¬ ((c.toNat : Int) = 41 ∧ deep = 1) from fun e => e41 (UInt8.toNat_inj.1 (by show c.toNat = 41; omega)))] at hg
    by_cases e40 : c = 40
    · subst e40
      by_cases d32 : deep = 32
      · subst d32
        rw [if_pos (show (((40 : UInt8).toNat : Nat) : Int) = 40 ∧ (32 : Int) = 32 from ⟨rfl, rfl⟩)] at hg
        simp only [Option.some.injEq, Prod.mk.injEq] at hg
        obtain ⟨rfl, rfl, rfl, rfl, rfl, rfl⟩ := hg
        go_wp2_with (refine wpList_store_row rfl 31 (.tmp 4) (.tmp 73) rfl w.heap.size #[.int .i64 0, .int .i64 0, .int .i64 0, .string ⟨#[]⟩] rfl rfl 31 _ HZ2.out tok_info (by rw [hzs]; rfl) (tok_one _ _ _ _) ?_)
        simp only [Exit.jump]
        refine bodyPost_ret (v := .tuple #[.agg #[.int .i64 0, .int .i64 0, .int .i64 0, .string ⟨#[]⟩], .int .i64 p, .int .i64 5]) ?_ rfl ⟨rfl, below_setRow HB1.out (Nat.le_refl _) _⟩
        exact results_ctt (fn := Tryz.f22) (p := 4) (u := 5) (v := 6) (ty := 31) rfl _ _ w.heap.size 31 _ (0, 0) _ rfl (setRow_heap W1 w.heap.size _ _ 31 (0, 0) HZ2.out) Tryz.underlying31 rfl tok_info
      · rw [if_neg (fun e => d32 e.2), show deepOf (((40 : UInt8).toNat : Nat) : Int) deep = deep + 1 from rfl, show (((40 : UInt8).toNat : Nat) : Int).toNat.toUInt8 = 40 from rfl] at hg
        have dd32 : (deep == 32) = false := beq_eq_false_iff_ne.2 d32
        obtain ⟨m, hln, hg⟩ := Option.bind_eq_some_iff.1 hg
        have HL := Aside0.mk hln
        have HG := Aside0.mk hg
        clear hln hg
        go_wp2_with fail
        with_reducible refine (tok_line.calls rest m _ HL.out).mono ?_
        rintro e W2 ⟨rfl, ⟨nd, rfl⟩⟩
        have HI3 : Aside0 (IsBd (w.heap.size + 1) (w.heap.size + 1) out (W1.drewN nd)) := HI1
        have HZ3 : Aside0 ((W1.drewN nd).heap[w.heap.size]? = some (.cells Z 31 (0, 0))) := HZ2
        have HB3 : Aside0 (Below w.heap.size w (W1.drewN nd)) := ⟨pw_below_drewN HB1.out nd⟩
        have hs2 : w.heap.size + 2 ≤ (W1.drewN nd).heap.size := hs1
        clear HZ2 HB1 HI1 hs1
        generalize W1.drewN nd = W2 at HI3 HZ3 HB3 hs2 ⊢
        have hg := HG.out
        clear HG
        split at hg
        · rename_i hm
          have HG := Aside0.mk hg
          have hm2 : decide (0 < m) = true := decide_eq_true hm.1
          have hm0 := hm.1
          have hm1 := hm.2
          clear hg hm
          go_wp2_with (go_at_call 39; refine (WriteByte_k (w.heap.size + 1) (w.heap.size + 1) _ 10 _ HI3.out ?c1 ?c2).mono ?_)
          case c1 => rw [Lib.byteCells_length]; omega
          case c2 => omega
          rintro e W3 ⟨rfl, h3, b3, -⟩
          have HI4 : Aside0 (IsBd (w.heap.size + 1) (w.heap.size + 1) (out ++ [10]) W3) := ⟨by rw [IsBd, Lib.byteCells_append]; exact .inr h3⟩
          have HZ4 : Aside0 (W3.heap[w.heap.size]? = some (.cells Z 31 (0, 0))) := ⟨(b3.block w.heap.size (by omega)).trans HZ3.out⟩
          have HB4 : Aside0 (Below w.heap.size w W3) := ⟨HB3.out.trans (b3.mono (by omega))⟩
          have hs3 : w.heap.size + 2 ≤ W3.heap.size := by have := b3.size; omega
          clear h3 b3 HZ3 HB3 HI3
          go_wp2
          go_step3
          refine ⟨rfl, ⟨n, _, deep + 1, p + m, _, _, _, _, _, _, _, _, _, _, _, _, _, _, _, _, _, _, _, _, _, _, _, _, _, _, _, _, _, _, _, _, _, _, _, _, _, _, _, _, _, _, _, _, _, _, _, _, _, _, _, _, _, _, _, _, _, _, _, _, _, _, _, _, _, _, _, _, _, _, _, _, _, _, _, _, _, _, _, _, _, _, _, _, _, _, rfl, HG, by omega, HI4, HB4, HZ4, hs3⟩, ?_⟩
          simp [intOf]
          omega
        · split at hg
          case isFalse => cases hg
          rename_i hm
          subst hm
          have HG := Aside0.mk hg
          clear hg
          go_wp2_with (go_at_call 39; refine (WriteByte_k (w.heap.size + 1) (w.heap.size + 1) _ 40 _ HI3.out ?c1 ?c2).mono ?_)
          case c1 => rw [Lib.byteCells_length]; omega
          case c2 => omega
          rintro e W3 ⟨rfl, h3, b3, -⟩
          have HI4 : Aside0 (IsBd (w.heap.size + 1) (w.heap.size + 1) (out ++ [40]) W3) := ⟨by rw [IsBd, Lib.byteCells_append]; exact .inr h3⟩
          have HZ4 : Aside0 (W3.heap[w.heap.size]? = some (.cells Z 31 (0, 0))) := ⟨(b3.block w.heap.size (by omega)).trans HZ3.out⟩
          have HB4 : Aside0 (Below w.heap.size w W3) := ⟨HB3.out.trans (b3.mono (by omega))⟩
          have hs3 : w.heap.size + 2 ≤ W3.heap.size := by have := b3.size; omega
          clear h3 b3 HZ3 HB3 HI3
          go_wp2
          go_step3
          refine ⟨rfl, ⟨n, _, deep + 1, p + 1, _, _, _, _, _, _, _, _, _, _, _, _, _, _, _, _, _, _, _, _, _, _, _, _, _, _, _, _, _, _, _, _, _, _, _, _, _, _, _, _, _, _, _, _, _, _, _, _, _, _, _, _, _, _, _, _, _, _, _, _, _, _, _, _, _, _, _, _, _, _, _, _, _, _, _, _, _, _, _, _, _, _, _, _, _, _, rfl, HG, by omega, HI4, HB4, HZ4, hs3⟩, ?_⟩
          simp [intOf]
          omega
    rw [if_neg (show ¬ ((c.toNat : Int) = 40 ∧ deep = 32) from fun e => e40 (UInt8.toNat_inj.1 (by show c.toNat = 40; omega)))] at hg
    have n92 : (c.toNat : Int) ≠ 92 := fun e => e92 (UInt8.toNat_inj.1 (by show c.toNat = 92; omega))
    have n41 : (c.toNat : Int) ≠ 41 := fun e => e41 (UInt8.toNat_inj.1 (by show c.toNat = 41; omega))
    have n40 : (c.toNat : Int) ≠ 40 := fun e => e40 (UInt8.toNat_inj.1 (by show c.toNat = 40; omega))
    rw [show deepOf (c.toNat : Int) deep = deep from by unfold deepOf; rw [if_neg n41, if_neg n40], show (c.toNat : Int).toNat.toUInt8 = c from by rw [Int.toNat_natCast]; exact UInt8.ofNat_toNat] at hg
    replace n92 : ((c.toNat : Int) == 92) = false := beq_eq_false_iff_ne.2 n92
    replace n41 : ((c.toNat : Int) == 41) = false := beq_eq_false_iff_ne.2 n41
    replace n40 : ((c.toNat : Int) == 40) = false := beq_eq_false_iff_ne.2 n40
    have h256 := c.toNat_lt
    clear e92 e41 e40
    obtain ⟨m, hln, hg⟩ := Option.bind_eq_some_iff.1 hg
    have HL := Aside0.mk hln
    have HG := Aside0.mk hg
    clear hln hg
    go_wp2_with fail
    with_reducible refine (tok_line.calls rest m _ HL.out).mono ?_
    rintro e W2 ⟨rfl, ⟨nd, rfl⟩⟩
    have HI3 : Aside0 (IsBd (w.heap.size + 1) (w.heap.size + 1) out (W1.drewN nd)) := HI1
    have HZ3 : Aside0 ((W1.drewN nd).heap[w.heap.size]? = some (.cells Z 31 (0, 0))) := HZ2
    have HB3 : Aside0 (Below w.heap.size w (W1.drewN nd)) := ⟨pw_below_drewN HB1.out nd⟩
    have hs2 : w.heap.size + 2 ≤ (W1.drewN nd).heap.size := hs1
    clear HZ2 HB1 HI1 hs1
    generalize W1.drewN nd = W2 at HI3 HZ3 HB3 hs2 ⊢
    have hg := HG.out
    clear HG
    split at hg
    · rename_i hm
      have HG := Aside0.mk hg
      have hm2 : decide (0 < m) = true := decide_eq_true hm.1
      have hm0 := hm.1
      have hm1 := hm.2
      clear hg hm
      go_wp2_with (go_at_call 39; refine (WriteByte_k (w.heap.size + 1) (w.heap.size + 1) _ 10 _ HI3.out ?c1 ?c2).mono ?_)
      case c1 => rw [Lib.byteCells_length]; omega
      case c2 => omega
      rintro e W3 ⟨rfl, h3, b3, -⟩
      have HI4 : Aside0 (IsBd (w.heap.size + 1) (w.heap.size + 1) (out ++ [10]) W3) := ⟨by rw [IsBd, Lib.byteCells_append]; exact .inr h3⟩
      have HZ4 : Aside0 (W3.heap[w.heap.size]? = some (.cells Z 31 (0, 0))) := ⟨(b3.block w.heap.size (by omega)).trans HZ3.out⟩
      have HB4 : Aside0 (Below w.heap.size w W3) := ⟨HB3.out.trans (b3.mono (by omega))⟩
      have hs3 : w.heap.size + 2 ≤ W3.heap.size := by have := b3.size; omega
      clear h3 b3 HZ3 HB3 HI3
      go_wp2
      go_step3
      refine ⟨rfl, ⟨n, _, deep, p + m, _, _, _, _, _, _, _, _, _, _, _, _, _, _, _, _, _, _, _, _, _, _, _, _, _, _, _, _, _, _, _, _, _, _, _, _, _, _, _, _, _, _, _, _, _, _, _, _, _, _, _, _, _, _, _, _, _, _, _, _, _, _, _, _, _, _, _, _, _, _, _, _, _, _, _, _, _, _, _, _, _, _, _, _, _, _, rfl, HG, by omega, HI4, HB4, HZ4, hs3⟩, ?_⟩
      simp [intOf]
      omega
    · split at hg
      case isFalse => cases hg
      rename_i hm
      subst hm
      have HG := Aside0.mk hg
      clear hg
      go_wp2_with (go_at_call 39; refine (WriteByte_k (w.heap.size + 1) (w.heap.size + 1) _ (c.toNat : Int) _ HI3.out ?c1 ?c2).mono ?_)
      case c1 => rw [Lib.byteCells_length]; omega
      case c2 => omega
      rintro e W3 ⟨rfl, h3, b3, -⟩
      have HI4 : Aside0 (IsBd (w.heap.size + 1) (w.heap.size + 1) (out ++ [c]) W3) := ⟨by rw [IsBd, Lib.byteCells_append]; exact .inr h3⟩
      have HZ4 : Aside0 (W3.heap[w.heap.size]? = some (.cells Z 31 (0, 0))) := ⟨(b3.block w.heap.size (by omega)).trans HZ3.out⟩
      have HB4 : Aside0 (Below w.heap.size w W3) := ⟨HB3.out.trans (b3.mono (by omega))⟩
      have hs3 : w.heap.size + 2 ≤ W3.heap.size := by have := b3.size; omega
      clear h3 b3 HZ3 HB3 HI3
      go_wp2
      go_step3
      refine ⟨rfl, ⟨n, _, deep, p + 1, _, _, _, _, _, _, _, _, _, _, _, _, _, _, _, _, _, _, _, _, _, _, _, _, _, _, _, _, _, _, _, _, _, _, _, _, _, _, _, _, _, _, _, _, _, _, _, _, _, _, _, _, _, _, _, _, _, _, _, _, _, _, _, _, _, _, _, _, _, _, _, _, _, _, _, _, _, _, _, _, _, _, _, _, _, _, rfl, HG, by omega, HI4, HB4, HZ4, hs3⟩, ?_⟩
      simp [intOf]
      omega
end Go.Proofs.YtfdikkdbmlcjiaaGreatDoor.M
end
section
namespace Go.Proofs.YtfdikkdbmlcjiaaGreatDoor.M
open Go.RowKit Go.Extern.Stop Go.Stop Go.Extern Go.Extern.Rtype Go.Proofs.YtfdikkdbmlcjiaaGreatDoorW.PrintWords
set_option linter.unusedVariables false
theorem isTypeOf (v : Value) (w : World) : (Extern.ReflectliteType.typeOf #[.iface 146 v]).run Tryz.prog w = .ok (.iface 120 (.agg #[.pointer (some ⟨8, 146, none⟩)])) w := by kernel_rfl
theorem isComparable (w : World) : ((Extern.ReflectliteType.method fun t => do noPackHeld "Comparable" t; (fun a => Value.bool a.comparable) <$> typeInfo t) #[.agg #[.pointer (some ⟨8, 146, none⟩)]]).run Tryz.prog w = .ok (.bool true) w := by kernel_rfl
theorem isMethodComparable (v : Value) (w : World) : (Go.method 286 120 v "Comparable").run Tryz.prog w = .ok (129, v) w := by kernel_rfl
theorem isComp : (Tryz.prog.info? 146).map (·.comparable) = some true := by kernel_rfl
theorem isSize : (Tryz.prog.info? 148).map (·.size) = some 1 := by kernel_rfl
theorem noIsE (v : Value) (xT : TypeId) (w : World) : (Instr.typeAssert (.iface 146 v) xT 122 true).run Tryz.prog w = .ok (.tuple #[.nilIface, .bool false]) w := run_typeAssert_lacksB Tryz.underlying122 (by kernel_rfl) (by kernel_rfl) v xT w
theorem noIsW (v : Value) (xT : TypeId) (w : World) : (Instr.typeAssert (.iface 116 v) xT 122 true).run Tryz.prog w = .ok (.tuple #[.nilIface, .bool false]) w := run_typeAssert_lacksB Tryz.underlying122 (by kernel_rfl) (by kernel_rfl) v xT w
theorem hasUnwrapW (v : Value) (xT : TypeId) (w : World) : (Instr.typeAssert (.iface 116 v) xT 125 true).run Tryz.prog w = .ok (.tuple #[.iface 116 v, .bool true]) w := run_typeAssert_hasB Tryz.underlying125 (by kernel_rfl) v xT w
theorem methodUnwrap (v : Value) (w : World) : (Go.method 286 116 v "Unwrap").run Tryz.prog w = .ok (125, v) w := by kernel_rfl
theorem is_nil (b : Addr) (w : World) :
    Calls Tryz.prog 56 #[.nilIface, .iface 146 (.pointer (some b))] w fun e w' => e = .returned (.bool false) ∧ w' = w := by
  have hn := run_eql_iface_nil_left (P := Tryz.prog) w 146 (.pointer (some b)) Tryz.underlying60
  go_enter Tryz.func56, Tryz.ntmps56
  go_wp2
  go_ret
  exact ⟨rfl, rfl⟩
set_option maxHeartbeats 1000000 in
set_option maxRecDepth 1000000 in
theorem is_wrap_same (pb : Nat) (b : Addr) (w : World) (h1 : w.cell? ⟨pb, 2, none⟩ = some (.iface 146 (.pointer (some b)))) :
    Calls Tryz.prog 56 #[.iface 116 (.pointer (some ⟨pb, 0, none⟩)), .iface 146 (.pointer (some b))] w fun e w' => e = .returned (.bool true) ∧ w' = w := by
  obtain ⟨i, hi, hcmp⟩ := Option.map_eq_some_iff.1 isComp
  obtain ⟨j, hj, hjs⟩ := Option.map_eq_some_iff.1 isSize
  have h8 := @run_callFunc_extern Tryz.prog 65 _ Extern.ReflectliteType.typeOf Tryz.func65 (by kernel_rfl) (by kernel_rfl) (by kernel_rfl) (by kernel_rfl)
  have h32 := @run_callFunc_extern Tryz.prog 129 _ (Extern.ReflectliteType.method fun t => do noPackHeld "Comparable" t; pure (.bool (← typeInfo t).comparable)) Tryz.func129 (by kernel_rfl) (by kernel_rfl) (by kernel_rfl) (by kernel_rfl)
  have tT := isTypeOf
  have cT := isComparable
  have mR := isMethodComparable
  have nE := noIsE
  have nW := noIsW
  have uW := hasUnwrapW
  have mU := methodUnwrap
  have heq := run_eql_iface_ptr_same (P := Tryz.prog) w b Tryz.underlying60 Tryz.underlying146 hi hcmp hj
  have hty := run_eql_iface_types (P := Tryz.prog) 116 146 (.pointer (some ⟨pb, 0, none⟩)) (.pointer (some b)) Tryz.underlying60 (by decide) w
  go_enter Tryz.func56, Tryz.ntmps56
  go_wp2
  refine wp_loop_rounds 2 ?_
  rw [rounds_succ]
  go_wp2
  rw [rounds_succ]
  go_wp2
  go_ret
  exact ⟨rfl, rfl⟩
end Go.Proofs.YtfdikkdbmlcjiaaGreatDoor.M
end
section
namespace Go.Proofs.YtfdikkdbmlcjiaaGreatDoor.M
open Go.RowKit Go.Proofs.YtfdikkdbmlcjiaaGreatDoorW.PrintWords
set_option linter.unusedVariables false
/-- A text's number, and the error's number: 3 no number, 4 too great. -/
def lexInt (l : List UInt8) : Int × Int := if wholeB l then (match Lib.parseIntB 32 l with | .ok v => (v, 0) | _ => (0, 4)) else (0, 3)
def lex_Int.f (a0 : ByteArray) : Option (Int × Int) := if a0.size ≤ 281474976710656 then some (lexInt a0.data.toList) else none
/-- Neither a number nor one that is too great. -/
def badNum {α : Type} : Lib.NumEnd α → Bool
  | .ok _ => false
  | .range => false
  | _ => true
theorem parseUintM_digits (M : Nat) : ∀ (l : List UInt8) (acc : Nat), l.all isDigB = true → badNum (Lib.parseUintM M acc l) = false
  | [], acc, _ => by simp [Lib.parseUintM, badNum]
  | c :: r, acc, h => by
    simp only [List.all_cons, Bool.and_eq_true, isDigB, decide_eq_true_eq] at h
    unfold Lib.parseUintM
    rw [if_pos ⟨h.1.1, h.1.2⟩]
    split
    · rfl
    · split
      · rfl
      · exact parseUintM_digits M r _ h.2
theorem parse_whole (l : List UInt8) (h : wholeB l = true) : badNum (Lib.parseIntB 32 l) = false := by
  match l with
  | [] => simp [wholeB, unsign] at h
  | c :: r =>
    have key : ∀ ds : List UInt8, ds ≠ [] → ds.all isDigB = true → badNum (Lib.parseUintB 32 ds) = false := by
      intro ds h1 h2
      unfold Lib.parseUintB
      rw [if_neg h1]
      exact parseUintM_digits _ _ _ h2
    have hu : (if c.toNat = 43 ∨ c.toNat = 45 then r else c :: r) = unsign (c :: r) := by
      have e1 : (c == 43) = decide (c.toNat = 43) := by rw [Bool.eq_iff_iff, beq_iff_eq, decide_eq_true_eq, ← UInt8.toNat_inj]; rfl
      have e2 : (c == 45) = decide (c.toNat = 45) := by rw [Bool.eq_iff_iff, beq_iff_eq, decide_eq_true_eq, ← UInt8.toNat_inj]; rfl
      simp [unsign, e1, e2]
    simp only [wholeB, Bool.and_eq_true, Bool.not_eq_true', List.isEmpty_eq_false_iff] at h
    have hk := key _ h.1 h.2
    unfold Lib.parseIntB
    simp only
    rw [hu]
    cases hp : Lib.parseUintB 32 (unsign (c :: r)) with
    | ok u =>
      simp only
      split
      · rfl
      · split
        · rfl
        · split <;> rfl
    | range => rfl
    | _ => rw [hp] at hk; exact absurd hk (by decide)
set_option maxHeartbeats 1000000 in
set_option maxRecDepth 1000000 in
theorem lex_Int.calls (a0 : ByteArray) (r1 r2 : Int) (w : World) (hG : GW w) (h : lex_Int.f a0 = some (r1, r2)) :
    Calls Tryz.prog 44 #[.string a0] w fun e w' => e = .returned (.tuple #[.int .i64 r1, .int .i64 r2]) ∧ Below w.heap.size w w' := by
  unfold lex_Int.f at h
  split at h
  case isFalse => cases h
  rename_i hl
  have he := Option.some.inj h
  clear h
  have hwh := whole_eq a0 (by omega)
  have HG := Aside0.mk hG
  clear hG
  unfold lexInt at he
  cases hb : wholeB a0.data.toList with
  | false =>
    rw [hb] at he hwh
    obtain ⟨rfl, rfl⟩ : 0 = r1 ∧ 3 = r2 := by simpa using he
    have HW := Aside0.mk hwh
    clear hwh he hb
    go_enter Tryz.func44, Tryz.ntmps44
    go_wp2_with (go_at_call 54; with_reducible refine (lex_whole.calls _ _ _ HW.out).mono ?_)
    rintro e w1 ⟨rfl, b1⟩
    go_wp2
    go_ret2
    exact ⟨rfl, b1⟩
  | true =>
    rw [hb] at he hwh
    have hns := parse_whole _ hb
    have HW := Aside0.mk hwh
    simp only [if_true] at he
    cases hp : Lib.parseIntB 32 a0.data.toList with
    | ok v =>
      rw [hp] at he
      obtain ⟨rfl, rfl⟩ : v = r1 ∧ 0 = r2 := by simpa using he
      have HP := Aside0.mk hp
      clear hwh he hb hp hns
      go_enter Tryz.func44, Tryz.ntmps44
      go_wp2_with (go_at_call 54; with_reducible refine (lex_whole.calls _ _ _ HW.out).mono ?_)
      rintro e w1 ⟨rfl, b1⟩
      go_wp2_with (go_at_call 55; with_reducible refine (Tryz.strconv_ParseInt_10_at32_ok _ (by omega) _ HP.out _).mono ?_)
      rintro e w2 ⟨rfl, hw2⟩
      have b2 : Below w.heap.size w w2 := by
        rcases hw2 with rfl | ⟨t, rfl⟩
        · exact b1
        · exact below_then b1 b1.size (Lib.bytesWorld_below _ _ _)
      clear hw2
      obtain ⟨a, ha⟩ := (GW.below b2 HG.out).range
      go_wp2_with (go_at_call 56; with_reducible refine (is_nil _ _).mono ?_)
      rintro e w3 ⟨rfl, rfl⟩
      go_wp2
      go_ret2
      exact ⟨rfl, b2⟩
    | range =>
      rw [hp] at he
      obtain ⟨rfl, rfl⟩ : 0 = r1 ∧ 4 = r2 := by simpa using he
      have HP := Aside0.mk hp
      clear hwh he hb hp hns
      go_enter Tryz.func44, Tryz.ntmps44
      go_wp2_with (go_at_call 54; with_reducible refine (lex_whole.calls _ _ _ HW.out).mono ?_)
      rintro e w1 ⟨rfl, b1⟩
      obtain ⟨a, ha⟩ := (GW.below b1 HG.out).range
      have HA := Aside0.mk ha
      clear ha
      go_wp2_with (go_at_call 55; with_reducible refine (Tryz.strconv_ParseInt_10_at32_range _ (by omega) HP.out _ _ HA.out (.inr ⟨_, _, rfl⟩)).mono ?_)
      rintro e w2 ⟨N, rfl, hN, hN2, b2⟩
      have ha2 := pw_cell_below b2 HA.out
      have hc2 : w2.cell? ⟨N, 2, none⟩ = some (.iface 146 (.pointer (some a))) := by rw [Lib.cell_of_heap hN2]; rfl
      replace b1 := below_then b1 b1.size b2
      clear hN hN2 b2
      go_wp2_with (go_at_call 56; with_reducible refine (is_wrap_same _ _ _ hc2).mono ?_)
      rintro e w3 ⟨rfl, rfl⟩
      go_wp2
      go_ret2
      exact ⟨rfl, b1⟩
    | _ => rw [hp] at hns; exact absurd hns (by decide)
end Go.Proofs.YtfdikkdbmlcjiaaGreatDoor.M
end
section
/- Laid by this session's program hbprint.py out of the translation: the function  hornbook/tok.source .worded and its contract. -/
namespace Go.Proofs.YtfdikkdbmlcjiaaGreatDoor.M
open Go.RowKit Go.Proofs.YtfdikkdbmlcjiaaGreatDoorW.PrintWords Go.Proofs.YtfdikkdbmlcjiaaGreatDoorW.PrintLast Go.Proofs.YtfdikkdbmlcjiaaGreatDoorW.PrintMore
attribute [local go_sem] max2_int min2_int max_two min_two max_three min_three max_four min_four
set_option linter.unusedVariables false
set_option linter.unusedSimpArgs false
def tok_source_worded.f (k : Nat) (a0 : ByteArray) (a1 : Int) : Option (Int × Int × Int × ByteArray × Int × Int) := (lex_Word.f k a0 a1).bind fun bt142 => ((lex_Int.f bt142.1).bind fun bt144 => (if bt144.2 = 0 then (some (1, a1, bt144.1, (⟨#[]⟩ : ByteArray), bt142.2, 0)) else (if bt144.2 = 3 then (some (3, a1, 0, bt142.1, bt142.2, 0)) else (some (0, 0, 0, (⟨#[]⟩ : ByteArray), a1, bt144.2)))))
theorem tok_source_worded.mono : ∀ a0 a1 k, LeO (tok_source_worded.f k a0 a1) (tok_source_worded.f (k + 1) a0 a1) := by
  intro a0 a1 k
  unfold tok_source_worded.f
  repeat' first
      | (with_reducible exact lex_Word.mono _ _ _)
      | (with_reducible exact LeO.refl _)
      | (with_reducible exact LeO.none _)
      | (with_reducible refine LeO.ite ?_ ?_)
      | (with_reducible refine LeO.bind ?_ (fun _ => ?_))
      | exact lex_Word.mono _ _ _
      | exact LeO.none _
      | refine LeO.ite ?_ ?_
      | refine LeO.bind ?_ (fun _ => ?_)
set_option maxHeartbeats 8000000 in
set_option maxRecDepth 100000 in
theorem tok_source_worded.calls (k : Nat) (a0 : ByteArray) (a1 : Int) (r1 : Int) (r2 : Int) (r3 : Int) (r4 : ByteArray) (r5 : Int) (r6 : Int) (w : World) (hG : GW w) (h : tok_source_worded.f k a0 a1 = some (r1, r2, r3, r4, r5, r6)) :
    Calls Tryz.prog 23 #[.string a0, .int .i64 a1] w fun e w' => e = .returned (.tuple #[.agg #[.int .i64 r1, .int .i64 r2, .int .i64 r3, .string r4], .int .i64 r5, .int .i64 r6]) ∧ Below w.heap.size w w' := by
  have hu31 := Tryz.underlying31
  have HG := Aside0.mk hG
  clear hG
  have HB := Aside0.mk (Below.refl w.heap.size w)
  have H : ((lex_Word.f k a0 a1).bind fun bt142 => ((lex_Int.f bt142.1).bind fun bt144 => (if bt144.2 = 0 then (some (1, a1, bt144.1, (⟨#[]⟩ : ByteArray), bt142.2, 0)) else (if bt144.2 = 3 then (some (3, a1, 0, bt142.1, bt142.2, 0)) else (some (0, 0, 0, (⟨#[]⟩ : ByteArray), a1, bt144.2)))))) = some (r1, r2, r3, r4, r5, r6) := h
  clear h
  replace H := Option.bind_eq_some_iff.mp H
  obtain ⟨⟨t142, t143⟩, A30, H⟩ := H
  replace H : ((lex_Int.f t142).bind fun bt144 => (if bt144.2 = 0 then (some (1, a1, bt144.1, (⟨#[]⟩ : ByteArray), t143, 0)) else (if bt144.2 = 3 then (some (3, a1, 0, t142, t143, 0)) else (some (0, 0, 0, (⟨#[]⟩ : ByteArray), a1, bt144.2))))) = some (r1, r2, r3, r4, r5, r6) := H
  have A3 := Aside0.mk A30
  clear A30
  replace H := Option.bind_eq_some_iff.mp H
  obtain ⟨⟨t144, t145⟩, A40, H⟩ := H
  replace H : (if t145 = 0 then (some (1, a1, t144, (⟨#[]⟩ : ByteArray), t143, 0)) else (if t145 = 3 then (some (3, a1, 0, t142, t143, 0)) else (some (0, 0, 0, (⟨#[]⟩ : ByteArray), a1, t145)))) = some (r1, r2, r3, r4, r5, r6) := H
  have A4 := Aside0.mk A40
  clear A40
  by_cases c5 : t145 = 0
  · rw [if_pos c5] at H
    have c5b0 : (t145 == 0) = true := beq_iff_eq.mpr c5
    have c5b1 : (t145 != 0) = false := bne_eq_false_iff_eq.mpr c5
    clear c5
    simp only [Option.some.injEq, Prod.mk.injEq] at H
    obtain ⟨rfl, rfl, rfl, rfl, rfl, rfl⟩ := H
    go_enter Tryz.func23, Tryz.ntmps23
    go_wp2_with (first | ((with_reducible refine gate_dst (N := 4) rfl ?_); refine box_event ?hg (N := 4) ?hd (cs := #[.int .i64 0, .int .i64 0, .int .i64 0, .string (⟨#[]⟩ : ByteArray)]) (t := 31) ?hr ?_; (case hd => rfl); (case hg => rfl); (case hr => first | (go_simp; done) | (go_simp; rfl)); intro gb141 hg w6 hbox hb; have n0_ := Aside0.mk (below_step (by repeat (first | (with_reducible first | exact HB.out | apply below_alloc | apply pw_below_drewN | apply below_drew1) | exact HB.out)) hb); have n1_ := Aside0.mk (hbox); have n2_ := Aside0.mk ((by rw [hg]; exact (below_size (by repeat (first | (with_reducible first | exact HB.out | apply below_alloc | apply pw_below_drewN | apply below_drew1) | exact HB.out))) : w.heap.size ≤ gb141)); have n3_ := Aside0.mk ((by rw [hg]; exact (below_size (by repeat (first | (with_reducible first | exact HB.out | apply below_alloc | apply pw_below_drewN | apply below_drew1) | exact HB.out))) : w.heap.size ≤ gb141)); clear HB; have HB := n0_; have BK141 := n1_; have GW141 := n2_; have GE141 := n3_; clear n0_ n1_ n2_ n3_; clear hb hbox hg) | ((with_reducible refine gate_callee (f := 19) rfl ?_); refine goesL_ (some 14) rfl rfl Tryz.func19 (by kernel_rfl) rfl #[.string a0, .int .i64 a1] rfl (by (try simp only [List.map_toArray, List.map_cons, List.map_nil]); first | done | rfl | (simp only [List.length_drop, List.length_take]; rfl)) ?_; (with_reducible refine (lex_Word.calls k a0 a1 t142 t143 _ A3.out).mono ?_); rintro e w7 ⟨rfl, hb⟩; refine ⟨_, rfl, ?_⟩; have n0_ := Aside0.mk (blk_below (g := gb141) (o := .cells #[.int .i64 0, .int .i64 0, .int .i64 0, .string (⟨#[]⟩ : ByteArray)] 31 (0, 0)) (by (with_reducible repeat (first | refine blk_drewN ?_ _ | refine blk_drew ?_ | refine blk_alloc ?_ _)); exact BK141.out) hb); have n1_ := Aside0.mk (below_step (by repeat (first | (with_reducible first | exact HB.out | apply below_alloc | apply pw_below_drewN | apply below_drew1 | refine below_set ?_ GE141.out) | exact HB.out)) hb); clear BK141; clear HB; have BK141 := n0_; have HB := n1_; clear n0_ n1_; (try clear hb); (try clear hb2); (try clear hk); (try clear hi)) | ((with_reducible refine gate_callee (f := 44) rfl ?_); refine goesL_ (some 19) rfl rfl Tryz.func44 (by kernel_rfl) rfl #[.string t142] rfl (by (try simp only [List.map_toArray, List.map_cons, List.map_nil]); first | done | rfl | (simp only [List.length_drop, List.length_take]; rfl)) ?_; (with_reducible refine (lex_Int.calls t142 t144 t145 _ ?side1 A4.out).mono ?_); (case side1 => exact GW.below (by repeat (first | (with_reducible first | exact HB.out | apply below_alloc | apply pw_below_drewN | apply below_drew1 | refine below_set ?_ GE141.out) | exact HB.out)) HG.out); rintro e w8 ⟨rfl, hb⟩; refine ⟨_, rfl, ?_⟩; have n0_ := Aside0.mk (blk_below (g := gb141) (o := .cells #[.int .i64 0, .int .i64 0, .int .i64 0, .string (⟨#[]⟩ : ByteArray)] 31 (0, 0)) (by (with_reducible repeat (first | refine blk_drewN ?_ _ | refine blk_drew ?_ | refine blk_alloc ?_ _)); exact BK141.out) hb); have n1_ := Aside0.mk (below_step (by repeat (first | (with_reducible first | exact HB.out | apply below_alloc | apply pw_below_drewN | apply below_drew1 | refine below_set ?_ GE141.out) | exact HB.out)) hb); clear BK141; clear HB; have BK141 := n0_; have HB := n1_; clear n0_ n1_; (try clear hb); (try clear hb2); (try clear hk); (try clear hi); have hcz9_0 : w8.cell? ⟨gb141, 0, none⟩ = some (.int .i64 0) := (blk_cell BK141.out 0).trans rfl; have hcz9_1 : w8.cell? ⟨gb141, 1, none⟩ = some (.int .i64 0) := (blk_cell BK141.out 1).trans rfl; have hcz9_2 : w8.cell? ⟨gb141, 2, none⟩ = some (.int .i64 0) := (blk_cell BK141.out 2).trans rfl; have hcz9_3 : w8.cell? ⟨gb141, 3, none⟩ = some (.string (⟨#[]⟩ : ByteArray)) := (blk_cell BK141.out 3).trans rfl; have hfz9_0 := blk_frozen BK141.out 0; have hfz9_1 := blk_frozen BK141.out 1; have hfz9_2 := blk_frozen BK141.out 2; have hfz9_3 := blk_frozen BK141.out 3))
    refine bodyPost_ret (results_ctt rfl _ _ gb141 31 #[.int .i64 1, .int .i64 a1, .int .i64 t144, .string (⟨#[]⟩ : ByteArray)] (0, 0) _ rfl (by (with_reducible repeat (first | refine blk_drewN ?_ _ | refine blk_drew ?_ | refine blk_alloc ?_ _)); refine blk_put (cs := #[.int .i64 1, .int .i64 a1, .int .i64 t144, .string (⟨#[]⟩ : ByteArray)]) ?_ 3 _ rfl; (with_reducible repeat (first | refine blk_drewN ?_ _ | refine blk_drew ?_ | refine blk_alloc ?_ _)); refine blk_put (cs := #[.int .i64 1, .int .i64 a1, .int .i64 0, .string (⟨#[]⟩ : ByteArray)]) ?_ 2 _ rfl; (with_reducible repeat (first | refine blk_drewN ?_ _ | refine blk_drew ?_ | refine blk_alloc ?_ _)); refine blk_put (cs := #[.int .i64 1, .int .i64 0, .int .i64 0, .string (⟨#[]⟩ : ByteArray)]) ?_ 1 _ rfl; (with_reducible repeat (first | refine blk_drewN ?_ _ | refine blk_drew ?_ | refine blk_alloc ?_ _)); refine blk_put (cs := #[.int .i64 0, .int .i64 0, .int .i64 0, .string (⟨#[]⟩ : ByteArray)]) ?_ 0 _ rfl; (with_reducible repeat (first | refine blk_drewN ?_ _ | refine blk_drew ?_ | refine blk_alloc ?_ _)); exact BK141.out) Tryz.underlying31 rfl (by kernel_rfl)) rfl ?_
    exact ⟨by first | rfl | (simp [errW_none, errW_some] <;> rfl) | (simp [*, errW_none, errW_some] <;> rfl), by repeat (first | (with_reducible first | exact HB.out | apply below_alloc | apply pw_below_drewN | apply below_drew1 | refine below_set ?_ GE141.out) | exact HB.out)⟩
  · rw [if_neg c5] at H
    have c5b0 : (t145 == 0) = false := beq_eq_false_iff_ne.mpr c5
    have c5b1 : (t145 != 0) = true := bne_iff_ne.mpr c5
    by_cases c10 : t145 = 3
    · rw [if_pos c10] at H
      have c10b0 : (t145 == 3) = true := beq_iff_eq.mpr c10
      have c10b1 : (t145 != 3) = false := bne_eq_false_iff_eq.mpr c10
      clear c10
      simp only [Option.some.injEq, Prod.mk.injEq] at H
      obtain ⟨rfl, rfl, rfl, rfl, rfl, rfl⟩ := H
      go_enter Tryz.func23, Tryz.ntmps23
      go_wp2_with (first | ((with_reducible refine gate_dst (N := 4) rfl ?_); refine box_event ?hg (N := 4) ?hd (cs := #[.int .i64 0, .int .i64 0, .int .i64 0, .string (⟨#[]⟩ : ByteArray)]) (t := 31) ?hr ?_; (case hd => rfl); (case hg => rfl); (case hr => first | (go_simp; done) | (go_simp; rfl)); intro gb141 hg w11 hbox hb; have n0_ := Aside0.mk (below_step (by repeat (first | (with_reducible first | exact HB.out | apply below_alloc | apply pw_below_drewN | apply below_drew1) | exact HB.out)) hb); have n1_ := Aside0.mk (hbox); have n2_ := Aside0.mk ((by rw [hg]; exact (below_size (by repeat (first | (with_reducible first | exact HB.out | apply below_alloc | apply pw_below_drewN | apply below_drew1) | exact HB.out))) : w.heap.size ≤ gb141)); have n3_ := Aside0.mk ((by rw [hg]; exact (below_size (by repeat (first | (with_reducible first | exact HB.out | apply below_alloc | apply pw_below_drewN | apply below_drew1) | exact HB.out))) : w.heap.size ≤ gb141)); clear HB; have HB := n0_; have BK141 := n1_; have GW141 := n2_; have GE141 := n3_; clear n0_ n1_ n2_ n3_; clear hb hbox hg) | ((with_reducible refine gate_callee (f := 19) rfl ?_); refine goesL_ (some 14) rfl rfl Tryz.func19 (by kernel_rfl) rfl #[.string a0, .int .i64 a1] rfl (by (try simp only [List.map_toArray, List.map_cons, List.map_nil]); first | done | rfl | (simp only [List.length_drop, List.length_take]; rfl)) ?_; (with_reducible refine (lex_Word.calls k a0 a1 t142 t143 _ A3.out).mono ?_); rintro e w12 ⟨rfl, hb⟩; refine ⟨_, rfl, ?_⟩; have n0_ := Aside0.mk (blk_below (g := gb141) (o := .cells #[.int .i64 0, .int .i64 0, .int .i64 0, .string (⟨#[]⟩ : ByteArray)] 31 (0, 0)) (by (with_reducible repeat (first | refine blk_drewN ?_ _ | refine blk_drew ?_ | refine blk_alloc ?_ _)); exact BK141.out) hb); have n1_ := Aside0.mk (below_step (by repeat (first | (with_reducible first | exact HB.out | apply below_alloc | apply pw_below_drewN | apply below_drew1 | refine below_set ?_ GE141.out) | exact HB.out)) hb); clear BK141; clear HB; have BK141 := n0_; have HB := n1_; clear n0_ n1_; (try clear hb); (try clear hb2); (try clear hk); (try clear hi)) | ((with_reducible refine gate_callee (f := 44) rfl ?_); refine goesL_ (some 19) rfl rfl Tryz.func44 (by kernel_rfl) rfl #[.string t142] rfl (by (try simp only [List.map_toArray, List.map_cons, List.map_nil]); first | done | rfl | (simp only [List.length_drop, List.length_take]; rfl)) ?_; (with_reducible refine (lex_Int.calls t142 t144 t145 _ ?side1 A4.out).mono ?_); (case side1 => exact GW.below (by repeat (first | (with_reducible first | exact HB.out | apply below_alloc | apply pw_below_drewN | apply below_drew1 | refine below_set ?_ GE141.out) | exact HB.out)) HG.out); rintro e w13 ⟨rfl, hb⟩; refine ⟨_, rfl, ?_⟩; have n0_ := Aside0.mk (blk_below (g := gb141) (o := .cells #[.int .i64 0, .int .i64 0, .int .i64 0, .string (⟨#[]⟩ : ByteArray)] 31 (0, 0)) (by (with_reducible repeat (first | refine blk_drewN ?_ _ | refine blk_drew ?_ | refine blk_alloc ?_ _)); exact BK141.out) hb); have n1_ := Aside0.mk (below_step (by repeat (first | (with_reducible first | exact HB.out | apply below_alloc | apply pw_below_drewN | apply below_drew1 | refine below_set ?_ GE141.out) | exact HB.out)) hb); clear BK141; clear HB; have BK141 := n0_; have HB := n1_; clear n0_ n1_; (try clear hb); (try clear hb2); (try clear hk); (try clear hi); have hcz14_0 : w13.cell? ⟨gb141, 0, none⟩ = some (.int .i64 0) := (blk_cell BK141.out 0).trans rfl; have hcz14_1 : w13.cell? ⟨gb141, 1, none⟩ = some (.int .i64 0) := (blk_cell BK141.out 1).trans rfl; have hcz14_2 : w13.cell? ⟨gb141, 2, none⟩ = some (.int .i64 0) := (blk_cell BK141.out 2).trans rfl; have hcz14_3 : w13.cell? ⟨gb141, 3, none⟩ = some (.string (⟨#[]⟩ : ByteArray)) := (blk_cell BK141.out 3).trans rfl; have hfz14_0 := blk_frozen BK141.out 0; have hfz14_1 := blk_frozen BK141.out 1; have hfz14_2 := blk_frozen BK141.out 2; have hfz14_3 := blk_frozen BK141.out 3))
      refine bodyPost_ret (results_ctt rfl _ _ gb141 31 #[.int .i64 3, .int .i64 a1, .int .i64 0, .string t142] (0, 0) _ rfl (by (with_reducible repeat (first | refine blk_drewN ?_ _ | refine blk_drew ?_ | refine blk_alloc ?_ _)); refine blk_put (cs := #[.int .i64 3, .int .i64 a1, .int .i64 0, .string (⟨#[]⟩ : ByteArray)]) ?_ 3 _ rfl; (with_reducible repeat (first | refine blk_drewN ?_ _ | refine blk_drew ?_ | refine blk_alloc ?_ _)); refine blk_put (cs := #[.int .i64 3, .int .i64 a1, .int .i64 0, .string (⟨#[]⟩ : ByteArray)]) ?_ 2 _ rfl; (with_reducible repeat (first | refine blk_drewN ?_ _ | refine blk_drew ?_ | refine blk_alloc ?_ _)); refine blk_put (cs := #[.int .i64 3, .int .i64 0, .int .i64 0, .string (⟨#[]⟩ : ByteArray)]) ?_ 1 _ rfl; (with_reducible repeat (first | refine blk_drewN ?_ _ | refine blk_drew ?_ | refine blk_alloc ?_ _)); refine blk_put (cs := #[.int .i64 0, .int .i64 0, .int .i64 0, .string (⟨#[]⟩ : ByteArray)]) ?_ 0 _ rfl; (with_reducible repeat (first | refine blk_drewN ?_ _ | refine blk_drew ?_ | refine blk_alloc ?_ _)); exact BK141.out) Tryz.underlying31 rfl (by kernel_rfl)) rfl ?_
      exact ⟨by first | rfl | (simp [errW_none, errW_some] <;> rfl) | (simp [*, errW_none, errW_some] <;> rfl), by repeat (first | (with_reducible first | exact HB.out | apply below_alloc | apply pw_below_drewN | apply below_drew1 | refine below_set ?_ GE141.out) | exact HB.out)⟩
    · rw [if_neg c10] at H
      have c10b0 : (t145 == 3) = false := beq_eq_false_iff_ne.mpr c10
      have c10b1 : (t145 != 3) = true := bne_iff_ne.mpr c10
      simp only [Option.some.injEq, Prod.mk.injEq] at H
      obtain ⟨rfl, rfl, rfl, rfl, rfl, rfl⟩ := H
      go_enter Tryz.func23, Tryz.ntmps23
      go_wp2_with (first | ((with_reducible refine gate_dst (N := 4) rfl ?_); refine box_event ?hg (N := 4) ?hd (cs := #[.int .i64 0, .int .i64 0, .int .i64 0, .string (⟨#[]⟩ : ByteArray)]) (t := 31) ?hr ?_; (case hd => rfl); (case hg => rfl); (case hr => first | (go_simp; done) | (go_simp; rfl)); intro gb141 hg w15 hbox hb; have n0_ := Aside0.mk (below_step (by repeat (first | (with_reducible first | exact HB.out | apply below_alloc | apply pw_below_drewN | apply below_drew1) | exact HB.out)) hb); have n1_ := Aside0.mk (hbox); have n2_ := Aside0.mk ((by rw [hg]; exact (below_size (by repeat (first | (with_reducible first | exact HB.out | apply below_alloc | apply pw_below_drewN | apply below_drew1) | exact HB.out))) : w.heap.size ≤ gb141)); have n3_ := Aside0.mk ((by rw [hg]; exact (below_size (by repeat (first | (with_reducible first | exact HB.out | apply below_alloc | apply pw_below_drewN | apply below_drew1) | exact HB.out))) : w.heap.size ≤ gb141)); clear HB; have HB := n0_; have BK141 := n1_; have GW141 := n2_; have GE141 := n3_; clear n0_ n1_ n2_ n3_; clear hb hbox hg) | ((with_reducible refine gate_callee (f := 19) rfl ?_); refine goesL_ (some 14) rfl rfl Tryz.func19 (by kernel_rfl) rfl #[.string a0, .int .i64 a1] rfl (by (try simp only [List.map_toArray, List.map_cons, List.map_nil]); first | done | rfl | (simp only [List.length_drop, List.length_take]; rfl)) ?_; (with_reducible refine (lex_Word.calls k a0 a1 t142 t143 _ A3.out).mono ?_); rintro e w16 ⟨rfl, hb⟩; refine ⟨_, rfl, ?_⟩; have n0_ := Aside0.mk (blk_below (g := gb141) (o := .cells #[.int .i64 0, .int .i64 0, .int .i64 0, .string (⟨#[]⟩ : ByteArray)] 31 (0, 0)) (by (with_reducible repeat (first | refine blk_drewN ?_ _ | refine blk_drew ?_ | refine blk_alloc ?_ _)); exact BK141.out) hb); have n1_ := Aside0.mk (below_step (by repeat (first | (with_reducible first | exact HB.out | apply below_alloc | apply pw_below_drewN | apply below_drew1 | refine below_set ?_ GE141.out) | exact HB.out)) hb); clear BK141; clear HB; have BK141 := n0_; have HB := n1_; clear n0_ n1_; (try clear hb); (try clear hb2); (try clear hk); (try clear hi)) | ((with_reducible refine gate_callee (f := 44) rfl ?_); refine goesL_ (some 19) rfl rfl Tryz.func44 (by kernel_rfl) rfl #[.string t142] rfl (by (try simp only [List.map_toArray, List.map_cons, List.map_nil]); first | done | rfl | (simp only [List.length_drop, List.length_take]; rfl)) ?_; (with_reducible refine (lex_Int.calls t142 t144 t145 _ ?side1 A4.out).mono ?_); (case side1 => exact GW.below (by repeat (first | (with_reducible first | exact HB.out | apply below_alloc | apply pw_below_drewN | apply below_drew1 | refine below_set ?_ GE141.out) | exact HB.out)) HG.out); rintro e w17 ⟨rfl, hb⟩; refine ⟨_, rfl, ?_⟩; have n0_ := Aside0.mk (blk_below (g := gb141) (o := .cells #[.int .i64 0, .int .i64 0, .int .i64 0, .string (⟨#[]⟩ : ByteArray)] 31 (0, 0)) (by (with_reducible repeat (first | refine blk_drewN ?_ _ | refine blk_drew ?_ | refine blk_alloc ?_ _)); exact BK141.out) hb); have n1_ := Aside0.mk (below_step (by repeat (first | (with_reducible first | exact HB.out | apply below_alloc | apply pw_below_drewN | apply below_drew1 | refine below_set ?_ GE141.out) | exact HB.out)) hb); clear BK141; clear HB; have BK141 := n0_; have HB := n1_; clear n0_ n1_; (try clear hb); (try clear hb2); (try clear hk); (try clear hi); have hcz18_0 : w17.cell? ⟨gb141, 0, none⟩ = some (.int .i64 0) := (blk_cell BK141.out 0).trans rfl; have hcz18_1 : w17.cell? ⟨gb141, 1, none⟩ = some (.int .i64 0) := (blk_cell BK141.out 1).trans rfl; have hcz18_2 : w17.cell? ⟨gb141, 2, none⟩ = some (.int .i64 0) := (blk_cell BK141.out 2).trans rfl; have hcz18_3 : w17.cell? ⟨gb141, 3, none⟩ = some (.string (⟨#[]⟩ : ByteArray)) := (blk_cell BK141.out 3).trans rfl; have hfz18_0 := blk_frozen BK141.out 0; have hfz18_1 := blk_frozen BK141.out 1; have hfz18_2 := blk_frozen BK141.out 2; have hfz18_3 := blk_frozen BK141.out 3))
      refine bodyPost_ret (results_ctt rfl _ _ gb141 31 #[.int .i64 0, .int .i64 0, .int .i64 0, .string (⟨#[]⟩ : ByteArray)] (0, 0) _ rfl (by (with_reducible repeat (first | refine blk_drewN ?_ _ | refine blk_drew ?_ | refine blk_alloc ?_ _)); refine blk_put (cs := #[.int .i64 0, .int .i64 0, .int .i64 0, .string (⟨#[]⟩ : ByteArray)]) ?_ 3 _ rfl; (with_reducible repeat (first | refine blk_drewN ?_ _ | refine blk_drew ?_ | refine blk_alloc ?_ _)); refine blk_put (cs := #[.int .i64 0, .int .i64 0, .int .i64 0, .string (⟨#[]⟩ : ByteArray)]) ?_ 2 _ rfl; (with_reducible repeat (first | refine blk_drewN ?_ _ | refine blk_drew ?_ | refine blk_alloc ?_ _)); refine blk_put (cs := #[.int .i64 0, .int .i64 0, .int .i64 0, .string (⟨#[]⟩ : ByteArray)]) ?_ 1 _ rfl; (with_reducible repeat (first | refine blk_drewN ?_ _ | refine blk_drew ?_ | refine blk_alloc ?_ _)); refine blk_put (cs := #[.int .i64 0, .int .i64 0, .int .i64 0, .string (⟨#[]⟩ : ByteArray)]) ?_ 0 _ rfl; (with_reducible repeat (first | refine blk_drewN ?_ _ | refine blk_drew ?_ | refine blk_alloc ?_ _)); exact BK141.out) Tryz.underlying31 rfl (by kernel_rfl)) rfl ?_
      exact ⟨by first | rfl | (simp [errW_none, errW_some] <;> rfl) | (simp [*, errW_none, errW_some] <;> rfl), by repeat (first | (with_reducible first | exact HB.out | apply below_alloc | apply pw_below_drewN | apply below_drew1 | refine below_set ?_ GE141.out) | exact HB.out)⟩
end Go.Proofs.YtfdikkdbmlcjiaaGreatDoor.M
end
section
/- Laid by this session's program hbprint.py out of the translation: the function hornbook/tok.Next and its contract. -/
namespace Go.Proofs.YtfdikkdbmlcjiaaGreatDoor.M
open Go.RowKit Go.Proofs.YtfdikkdbmlcjiaaGreatDoorW.PrintWords Go.Proofs.YtfdikkdbmlcjiaaGreatDoorW.PrintLast Go.Proofs.YtfdikkdbmlcjiaaGreatDoorW.PrintMore
attribute [local go_sem] max2_int min2_int max_two min_two max_three min_three max_four min_four
set_option linter.unusedVariables false
set_option linter.unusedSimpArgs false
def tok_Next.j0 : Nat → ByteArray → Int → ByteArray → Int → Bool → Option (Int × Int × Int × ByteArray × Int × Int)
  | 0, _, _, _, _, _ => none
  | k + 1, x0, x7, x8, x37, x38 => if x38 = true then (some (0, 0, 0, (⟨#[]⟩ : ByteArray), x7, 3)) else (if x37 = 47 then ((lex_Word.f k x0 (wrap64 (x7 + 1))).bind fun bt155 => ((lex_Name.f bt155.1).bind fun t157 => (some (2, x7, 0, t157, bt155.2, 0)))) else (if x37 = 60 then ((tok_source_hexed.f k x8 x7).bind fun bt158 => (some (bt158.1, bt158.2.1, bt158.2.2.1, bt158.2.2.2.1, bt158.2.2.2.2.1, bt158.2.2.2.2.2))) else (if x37 = 40 then ((tok_source_strung.f k x8 x7).bind fun bt164 => (some (bt164.1, bt164.2.1, bt164.2.2.1, bt164.2.2.2.1, bt164.2.2.2.2.1, bt164.2.2.2.2.2))) else ((tok_source_worded.f k x8 x7).bind fun bt170 => (some (bt170.1, bt170.2.1, bt170.2.2.1, bt170.2.2.2.1, bt170.2.2.2.2.1, bt170.2.2.2.2.2))))))
def tok_Next.f (k : Nat) (a0 : ByteArray) (a1 : Int) : Option (Int × Int × Int × ByteArray × Int × Int) := (lex_Skip.f k a0 a1).bind fun t147 => (if t147 = (a0.size : Int) then (some (0, t147, 0, (⟨#[]⟩ : ByteArray), t147, 0)) else ((tok_source_sign.f a0 t147).bind fun bt148 => (if bt148.2.2.2.2.2 = true then (some (bt148.1, bt148.2.1, bt148.2.2.1, bt148.2.2.2.1, bt148.2.2.2.2.1, 0)) else (if 0 ≤ t147 then (if t147 < (a0.size : Int) then (if (bt a0 t147) = 41 then (tok_Next.j0 k a0 t147 a0 (bt a0 t147) ((bt a0 t147) == 41)) else (tok_Next.j0 k a0 t147 a0 (bt a0 t147) ((bt a0 t147) == 62))) else (none)) else (none)))))
theorem tok_Next.mono_l : ∀ k, (∀ y0 y1 y2 y3 y4, LeO (tok_Next.j0 k y0 y1 y2 y3 y4) (tok_Next.j0 (k + 1) y0 y1 y2 y3 y4))
  | 0 => fun _ _ _ _ _ r h => by simp [tok_Next.j0] at h
  | k + 1 => by
    have ih0 := tok_Next.mono_l k
    · intro y0 y1 y2 y3 y4
      unfold tok_Next.j0
      repeat' first
      | (with_reducible exact ih0 _ _ _ _ _)
      | (with_reducible exact lex_Skip.mono _ _ _)
      | (with_reducible exact lex_Word.mono _ _ _)
      | (with_reducible exact tok_source_hexed.mono _ _ _)
      | (with_reducible exact tok_source_strung.mono _ _ _)
      | (with_reducible exact tok_source_worded.mono _ _ _)
      | (with_reducible exact LeO.refl _)
      | (with_reducible exact LeO.none _)
      | (with_reducible refine LeO.ite ?_ ?_)
      | (with_reducible refine LeO.bind ?_ (fun _ => ?_))
      | exact ih0 _ _ _ _ _
      | exact lex_Skip.mono _ _ _
      | exact lex_Word.mono _ _ _
      | exact tok_source_hexed.mono _ _ _
      | exact tok_source_strung.mono _ _ _
      | exact tok_source_worded.mono _ _ _
      | exact LeO.none _
      | refine LeO.ite ?_ ?_
      | refine LeO.bind ?_ (fun _ => ?_)
theorem tok_Next.mono : ∀ a0 a1 k, LeO (tok_Next.f k a0 a1) (tok_Next.f (k + 1) a0 a1) := by
  intro a0 a1 k
  have ih0 := tok_Next.mono_l k
  unfold tok_Next.f
  repeat' first
      | (with_reducible exact ih0 _ _ _ _ _)
      | (with_reducible exact lex_Skip.mono _ _ _)
      | (with_reducible exact lex_Word.mono _ _ _)
      | (with_reducible exact tok_source_hexed.mono _ _ _)
      | (with_reducible exact tok_source_strung.mono _ _ _)
      | (with_reducible exact tok_source_worded.mono _ _ _)
      | (with_reducible exact LeO.refl _)
      | (with_reducible exact LeO.none _)
      | (with_reducible refine LeO.ite ?_ ?_)
      | (with_reducible refine LeO.bind ?_ (fun _ => ?_))
      | exact ih0 _ _ _ _ _
      | exact lex_Skip.mono _ _ _
      | exact lex_Word.mono _ _ _
      | exact tok_source_hexed.mono _ _ _
      | exact tok_source_strung.mono _ _ _
      | exact tok_source_worded.mono _ _ _
      | exact LeO.none _
      | refine LeO.ite ?_ ?_
      | refine LeO.bind ?_ (fun _ => ?_)
set_option maxHeartbeats 8000000 in
set_option maxRecDepth 100000 in
theorem tok_Next.calls (k : Nat) (a0 : ByteArray) (a1 : Int) (r1 : Int) (r2 : Int) (r3 : Int) (r4 : ByteArray) (r5 : Int) (r6 : Int) (w : World) (hG : GW w) (h : tok_Next.f k a0 a1 = some (r1, r2, r3, r4, r5, r6)) :
    Calls Tryz.prog 13 #[.string a0, .int .i64 a1] w fun e w' => e = .returned (.tuple #[.agg #[.int .i64 r1, .int .i64 r2, .int .i64 r3, .string r4], .int .i64 r5, .int .i64 r6]) ∧ Below w.heap.size w w' := by
  have hu31 := Tryz.underlying31
  have HG := Aside0.mk hG
  clear hG
  have HB := Aside0.mk (Below.refl w.heap.size w)
  have H : ((lex_Skip.f k a0 a1).bind fun t147 => (if t147 = (a0.size : Int) then (some (0, t147, 0, (⟨#[]⟩ : ByteArray), t147, 0)) else ((tok_source_sign.f a0 t147).bind fun bt148 => (if bt148.2.2.2.2.2 = true then (some (bt148.1, bt148.2.1, bt148.2.2.1, bt148.2.2.2.1, bt148.2.2.2.2.1, 0)) else (if 0 ≤ t147 then (if t147 < (a0.size : Int) then (if (bt a0 t147) = 41 then (tok_Next.j0 k a0 t147 a0 (bt a0 t147) ((bt a0 t147) == 41)) else (tok_Next.j0 k a0 t147 a0 (bt a0 t147) ((bt a0 t147) == 62))) else (none)) else (none)))))) = some (r1, r2, r3, r4, r5, r6) := h
  clear h
  replace H := Option.bind_eq_some_iff.mp H
  obtain ⟨t147, A30, H⟩ := H
  replace H : (if t147 = (a0.size : Int) then (some (0, t147, 0, (⟨#[]⟩ : ByteArray), t147, 0)) else ((tok_source_sign.f a0 t147).bind fun bt148 => (if bt148.2.2.2.2.2 = true then (some (bt148.1, bt148.2.1, bt148.2.2.1, bt148.2.2.2.1, bt148.2.2.2.2.1, 0)) else (if 0 ≤ t147 then (if t147 < (a0.size : Int) then (if (bt a0 t147) = 41 then (tok_Next.j0 k a0 t147 a0 (bt a0 t147) ((bt a0 t147) == 41)) else (tok_Next.j0 k a0 t147 a0 (bt a0 t147) ((bt a0 t147) == 62))) else (none)) else (none))))) = some (r1, r2, r3, r4, r5, r6) := H
  have A3 := Aside0.mk A30
  clear A30
  by_cases c4 : t147 = (a0.size : Int)
  · rw [if_pos c4] at H
    have c4b0 : (t147 == (a0.size : Int)) = true := beq_iff_eq.mpr c4
    have c4b1 : (t147 != (a0.size : Int)) = false := bne_eq_false_iff_eq.mpr c4
    clear c4
    simp only [Option.some.injEq, Prod.mk.injEq] at H
    obtain ⟨rfl, rfl, rfl, rfl, rfl, rfl⟩ := H
    go_enter Tryz.func13, Tryz.ntmps13
    go_wp2_with (first | ((with_reducible refine gate_dst (N := 4) rfl ?_); refine box_event ?hg (N := 4) ?hd (cs := #[.int .i64 0, .int .i64 0, .int .i64 0, .string (⟨#[]⟩ : ByteArray)]) (t := 31) ?hr ?_; (case hd => rfl); (case hg => rfl); (case hr => first | (go_simp; done) | (go_simp; rfl)); intro gb146 hg w5 hbox hb; have n0_ := Aside0.mk (below_step (by repeat (first | (with_reducible first | exact HB.out | apply below_alloc | apply pw_below_drewN | apply below_drew1) | exact HB.out)) hb); have n1_ := Aside0.mk (hbox); have n2_ := Aside0.mk ((by rw [hg]; exact (below_size (by repeat (first | (with_reducible first | exact HB.out | apply below_alloc | apply pw_below_drewN | apply below_drew1) | exact HB.out))) : w.heap.size ≤ gb146)); have n3_ := Aside0.mk ((by rw [hg]; exact (below_size (by repeat (first | (with_reducible first | exact HB.out | apply below_alloc | apply pw_below_drewN | apply below_drew1) | exact HB.out))) : w.heap.size ≤ gb146)); clear HB; have HB := n0_; have BK146 := n1_; have GW146 := n2_; have GE146 := n3_; clear n0_ n1_ n2_ n3_; clear hb hbox hg) | ((with_reducible refine gate_callee (f := 17) rfl ?_); refine goesL_ (some 16) rfl rfl Tryz.func17 (by kernel_rfl) rfl #[.string a0, .int .i64 a1] rfl (by (try simp only [List.map_toArray, List.map_cons, List.map_nil]); first | done | rfl | (simp only [List.length_drop, List.length_take]; rfl)) ?_; (with_reducible refine (lex_Skip.calls k a0 a1 t147 _ A3.out).mono ?_); rintro e w6 ⟨rfl, hb⟩; refine ⟨_, rfl, ?_⟩; have n0_ := Aside0.mk (blk_below (g := gb146) (o := .cells #[.int .i64 0, .int .i64 0, .int .i64 0, .string (⟨#[]⟩ : ByteArray)] 31 (0, 0)) (by (with_reducible repeat (first | refine blk_drewN ?_ _ | refine blk_drew ?_ | refine blk_alloc ?_ _)); exact BK146.out) hb); have n1_ := Aside0.mk (below_step (by repeat (first | (with_reducible first | exact HB.out | apply below_alloc | apply pw_below_drewN | apply below_drew1 | refine below_set ?_ GE146.out) | exact HB.out)) hb); clear BK146; clear HB; have BK146 := n0_; have HB := n1_; clear n0_ n1_; (try clear hb); (try clear hb2); (try clear hk); (try clear hi); have hcz7_0 : w6.cell? ⟨gb146, 0, none⟩ = some (.int .i64 0) := (blk_cell BK146.out 0).trans rfl; have hcz7_1 : w6.cell? ⟨gb146, 1, none⟩ = some (.int .i64 0) := (blk_cell BK146.out 1).trans rfl; have hcz7_2 : w6.cell? ⟨gb146, 2, none⟩ = some (.int .i64 0) := (blk_cell BK146.out 2).trans rfl; have hcz7_3 : w6.cell? ⟨gb146, 3, none⟩ = some (.string (⟨#[]⟩ : ByteArray)) := (blk_cell BK146.out 3).trans rfl; have hfz7_0 := blk_frozen BK146.out 0; have hfz7_1 := blk_frozen BK146.out 1; have hfz7_2 := blk_frozen BK146.out 2; have hfz7_3 := blk_frozen BK146.out 3))
    refine bodyPost_ret (results_ctt rfl _ _ gb146 31 #[.int .i64 0, .int .i64 t147, .int .i64 0, .string (⟨#[]⟩ : ByteArray)] (0, 0) _ rfl (by (with_reducible repeat (first | refine blk_drewN ?_ _ | refine blk_drew ?_ | refine blk_alloc ?_ _)); refine blk_put (cs := #[.int .i64 0, .int .i64 t147, .int .i64 0, .string (⟨#[]⟩ : ByteArray)]) ?_ 3 _ rfl; (with_reducible repeat (first | refine blk_drewN ?_ _ | refine blk_drew ?_ | refine blk_alloc ?_ _)); refine blk_put (cs := #[.int .i64 0, .int .i64 t147, .int .i64 0, .string (⟨#[]⟩ : ByteArray)]) ?_ 2 _ rfl; (with_reducible repeat (first | refine blk_drewN ?_ _ | refine blk_drew ?_ | refine blk_alloc ?_ _)); refine blk_put (cs := #[.int .i64 0, .int .i64 0, .int .i64 0, .string (⟨#[]⟩ : ByteArray)]) ?_ 1 _ rfl; (with_reducible repeat (first | refine blk_drewN ?_ _ | refine blk_drew ?_ | refine blk_alloc ?_ _)); refine blk_put (cs := #[.int .i64 0, .int .i64 0, .int .i64 0, .string (⟨#[]⟩ : ByteArray)]) ?_ 0 _ rfl; (with_reducible repeat (first | refine blk_drewN ?_ _ | refine blk_drew ?_ | refine blk_alloc ?_ _)); exact BK146.out) Tryz.underlying31 rfl (by kernel_rfl)) rfl ?_
    exact ⟨by first | rfl | (simp [errW_none, errW_some] <;> rfl) | (simp [*, errW_none, errW_some] <;> rfl), by repeat (first | (with_reducible first | exact HB.out | apply below_alloc | apply pw_below_drewN | apply below_drew1 | refine below_set ?_ GE146.out) | exact HB.out)⟩
  · rw [if_neg c4] at H
    have c4b0 : (t147 == (a0.size : Int)) = false := beq_eq_false_iff_ne.mpr c4
    have c4b1 : (t147 != (a0.size : Int)) = true := bne_iff_ne.mpr c4
    replace H := Option.bind_eq_some_iff.mp H
    obtain ⟨⟨t148, t149, t150, t151, t152, t153⟩, A80, H⟩ := H
    replace H : (if t153 = true then (some (t148, t149, t150, t151, t152, 0)) else (if 0 ≤ t147 then (if t147 < (a0.size : Int) then (if (bt a0 t147) = 41 then (tok_Next.j0 k a0 t147 a0 (bt a0 t147) ((bt a0 t147) == 41)) else (tok_Next.j0 k a0 t147 a0 (bt a0 t147) ((bt a0 t147) == 62))) else (none)) else (none))) = some (r1, r2, r3, r4, r5, r6) := H
    have A8 := Aside0.mk A80
    clear A80
    by_cases c9 : t153 = true
    · subst c9
      have H1 : (some (t148, t149, t150, t151, t152, 0)) = some (r1, r2, r3, r4, r5, r6) := by rw [if_pos rfl] at H; exact H
      clear H
      have H := H1
      clear H1
      simp only [Option.some.injEq, Prod.mk.injEq] at H
      obtain ⟨rfl, rfl, rfl, rfl, rfl, rfl⟩ := H
      go_enter Tryz.func13, Tryz.ntmps13
      go_wp2_with (first | ((with_reducible refine gate_dst (N := 4) rfl ?_); refine box_event ?hg (N := 4) ?hd (cs := #[.int .i64 0, .int .i64 0, .int .i64 0, .string (⟨#[]⟩ : ByteArray)]) (t := 31) ?hr ?_; (case hd => rfl); (case hg => rfl); (case hr => first | (go_simp; done) | (go_simp; rfl)); intro gb146 hg w10 hbox hb; have n0_ := Aside0.mk (below_step (by repeat (first | (with_reducible first | exact HB.out | apply below_alloc | apply pw_below_drewN | apply below_drew1) | exact HB.out)) hb); have n1_ := Aside0.mk (hbox); have n2_ := Aside0.mk ((by rw [hg]; exact (below_size (by repeat (first | (with_reducible first | exact HB.out | apply below_alloc | apply pw_below_drewN | apply below_drew1) | exact HB.out))) : w.heap.size ≤ gb146)); have n3_ := Aside0.mk ((by rw [hg]; exact (below_size (by repeat (first | (with_reducible first | exact HB.out | apply below_alloc | apply pw_below_drewN | apply below_drew1) | exact HB.out))) : w.heap.size ≤ gb146)); clear HB; have HB := n0_; have BK146 := n1_; have GW146 := n2_; have GE146 := n3_; clear n0_ n1_ n2_ n3_; clear hb hbox hg) | ((with_reducible refine gate_callee (f := 17) rfl ?_); refine goesL_ (some 16) rfl rfl Tryz.func17 (by kernel_rfl) rfl #[.string a0, .int .i64 a1] rfl (by (try simp only [List.map_toArray, List.map_cons, List.map_nil]); first | done | rfl | (simp only [List.length_drop, List.length_take]; rfl)) ?_; (with_reducible refine (lex_Skip.calls k a0 a1 t147 _ A3.out).mono ?_); rintro e w11 ⟨rfl, hb⟩; refine ⟨_, rfl, ?_⟩; have n0_ := Aside0.mk (blk_below (g := gb146) (o := .cells #[.int .i64 0, .int .i64 0, .int .i64 0, .string (⟨#[]⟩ : ByteArray)] 31 (0, 0)) (by (with_reducible repeat (first | refine blk_drewN ?_ _ | refine blk_drew ?_ | refine blk_alloc ?_ _)); exact BK146.out) hb); have n1_ := Aside0.mk (below_step (by repeat (first | (with_reducible first | exact HB.out | apply below_alloc | apply pw_below_drewN | apply below_drew1 | refine below_set ?_ GE146.out) | exact HB.out)) hb); clear BK146; clear HB; have BK146 := n0_; have HB := n1_; clear n0_ n1_; (try clear hb); (try clear hb2); (try clear hk); (try clear hi)) | ((with_reducible refine gate_callee (f := 18) rfl ?_); refine goesL_ (some 28) rfl rfl Tryz.func18 (by kernel_rfl) rfl #[.string a0, .int .i64 t147] rfl (by (try simp only [List.map_toArray, List.map_cons, List.map_nil]); first | done | rfl | (simp only [List.length_drop, List.length_take]; rfl)) ?_; (with_reducible refine (tok_source_sign.calls a0 t147 t148 t149 t150 t151 t152 true _ A8.out).mono ?_); rintro e w12 ⟨rfl, hb⟩; refine ⟨_, rfl, ?_⟩; have n0_ := Aside0.mk (blk_below (g := gb146) (o := .cells #[.int .i64 0, .int .i64 0, .int .i64 0, .string (⟨#[]⟩ : ByteArray)] 31 (0, 0)) (by (with_reducible repeat (first | refine blk_drewN ?_ _ | refine blk_drew ?_ | refine blk_alloc ?_ _)); exact BK146.out) hb); have n1_ := Aside0.mk (below_step (by repeat (first | (with_reducible first | exact HB.out | apply below_alloc | apply pw_below_drewN | apply below_drew1 | refine below_set ?_ GE146.out) | exact HB.out)) hb); clear BK146; clear HB; have BK146 := n0_; have HB := n1_; clear n0_ n1_; (try clear hb); (try clear hb2); (try clear hk); (try clear hi)) | ((with_reducible refine gate_dst (N := 9) rfl ?_); refine box_event ?hg (N := 9) ?hd (cs := #[.int .i64 0, .int .i64 0, .int .i64 0, .string (⟨#[]⟩ : ByteArray)]) (t := 31) ?hr ?_; (case hd => rfl); (case hg => rfl); (case hr => first | (go_simp; done) | (go_simp; rfl)); intro gb154 hg w13 hbox hb; have n0_ := Aside0.mk (blk_below (g := gb146) (o := .cells #[.int .i64 0, .int .i64 0, .int .i64 0, .string (⟨#[]⟩ : ByteArray)] 31 (0, 0)) (by (with_reducible repeat (first | refine blk_drewN ?_ _ | refine blk_drew ?_ | refine blk_alloc ?_ _)); exact BK146.out) hb); have n1_ := Aside0.mk (below_step (by repeat (first | (with_reducible first | exact HB.out | apply below_alloc | apply pw_below_drewN | apply below_drew1 | refine below_set ?_ GE146.out) | exact HB.out)) hb); have n2_ := Aside0.mk (hbox); have n3_ := Aside0.mk ((by rw [hg]; exact (below_size (by repeat (first | (with_reducible first | exact HB.out | apply below_alloc | apply pw_below_drewN | apply below_drew1 | refine below_set ?_ GE146.out) | exact HB.out))) : w.heap.size ≤ gb154)); have n4_ := Aside0.mk ((by rw [hg]; exact (below_size (by repeat (first | (with_reducible first | exact HB.out | apply below_alloc | apply pw_below_drewN | apply below_drew1 | refine below_set ?_ GE146.out) | exact HB.out))) : w.heap.size ≤ gb154)); have n5_ := Aside0.mk ((by rw [hg]; exact Nat.ne_of_lt (blk_lt (g := gb146) (o := .cells #[.int .i64 0, .int .i64 0, .int .i64 0, .string (⟨#[]⟩ : ByteArray)] 31 (0, 0)) (by (with_reducible repeat (first | refine blk_drewN ?_ _ | refine blk_drew ?_ | refine blk_alloc ?_ _)); exact BK146.out)) : gb146 ≠ gb154)); have n6_ := Aside0.mk ((by rw [hg]; exact Nat.ne_of_gt (blk_lt (g := gb146) (o := .cells #[.int .i64 0, .int .i64 0, .int .i64 0, .string (⟨#[]⟩ : ByteArray)] 31 (0, 0)) (by (with_reducible repeat (first | refine blk_drewN ?_ _ | refine blk_drew ?_ | refine blk_alloc ?_ _)); exact BK146.out)) : gb154 ≠ gb146)); clear BK146; clear HB; have BK146 := n0_; have HB := n1_; have BK154 := n2_; have GW154 := n3_; have GE154 := n4_; have NB146_154 := n5_; have NB154_146 := n6_; clear n0_ n1_ n2_ n3_ n4_ n5_ n6_; clear hb hbox hg; have hnb14 := NB154_146.out; have hnc14 := NB146_154.out; have hcz15_0 : w13.cell? ⟨gb154, 0, none⟩ = some (.int .i64 0) := (blk_cell BK154.out 0).trans rfl; have hcz15_1 : w13.cell? ⟨gb154, 1, none⟩ = some (.int .i64 0) := (blk_cell BK154.out 1).trans rfl; have hcz15_2 : w13.cell? ⟨gb154, 2, none⟩ = some (.int .i64 0) := (blk_cell BK154.out 2).trans rfl; have hcz15_3 : w13.cell? ⟨gb154, 3, none⟩ = some (.string (⟨#[]⟩ : ByteArray)) := (blk_cell BK154.out 3).trans rfl; have hfz15_0 := blk_frozen BK154.out 0; have hfz15_1 := blk_frozen BK154.out 1; have hfz15_2 := blk_frozen BK154.out 2; have hfz15_3 := blk_frozen BK154.out 3; have hcz16_0 : w13.cell? ⟨gb146, 0, none⟩ = some (.int .i64 0) := (blk_cell BK146.out 0).trans rfl; have hcz16_1 : w13.cell? ⟨gb146, 1, none⟩ = some (.int .i64 0) := (blk_cell BK146.out 1).trans rfl; have hcz16_2 : w13.cell? ⟨gb146, 2, none⟩ = some (.int .i64 0) := (blk_cell BK146.out 2).trans rfl; have hcz16_3 : w13.cell? ⟨gb146, 3, none⟩ = some (.string (⟨#[]⟩ : ByteArray)) := (blk_cell BK146.out 3).trans rfl; have hfz16_0 := blk_frozen BK146.out 0; have hfz16_1 := blk_frozen BK146.out 1; have hfz16_2 := blk_frozen BK146.out 2; have hfz16_3 := blk_frozen BK146.out 3))
      refine bodyPost_ret (results_ctt rfl _ _ gb146 31 #[.int .i64 t148, .int .i64 t149, .int .i64 t150, .string t151] (0, 0) _ rfl (by (with_reducible repeat (first | refine blk_drewN ?_ _ | refine blk_drew ?_ | refine blk_alloc ?_ _)); refine blk_put (cs := #[.int .i64 t148, .int .i64 t149, .int .i64 t150, .string (⟨#[]⟩ : ByteArray)]) ?_ 3 _ rfl; (with_reducible repeat (first | refine blk_drewN ?_ _ | refine blk_drew ?_ | refine blk_alloc ?_ _)); refine blk_put (cs := #[.int .i64 t148, .int .i64 t149, .int .i64 0, .string (⟨#[]⟩ : ByteArray)]) ?_ 2 _ rfl; (with_reducible repeat (first | refine blk_drewN ?_ _ | refine blk_drew ?_ | refine blk_alloc ?_ _)); refine blk_put (cs := #[.int .i64 t148, .int .i64 0, .int .i64 0, .string (⟨#[]⟩ : ByteArray)]) ?_ 1 _ rfl; (with_reducible repeat (first | refine blk_drewN ?_ _ | refine blk_drew ?_ | refine blk_alloc ?_ _)); refine blk_put (cs := #[.int .i64 0, .int .i64 0, .int .i64 0, .string (⟨#[]⟩ : ByteArray)]) ?_ 0 _ rfl; (with_reducible repeat (first | refine blk_drewN ?_ _ | refine blk_drew ?_ | refine blk_alloc ?_ _)); refine blk_far ?_ NB146_154.out _; (with_reducible repeat (first | refine blk_drewN ?_ _ | refine blk_drew ?_ | refine blk_alloc ?_ _)); refine blk_far ?_ NB146_154.out _; (with_reducible repeat (first | refine blk_drewN ?_ _ | refine blk_drew ?_ | refine blk_alloc ?_ _)); refine blk_far ?_ NB146_154.out _; (with_reducible repeat (first | refine blk_drewN ?_ _ | refine blk_drew ?_ | refine blk_alloc ?_ _)); refine blk_far ?_ NB146_154.out _; (with_reducible repeat (first | refine blk_drewN ?_ _ | refine blk_drew ?_ | refine blk_alloc ?_ _)); exact BK146.out) Tryz.underlying31 rfl (by kernel_rfl)) rfl ?_
      exact ⟨by first | rfl | (simp [errW_none, errW_some] <;> rfl) | (simp [*, errW_none, errW_some] <;> rfl), by repeat (first | (with_reducible first | exact HB.out | apply below_alloc | apply pw_below_drewN | apply below_drew1 | refine below_set ?_ GE146.out | refine below_set ?_ GE154.out) | exact HB.out)⟩
    · replace c9 := Bool.eq_false_iff.mpr c9
      subst c9
      have H1 : (if 0 ≤ t147 then (if t147 < (a0.size : Int) then (if (bt a0 t147) = 41 then (tok_Next.j0 k a0 t147 a0 (bt a0 t147) ((bt a0 t147) == 41)) else (tok_Next.j0 k a0 t147 a0 (bt a0 t147) ((bt a0 t147) == 62))) else (none)) else (none)) = some (r1, r2, r3, r4, r5, r6) := by rw [if_neg (show ¬ (false = true) by decide)] at H; exact H
      clear H
      have H := H1
      clear H1
      by_cases c17 : 0 ≤ t147
      · rw [if_pos c17] at H
        have c17b0 : decide (0 ≤ t147) = true := decide_eq_true c17
        clear c17
        by_cases c18 : t147 < (a0.size : Int)
        · rw [if_pos c18] at H
          have c18b0 : decide (t147 < (a0.size : Int)) = true := decide_eq_true c18
          clear c18
          have HC20 := Aside0.mk H
          clear H
          go_enter Tryz.func13, Tryz.ntmps13
          go_upto_if 38 with (first | ((with_reducible refine gate_dst (N := 4) rfl ?_); refine box_event ?hg (N := 4) ?hd (cs := #[.int .i64 0, .int .i64 0, .int .i64 0, .string (⟨#[]⟩ : ByteArray)]) (t := 31) ?hr ?_; (case hd => rfl); (case hg => rfl); (case hr => first | (go_simp; done) | (go_simp; rfl)); intro gb146 hg w21 hbox hb; have n0_ := Aside0.mk (below_step (by repeat (first | (with_reducible first | exact HB.out | apply below_alloc | apply pw_below_drewN | apply below_drew1) | exact HB.out)) hb); have n1_ := Aside0.mk (hbox); have n2_ := Aside0.mk ((by rw [hg]; exact (below_size (by repeat (first | (with_reducible first | exact HB.out | apply below_alloc | apply pw_below_drewN | apply below_drew1) | exact HB.out))) : w.heap.size ≤ gb146)); have n3_ := Aside0.mk ((by rw [hg]; exact (below_size (by repeat (first | (with_reducible first | exact HB.out | apply below_alloc | apply pw_below_drewN | apply below_drew1) | exact HB.out))) : w.heap.size ≤ gb146)); clear HB; have HB := n0_; have BK146 := n1_; have GW146 := n2_; have GE146 := n3_; clear n0_ n1_ n2_ n3_; clear hb hbox hg) | ((with_reducible refine gate_callee (f := 17) rfl ?_); refine goesL_ (some 16) rfl rfl Tryz.func17 (by kernel_rfl) rfl #[.string a0, .int .i64 a1] rfl (by (try simp only [List.map_toArray, List.map_cons, List.map_nil]); first | done | rfl | (simp only [List.length_drop, List.length_take]; rfl)) ?_; (with_reducible refine (lex_Skip.calls k a0 a1 t147 _ A3.out).mono ?_); rintro e w22 ⟨rfl, hb⟩; refine ⟨_, rfl, ?_⟩; have n0_ := Aside0.mk (blk_below (g := gb146) (o := .cells #[.int .i64 0, .int .i64 0, .int .i64 0, .string (⟨#[]⟩ : ByteArray)] 31 (0, 0)) (by (with_reducible repeat (first | refine blk_drewN ?_ _ | refine blk_drew ?_ | refine blk_alloc ?_ _)); exact BK146.out) hb); have n1_ := Aside0.mk (below_step (by repeat (first | (with_reducible first | exact HB.out | apply below_alloc | apply pw_below_drewN | apply below_drew1 | refine below_set ?_ GE146.out) | exact HB.out)) hb); clear BK146; clear HB; have BK146 := n0_; have HB := n1_; clear n0_ n1_; (try clear hb); (try clear hb2); (try clear hk); (try clear hi)) | ((with_reducible refine gate_callee (f := 18) rfl ?_); refine goesL_ (some 28) rfl rfl Tryz.func18 (by kernel_rfl) rfl #[.string a0, .int .i64 t147] rfl (by (try simp only [List.map_toArray, List.map_cons, List.map_nil]); first | done | rfl | (simp only [List.length_drop, List.length_take]; rfl)) ?_; (with_reducible refine (tok_source_sign.calls a0 t147 t148 t149 t150 t151 t152 false _ A8.out).mono ?_); rintro e w23 ⟨rfl, hb⟩; refine ⟨_, rfl, ?_⟩; have n0_ := Aside0.mk (blk_below (g := gb146) (o := .cells #[.int .i64 0, .int .i64 0, .int .i64 0, .string (⟨#[]⟩ : ByteArray)] 31 (0, 0)) (by (with_reducible repeat (first | refine blk_drewN ?_ _ | refine blk_drew ?_ | refine blk_alloc ?_ _)); exact BK146.out) hb); have n1_ := Aside0.mk (below_step (by repeat (first | (with_reducible first | exact HB.out | apply below_alloc | apply pw_below_drewN | apply below_drew1 | refine below_set ?_ GE146.out) | exact HB.out)) hb); clear BK146; clear HB; have BK146 := n0_; have HB := n1_; clear n0_ n1_; (try clear hb); (try clear hb2); (try clear hk); (try clear hi)) | ((with_reducible refine gate_dst (N := 9) rfl ?_); refine box_event ?hg (N := 9) ?hd (cs := #[.int .i64 0, .int .i64 0, .int .i64 0, .string (⟨#[]⟩ : ByteArray)]) (t := 31) ?hr ?_; (case hd => rfl); (case hg => rfl); (case hr => first | (go_simp; done) | (go_simp; rfl)); intro gb154 hg w24 hbox hb; have n0_ := Aside0.mk (blk_below (g := gb146) (o := .cells #[.int .i64 0, .int .i64 0, .int .i64 0, .string (⟨#[]⟩ : ByteArray)] 31 (0, 0)) (by (with_reducible repeat (first | refine blk_drewN ?_ _ | refine blk_drew ?_ | refine blk_alloc ?_ _)); exact BK146.out) hb); have n1_ := Aside0.mk (below_step (by repeat (first | (with_reducible first | exact HB.out | apply below_alloc | apply pw_below_drewN | apply below_drew1 | refine below_set ?_ GE146.out) | exact HB.out)) hb); have n2_ := Aside0.mk (hbox); have n3_ := Aside0.mk ((by rw [hg]; exact (below_size (by repeat (first | (with_reducible first | exact HB.out | apply below_alloc | apply pw_below_drewN | apply below_drew1 | refine below_set ?_ GE146.out) | exact HB.out))) : w.heap.size ≤ gb154)); have n4_ := Aside0.mk ((by rw [hg]; exact (below_size (by repeat (first | (with_reducible first | exact HB.out | apply below_alloc | apply pw_below_drewN | apply below_drew1 | refine below_set ?_ GE146.out) | exact HB.out))) : w.heap.size ≤ gb154)); have n5_ := Aside0.mk ((by rw [hg]; exact Nat.ne_of_lt (blk_lt (g := gb146) (o := .cells #[.int .i64 0, .int .i64 0, .int .i64 0, .string (⟨#[]⟩ : ByteArray)] 31 (0, 0)) (by (with_reducible repeat (first | refine blk_drewN ?_ _ | refine blk_drew ?_ | refine blk_alloc ?_ _)); exact BK146.out)) : gb146 ≠ gb154)); have n6_ := Aside0.mk ((by rw [hg]; exact Nat.ne_of_gt (blk_lt (g := gb146) (o := .cells #[.int .i64 0, .int .i64 0, .int .i64 0, .string (⟨#[]⟩ : ByteArray)] 31 (0, 0)) (by (with_reducible repeat (first | refine blk_drewN ?_ _ | refine blk_drew ?_ | refine blk_alloc ?_ _)); exact BK146.out)) : gb154 ≠ gb146)); clear BK146; clear HB; have BK146 := n0_; have HB := n1_; have BK154 := n2_; have GW154 := n3_; have GE154 := n4_; have NB146_154 := n5_; have NB154_146 := n6_; clear n0_ n1_ n2_ n3_ n4_ n5_ n6_; clear hb hbox hg; have hnb25 := NB154_146.out; have hnc25 := NB146_154.out; have hcz26_0 : w24.cell? ⟨gb154, 0, none⟩ = some (.int .i64 0) := (blk_cell BK154.out 0).trans rfl; have hcz26_1 : w24.cell? ⟨gb154, 1, none⟩ = some (.int .i64 0) := (blk_cell BK154.out 1).trans rfl; have hcz26_2 : w24.cell? ⟨gb154, 2, none⟩ = some (.int .i64 0) := (blk_cell BK154.out 2).trans rfl; have hcz26_3 : w24.cell? ⟨gb154, 3, none⟩ = some (.string (⟨#[]⟩ : ByteArray)) := (blk_cell BK154.out 3).trans rfl; have hfz26_0 := blk_frozen BK154.out 0; have hfz26_1 := blk_frozen BK154.out 1; have hfz26_2 := blk_frozen BK154.out 2; have hfz26_3 := blk_frozen BK154.out 3; have p19 : 0 ≤ (t147 : Int) := of_decide_eq_true (by first | (with_reducible assumption) | assumption); have q19 : t147 < (a0.size : Int) := of_decide_eq_true (by first | (with_reducible assumption) | assumption); have hx19 := bt_at a0 t147; replace p19 := eq_true p19; replace q19 := eq_true q19))
          (try simp only [Act.put, List.setIfInBounds_toArray, List.set_cons_zero, List.set_cons_succ])
          go_cut [38] (fun v38 wc => ∃ (kq : Nat) (x38_19 : Bool), v38 = .bool x38_19 ∧ Aside0 (tok_Next.j0 kq a0 t147 a0 (bt a0 t147) x38_19 = some (r1, r2, r3, r4, r5, r6)) ∧ Aside0 (kq ≤ k) ∧ Aside0 (wc.heap[gb146]? = some (.cells #[.int .i64 0, .int .i64 0, .int .i64 0, .string (⟨#[]⟩ : ByteArray)] 31 (0, 0))) ∧ Aside0 (wc.heap[gb154]? = some (.cells #[.int .i64 t148, .int .i64 t149, .int .i64 t150, .string t151] 31 (0, 0))) ∧ Aside0 (Below w.heap.size w wc))
          case first =>
            have H := HC20.out
            clear HC20
            by_cases c27 : (bt a0 t147) = 41
            · rw [if_pos c27] at H
              have c27b0 : ((bt a0 t147) == 41) = true := beq_iff_eq.mpr c27
              have c27b1 : ((bt a0 t147) != 41) = false := bne_eq_false_iff_eq.mpr c27
              clear c27
              (first | rw [c27b0] | (simp only [i64_w, i32_w]; rw [c27b0]) | skip)
              have H' := Aside0.mk H
              clear H
              go_wp2
              go_meet
              case rel => exact ⟨_, (((bt a0 t147) == 41)), (by first | rfl | (simp; done) | (simp [*]; done)), H', ⟨by first | omega | exact Nat.le_refl _⟩, ⟨by (with_reducible repeat (first | refine blk_drewN ?_ _ | refine blk_drew ?_ | refine blk_alloc ?_ _)); refine blk_far ?_ NB146_154.out _; (with_reducible repeat (first | refine blk_drewN ?_ _ | refine blk_drew ?_ | refine blk_alloc ?_ _)); refine blk_far ?_ NB146_154.out _; (with_reducible repeat (first | refine blk_drewN ?_ _ | refine blk_drew ?_ | refine blk_alloc ?_ _)); refine blk_far ?_ NB146_154.out _; (with_reducible repeat (first | refine blk_drewN ?_ _ | refine blk_drew ?_ | refine blk_alloc ?_ _)); refine blk_far ?_ NB146_154.out _; (with_reducible repeat (first | refine blk_drewN ?_ _ | refine blk_drew ?_ | refine blk_alloc ?_ _)); exact BK146.out⟩, ⟨by (with_reducible repeat (first | refine blk_drewN ?_ _ | refine blk_drew ?_ | refine blk_alloc ?_ _)); refine blk_put (cs := #[.int .i64 t148, .int .i64 t149, .int .i64 t150, .string (⟨#[]⟩ : ByteArray)]) ?_ 3 _ rfl; (with_reducible repeat (first | refine blk_drewN ?_ _ | refine blk_drew ?_ | refine blk_alloc ?_ _)); refine blk_put (cs := #[.int .i64 t148, .int .i64 t149, .int .i64 0, .string (⟨#[]⟩ : ByteArray)]) ?_ 2 _ rfl; (with_reducible repeat (first | refine blk_drewN ?_ _ | refine blk_drew ?_ | refine blk_alloc ?_ _)); refine blk_put (cs := #[.int .i64 t148, .int .i64 0, .int .i64 0, .string (⟨#[]⟩ : ByteArray)]) ?_ 1 _ rfl; (with_reducible repeat (first | refine blk_drewN ?_ _ | refine blk_drew ?_ | refine blk_alloc ?_ _)); refine blk_put (cs := #[.int .i64 0, .int .i64 0, .int .i64 0, .string (⟨#[]⟩ : ByteArray)]) ?_ 0 _ rfl; (with_reducible repeat (first | refine blk_drewN ?_ _ | refine blk_drew ?_ | refine blk_alloc ?_ _)); exact BK154.out⟩, ⟨by repeat (first | (with_reducible first | exact HB.out | apply below_alloc | apply pw_below_drewN | apply below_drew1 | refine below_set ?_ GE146.out | refine below_set ?_ GE154.out) | exact HB.out)⟩⟩
            · rw [if_neg c27] at H
              have c27b0 : ((bt a0 t147) == 41) = false := beq_eq_false_iff_ne.mpr c27
              have c27b1 : ((bt a0 t147) != 41) = true := bne_iff_ne.mpr c27
              (first | rw [c27b0] | (simp only [i64_w, i32_w]; rw [c27b0]) | skip)
              have H' := Aside0.mk H
              clear H
              go_wp2
              go_meet
              case rel => exact ⟨_, (((bt a0 t147) == 62)), (by first | rfl | (simp; done) | (simp [*]; done)), H', ⟨by first | omega | exact Nat.le_refl _⟩, ⟨by (with_reducible repeat (first | refine blk_drewN ?_ _ | refine blk_drew ?_ | refine blk_alloc ?_ _)); refine blk_far ?_ NB146_154.out _; (with_reducible repeat (first | refine blk_drewN ?_ _ | refine blk_drew ?_ | refine blk_alloc ?_ _)); refine blk_far ?_ NB146_154.out _; (with_reducible repeat (first | refine blk_drewN ?_ _ | refine blk_drew ?_ | refine blk_alloc ?_ _)); refine blk_far ?_ NB146_154.out _; (with_reducible repeat (first | refine blk_drewN ?_ _ | refine blk_drew ?_ | refine blk_alloc ?_ _)); refine blk_far ?_ NB146_154.out _; (with_reducible repeat (first | refine blk_drewN ?_ _ | refine blk_drew ?_ | refine blk_alloc ?_ _)); exact BK146.out⟩, ⟨by (with_reducible repeat (first | refine blk_drewN ?_ _ | refine blk_drew ?_ | refine blk_alloc ?_ _)); refine blk_put (cs := #[.int .i64 t148, .int .i64 t149, .int .i64 t150, .string (⟨#[]⟩ : ByteArray)]) ?_ 3 _ rfl; (with_reducible repeat (first | refine blk_drewN ?_ _ | refine blk_drew ?_ | refine blk_alloc ?_ _)); refine blk_put (cs := #[.int .i64 t148, .int .i64 t149, .int .i64 0, .string (⟨#[]⟩ : ByteArray)]) ?_ 2 _ rfl; (with_reducible repeat (first | refine blk_drewN ?_ _ | refine blk_drew ?_ | refine blk_alloc ?_ _)); refine blk_put (cs := #[.int .i64 t148, .int .i64 0, .int .i64 0, .string (⟨#[]⟩ : ByteArray)]) ?_ 1 _ rfl; (with_reducible repeat (first | refine blk_drewN ?_ _ | refine blk_drew ?_ | refine blk_alloc ?_ _)); refine blk_put (cs := #[.int .i64 0, .int .i64 0, .int .i64 0, .string (⟨#[]⟩ : ByteArray)]) ?_ 0 _ rfl; (with_reducible repeat (first | refine blk_drewN ?_ _ | refine blk_drew ?_ | refine blk_alloc ?_ _)); exact BK154.out⟩, ⟨by repeat (first | (with_reducible first | exact HB.out | apply below_alloc | apply pw_below_drewN | apply below_drew1 | refine below_set ?_ GE146.out | refine below_set ?_ GE154.out) | exact HB.out)⟩⟩
          case rest =>
            clear HC20
            try clear c1
            try clear p1
            try clear q1
            try clear hx1
            try clear c2
            try clear p2
            try clear c4
            try clear c4b0
            try clear c4b1
            try clear c9
            try clear c13
            try clear c14
            try clear c17
            try clear c17b0
            try clear c18
            try clear c18b0
            try clear p19
            try clear q19
            try clear hx19
            try clear c25
            try clear c27
            try clear c27b0
            try clear c27b1
            try clear hcz15_0
            try clear hcz15_1
            try clear hcz15_2
            try clear hcz15_3
            try clear hcz16_0
            try clear hcz16_1
            try clear hcz16_2
            try clear hcz16_3
            try clear hcz26_0
            try clear hcz26_1
            try clear hcz26_2
            try clear hcz26_3
            try clear hcz7_0
            try clear hcz7_1
            try clear hcz7_2
            try clear hcz7_3
            try clear hfz15_0
            try clear hfz15_1
            try clear hfz15_2
            try clear hfz15_3
            try clear hfz16_0
            try clear hfz16_1
            try clear hfz16_2
            try clear hfz16_3
            try clear hfz26_0
            try clear hfz26_1
            try clear hfz26_2
            try clear hfz26_3
            try clear hfz7_0
            try clear hfz7_1
            try clear hfz7_2
            try clear hfz7_3
            try clear p19
            try clear q19
            obtain ⟨kq, x38_19, rfl, HA, HJ19, BK146, BK154, HB⟩ := hcut
            cases kq with
            | zero => exact absurd HA.out (by simp [tok_Next.j0])
            | succ kj19 =>
              have H := HA.out
              clear HA
              simp only [tok_Next.j0] at H
              by_cases c28 : x38_19 = true
              · subst c28
                have H1 : (some (0, 0, 0, (⟨#[]⟩ : ByteArray), t147, 3)) = some (r1, r2, r3, r4, r5, r6) := by rw [if_pos rfl] at H; exact H
                clear H
                have H := H1
                clear H1
                simp only [Option.some.injEq, Prod.mk.injEq] at H
                obtain ⟨rfl, rfl, rfl, rfl, rfl, rfl⟩ := H
                have hnb29 := NB146_154.out
                have hnc29 := NB154_146.out
                have hcz30_0 : wc.cell? ⟨gb146, 0, none⟩ = some (.int .i64 0) := (blk_cell BK146.out 0).trans rfl
                have hcz30_1 : wc.cell? ⟨gb146, 1, none⟩ = some (.int .i64 0) := (blk_cell BK146.out 1).trans rfl
                have hcz30_2 : wc.cell? ⟨gb146, 2, none⟩ = some (.int .i64 0) := (blk_cell BK146.out 2).trans rfl
                have hcz30_3 : wc.cell? ⟨gb146, 3, none⟩ = some (.string (⟨#[]⟩ : ByteArray)) := (blk_cell BK146.out 3).trans rfl
                have hfz30_0 := blk_frozen BK146.out 0
                have hfz30_1 := blk_frozen BK146.out 1
                have hfz30_2 := blk_frozen BK146.out 2
                have hfz30_3 := blk_frozen BK146.out 3
                go_wp2
                refine bodyPost_ret (results_ctt rfl _ _ gb146 31 #[.int .i64 0, .int .i64 0, .int .i64 0, .string (⟨#[]⟩ : ByteArray)] (0, 0) _ rfl (by (with_reducible repeat (first | refine blk_drewN ?_ _ | refine blk_drew ?_ | refine blk_alloc ?_ _)); refine blk_put (cs := #[.int .i64 0, .int .i64 0, .int .i64 0, .string (⟨#[]⟩ : ByteArray)]) ?_ 3 _ rfl; (with_reducible repeat (first | refine blk_drewN ?_ _ | refine blk_drew ?_ | refine blk_alloc ?_ _)); refine blk_put (cs := #[.int .i64 0, .int .i64 0, .int .i64 0, .string (⟨#[]⟩ : ByteArray)]) ?_ 2 _ rfl; (with_reducible repeat (first | refine blk_drewN ?_ _ | refine blk_drew ?_ | refine blk_alloc ?_ _)); refine blk_put (cs := #[.int .i64 0, .int .i64 0, .int .i64 0, .string (⟨#[]⟩ : ByteArray)]) ?_ 1 _ rfl; (with_reducible repeat (first | refine blk_drewN ?_ _ | refine blk_drew ?_ | refine blk_alloc ?_ _)); refine blk_put (cs := #[.int .i64 0, .int .i64 0, .int .i64 0, .string (⟨#[]⟩ : ByteArray)]) ?_ 0 _ rfl; (with_reducible repeat (first | refine blk_drewN ?_ _ | refine blk_drew ?_ | refine blk_alloc ?_ _)); exact BK146.out) Tryz.underlying31 rfl (by kernel_rfl)) rfl ?_
                exact ⟨by first | rfl | (simp [errW_none, errW_some] <;> rfl) | (simp [*, errW_none, errW_some] <;> rfl), by repeat (first | (with_reducible first | exact HB.out | apply below_alloc | apply pw_below_drewN | apply below_drew1 | refine below_set ?_ GE146.out | refine below_set ?_ GE154.out) | exact HB.out)⟩
              · replace c28 := Bool.eq_false_iff.mpr c28
                subst c28
                have H1 : (if (bt a0 t147) = 47 then ((lex_Word.f kj19 a0 (wrap64 (t147 + 1))).bind fun bt155 => ((lex_Name.f bt155.1).bind fun t157 => (some (2, t147, 0, t157, bt155.2, 0)))) else (if (bt a0 t147) = 60 then ((tok_source_hexed.f kj19 a0 t147).bind fun bt158 => (some (bt158.1, bt158.2.1, bt158.2.2.1, bt158.2.2.2.1, bt158.2.2.2.2.1, bt158.2.2.2.2.2))) else (if (bt a0 t147) = 40 then ((tok_source_strung.f kj19 a0 t147).bind fun bt164 => (some (bt164.1, bt164.2.1, bt164.2.2.1, bt164.2.2.2.1, bt164.2.2.2.2.1, bt164.2.2.2.2.2))) else ((tok_source_worded.f kj19 a0 t147).bind fun bt170 => (some (bt170.1, bt170.2.1, bt170.2.2.1, bt170.2.2.2.1, bt170.2.2.2.2.1, bt170.2.2.2.2.2)))))) = some (r1, r2, r3, r4, r5, r6) := by rw [if_neg (show ¬ (false = true) by decide)] at H; exact H
                clear H
                have H := H1
                clear H1
                by_cases c31 : (bt a0 t147) = 47
                · rw [if_pos c31] at H
                  have c31b0 : ((bt a0 t147) == 47) = true := beq_iff_eq.mpr c31
                  have c31b1 : ((bt a0 t147) != 47) = false := bne_eq_false_iff_eq.mpr c31
                  clear c31
                  replace H := Option.bind_eq_some_iff.mp H
                  obtain ⟨⟨t155, t156⟩, A320, H⟩ := H
                  replace H : ((lex_Name.f t155).bind fun t157 => (some (2, t147, 0, t157, t156, 0))) = some (r1, r2, r3, r4, r5, r6) := H
                  have A32 := Aside0.mk A320
                  clear A320
                  replace H := Option.bind_eq_some_iff.mp H
                  obtain ⟨t157, A330, H⟩ := H
                  replace H : (some (2, t147, 0, t157, t156, 0)) = some (r1, r2, r3, r4, r5, r6) := H
                  have A33 := Aside0.mk A330
                  clear A330
                  simp only [Option.some.injEq, Prod.mk.injEq] at H
                  obtain ⟨rfl, rfl, rfl, rfl, rfl, rfl⟩ := H
                  go_wp2_with (first | ((with_reducible refine gate_callee (f := 19) rfl ?_); refine goesL_ (some 49) rfl rfl Tryz.func19 (by kernel_rfl) rfl #[.string a0, .int .i64 (wrap64 (t147 + 1))] rfl (by (try simp only [List.map_toArray, List.map_cons, List.map_nil]); first | done | rfl | (simp only [List.length_drop, List.length_take]; rfl)) ?_; (with_reducible refine (lex_Word.calls kj19 a0 (wrap64 (t147 + 1)) t155 t156 _ A32.out).mono ?_); rintro e w34 ⟨rfl, hb⟩; refine ⟨_, rfl, ?_⟩; have n0_ := Aside0.mk (blk_below (g := gb146) (o := .cells #[.int .i64 0, .int .i64 0, .int .i64 0, .string (⟨#[]⟩ : ByteArray)] 31 (0, 0)) (by (with_reducible repeat (first | refine blk_drewN ?_ _ | refine blk_drew ?_ | refine blk_alloc ?_ _)); exact BK146.out) hb); have n1_ := Aside0.mk (blk_below (g := gb154) (o := .cells #[.int .i64 t148, .int .i64 t149, .int .i64 t150, .string t151] 31 (0, 0)) (by (with_reducible repeat (first | refine blk_drewN ?_ _ | refine blk_drew ?_ | refine blk_alloc ?_ _)); exact BK154.out) hb); have n2_ := Aside0.mk (below_step (by repeat (first | (with_reducible first | exact HB.out | apply below_alloc | apply pw_below_drewN | apply below_drew1 | refine below_set ?_ GE146.out | refine below_set ?_ GE154.out) | exact HB.out)) hb); clear BK146; clear BK154; clear HB; have BK146 := n0_; have BK154 := n1_; have HB := n2_; clear n0_ n1_ n2_; (try clear hb); (try clear hb2); (try clear hk); (try clear hi)) | ((with_reducible refine gate_callee (f := 20) rfl ?_); refine goesL_ (some 54) rfl rfl Tryz.func20 (by kernel_rfl) rfl #[.string t155] rfl (by (try simp only [List.map_toArray, List.map_cons, List.map_nil]); first | done | rfl | (simp only [List.length_drop, List.length_take]; rfl)) ?_; (with_reducible refine (lex_Name.calls t155 t157 _ A33.out).mono ?_); rintro e w35 ⟨rfl, hb⟩; refine ⟨_, rfl, ?_⟩; have n0_ := Aside0.mk (blk_below (g := gb146) (o := .cells #[.int .i64 0, .int .i64 0, .int .i64 0, .string (⟨#[]⟩ : ByteArray)] 31 (0, 0)) (by (with_reducible repeat (first | refine blk_drewN ?_ _ | refine blk_drew ?_ | refine blk_alloc ?_ _)); exact BK146.out) hb); have n1_ := Aside0.mk (blk_below (g := gb154) (o := .cells #[.int .i64 t148, .int .i64 t149, .int .i64 t150, .string t151] 31 (0, 0)) (by (with_reducible repeat (first | refine blk_drewN ?_ _ | refine blk_drew ?_ | refine blk_alloc ?_ _)); exact BK154.out) hb); have n2_ := Aside0.mk (below_step (by repeat (first | (with_reducible first | exact HB.out | apply below_alloc | apply pw_below_drewN | apply below_drew1 | refine below_set ?_ GE146.out | refine below_set ?_ GE154.out) | exact HB.out)) hb); clear BK146; clear BK154; clear HB; have BK146 := n0_; have BK154 := n1_; have HB := n2_; clear n0_ n1_ n2_; (try clear hb); (try clear hb2); (try clear hk); (try clear hi); have hnb36 := NB146_154.out; have hnc36 := NB154_146.out; have hcz37_0 : w35.cell? ⟨gb146, 0, none⟩ = some (.int .i64 0) := (blk_cell BK146.out 0).trans rfl; have hcz37_1 : w35.cell? ⟨gb146, 1, none⟩ = some (.int .i64 0) := (blk_cell BK146.out 1).trans rfl; have hcz37_2 : w35.cell? ⟨gb146, 2, none⟩ = some (.int .i64 0) := (blk_cell BK146.out 2).trans rfl; have hcz37_3 : w35.cell? ⟨gb146, 3, none⟩ = some (.string (⟨#[]⟩ : ByteArray)) := (blk_cell BK146.out 3).trans rfl; have hfz37_0 := blk_frozen BK146.out 0; have hfz37_1 := blk_frozen BK146.out 1; have hfz37_2 := blk_frozen BK146.out 2; have hfz37_3 := blk_frozen BK146.out 3))
                  refine bodyPost_ret (results_ctt rfl _ _ gb146 31 #[.int .i64 2, .int .i64 t147, .int .i64 0, .string t157] (0, 0) _ rfl (by (with_reducible repeat (first | refine blk_drewN ?_ _ | refine blk_drew ?_ | refine blk_alloc ?_ _)); refine blk_put (cs := #[.int .i64 2, .int .i64 t147, .int .i64 0, .string (⟨#[]⟩ : ByteArray)]) ?_ 3 _ rfl; (with_reducible repeat (first | refine blk_drewN ?_ _ | refine blk_drew ?_ | refine blk_alloc ?_ _)); refine blk_put (cs := #[.int .i64 2, .int .i64 t147, .int .i64 0, .string (⟨#[]⟩ : ByteArray)]) ?_ 2 _ rfl; (with_reducible repeat (first | refine blk_drewN ?_ _ | refine blk_drew ?_ | refine blk_alloc ?_ _)); refine blk_put (cs := #[.int .i64 2, .int .i64 0, .int .i64 0, .string (⟨#[]⟩ : ByteArray)]) ?_ 1 _ rfl; (with_reducible repeat (first | refine blk_drewN ?_ _ | refine blk_drew ?_ | refine blk_alloc ?_ _)); refine blk_put (cs := #[.int .i64 0, .int .i64 0, .int .i64 0, .string (⟨#[]⟩ : ByteArray)]) ?_ 0 _ rfl; (with_reducible repeat (first | refine blk_drewN ?_ _ | refine blk_drew ?_ | refine blk_alloc ?_ _)); exact BK146.out) Tryz.underlying31 rfl (by kernel_rfl)) rfl ?_
                  exact ⟨by first | rfl | (simp [errW_none, errW_some] <;> rfl) | (simp [*, errW_none, errW_some] <;> rfl), by repeat (first | (with_reducible first | exact HB.out | apply below_alloc | apply pw_below_drewN | apply below_drew1 | refine below_set ?_ GE146.out | refine below_set ?_ GE154.out) | exact HB.out)⟩
                · rw [if_neg c31] at H
                  have c31b0 : ((bt a0 t147) == 47) = false := beq_eq_false_iff_ne.mpr c31
                  have c31b1 : ((bt a0 t147) != 47) = true := bne_iff_ne.mpr c31
                  by_cases c38 : (bt a0 t147) = 60
                  · rw [if_pos c38] at H
                    have c38b0 : ((bt a0 t147) == 60) = true := beq_iff_eq.mpr c38
                    have c38b1 : ((bt a0 t147) != 60) = false := bne_eq_false_iff_eq.mpr c38
                    clear c38
                    replace H := Option.bind_eq_some_iff.mp H
                    obtain ⟨⟨t158, t159, t160, t161, t162, t163⟩, A390, H⟩ := H
                    replace H : (some (t158, t159, t160, t161, t162, t163)) = some (r1, r2, r3, r4, r5, r6) := H
                    have A39 := Aside0.mk A390
                    clear A390
                    simp only [Option.some.injEq, Prod.mk.injEq] at H
                    obtain ⟨rfl, rfl, rfl, rfl, rfl, rfl⟩ := H
                    go_wp2_with (first | ((with_reducible refine gate_callee (f := 21) rfl ?_); refine goesL_ (some 61) rfl rfl Tryz.func21 (by kernel_rfl) rfl #[.string a0, .int .i64 t147] rfl (by (try simp only [List.map_toArray, List.map_cons, List.map_nil]); first | done | rfl | (simp only [List.length_drop, List.length_take]; rfl)) ?_; (with_reducible refine (tok_source_hexed.calls kj19 a0 t147 t158 t159 t160 t161 t162 t163 _ ?side1 A39.out).mono ?_); (case side1 => exact GW.below (by repeat (first | (with_reducible first | exact HB.out | apply below_alloc | apply pw_below_drewN | apply below_drew1 | refine below_set ?_ GE146.out | refine below_set ?_ GE154.out) | exact HB.out)) HG.out); rintro e w40 ⟨rfl, hb⟩; refine ⟨_, rfl, ?_⟩; have n0_ := Aside0.mk (blk_below (g := gb146) (o := .cells #[.int .i64 0, .int .i64 0, .int .i64 0, .string (⟨#[]⟩ : ByteArray)] 31 (0, 0)) (by (with_reducible repeat (first | refine blk_drewN ?_ _ | refine blk_drew ?_ | refine blk_alloc ?_ _)); exact BK146.out) hb); have n1_ := Aside0.mk (blk_below (g := gb154) (o := .cells #[.int .i64 t148, .int .i64 t149, .int .i64 t150, .string t151] 31 (0, 0)) (by (with_reducible repeat (first | refine blk_drewN ?_ _ | refine blk_drew ?_ | refine blk_alloc ?_ _)); exact BK154.out) hb); have n2_ := Aside0.mk (below_step (by repeat (first | (with_reducible first | exact HB.out | apply below_alloc | apply pw_below_drewN | apply below_drew1 | refine below_set ?_ GE146.out | refine below_set ?_ GE154.out) | exact HB.out)) hb); clear BK146; clear BK154; clear HB; have BK146 := n0_; have BK154 := n1_; have HB := n2_; clear n0_ n1_ n2_; (try clear hb); (try clear hb2); (try clear hk); (try clear hi); have hnb41 := NB146_154.out; have hnc41 := NB154_146.out; have hcz42_0 : w40.cell? ⟨gb146, 0, none⟩ = some (.int .i64 0) := (blk_cell BK146.out 0).trans rfl; have hcz42_1 : w40.cell? ⟨gb146, 1, none⟩ = some (.int .i64 0) := (blk_cell BK146.out 1).trans rfl; have hcz42_2 : w40.cell? ⟨gb146, 2, none⟩ = some (.int .i64 0) := (blk_cell BK146.out 2).trans rfl; have hcz42_3 : w40.cell? ⟨gb146, 3, none⟩ = some (.string (⟨#[]⟩ : ByteArray)) := (blk_cell BK146.out 3).trans rfl; have hfz42_0 := blk_frozen BK146.out 0; have hfz42_1 := blk_frozen BK146.out 1; have hfz42_2 := blk_frozen BK146.out 2; have hfz42_3 := blk_frozen BK146.out 3))
                    refine bodyPost_ret (results_ctt rfl _ _ gb146 31 #[.int .i64 t158, .int .i64 t159, .int .i64 t160, .string t161] (0, 0) _ rfl (by (with_reducible repeat (first | refine blk_drewN ?_ _ | refine blk_drew ?_ | refine blk_alloc ?_ _)); refine blk_put (cs := #[.int .i64 t158, .int .i64 t159, .int .i64 t160, .string (⟨#[]⟩ : ByteArray)]) ?_ 3 _ rfl; (with_reducible repeat (first | refine blk_drewN ?_ _ | refine blk_drew ?_ | refine blk_alloc ?_ _)); refine blk_put (cs := #[.int .i64 t158, .int .i64 t159, .int .i64 0, .string (⟨#[]⟩ : ByteArray)]) ?_ 2 _ rfl; (with_reducible repeat (first | refine blk_drewN ?_ _ | refine blk_drew ?_ | refine blk_alloc ?_ _)); refine blk_put (cs := #[.int .i64 t158, .int .i64 0, .int .i64 0, .string (⟨#[]⟩ : ByteArray)]) ?_ 1 _ rfl; (with_reducible repeat (first | refine blk_drewN ?_ _ | refine blk_drew ?_ | refine blk_alloc ?_ _)); refine blk_put (cs := #[.int .i64 0, .int .i64 0, .int .i64 0, .string (⟨#[]⟩ : ByteArray)]) ?_ 0 _ rfl; (with_reducible repeat (first | refine blk_drewN ?_ _ | refine blk_drew ?_ | refine blk_alloc ?_ _)); exact BK146.out) Tryz.underlying31 rfl (by kernel_rfl)) rfl ?_
                    exact ⟨by first | rfl | (simp [errW_none, errW_some] <;> rfl) | (simp [*, errW_none, errW_some] <;> rfl), by repeat (first | (with_reducible first | exact HB.out | apply below_alloc | apply pw_below_drewN | apply below_drew1 | refine below_set ?_ GE146.out | refine below_set ?_ GE154.out) | exact HB.out)⟩
                  · rw [if_neg c38] at H
                    have c38b0 : ((bt a0 t147) == 60) = false := beq_eq_false_iff_ne.mpr c38
                    have c38b1 : ((bt a0 t147) != 60) = true := bne_iff_ne.mpr c38
                    by_cases c43 : (bt a0 t147) = 40
                    · rw [if_pos c43] at H
                      have c43b0 : ((bt a0 t147) == 40) = true := beq_iff_eq.mpr c43
                      have c43b1 : ((bt a0 t147) != 40) = false := bne_eq_false_iff_eq.mpr c43
                      clear c43
                      replace H := Option.bind_eq_some_iff.mp H
                      obtain ⟨⟨t164, t165, t166, t167, t168, t169⟩, A440, H⟩ := H
                      replace H : (some (t164, t165, t166, t167, t168, t169)) = some (r1, r2, r3, r4, r5, r6) := H
                      have A44 := Aside0.mk A440
                      clear A440
                      simp only [Option.some.injEq, Prod.mk.injEq] at H
                      obtain ⟨rfl, rfl, rfl, rfl, rfl, rfl⟩ := H
                      go_wp2_with (first | ((with_reducible refine gate_callee (f := 22) rfl ?_); refine goesL_ (some 69) rfl rfl Tryz.func22 (by kernel_rfl) rfl #[.string a0, .int .i64 t147] rfl (by (try simp only [List.map_toArray, List.map_cons, List.map_nil]); first | done | rfl | (simp only [List.length_drop, List.length_take]; rfl)) ?_; (with_reducible refine (tok_source_strung.calls kj19 a0 t147 t164 t165 t166 t167 t168 t169 _ A44.out).mono ?_); rintro e w45 ⟨rfl, hb⟩; refine ⟨_, rfl, ?_⟩; have n0_ := Aside0.mk (blk_below (g := gb146) (o := .cells #[.int .i64 0, .int .i64 0, .int .i64 0, .string (⟨#[]⟩ : ByteArray)] 31 (0, 0)) (by (with_reducible repeat (first | refine blk_drewN ?_ _ | refine blk_drew ?_ | refine blk_alloc ?_ _)); exact BK146.out) hb); have n1_ := Aside0.mk (blk_below (g := gb154) (o := .cells #[.int .i64 t148, .int .i64 t149, .int .i64 t150, .string t151] 31 (0, 0)) (by (with_reducible repeat (first | refine blk_drewN ?_ _ | refine blk_drew ?_ | refine blk_alloc ?_ _)); exact BK154.out) hb); have n2_ := Aside0.mk (below_step (by repeat (first | (with_reducible first | exact HB.out | apply below_alloc | apply pw_below_drewN | apply below_drew1 | refine below_set ?_ GE146.out | refine below_set ?_ GE154.out) | exact HB.out)) hb); clear BK146; clear BK154; clear HB; have BK146 := n0_; have BK154 := n1_; have HB := n2_; clear n0_ n1_ n2_; (try clear hb); (try clear hb2); (try clear hk); (try clear hi); have hnb46 := NB146_154.out; have hnc46 := NB154_146.out; have hcz47_0 : w45.cell? ⟨gb146, 0, none⟩ = some (.int .i64 0) := (blk_cell BK146.out 0).trans rfl; have hcz47_1 : w45.cell? ⟨gb146, 1, none⟩ = some (.int .i64 0) := (blk_cell BK146.out 1).trans rfl; have hcz47_2 : w45.cell? ⟨gb146, 2, none⟩ = some (.int .i64 0) := (blk_cell BK146.out 2).trans rfl; have hcz47_3 : w45.cell? ⟨gb146, 3, none⟩ = some (.string (⟨#[]⟩ : ByteArray)) := (blk_cell BK146.out 3).trans rfl; have hfz47_0 := blk_frozen BK146.out 0; have hfz47_1 := blk_frozen BK146.out 1; have hfz47_2 := blk_frozen BK146.out 2; have hfz47_3 := blk_frozen BK146.out 3))
                      refine bodyPost_ret (results_ctt rfl _ _ gb146 31 #[.int .i64 t164, .int .i64 t165, .int .i64 t166, .string t167] (0, 0) _ rfl (by (with_reducible repeat (first | refine blk_drewN ?_ _ | refine blk_drew ?_ | refine blk_alloc ?_ _)); refine blk_put (cs := #[.int .i64 t164, .int .i64 t165, .int .i64 t166, .string (⟨#[]⟩ : ByteArray)]) ?_ 3 _ rfl; (with_reducible repeat (first | refine blk_drewN ?_ _ | refine blk_drew ?_ | refine blk_alloc ?_ _)); refine blk_put (cs := #[.int .i64 t164, .int .i64 t165, .int .i64 0, .string (⟨#[]⟩ : ByteArray)]) ?_ 2 _ rfl; (with_reducible repeat (first | refine blk_drewN ?_ _ | refine blk_drew ?_ | refine blk_alloc ?_ _)); refine blk_put (cs := #[.int .i64 t164, .int .i64 0, .int .i64 0, .string (⟨#[]⟩ : ByteArray)]) ?_ 1 _ rfl; (with_reducible repeat (first | refine blk_drewN ?_ _ | refine blk_drew ?_ | refine blk_alloc ?_ _)); refine blk_put (cs := #[.int .i64 0, .int .i64 0, .int .i64 0, .string (⟨#[]⟩ : ByteArray)]) ?_ 0 _ rfl; (with_reducible repeat (first | refine blk_drewN ?_ _ | refine blk_drew ?_ | refine blk_alloc ?_ _)); exact BK146.out) Tryz.underlying31 rfl (by kernel_rfl)) rfl ?_
                      exact ⟨by first | rfl | (simp [errW_none, errW_some] <;> rfl) | (simp [*, errW_none, errW_some] <;> rfl), by repeat (first | (with_reducible first | exact HB.out | apply below_alloc | apply pw_below_drewN | apply below_drew1 | refine below_set ?_ GE146.out | refine below_set ?_ GE154.out) | exact HB.out)⟩
                    · rw [if_neg c43] at H
                      have c43b0 : ((bt a0 t147) == 40) = false := beq_eq_false_iff_ne.mpr c43
                      have c43b1 : ((bt a0 t147) != 40) = true := bne_iff_ne.mpr c43
                      replace H := Option.bind_eq_some_iff.mp H
                      obtain ⟨⟨t170, t171, t172, t173, t174, t175⟩, A480, H⟩ := H
                      replace H : (some (t170, t171, t172, t173, t174, t175)) = some (r1, r2, r3, r4, r5, r6) := H
                      have A48 := Aside0.mk A480
                      clear A480
                      simp only [Option.some.injEq, Prod.mk.injEq] at H
                      obtain ⟨rfl, rfl, rfl, rfl, rfl, rfl⟩ := H
                      go_wp2_with (first | ((with_reducible refine gate_callee (f := 23) rfl ?_); refine goesL_ (some 75) rfl rfl Tryz.func23 (by kernel_rfl) rfl #[.string a0, .int .i64 t147] rfl (by (try simp only [List.map_toArray, List.map_cons, List.map_nil]); first | done | rfl | (simp only [List.length_drop, List.length_take]; rfl)) ?_; (with_reducible refine (tok_source_worded.calls kj19 a0 t147 t170 t171 t172 t173 t174 t175 _ ?side1 A48.out).mono ?_); (case side1 => exact GW.below (by repeat (first | (with_reducible first | exact HB.out | apply below_alloc | apply pw_below_drewN | apply below_drew1 | refine below_set ?_ GE146.out | refine below_set ?_ GE154.out) | exact HB.out)) HG.out); rintro e w49 ⟨rfl, hb⟩; refine ⟨_, rfl, ?_⟩; have n0_ := Aside0.mk (blk_below (g := gb146) (o := .cells #[.int .i64 0, .int .i64 0, .int .i64 0, .string (⟨#[]⟩ : ByteArray)] 31 (0, 0)) (by (with_reducible repeat (first | refine blk_drewN ?_ _ | refine blk_drew ?_ | refine blk_alloc ?_ _)); exact BK146.out) hb); have n1_ := Aside0.mk (blk_below (g := gb154) (o := .cells #[.int .i64 t148, .int .i64 t149, .int .i64 t150, .string t151] 31 (0, 0)) (by (with_reducible repeat (first | refine blk_drewN ?_ _ | refine blk_drew ?_ | refine blk_alloc ?_ _)); exact BK154.out) hb); have n2_ := Aside0.mk (below_step (by repeat (first | (with_reducible first | exact HB.out | apply below_alloc | apply pw_below_drewN | apply below_drew1 | refine below_set ?_ GE146.out | refine below_set ?_ GE154.out) | exact HB.out)) hb); clear BK146; clear BK154; clear HB; have BK146 := n0_; have BK154 := n1_; have HB := n2_; clear n0_ n1_ n2_; (try clear hb); (try clear hb2); (try clear hk); (try clear hi); have hnb50 := NB146_154.out; have hnc50 := NB154_146.out; have hcz51_0 : w49.cell? ⟨gb146, 0, none⟩ = some (.int .i64 0) := (blk_cell BK146.out 0).trans rfl; have hcz51_1 : w49.cell? ⟨gb146, 1, none⟩ = some (.int .i64 0) := (blk_cell BK146.out 1).trans rfl; have hcz51_2 : w49.cell? ⟨gb146, 2, none⟩ = some (.int .i64 0) := (blk_cell BK146.out 2).trans rfl; have hcz51_3 : w49.cell? ⟨gb146, 3, none⟩ = some (.string (⟨#[]⟩ : ByteArray)) := (blk_cell BK146.out 3).trans rfl; have hfz51_0 := blk_frozen BK146.out 0; have hfz51_1 := blk_frozen BK146.out 1; have hfz51_2 := blk_frozen BK146.out 2; have hfz51_3 := blk_frozen BK146.out 3))
                      refine bodyPost_ret (results_ctt rfl _ _ gb146 31 #[.int .i64 t170, .int .i64 t171, .int .i64 t172, .string t173] (0, 0) _ rfl (by (with_reducible repeat (first | refine blk_drewN ?_ _ | refine blk_drew ?_ | refine blk_alloc ?_ _)); refine blk_put (cs := #[.int .i64 t170, .int .i64 t171, .int .i64 t172, .string (⟨#[]⟩ : ByteArray)]) ?_ 3 _ rfl; (with_reducible repeat (first | refine blk_drewN ?_ _ | refine blk_drew ?_ | refine blk_alloc ?_ _)); refine blk_put (cs := #[.int .i64 t170, .int .i64 t171, .int .i64 0, .string (⟨#[]⟩ : ByteArray)]) ?_ 2 _ rfl; (with_reducible repeat (first | refine blk_drewN ?_ _ | refine blk_drew ?_ | refine blk_alloc ?_ _)); refine blk_put (cs := #[.int .i64 t170, .int .i64 0, .int .i64 0, .string (⟨#[]⟩ : ByteArray)]) ?_ 1 _ rfl; (with_reducible repeat (first | refine blk_drewN ?_ _ | refine blk_drew ?_ | refine blk_alloc ?_ _)); refine blk_put (cs := #[.int .i64 0, .int .i64 0, .int .i64 0, .string (⟨#[]⟩ : ByteArray)]) ?_ 0 _ rfl; (with_reducible repeat (first | refine blk_drewN ?_ _ | refine blk_drew ?_ | refine blk_alloc ?_ _)); exact BK146.out) Tryz.underlying31 rfl (by kernel_rfl)) rfl ?_
                      exact ⟨by first | rfl | (simp [errW_none, errW_some] <;> rfl) | (simp [*, errW_none, errW_some] <;> rfl), by repeat (first | (with_reducible first | exact HB.out | apply below_alloc | apply pw_below_drewN | apply below_drew1 | refine below_set ?_ GE146.out | refine below_set ?_ GE154.out) | exact HB.out)⟩
        · rw [if_neg c18] at H
          exact absurd H (by simp)
      · rw [if_neg c17] at H
        exact absurd H (by simp)
end Go.Proofs.YtfdikkdbmlcjiaaGreatDoor.M
end
section
namespace Go.Proofs.YtfdikkdbmlcjiaaGreatDoor.M
open Go.RowKit Go.Proofs.YtfdikkdbmlcjiaaGreatDoorW.PrintWords
set_option linter.unusedVariables false
def strconv_Itoa.f (a0 : Int) : Option ByteArray := if -9223372036854775808 ≤ a0 ∧ a0 ≤ 9223372036854775807 then some ⟨(Lib.itoa a0).toArray⟩ else none
theorem strconv_Itoa.calls (a0 : Int) (r : ByteArray) (w : World) (hG : GW w) (h : strconv_Itoa.f a0 = some r) :
    Calls Tryz.prog 24 #[.int .i64 a0] w fun e w' => e = .returned (.string r) ∧ Below w.heap.size w w' := by
  unfold strconv_Itoa.f at h
  split at h
  case isFalse => cases h
  rename_i hb
  obtain rfl := Option.some.inj h
  refine (Tryz.strconv_Itoa a0 hb.1 hb.2 w hG.pow).mono ?_
  rintro e w' ⟨rfl, k, os, rfl⟩
  exact ⟨rfl, Lib.below_grow _ w (Nat.le_refl _) k os⟩
end Go.Proofs.YtfdikkdbmlcjiaaGreatDoor.M
end
section
namespace Go.Proofs.YtfdikkdbmlcjiaaGreatDoor.M
open Go.RowKit Go.Proofs.YtfdikkdbmlcjiaaGreatDoorW.PrintWords
set_option linter.unusedVariables false
/-- A digit of a number below 16. -/
def hexDig (n : Nat) : UInt8 := if n < 10 then (48 + n).toUInt8 else (55 + n).toUInt8
def hexOf (c : Int) : List UInt8 := [hexDig (c.toNat / 16), hexDig (c.toNat % 16)]
def hexBytes (l : List Int) : List UInt8 := l.flatMap hexOf
def isByte (c : Int) : Bool := decide (0 ≤ c) && decide (c ≤ 255)
def hex_Hex.f (l0 : List Int) : Option ByteArray := if l0.all isByte = true then (if l0.length * 2 ≤ 140737488355328 then some ⟨(hexBytes l0).toArray⟩ else none) else none
theorem hexBytes_length (l : List Int) : (hexBytes l).length = 2 * l.length := by
  induction l with
  | nil => rfl
  | cons c l ih => simp only [hexBytes, List.flatMap_cons, List.length_append] at ih ⊢; rw [ih]; simp [hexOf]; omega
theorem hexBytes_snoc (l : List Int) (i : Nat) (h : i < l.length) : hexBytes (l.take (i + 1)) = hexBytes (l.take i) ++ hexOf (l.getD i 0) := by
  unfold hexBytes
  rw [List.take_succ_eq_append_getElem h, List.flatMap_append]
  simp [List.getD_eq_getElem?_getD, h]
theorem hexAt (n : Nat) (h : n < 16) : (⟨#[48, 49, 50, 51, 52, 53, 54, 55, 56, 57, 65, 66, 67, 68, 69, 70]⟩ : ByteArray)[n]'h = hexDig n := by
  have : ∀ m : Fin 16, (⟨#[48, 49, 50, 51, 52, 53, 54, 55, 56, 57, 65, 66, 67, 68, 69, 70]⟩ : ByteArray)[m.val]'m.isLt = hexDig m.val := by decide
  exact this ⟨n, h⟩
theorem hexCells (l : List Int) (k : Nat) (hk : k < l.length) (c : Int) (hc : rd l k = c) (h0 : 0 ≤ c) (h1 : c ≤ 255) (ha : (c / 16).toNat < 16) (hb : (c % 16).toNat < 16) :
    Lib.byteCells (hexBytes (l.take k)) ++ [.int .u8 ↑((⟨#[48, 49, 50, 51, 52, 53, 54, 55, 56, 57, 65, 66, 67, 68, 69, 70]⟩ : ByteArray)[(c / 16).toNat]'ha).toNat] ++ [.int .u8 ↑((⟨#[48, 49, 50, 51, 52, 53, 54, 55, 56, 57, 65, 66, 67, 68, 69, 70]⟩ : ByteArray)[(c % 16).toNat]'hb).toNat] = Lib.byteCells (hexBytes (l.take (k + 1))) := by
  rw [hexBytes_snoc l k hk, Lib.byteCells_append, hexAt _ ha, hexAt _ hb, List.append_assoc]
  have e : l.getD k 0 = c := by simpa [rd] using hc
  rw [e]
  have e1 : (c / 16).toNat = c.toNat / 16 := by omega
  have e2 : (c % 16).toNat = c.toNat % 16 := by omega
  simp [hexOf, Lib.byteCells, e1, e2]
set_option maxHeartbeats 4000000 in
set_option maxRecDepth 1000000 in
theorem hex_Hex.calls (A0 : Option Addr) (c0 : Nat) (l0 : List Int) (r : ByteArray) (w : World) (hr0 : Kd.C (Kd.int .u8) w A0 l0.length l0) (hc0 : l0.length ≤ c0) (h : hex_Hex.f l0 = some r) :
    Calls Tryz.prog 26 #[.slice A0 l0.length c0] w fun e w' => e = .returned (.string r) ∧ Below w.heap.size w w' := by
  unfold hex_Hex.f at h
  split at h
  case isFalse => cases h
  rename_i hb
  split at h
  case isFalse => cases h
  rename_i hl
  obtain rfl := Option.some.inj h
  clear h
  have HR := Aside0.mk hr0
  have HB := Aside0.mk hb
  clear hr0 hb
  go_enter Tryz.func26, Tryz.ntmps26
  go_wp2
  go_loopw [8] (fun i wr => ∃ k : Nat, k ≤ l0.length ∧ i = .int .i64 k ∧ IsBd w.heap.size w.heap.size (hexBytes (l0.take k)) wr ∧ Below w.heap.size w wr) (fun i wr => l0.length - (intOf i).toNat)
  case atStart => 
    refine ⟨0, Nat.zero_le _, rfl, (Lib.IsBuilderF.of (Lib.fresh_isBuilder _ _ w)), (Below.refl _ w).alloc (Nat.le_refl _) _⟩
  case round =>
    obtain ⟨k, hk, rfl, hI, hbw⟩ := hrel
    by_cases hlt : k < l0.length
    · obtain ⟨ad, e101, hx101⟩ := Kd.at_int HR.out (k : Int) (by omega) (by omega)
      subst e101
      have hx : wr.cell? (ad.add k) = some (.int .u8 (rd l0 k)) := by simpa using pw_cell_below hbw hx101
      obtain ⟨c, hc, h0, h1⟩ : ∃ c, rd l0 k = c ∧ 0 ≤ c ∧ c ≤ 255 := by
        have hm : rd l0 k ∈ l0 := by simp [rd, List.getD_eq_getElem?_getD, hlt]
        have := List.all_eq_true.1 HB.out _ hm
        simp only [isByte, Bool.and_eq_true, decide_eq_true_eq] at this
        exact ⟨_, rfl, this.1, this.2⟩
      have HC := Aside0.mk hc
      rw [hc] at hx
      clear hc hx101
      have hand : Go.bits .and .u8 c 15 = c % 16 := u8_and15 c h0 (by omega)
      go_wp2_with (go_at_call 39; refine (WriteByte_k w.heap.size w.heap.size _ _ _ hI ?_ ?_).mono ?_)
      · rw [Lib.byteCells_length, hexBytes_length, List.length_take]; omega
      · exact hbw.size
      rintro e W1 ⟨rfl, h1, b1, k1⟩
      clear hI
      go_wp2_with (go_at_call 39; refine (WriteByte_k w.heap.size w.heap.size _ _ _ (.inr h1) ?_ ?_).mono ?_)
      · simp only [List.length_append, Lib.byteCells_length, hexBytes_length, List.length_take, List.length_cons, List.length_nil]; omega
      · exact (hbw.trans b1).size
      rintro e W2 ⟨rfl, h2, b2, k2⟩
      rw [hexCells l0 k hlt c HC.out h0 (by omega)] at h2
      go_wp2
      go_roundw
      case rel => exact ⟨k + 1, by omega, by go_num, .inr h2, (hbw.trans b1).trans b2⟩
      case measure => simp [intOf]; omega
    · go_wp2_with (go_at_call 31; refine (Tryz.Builder_String_any_k w.heap.size w.heap.size _ _ hI hbw.size).mono ?_)
      rintro e W1 ⟨rfl, _, b1, _⟩
      go_wp2
      go_ret
      rw [List.take_of_length_le (by omega)]
      exact ⟨rfl, hbw.trans b1⟩
end Go.Proofs.YtfdikkdbmlcjiaaGreatDoor.M
end
section
namespace Go.Proofs.YtfdikkdbmlcjiaaGreatDoor.M
open Go.RowKit Go.Proofs.YtfdikkdbmlcjiaaGreatDoorW.PrintWords
set_option linter.unusedVariables false
/-- A byte of a name, written. -/
def writeOf (c : UInt8) : List UInt8 := if isPlainB c.toNat then [c] else 35 :: hexOf c.toNat
def writeBytes (l : List UInt8) : List UInt8 := l.flatMap writeOf
def lex_Write.f (a0 : ByteArray) : Option ByteArray := if a0.size * 3 ≤ 140737488355328 then some ⟨(writeBytes a0.data.toList).toArray⟩ else none
theorem writeOf_length (c : UInt8) : 1 ≤ (writeOf c).length ∧ (writeOf c).length ≤ 3 := by
  unfold writeOf; split <;> simp [hexOf]
theorem writeBytes_length (l : List UInt8) : l.length ≤ (writeBytes l).length ∧ (writeBytes l).length ≤ 3 * l.length := by
  induction l with
  | nil => simp [writeBytes]
  | cons c l ih =>
    have := writeOf_length c
    simp only [writeBytes, List.flatMap_cons, List.length_append, List.length_cons] at ih ⊢
    omega
theorem writeBytes_snoc (s : ByteArray) (i : Nat) (h : i < s.size) : writeBytes (s.data.toList.take (i + 1)) = writeBytes (s.data.toList.take i) ++ writeOf s[i] := by
  unfold writeBytes
  rw [List.take_succ_eq_append_getElem (by simpa using h), List.flatMap_append]
  simp
  rfl
set_option maxHeartbeats 4000000 in
set_option maxRecDepth 1000000 in
theorem lex_Write.calls (a0 : ByteArray) (r : ByteArray) (w : World) (h : lex_Write.f a0 = some r) :
    Calls Tryz.prog 25 #[.string a0] w fun e w' => e = .returned (.string r) ∧ Below w.heap.size w w' := by
  unfold lex_Write.f at h
  split at h
  case isFalse => cases h
  rename_i hl
  obtain rfl := Option.some.inj h
  clear h
  go_enter Tryz.func25, Tryz.ntmps25
  go_wp2
  go_loopw [7] (fun i wr => ∃ k : Nat, k ≤ a0.size ∧ i = .int .i64 k ∧ IsBd w.heap.size w.heap.size (writeBytes (a0.data.toList.take k)) wr ∧ Below w.heap.size w wr) (fun i wr => a0.size - (intOf i).toNat)
  case atStart => 
    refine ⟨0, Nat.zero_le _, rfl, (Lib.IsBuilderF.of (Lib.fresh_isBuilder _ _ w)), (Below.refl _ w).alloc (Nat.le_refl _) _⟩
  case round =>
    obtain ⟨k, hk, rfl, hI, hbw⟩ := hrel
    by_cases hlt : k < a0.size
    · have hlen := writeBytes_length (a0.data.toList.take k)
      rw [List.length_take, Array.length_toList] at hlen
      have hsz : min k a0.data.size = k := by have : a0.data.size = a0.size := rfl; omega
      rw [hsz] at hlen
      clear hsz
      have HS := Aside0.mk (writeBytes_snoc a0 k hlt)
      have h256 := (a0[k]).toNat_lt
      have hc := plain_eq (Nat.le_refl 2) (a0[k].toNat : Int) (by omega) (by omega)
      by_cases hp : isPlainB (a0[k].toNat : Int) = true
      · rw [hp] at hc
        have HP := Aside0.mk hp
        have HC := Aside0.mk hc
        clear hp hc
        go_wp2_with (go_at_call 46; refine (lex_plain.calls 2 _ true _ HC.out).mono ?_)
        rintro e W1 ⟨rfl, b1⟩
        replace hI := hI.below b1
        replace hbw := below_then hbw hbw.size b1
        clear b1
        go_wp2_with (go_at_call 39; refine (WriteByte_k w.heap.size w.heap.size _ _ _ hI ?_ ?_).mono ?_)
        · rw [Lib.byteCells_length]; omega
        · exact hbw.size
        rintro e W2 ⟨rfl, h2, b2, k2⟩
        go_wp2
        go_roundw
        case rel =>
          refine ⟨k + 1, by omega, by go_num, ?_, hbw.trans b2⟩
          rw [HS.out, IsBd, Lib.byteCells_append]
          have e : writeOf a0[k] = [a0[k]] := by unfold writeOf; rw [if_pos HP.out]
          rw [e]
          exact .inr h2
        case measure => simp [intOf]; omega
      · have hp' : isPlainB (a0[k].toNat : Int) = false := by simpa using hp
        rw [hp'] at hc
        have HP := Aside0.mk hp'
        have HC := Aside0.mk hc
        clear hp hp' hc
        have hx : hex_Hex.f [(a0[k].toNat : Int)] = some ⟨(hexBytes [(a0[k].toNat : Int)]).toArray⟩ := by
          unfold hex_Hex.f
          rw [if_pos (by simp [isByte]; omega), if_pos (by simp)]
        have HX := Aside0.mk hx
        clear hx
        go_wp2_with (go_at_call 46; refine (lex_plain.calls 2 _ false _ HC.out).mono ?_)
        rintro e W1 ⟨rfl, b1⟩
        replace hI := hI.below b1
        replace hbw := below_then hbw hbw.size b1
        clear b1
        go_wp2_with (go_at_call 39; refine (WriteByte_k w.heap.size w.heap.size _ _ _ hI ?_ ?_).mono ?_)
        · rw [Lib.byteCells_length]; omega
        · exact hbw.size
        rintro e W2 ⟨rfl, h2, b2, k2⟩
        replace hbw := hbw.trans b2
        have hI2 : IsBd w.heap.size w.heap.size (writeBytes (List.take k a0.data.toList) ++ [35]) W2 := by
          rw [IsBd, Lib.byteCells_append]; exact .inr h2
        have hr : Kd.C (Kd.int .u8) (W2.alloc (.cells #[.int .u8 (a0[k].toNat : Int)] 5)) (some ⟨W2.heap.size, 0, none⟩) 1 [(a0[k].toNat : Int)] := reads_one _ _ _ _
        clear hI b2 k2 h2
        go_wp2_with (go_at_call 26; refine (hex_Hex.calls _ 1 [(a0[k].toNat : Int)] _ _ hr (Nat.le_refl 1) HX.out).mono ?_)
        clear hr
        rintro e W3 ⟨rfl, b3⟩
        have hI3 := (IsBd.alloc hI2 (.cells #[.int .u8 (a0[k].toNat : Int)] 5)).below b3
        have hb3 : Below w.heap.size w W3 := below_then (below_alloc hbw _) (below_alloc hbw _).size b3
        clear hI2 b3 hbw
        have hxs : (ByteArray.mk (hexBytes [(a0[k].toNat : Int)]).toArray).size = 2 := by
          show (hexBytes [(a0[k].toNat : Int)]).toArray.size = 2
          rw [List.size_toArray, hexBytes_length]; rfl
        have HXS := Aside0.mk hxs
        clear hxs
        go_wp2_with (go_at_call 30; refine (WriteString_k w.heap.size w.heap.size _ _ _ hI3 ?_ ?_).mono ?_)
        · rw [Lib.byteCells_length, HXS.out, List.length_append, List.length_singleton]; omega
        · exact hb3.size
        rintro e W4 ⟨rfl, h4, b4, k4⟩
        go_wp2
        go_roundw
        case rel =>
          refine ⟨k + 1, by omega, by go_num, ?_, hb3.trans b4⟩
          rw [HS.out, IsBd]
          have e : writeOf a0[k] = 35 :: hexOf a0[k].toNat := by unfold writeOf; rw [HP.out]; rfl
          have e2 : Lib.byteCells (writeBytes (List.take k a0.data.toList) ++ writeOf a0[k]) = Lib.byteCells (writeBytes (List.take k a0.data.toList) ++ [35]) ++ Lib.strCells ⟨(hexBytes [(a0[k].toNat : Int)]).toArray⟩ := by
            rw [e, Lib.byteCells_append, Lib.byteCells_append, List.append_assoc]
            simp [Lib.byteCells, Lib.strCells, hexBytes]
          rw [e2]
          exact .inr h4
        case measure => simp [intOf]; omega
    · go_wp2_with (go_at_call 31; refine (Tryz.Builder_String_any_k w.heap.size w.heap.size _ _ hI hbw.size).mono ?_)
      rintro e W1 ⟨rfl, _, b1, _⟩
      go_wp2
      go_ret
      rw [List.take_of_length_le (by simp; omega)]
      exact ⟨rfl, hbw.trans b1⟩
end Go.Proofs.YtfdikkdbmlcjiaaGreatDoor.M
end
section
namespace Go.Proofs.YtfdikkdbmlcjiaaGreatDoor.M
open Go.RowKit Go.Proofs.YtfdikkdbmlcjiaaGreatDoorW.PrintWords
set_option linter.unusedVariables false
set_option linter.unusedSimpArgs false
def plainQ (c : UInt8) : Bool := c != 40 && c != 41 && c != 92 && decide (32 ≤ c.toNat) && decide (c.toNat ≤ 126)
def oct3 (c : UInt8) : List UInt8 := [(48 + c.toNat / 64 % 8).toUInt8, (48 + c.toNat / 8 % 8).toUInt8, (48 + c.toNat % 8).toUInt8]
def quoteOf (c : UInt8) : List UInt8 := if plainQ c = true then [c] else 92 :: oct3 c
def quoteBytes (l : List UInt8) : List UInt8 := l.flatMap quoteOf
def tok_quoted.f (a0 : ByteArray) : Option ByteArray := if a0.size * 4 ≤ 140737488355328 then some ⟨(quoteBytes a0.data.toList).toArray⟩ else none
theorem quoteOf_length (c : UInt8) : 1 ≤ (quoteOf c).length ∧ (quoteOf c).length ≤ 4 := by
  unfold quoteOf; split <;> simp [oct3]
theorem quoteBytes_length (l : List UInt8) : l.length ≤ (quoteBytes l).length ∧ (quoteBytes l).length ≤ 4 * l.length := by
  induction l with
  | nil => simp [quoteBytes]
  | cons c l ih =>
    have := quoteOf_length c
    simp only [quoteBytes, List.flatMap_cons, List.length_append, List.length_cons] at ih ⊢
    omega
theorem quoteBytes_snoc (s : ByteArray) (i : Nat) (h : i < s.size) : quoteBytes (s.data.toList.take (i + 1)) = quoteBytes (s.data.toList.take i) ++ quoteOf s[i] := by
  unfold quoteBytes
  rw [List.take_succ_eq_append_getElem (by simpa using h), List.flatMap_append]
  simp
  rfl
theorem bdfar_fresh {B b : Nat} {p : Value} {bs : List Value} {w : World} (o : Obj) (h : Lib.BuilderAtF 57 5 B b p bs w) : BdFar w.heap.size b (w.alloc o) ∧ b < w.heap.size := by
  obtain ⟨hB, v, hbk, hown, hne⟩ := h
  have hlt : b < w.heap.size := by
    rcases Nat.lt_or_ge b w.heap.size with h' | h'
    · exact h'
    · simp [Array.getElem?_eq_none h'] at hbk
  refine ⟨⟨v, ?_, fun e => ?_⟩, hlt⟩
  · have : (w.alloc o).heap[b]? = some (.cells #[p, v] 57 (0, 0)) := by rw [Lib.alloc_old w _ b hlt]; exact hbk
    rw [Lib.cell_of_heap this]; rfl
  · have := (hown.lt _ e).2
    omega
theorem oct_take (c : UInt8) (j : Nat) : ((oct3 c).take j).length ≤ j := List.length_take_le _ _
theorem oct_all (c : UInt8) : (oct3 c).take 3 = oct3 c := rfl
theorem oct_dig (n : Nat) (h : n < 8) : (((48 + n).toUInt8).toNat : Int) = 48 + (n : Int) := by
  have : ((48 + n).toUInt8).toNat = 48 + n := by
    show (UInt8.ofNat (48 + n)).toNat = _
    rw [UInt8.toNat_ofNat']
    omega
  omega
theorem oct_step0 (p : List UInt8) (c : UInt8) : Lib.byteCells (p ++ (oct3 c).take 0) ++ [.int .u8 (48 + (c.toNat : Int) / 64 % 8)] = Lib.byteCells (p ++ (oct3 c).take 1) := by
  have e := oct_dig (c.toNat / 64 % 8) (by omega)
  have e2 : (48 : Int) + (c.toNat : Int) / 64 % 8 = 48 + ((c.toNat / 64 % 8 : Nat) : Int) := by omega
  rw [e2, ← e]
  simp [oct3, Lib.byteCells]
theorem oct_step1 (p : List UInt8) (c : UInt8) : Lib.byteCells (p ++ (oct3 c).take 1) ++ [.int .u8 (48 + (c.toNat : Int) / 8 % 8)] = Lib.byteCells (p ++ (oct3 c).take 2) := by
  have e := oct_dig (c.toNat / 8 % 8) (by omega)
  have e2 : (48 : Int) + (c.toNat : Int) / 8 % 8 = 48 + ((c.toNat / 8 % 8 : Nat) : Int) := by omega
  rw [e2, ← e]
  simp [oct3, Lib.byteCells]
theorem oct_step2 (p : List UInt8) (c : UInt8) : Lib.byteCells (p ++ (oct3 c).take 2) ++ [.int .u8 (48 + (c.toNat : Int) % 8)] = Lib.byteCells (p ++ (oct3 c).take 3) := by
  have e := oct_dig (c.toNat % 8) (by omega)
  have e2 : (48 : Int) + (c.toNat : Int) % 8 = 48 + ((c.toNat % 8 : Nat) : Int) := by omega
  rw [e2, ← e]
  simp [oct3, Lib.byteCells]
def octRow : Array Value := #[.int .u8 64, .int .u8 8, .int .u8 1]
theorem oct_cells {w : World} {L : Nat} (h : w.heap[L]? = some (.cells octRow 5 (0, 0))) : w.cell? ⟨L, 0, none⟩ = some (.int .u8 64) ∧ w.cell? ⟨L, 1, none⟩ = some (.int .u8 8) ∧ w.cell? ⟨L, 2, none⟩ = some (.int .u8 1) := by
  simp [World.cell?, h, octRow]
set_option maxHeartbeats 4000000 in
set_option maxRecDepth 1000000 in
theorem tok_quoted.calls (a0 : ByteArray) (r : ByteArray) (w : World) (h : tok_quoted.f a0 = some r) :
    Calls Tryz.prog 27 #[.string a0] w fun e w' => e = .returned (.string r) ∧ Below w.heap.size w w' := by
  unfold tok_quoted.f at h
  split at h
  case isFalse => cases h
  rename_i hl
  obtain rfl := Option.some.inj h
  clear h
  go_enter Tryz.func27, Tryz.ntmps27
  go_wp2
  go_loopw [10] (fun i wr => ∃ k : Nat, k ≤ a0.size ∧ i = .int .i64 k ∧ IsBd w.heap.size w.heap.size (quoteBytes (a0.data.toList.take k)) wr ∧ Below w.heap.size w wr) (fun i wr => a0.size - (intOf i).toNat)
  case atStart =>
    refine ⟨0, Nat.zero_le _, rfl, (Lib.IsBuilderF.of (Lib.fresh_isBuilder _ _ w)), (Below.refl _ w).alloc (Nat.le_refl _) _⟩
  case round =>
    obtain ⟨k, hk, rfl, hI, hbw⟩ := hrel
    by_cases hlt : k < a0.size
    · have hlen := quoteBytes_length (a0.data.toList.take k)
      rw [List.length_take, Array.length_toList] at hlen
      have hsz : min k a0.data.size = k := by have : a0.data.size = a0.size := rfl; omega
      rw [hsz] at hlen
      clear hsz
      have HS := Aside0.mk (quoteBytes_snoc a0 k hlt)
      have h256 := (a0[k]).toNat_lt
      by_cases hp : plainQ a0[k] = true
      · have hq : quoteOf a0[k] = [a0[k]] := by unfold quoteOf; rw [if_pos hp]
        simp only [plainQ, Bool.and_eq_true, bne_iff_ne, decide_eq_true_eq] at hp
        obtain ⟨⟨⟨⟨q1, q2⟩, q3⟩, q4⟩, q5⟩ := hp
        have n1 : ((a0[k].toNat : Int) != 40) = true := by rw [bne_iff_ne]; intro e; apply q1; apply UInt8.toNat_inj.1; show a0[k].toNat = 40; omega
        have n2 : ((a0[k].toNat : Int) != 41) = true := by rw [bne_iff_ne]; intro e; apply q2; apply UInt8.toNat_inj.1; show a0[k].toNat = 41; omega
        have n3 : ((a0[k].toNat : Int) != 92) = true := by rw [bne_iff_ne]; intro e; apply q3; apply UInt8.toNat_inj.1; show a0[k].toNat = 92; omega
        have n4 : decide ((32 : Int) ≤ (a0[k].toNat : Int)) = true := decide_eq_true (by omega)
        have n5 : decide ((a0[k].toNat : Int) ≤ 126) = true := decide_eq_true (by omega)
        have HQ := Aside0.mk hq
        clear hq q1 q2 q3 q4 q5
        go_wp2_with (go_at_call 39; refine (WriteByte_k w.heap.size w.heap.size _ _ _ hI ?_ ?_).mono ?_)
        · rw [Lib.byteCells_length]; omega
        · exact hbw.size
        rintro e W2 ⟨rfl, h2, b2, k2⟩
        go_wp2
        go_roundw
        case rel =>
          refine ⟨k + 1, by omega, by go_num, ?_, hbw.trans b2⟩
          rw [HS.out, IsBd, Lib.byteCells_append, HQ.out]
          exact .inr h2
        case measure => simp [intOf]; omega
      · have hq : quoteOf a0[k] = 92 :: oct3 a0[k] := by unfold quoteOf; rw [if_neg hp]
        have HQ := Aside0.mk hq
        have hcase : (((a0[k].toNat : Int) != 40) = false) ∨ (((a0[k].toNat : Int) != 40) = true ∧ ((a0[k].toNat : Int) != 41) = false) ∨ (((a0[k].toNat : Int) != 40) = true ∧ ((a0[k].toNat : Int) != 41) = true ∧ ((a0[k].toNat : Int) != 92) = false) ∨
            (((a0[k].toNat : Int) != 40) = true ∧ ((a0[k].toNat : Int) != 41) = true ∧ ((a0[k].toNat : Int) != 92) = true ∧ decide ((32 : Int) ≤ (a0[k].toNat : Int)) = false) ∨
            (((a0[k].toNat : Int) != 40) = true ∧ ((a0[k].toNat : Int) != 41) = true ∧ ((a0[k].toNat : Int) != 92) = true ∧ decide ((32 : Int) ≤ (a0[k].toNat : Int)) = true ∧ decide ((a0[k].toNat : Int) ≤ 126) = false) := by
          have hp2 : ¬ ((a0[k].toNat : Int) ≠ 40 ∧ (a0[k].toNat : Int) ≠ 41 ∧ (a0[k].toNat : Int) ≠ 92 ∧ (32 : Int) ≤ (a0[k].toNat : Int) ∧ (a0[k].toNat : Int) ≤ 126) := by
            rintro ⟨e1, e2, e3, e4, e5⟩
            apply hp
            simp only [plainQ, Bool.and_eq_true, bne_iff_ne, decide_eq_true_eq]
            refine ⟨⟨⟨⟨?_, ?_⟩, ?_⟩, by omega⟩, by omega⟩
            · intro e; rw [e] at e1; exact e1 rfl
            · intro e; rw [e] at e2; exact e2 rfl
            · intro e; rw [e] at e3; exact e3 rfl
          simp only [bne_eq_false_iff_eq, bne_iff_ne, decide_eq_false_iff_not, decide_eq_true_eq]
          omega
        clear hq hp
        rcases hcase with n1 | ⟨n1, n2⟩ | ⟨n1, n2, n3⟩ | ⟨n1, n2, n3, n4⟩ | ⟨n1, n2, n3, n4, n5⟩ <;> (
          go_wp2_with (go_at_call 39; refine (WriteByte_k w.heap.size w.heap.size _ _ _ hI ?_ ?_).mono ?_)
          case refine_1 => rw [Lib.byteCells_length]; omega
          case refine_2 => exact hbw.size
          rintro e W1 ⟨rfl, h1, b1, -⟩
          obtain ⟨hfar, hbl⟩ := bdfar_fresh (.cells octRow 5) h1
          have HI1 : Aside0 (IsBd w.heap.size w.heap.size (quoteBytes (List.take k a0.data.toList) ++ [92]) W1) := ⟨by rw [IsBd, Lib.byteCells_append]; exact .inr h1⟩
          have HFAR := Aside0.mk hfar
          have HB1 := Aside0.mk (hbw.trans b1)
          clear h1 b1 hfar hI hbw
          go_wp2
          have hL0 : (W1.alloc (.cells octRow 5)).heap[W1.heap.size]? = some (.cells octRow 5 (0, 0)) := by show (W1.heap.push _)[W1.heap.size]? = _; rw [Array.getElem?_push_size]
          have HL0 := Aside0.mk hL0
          clear hL0
          go_loopw [39] (fun i wr => ∃ j : Nat, j ≤ 3 ∧ i = .int .i64 j ∧ W1.heap.size < wr.heap.size ∧ Aside0 (IsBd w.heap.size w.heap.size (quoteBytes (List.take k a0.data.toList) ++ [92] ++ (oct3 a0[k]).take j) wr) ∧ Aside0 (Below w.heap.size w wr) ∧ Aside0 (wr.heap[W1.heap.size]? = some (.cells octRow 5 (0, 0))) ∧ Aside0 (BdFar W1.heap.size w.heap.size wr)) (fun i wr => 3 - (intOf i).toNat)
          case atStart =>
            exact ⟨0, by omega, rfl, by simp, ⟨by rw [List.take_zero, List.append_nil]; exact IsBd.alloc HI1.out _⟩, ⟨below_alloc HB1.out _⟩, HL0, HFAR⟩
          case round =>
            obtain ⟨j, hj, rfl, hsz, HI, HB, HL, HF⟩ := hrel
            by_cases hj3 : j < 3
            · obtain ⟨k0, k1, k2⟩ := oct_cells HL.out
              have hj' : j = 0 ∨ j = 1 ∨ j = 2 := by omega
              rcases hj' with rfl | rfl | rfl
              · go_wp2_with (go_at_call 39; refine (WriteByte_far w.heap.size w.heap.size _ _ _ W1.heap.size hsz (by omega) HF.out HI.out ?_ ?_).mono ?_)
                case refine_1 => rw [Lib.byteCells_length, List.length_append, List.length_append, List.length_singleton]; have := oct_take a0[k] 0; omega
                case refine_2 => exact HB.out.size
                rintro e W2 ⟨rfl, h2, b2, l2, f2, s2⟩
                rw [oct_step0] at h2
                have HI2 := Aside0.mk h2
                have HL2 := Aside0.mk (l2.trans HL.out)
                have HB2 := Aside0.mk (HB.out.trans b2)
                have HF2 := Aside0.mk f2
                clear h2 l2 b2 f2
                go_wp2
                go_roundw
                case rel => exact ⟨1, by omega, by go_num, by omega, ⟨.inr HI2.out⟩, HB2, HL2, HF2⟩
                case measure => simp [intOf]
              · go_wp2_with (go_at_call 39; refine (WriteByte_far w.heap.size w.heap.size _ _ _ W1.heap.size hsz (by omega) HF.out HI.out ?_ ?_).mono ?_)
                case refine_1 => rw [Lib.byteCells_length, List.length_append, List.length_append, List.length_singleton]; have := oct_take a0[k] 1; omega
                case refine_2 => exact HB.out.size
                rintro e W2 ⟨rfl, h2, b2, l2, f2, s2⟩
                rw [oct_step1] at h2
                have HI2 := Aside0.mk h2
                have HL2 := Aside0.mk (l2.trans HL.out)
                have HB2 := Aside0.mk (HB.out.trans b2)
                have HF2 := Aside0.mk f2
                clear h2 l2 b2 f2
                go_wp2
                go_roundw
                case rel => exact ⟨2, by omega, by go_num, by omega, ⟨.inr HI2.out⟩, HB2, HL2, HF2⟩
                case measure => simp [intOf]
              · go_wp2_with (go_at_call 39; refine (WriteByte_far w.heap.size w.heap.size _ _ _ W1.heap.size hsz (by omega) HF.out HI.out ?_ ?_).mono ?_)
                case refine_1 => rw [Lib.byteCells_length, List.length_append, List.length_append, List.length_singleton]; have := oct_take a0[k] 2; omega
                case refine_2 => exact HB.out.size
                rintro e W2 ⟨rfl, h2, b2, l2, f2, s2⟩
                rw [oct_step2] at h2
                have HI2 := Aside0.mk h2
                have HL2 := Aside0.mk (l2.trans HL.out)
                have HB2 := Aside0.mk (HB.out.trans b2)
                have HF2 := Aside0.mk f2
                clear h2 l2 b2 f2
                go_wp2
                go_roundw
                case rel => exact ⟨3, by omega, by go_num, by omega, ⟨.inr HI2.out⟩, HB2, HL2, HF2⟩
                case measure => simp [intOf]
            · have hj' : j = 3 := by omega
              subst hj'
              go_wp2
              go_roundw
              case rel =>
                refine ⟨k + 1, by omega, by go_num, ?_, HB.out⟩
                rw [HS.out, HQ.out]
                have e := HI.out
                rw [oct_all, List.append_assoc] at e
                exact e
              case measure => simp [intOf]; omega)
    · go_wp2_with (go_at_call 31; refine (Tryz.Builder_String_any_k w.heap.size w.heap.size _ _ hI hbw.size).mono ?_)
      rintro e W1 ⟨rfl, _, b1, _⟩
      go_wp2
      go_ret
      rw [List.take_of_length_le (by simp; omega)]
      exact ⟨rfl, hbw.trans b1⟩
end Go.Proofs.YtfdikkdbmlcjiaaGreatDoor.M
end
section
namespace Go.Proofs.YtfdikkdbmlcjiaaGreatDoor.M
open Go.RowKit Go.Maps Go.Proofs.YtfdikkdbmlcjiaaGreatDoorW.PrintWords Go.Proofs.YtfdikkdbmlcjiaaGreatDoorW.PrintLast
set_option linter.unusedVariables false
set_option linter.unusedSimpArgs false
def signText (k : Int) : List UInt8 := if k = 6 then [91] else if k = 7 then [93] else if k = 8 then [60, 60] else if k = 9 then [62, 62] else if k = 10 then [123] else if k = 11 then [125] else []
def tok_Show.f (a0 a1 a2 : Int) (a3 : ByteArray) : Option ByteArray :=
  if a0 = 1 then strconv_Itoa.f a2
  else if a0 = 2 then (lex_Write.f a3).bind fun r => some ((⟨#[47]⟩ : ByteArray) ++ r)
  else if a0 = 3 then some a3
  else if a0 = 4 then (hex_Hex.f (bytesOf a3)).bind fun r => some ((⟨#[60]⟩ : ByteArray) ++ r ++ (⟨#[62]⟩ : ByteArray))
  else if a0 = 5 then (tok_quoted.f a3).bind fun r => some ((⟨#[40]⟩ : ByteArray) ++ r ++ (⟨#[41]⟩ : ByteArray))
  else if (Lit.int .i64 a0).wf = true then some ⟨(signText a0).toArray⟩ else none
theorem signText_at (k : Int) : signMap.atKey (.int .i64 k) (.lit (.string [])) = .lit (.string (signText k)) := by
  unfold signText
  by_cases h6 : k = 6
  · subst h6; rfl
  by_cases h7 : k = 7
  · subst h7; rfl
  by_cases h8 : k = 8
  · subst h8; rfl
  by_cases h9 : k = 9
  · subst h9; rfl
  by_cases h10 : k = 10
  · subst h10; rfl
  by_cases h11 : k = 11
  · subst h11; rfl
  rw [if_neg h6, if_neg h7, if_neg h8, if_neg h9, if_neg h10, if_neg h11]
  have hs : ∀ (x : Int) (s : List UInt8), ¬ k = x → (signRow x s).1.sameKey (.int .i64 k) = false := by
    intro x s hx
    show decide (IntKind.i64 = IntKind.i64 ∧ x = k) = false
    rw [decide_eq_false_iff_not]
    exact fun e => hx e.2.symm
  unfold signMap DataW.atKey
  simp only [List.find?, hs 6 _ h6, hs 7 _ h7, hs 8 _ h8, hs 9 _ h9, hs 10 _ h10, hs 11 _ h11]
set_option maxRecDepth 100000 in
theorem signs_at {k : Int} {b : Nat} {w : World} (hw : (Lit.int .i64 k).wf = true) (hown : w.ownsMap (H := Unit) Tryz.prog 3 (plainElem Tryz.prog 9) b 6 signMap) :
    (Instr.lookup 53 (.map (some b)) (.int .i64 k) false).run Tryz.prog w = .ok (.string ⟨(signText k).toArray⟩) w := by
  obtain ⟨v, ps, hrun, hR⟩ := hown.lookup key3 Tryz.underlying53 (z := .string ⟨#[]⟩) (Tryz.zeroValue9 w) (zd := .lit (.string [])) (zp := []) (plainElem_string Tryz.underlying9 (Nat.zero_le _)) (keyOf_int_mk Tryz.underlying3 hw)
  obtain ⟨s, rfl, hz, -⟩ := plainElem_string_inv Tryz.underlying9 hR
  have e := congrArg Prod.fst hz
  have e2 := signText_at k
  simp only [e2, DataW.lit.injEq, Lit.string.injEq] at e
  rw [hrun, e]
theorem write_size {a t : ByteArray} (h : lex_Write.f a = some t) : t.size ≤ 140737488355328 := by
  unfold lex_Write.f at h
  split at h
  case isFalse => cases h
  obtain rfl := Option.some.inj h
  have := writeBytes_length a.data.toList
  rw [← size_list] at this
  rw [size_list]
  simp only [List.toList_toArray]
  omega
theorem quoted_size {a t : ByteArray} (h : tok_quoted.f a = some t) : t.size ≤ 140737488355328 := by
  unfold tok_quoted.f at h
  split at h
  case isFalse => cases h
  obtain rfl := Option.some.inj h
  have := quoteBytes_length a.data.toList
  rw [← size_list] at this
  rw [size_list]
  simp only [List.toList_toArray]
  omega
theorem hexed_size {a t : ByteArray} (h : hex_Hex.f (bytesOf a) = some t) : t.size ≤ 140737488355328 ∧ a.size ≤ 140737488355328 := by
  unfold hex_Hex.f at h
  split at h
  case isFalse => cases h
  split at h
  case isFalse => cases h
  obtain rfl := Option.some.inj h
  have e := hexBytes_length (bytesOf a)
  have e2 := bytesOf_length a
  rw [size_list]
  simp only [List.toList_toArray]
  omega
set_option maxHeartbeats 4000000 in
set_option maxRecDepth 1000000 in
theorem tok_Show.calls (a0 : Int) (a1 : Int) (a2 : Int) (a3 : ByteArray) (r : ByteArray) (w : World) (hG : GW w) (h : tok_Show.f a0 a1 a2 a3 = some r) :
    Calls Tryz.prog 14 #[.agg #[.int .i64 a0, .int .i64 a1, .int .i64 a2, .string a3]] w fun e w' => e = .returned (.string r) ∧ Below w.heap.size w w' := by
  have HG := Aside0.mk hG
  clear hG
  unfold tok_Show.f at h
  by_cases k1 : a0 = 1
  · subst k1
    rw [if_pos rfl] at h
    have H := Aside0.mk h
    clear h
    go_enter Tryz.func14, Tryz.ntmps14
    go_wp2_with fail
    with_reducible refine (strconv_Itoa.calls a2 r _ (HG.out.alloc _) H.out).mono ?_
    rintro e W1 ⟨rfl, hb⟩
    have HB : Aside0 (Below w.heap.size w W1) := ⟨below_step (below_alloc (Below.refl _ w) _) hb⟩
    clear hb
    go_wp2
    go_ret
    exact ⟨rfl, HB.out⟩
  rw [if_neg k1] at h
  have b1 : (a0 == 1) = false := beq_eq_false_iff_ne.2 k1
  by_cases k2 : a0 = 2
  · subst k2
    rw [if_pos rfl] at h
    obtain ⟨t, ht, h⟩ := Option.bind_eq_some_iff.1 h
    obtain rfl := Option.some.inj h
    have H := Aside0.mk ht
    have hts := write_size ht
    clear ht h
    go_enter Tryz.func14, Tryz.ntmps14
    go_wp2_with fail
    with_reducible refine (lex_Write.calls a3 t _ H.out).mono ?_
    rintro e W1 ⟨rfl, hb⟩
    have HB : Aside0 (Below w.heap.size w W1) := ⟨below_step (below_alloc (Below.refl _ w) _) hb⟩
    clear hb
    go_wp2
    go_ret
    exact ⟨rfl, HB.out⟩
  rw [if_neg k2] at h
  have b2 : (a0 == 2) = false := beq_eq_false_iff_ne.2 k2
  by_cases k3 : a0 = 3
  · subst k3
    rw [if_pos rfl] at h
    obtain rfl := Option.some.inj h
    go_enter Tryz.func14, Tryz.ntmps14
    go_wp2
    go_ret
    exact ⟨rfl, below_alloc (Below.refl _ w) _⟩
  rw [if_neg k3] at h
  have b3 : (a0 == 3) = false := beq_eq_false_iff_ne.2 k3
  by_cases k4 : a0 = 4
  · subst k4
    rw [if_pos rfl] at h
    obtain ⟨t, ht, h⟩ := Option.bind_eq_some_iff.1 h
    obtain rfl := Option.some.inj h
    have H := Aside0.mk ht
    obtain ⟨hts, hss⟩ := hexed_size ht
    have hcv := Lib.run_convert_string_bytes (P := Tryz.prog) (w.alloc (.cells #[.int .i64 4, .int .i64 a1, .int .i64 a2, .string a3] 31)) 9 35 5 a3 (u := .string) Tryz.underlying9 Tryz.underlying35 Tryz.underlying5
    clear ht h
    go_enter Tryz.func14, Tryz.ntmps14
    go_wp2_with fail
    have hrd := bytes_reads (w.alloc (.cells #[.int .i64 4, .int .i64 a1, .int .i64 a2, .string a3] 31)) 5 a3 (by omega)
    have HRD := Aside0.mk (Kd.C_of_reads (h1 := fun _ => rfl) hrd)
    clear hrd
    have hsz : (w.alloc (.cells #[.int .i64 4, .int .i64 a1, .int .i64 a2, .string a3] 31)).heap.size = w.heap.size + 1 := Array.size_push ..
    obtain ⟨V, hV⟩ : ∃ V, V = w.alloc (.cells #[.int .i64 4, .int .i64 a1, .int .i64 a2, .string a3] 31) := ⟨_, rfl⟩
    have hBV : Below w.heap.size w V := by rw [hV]; exact below_alloc (Below.refl _ w) _
    have hr := HRD.out
    rw [← hV] at hr hsz ⊢
    have hBW : Below w.heap.size w (Lib.bytesWorld V 5 a3) := bytes_below hBV (by omega) 5 a3
    have hx := hex_Hex.calls (some ⟨w.heap.size + 1, 0, none⟩) (grownCap V a3.size 0 5) (bytesOf a3) t (Lib.bytesWorld V 5 a3) (by rw [bytesOf_length, ← hsz]; exact hr) (by rw [bytesOf_length]; exact grownCap_ge _ _ _ _) H.out
    rw [bytesOf_length] at hx
    refine hx.mono ?_
    rintro e W1 ⟨rfl, hb⟩
    have HB : Aside0 (Below w.heap.size w W1) := ⟨below_step hBW hb⟩
    clear hb hx hr hBW hBV
    go_wp2
    go_ret
    exact ⟨rfl, HB.out⟩
  rw [if_neg k4] at h
  have b4 : (a0 == 4) = false := beq_eq_false_iff_ne.2 k4
  by_cases k5 : a0 = 5
  · subst k5
    rw [if_pos rfl] at h
    obtain ⟨t, ht, h⟩ := Option.bind_eq_some_iff.1 h
    obtain rfl := Option.some.inj h
    have H := Aside0.mk ht
    have hts := quoted_size ht
    clear ht h
    go_enter Tryz.func14, Tryz.ntmps14
    go_wp2_with fail
    with_reducible refine (tok_quoted.calls a3 t _ H.out).mono ?_
    rintro e W1 ⟨rfl, hb⟩
    have HB : Aside0 (Below w.heap.size w W1) := ⟨below_step (below_alloc (Below.refl _ w) _) hb⟩
    clear hb
    go_wp2
    go_ret
    exact ⟨rfl, HB.out⟩
  rw [if_neg k5] at h
  have b5 : (a0 == 5) = false := beq_eq_false_iff_ne.2 k5
  split at h
  case isFalse => cases h
  rename_i hwf
  obtain rfl := Option.some.inj h
  clear h k1 k2 k3 k4 k5
  have HW := Aside0.mk hwf
  clear hwf
  go_enter Tryz.func14, Tryz.ntmps14
  have c0 : (w.alloc (.cells #[.int .i64 a0, .int .i64 a1, .int .i64 a2, .string a3] 31)).cell? ⟨w.heap.size, 0, none⟩ = some (.int .i64 a0) := by rw [World.cell?_alloc_new]; rfl
  go_wp2
  go_region_with (go_at_call 28; refine (signs_calls _).mono ?_; rintro e W1 ⟨b, rfl, hbb, hown, hb⟩; have hlk := signs_at HW.out hown; have k0 := (hb.cell (p := ⟨w.heap.size, 0, none⟩) (by show w.heap.size < (w.heap.push _).size; rw [Array.size_push]; omega)).trans c0; have HBB : Aside0 (Below w.heap.size w W1) := ⟨below_step (below_drew1 (below_alloc (Below.refl _ w) _)) hb⟩)
  all_goals (go_wp2; go_ret; exact ⟨rfl, HBB.out⟩)
end Go.Proofs.YtfdikkdbmlcjiaaGreatDoor.M
end
section
namespace Go.Proofs.YtfdikkdbmlcjiaaGreatDoor.M
open Go.RowKit Go.Proofs.YtfdikkdbmlcjiaaGreatDoorW.PrintWords
set_option linter.unusedVariables false
theorem strings_read {w : World} {A : Option Addr} {n : Nat} {xs : List ByteArray} (h : Kd.C Kd.string w A n xs) (h0 : 0 < n) :
    ∃ b o, A = some ⟨b, o, none⟩ ∧ b < w.heap.size ∧ ∀ (j : Nat) x, xs[j]? = some x → w.cell? ⟨b, o + j, none⟩ = some (.string x) := by
  obtain ⟨ad, e, hc⟩ := Kd.at_string h 0 (Int.le_refl _) (by omega)
  obtain ⟨b, o, sp⟩ := ad
  have hsp : sp = none := by
    cases sp with
    | none => rfl
    | some s =>
      exfalso
      unfold World.cell? at hc
      simp only [Addr.add] at hc
      split at hc
      · simp at hc
      · cases hc
  subst hsp
  refine ⟨b, o, e, World.block_lt_of_cell? w _ hc, ?_⟩
  intro j x hx
  have hl : xs.length = n := h.1
  have hj : j < xs.length := by
    rcases Nat.lt_or_ge j xs.length with h' | h'
    · exact h'
    · rw [List.getElem?_eq_none h'] at hx; cases hx
  obtain ⟨ad', e', hc'⟩ := Kd.at_string h (j : Int) (by omega) (by omega)
  have ea : ad' = ⟨b, o, none⟩ := Option.some.inj (e'.symm.trans e)
  subst ea
  have ex : rdOf ByteArray.empty xs (j : Int) = x := by
    unfold rdOf
    rw [Int.toNat_natCast, List.getD_eq_getElem?_getD, hx]; rfl
  rw [ex] at hc'
  by_cases e0 : j = 0
  · subst e0; simpa [Addr.add] using hc'
  · simpa [Addr.add, e0] using hc'
end Go.Proofs.YtfdikkdbmlcjiaaGreatDoor.M
end
section
namespace Go.Proofs.YtfdikkdbmlcjiaaGreatDoor.M
open Go.RowKit Go.Proofs.YtfdikkdbmlcjiaaGreatDoorW.PrintWords
set_option linter.unusedVariables false
def joinB (l : List ByteArray) (sep : ByteArray) : List UInt8 := Lib.join (l.map (·.data.toList)) sep.data.toList
def strings_Join.f (l0 : List ByteArray) (a1 : ByteArray) : Option ByteArray := if l0.length ≤ 140737488355328 ∧ (joinB l0 a1).length ≤ 140737488355328 then some ⟨(joinB l0 a1).toArray⟩ else none
theorem strings_Join.calls (A0 : Option Addr) (c0 : Nat) (l0 : List ByteArray) (a1 : ByteArray) (r : ByteArray) (w : World) (hr0 : Kd.C Kd.string w A0 l0.length l0) (hc0 : l0.length ≤ c0) (h : strings_Join.f l0 a1 = some r) :
    Calls Tryz.prog 15 #[.slice A0 l0.length c0, .string a1] w fun e w' => e = .returned (.string r) ∧ Below w.heap.size w w' := by
  unfold strings_Join.f at h
  split at h
  case isFalse => cases h
  rename_i hb
  obtain rfl := Option.some.inj h
  by_cases h0 : l0 = []
  · subst h0
    refine (Tryz.strings_Join_none A0 c0 a1 w).mono ?_
    rintro e w' ⟨rfl, rfl⟩
    exact ⟨rfl, Below.refl _ _⟩
  · obtain ⟨b, o, rfl, hbk, hcell⟩ := strings_read hr0 (List.length_pos_iff.2 h0)
    refine (Tryz.strings_Join b o c0 l0 a1 w hcell hbk hb.1 hc0 hb.2).mono ?_
    rintro e w' ⟨rfl, hbw⟩
    exact ⟨rfl, hbw⟩
end Go.Proofs.YtfdikkdbmlcjiaaGreatDoor.M
end
section
/- Laid by this session's program hbprint.py out of the translation: the function hornbook/tok.Text and its contract. -/
namespace Go.Proofs.YtfdikkdbmlcjiaaGreatDoor.M
open Go.RowKit Go.Proofs.YtfdikkdbmlcjiaaGreatDoorW.PrintWords Go.Proofs.YtfdikkdbmlcjiaaGreatDoorW.PrintLast Go.Proofs.YtfdikkdbmlcjiaaGreatDoorW.PrintMore
attribute [local go_sem] max2_int min2_int max_two min_two max_three min_three max_four min_four
set_option linter.unusedVariables false
set_option linter.unusedSimpArgs false
def tok_Text.l0 : Nat → List ByteArray → List (S31) → Int → Int → Option (ByteArray)
  | 0, _, _, _, _ => none
  | k + 1, x3, x6, x7, x8 => if x8 < x7 then (if 0 ≤ x8 then (if x8 < (x6.length : Int) then ((tok_Show.f ((rd_T31 x6 x8).f0) ((rd_T31 x6 x8).f1) ((rd_T31 x6 x8).f2) ((rd_T31 x6 x8).f3)).bind fun t189 => (if x3.length < 8796093022208 then (tok_Text.l0 k (x3 ++ [t189]) x6 x7 (wrap64 (x8 + 1))) else (none))) else (none)) else (none)) else ((strings_Join.f x3 (⟨#[32]⟩ : ByteArray)).bind fun t193 => (some t193))
def tok_Text.f (k : Nat) (l0 : List (S31)) : Option (ByteArray) := tok_Text.l0 k ([] : List ByteArray) l0 (l0.length : Int) 0
theorem tok_Text.mono_l : ∀ k, (∀ y0 y1 y2 y3, LeO (tok_Text.l0 k y0 y1 y2 y3) (tok_Text.l0 (k + 1) y0 y1 y2 y3))
  | 0 => fun _ _ _ _ r h => by simp [tok_Text.l0] at h
  | k + 1 => by
    have ih0 := tok_Text.mono_l k
    · intro y0 y1 y2 y3
      unfold tok_Text.l0
      repeat' first
      | (with_reducible exact ih0 _ _ _ _)
      | (with_reducible exact LeO.refl _)
      | (with_reducible exact LeO.none _)
      | (with_reducible refine LeO.ite ?_ ?_)
      | (with_reducible refine LeO.bind ?_ (fun _ => ?_))
      | exact ih0 _ _ _ _
      | exact LeO.none _
      | refine LeO.ite ?_ ?_
      | refine LeO.bind ?_ (fun _ => ?_)
theorem tok_Text.mono : ∀ a0 k, LeO (tok_Text.f k a0) (tok_Text.f (k + 1) a0) := by
  intro a0 k
  have ih0 := tok_Text.mono_l k
  unfold tok_Text.f
  repeat' first
      | (with_reducible exact ih0 _ _ _ _)
      | (with_reducible exact LeO.refl _)
      | (with_reducible exact LeO.none _)
      | (with_reducible refine LeO.ite ?_ ?_)
      | (with_reducible refine LeO.bind ?_ (fun _ => ?_))
      | exact ih0 _ _ _ _
      | exact LeO.none _
      | refine LeO.ite ?_ ?_
      | refine LeO.bind ?_ (fun _ => ?_)
set_option maxHeartbeats 8000000 in
set_option maxRecDepth 100000 in
theorem tok_Text.calls (k : Nat) (A0 : Option Addr) (c0 : Nat) (l0 : List (S31)) (r : ByteArray) (w : World) (hG : GW w) (hr0 : Kd.C k31 w A0 l0.length l0) (hc0 : l0.length ≤ c0) (h : tok_Text.f k l0 = some r) :
    Calls Tryz.prog 10 #[.slice A0 l0.length c0] w fun e w' => e = .returned (.string r) ∧ Below w.heap.size w w' := by
  have hu31 := Tryz.underlying31
  have HR0 := Aside0.mk hr0
  have HC0 := Aside0.mk hc0
  clear hr0 hc0
  have HG := Aside0.mk hG
  clear hG
  have HB := Aside0.mk (Below.refl w.heap.size w)
  have H : (tok_Text.l0 k ([] : List ByteArray) l0 (l0.length : Int) 0) = some r := h
  clear h
  have H' := Aside0.mk H
  clear H
  go_enter Tryz.func10, Tryz.ntmps10
  go_wp2
  go_loopg [3, 8] k (fun kq v3 v8 w' => ∃ (x3_1 : List ByteArray) (x8_1 : Int), v8 = .int .i64 x8_1 ∧ Aside0 (tok_Text.l0 kq x3_1 l0 (l0.length : Int) x8_1 = some r) ∧ Aside0 (kq ≤ k) ∧ Aside0 (Kd.R Kd.string 9 w' w.heap.size (fun _ => True) v3 x3_1) ∧ Aside0 (Below w.heap.size w w'))
  case atStart => exact ⟨(([] : List ByteArray)), (0), (by first | rfl | (simp; done) | (simp [*]; done)), H', ⟨Nat.le_refl _⟩, ⟨by first | exact Kd.R_nil _ _ _ _ _ | exact Kd.N_nil _ _ _ _ _ | exact Kd.V_nil _ _ _ _ _ | exact Kd.Q_nil _ _ _ _ _ | exact Kd.S_nil _ _ _ _ _⟩, ⟨by repeat (first | (with_reducible first | exact HB.out | apply below_alloc | apply pw_below_drewN | apply below_drew1) | exact HB.out)⟩⟩
  case round =>
    clear H'
    try clear c1
    obtain ⟨x3_1, x8_1, rfl, HA, HK1, HO_3, HB⟩ := hrel
    cases gk with
    | zero => exact absurd HA.out (by simp [tok_Text.l0])
    | succ k1 =>
      have H := HA.out
      clear HA
      simp only [tok_Text.l0] at H
      by_cases c2 : x8_1 < (l0.length : Int)
      · rw [if_pos c2] at H
        have c2b0 : decide (x8_1 < (l0.length : Int)) = true := decide_eq_true c2
        clear c2
        by_cases c3 : 0 ≤ x8_1
        · rw [if_pos c3] at H
          have c3b0 : decide (0 ≤ x8_1) = true := decide_eq_true c3
          clear c3
          by_cases c4 : x8_1 < (l0.length : Int)
          · rw [if_pos c4] at H
            have c4b0 : decide (x8_1 < (l0.length : Int)) = true := decide_eq_true c4
            clear c4
            replace H := Option.bind_eq_some_iff.mp H
            obtain ⟨t189, A50, H⟩ := H
            replace H : (if x3_1.length < 8796093022208 then (tok_Text.l0 k1 (x3_1 ++ [t189]) l0 (l0.length : Int) (wrap64 (x8_1 + 1))) else (none)) = some r := H
            have A5 := Aside0.mk A50
            clear A50
            by_cases c6 : x3_1.length < 8796093022208
            · rw [if_pos c6] at H
              have LMc6 := Aside0.mk c6
              clear c6
              obtain ⟨y190, hy190⟩ : ∃ y_ : List ByteArray, y_ = (x3_1 ++ [t189]) := ⟨_, rfl⟩
              replace H : (tok_Text.l0 k1 y190 l0 (l0.length : Int) (wrap64 (x8_1 + 1))) = some r := by first | (rw [hy190]; with_reducible exact H) | (have H2_ := (Option.bind_some _ _).symm.trans H; rw [hy190]; with_reducible exact H2_) | (have H2_ := (Option.bind_some _ _).symm.trans H; with_reducible exact H2_) | with_reducible exact H | (rw [hy190]; exact H) | exact H
              have Ny190 := Aside0.mk hy190
              clear hy190
              have H' := Aside0.mk H
              clear H
              have p187 : 0 ≤ (x8_1 : Int) := of_decide_eq_true (by first | (with_reducible assumption) | assumption)
              have q187 : x8_1 < (l0.length : Int) := of_decide_eq_true (by first | (with_reducible assumption) | assumption)
              obtain ⟨ad187, e187, hx187_0, hx187_1, hx187_2, hx187_3⟩ := at_T31 HR0.out x8_1 p187 q187
              cases e187
              replace hx187_0 := (HB.out.cell (World.block_lt_of_cell? w _ hx187_0)).trans hx187_0
              replace hx187_1 := (HB.out.cell (World.block_lt_of_cell? w _ hx187_1)).trans hx187_1
              replace hx187_2 := (HB.out.cell (World.block_lt_of_cell? w _ hx187_2)).trans hx187_2
              replace hx187_3 := (HB.out.cell (World.block_lt_of_cell? w _ hx187_3)).trans hx187_3
              replace p187 := eq_true p187
              replace q187 := eq_true q187
              go_wp2_with (first | ((with_reducible refine gate_dst (N := 5) rfl ?_); refine box_event ?hg (N := 5) ?hd (cs := #[.int .i64 0, .int .i64 0, .int .i64 0, .string (⟨#[]⟩ : ByteArray)]) (t := 31) ?hr ?_; (case hd => rfl); (case hg => rfl); (case hr => first | (go_simp; done) | (go_simp; rfl)); intro gb188 hg w7 hbox hb; have n0_ := Aside0.mk (Kd.R_below (by (with_reducible repeat (first | apply Kd.R_alloc | apply Kd.R_drewN | apply Kd.R_drew)); exact HO_3.out) hb); have n1_ := Aside0.mk (below_step (by repeat (first | (with_reducible first | exact HB.out | apply below_alloc | apply pw_below_drewN | apply below_drew1) | exact HB.out)) hb); have n2_ := Aside0.mk (hbox); have n3_ := Aside0.mk ((by rw [hg]; exact (below_size (by repeat (first | (with_reducible first | exact HB.out | apply below_alloc | apply pw_below_drewN | apply below_drew1) | exact HB.out))) : w.heap.size ≤ gb188)); have n4_ := Aside0.mk ((by rw [hg]; exact (below_size (by repeat (first | (with_reducible first | exact HB.out | apply below_alloc | apply pw_below_drewN | apply below_drew1) | exact HB.out))) : w.heap.size ≤ gb188)); clear HO_3; clear HB; have HO_3 := n0_; have HB := n1_; have BK188 := n2_; have GW188 := n3_; have GE188 := n4_; clear n0_ n1_ n2_ n3_ n4_; clear hb hbox hg; have hcz8_0 : w7.cell? ⟨gb188, 0, none⟩ = some (.int .i64 0) := (blk_cell BK188.out 0).trans rfl; have hcz8_1 : w7.cell? ⟨gb188, 1, none⟩ = some (.int .i64 0) := (blk_cell BK188.out 1).trans rfl; have hcz8_2 : w7.cell? ⟨gb188, 2, none⟩ = some (.int .i64 0) := (blk_cell BK188.out 2).trans rfl; have hcz8_3 : w7.cell? ⟨gb188, 3, none⟩ = some (.string (⟨#[]⟩ : ByteArray)) := (blk_cell BK188.out 3).trans rfl; have hfz8_0 := blk_frozen BK188.out 0; have hfz8_1 := blk_frozen BK188.out 1; have hfz8_2 := blk_frozen BK188.out 2; have hfz8_3 := blk_frozen BK188.out 3) | ((with_reducible refine gate_callee (f := 14) rfl ?_); refine goesL_ (some 14) rfl rfl Tryz.func14 (by kernel_rfl) rfl #[.agg #[.int .i64 ((rd_T31 l0 x8_1).f0), .int .i64 ((rd_T31 l0 x8_1).f1), .int .i64 ((rd_T31 l0 x8_1).f2), .string ((rd_T31 l0 x8_1).f3)]] rfl (by (try simp only [List.map_toArray, List.map_cons, List.map_nil]); first | done | rfl | (simp only [List.length_drop, List.length_take]; rfl)) ?_; (with_reducible refine (tok_Show.calls ((rd_T31 l0 x8_1).f0) ((rd_T31 l0 x8_1).f1) ((rd_T31 l0 x8_1).f2) ((rd_T31 l0 x8_1).f3) t189 _ ?side1 A5.out).mono ?_); (case side1 => exact GW.below (by repeat (first | (with_reducible first | exact HB.out | apply below_alloc | apply pw_below_drewN | apply below_drew1 | refine below_set ?_ GE188.out) | exact HB.out)) HG.out); rintro e w9 ⟨rfl, hb⟩; refine ⟨_, rfl, ?_⟩; have n0_ := Aside0.mk (Kd.R_below (by (with_reducible repeat (first | apply Kd.R_alloc | apply Kd.R_drewN | apply Kd.R_drew)); exact (Kd.R_mono (Kd.R_far (p := ⟨gb188, 3, none⟩) (Kd.R_far (p := ⟨gb188, 2, none⟩) (Kd.R_far (p := ⟨gb188, 1, none⟩) (Kd.R_far (p := ⟨gb188, 0, none⟩) (Kd.R_types HO_3.out BK188.out (by decide)) (fun _ hk => hk.2) (.int .i64 ((rd_T31 l0 x8_1).f0))) (fun _ hk => hk.2) (.int .i64 ((rd_T31 l0 x8_1).f1))) (fun _ hk => hk.2) (.int .i64 ((rd_T31 l0 x8_1).f2))) (fun _ hk => hk.2) (.string ((rd_T31 l0 x8_1).f3))) (fun _ h_ => h_.1))) hb); have n1_ := Aside0.mk (blk_below (g := gb188) (o := .cells #[.int .i64 ((rd_T31 l0 x8_1).f0), .int .i64 ((rd_T31 l0 x8_1).f1), .int .i64 ((rd_T31 l0 x8_1).f2), .string ((rd_T31 l0 x8_1).f3)] 31 (0, 0)) (by (with_reducible repeat (first | refine blk_drewN ?_ _ | refine blk_drew ?_ | refine blk_alloc ?_ _)); refine blk_put (cs := #[.int .i64 ((rd_T31 l0 x8_1).f0), .int .i64 ((rd_T31 l0 x8_1).f1), .int .i64 ((rd_T31 l0 x8_1).f2), .string (⟨#[]⟩ : ByteArray)]) ?_ 3 _ rfl; (with_reducible repeat (first | refine blk_drewN ?_ _ | refine blk_drew ?_ | refine blk_alloc ?_ _)); refine blk_put (cs := #[.int .i64 ((rd_T31 l0 x8_1).f0), .int .i64 ((rd_T31 l0 x8_1).f1), .int .i64 0, .string (⟨#[]⟩ : ByteArray)]) ?_ 2 _ rfl; (with_reducible repeat (first | refine blk_drewN ?_ _ | refine blk_drew ?_ | refine blk_alloc ?_ _)); refine blk_put (cs := #[.int .i64 ((rd_T31 l0 x8_1).f0), .int .i64 0, .int .i64 0, .string (⟨#[]⟩ : ByteArray)]) ?_ 1 _ rfl; (with_reducible repeat (first | refine blk_drewN ?_ _ | refine blk_drew ?_ | refine blk_alloc ?_ _)); refine blk_put (cs := #[.int .i64 0, .int .i64 0, .int .i64 0, .string (⟨#[]⟩ : ByteArray)]) ?_ 0 _ rfl; (with_reducible repeat (first | refine blk_drewN ?_ _ | refine blk_drew ?_ | refine blk_alloc ?_ _)); exact BK188.out) hb); have n2_ := Aside0.mk (below_step (by repeat (first | (with_reducible first | exact HB.out | apply below_alloc | apply pw_below_drewN | apply below_drew1 | refine below_set ?_ GE188.out) | exact HB.out)) hb); clear HO_3; clear BK188; clear HB; have HO_3 := n0_; have BK188 := n1_; have HB := n2_; clear n0_ n1_ n2_; (try clear hb); (try clear hb2); (try clear hk); (try clear hi)) | ((with_reducible refine gate_builtin (b := .append) (xs := #[.tmp 12, .tmp 15]) rfl ?_); at_builtin; refine Kd.R_append Kd.string (w0 := w) w.heap.size rfl (.tmp 12) (.tmp 15) 40 9 (.string ⟨#[]⟩) 16 rfl Tryz.underlying40 info9 rfl (by decide) (by omega) u3 x3_1 t189 [.string t189] (fun _ => True) (fun _ => False) rfl rfl ?aP (fun _ hk => hk.elim) ?aF ?aO ?aB ?aS ?aL ?_; (case aP => exact rfl); (case aB => exact (by repeat (first | (with_reducible first | exact HB.out | apply below_alloc | apply pw_below_drewN | apply below_drew1 | refine below_set ?_ GE188.out) | exact HB.out))); (case aF => exact (fun _ _ => trivial)); (case aO => exact (by (with_reducible repeat (first | apply Kd.R_alloc | apply Kd.R_drewN | apply Kd.R_drew)); exact HO_3.out)); (case aS => exact (below_size (by repeat (first | (with_reducible first | exact HB.out | apply below_alloc | apply pw_below_drewN | apply below_drew1 | refine below_set ?_ GE188.out) | exact HB.out)))); (case aL => have := LMc6.out; omega); intro v191 w10 ho hb hg hat; rw [← Ny190.out] at ho; have n0_ := Aside0.mk (blk_grown (g := gb188) (o := .cells #[.int .i64 ((rd_T31 l0 x8_1).f0), .int .i64 ((rd_T31 l0 x8_1).f1), .int .i64 ((rd_T31 l0 x8_1).f2), .string ((rd_T31 l0 x8_1).f3)] 31 (0, 0)) (by (with_reducible repeat (first | refine blk_drewN ?_ _ | refine blk_drew ?_ | refine blk_alloc ?_ _)); exact BK188.out) hg (Kd.R_ne HO_3.out BK188.out (by decide))); have n1_ := Aside0.mk (hb); have n2_ := Aside0.mk (ho); clear BK188; clear HB; clear HO_3; have BK188 := n0_; have HB := n1_; have HO192 := n2_; clear n0_ n1_ n2_; clear ho hb hg hat))
              go_roundg k1
              case measure => have := HK1.out; omega
              case rel => exact ⟨(y190), (wrap64 (x8_1 + 1)), (by first | rfl | (simp; done) | (simp [*]; done)), H', ⟨by have := HK1.out; omega⟩, ⟨by (with_reducible repeat (first | apply Kd.R_alloc | apply Kd.R_drewN | apply Kd.R_drew)); exact HO192.out⟩, ⟨by repeat (first | (with_reducible first | exact HB.out | apply below_alloc | apply pw_below_drewN | apply below_drew1 | refine below_set ?_ GE188.out) | exact HB.out)⟩⟩
            · rw [if_neg c6] at H
              exact absurd H (by simp)
          · rw [if_neg c4] at H
            exact absurd H (by simp)
        · rw [if_neg c3] at H
          exact absurd H (by simp)
      · rw [if_neg c2] at H
        have c2b0 : decide (x8_1 < (l0.length : Int)) = false := decide_eq_false c2
        clear c2
        replace H := Option.bind_eq_some_iff.mp H
        obtain ⟨t193, A110, H⟩ := H
        replace H : (some t193) = some r := H
        have A11 := Aside0.mk A110
        clear A110
        obtain rfl := Option.some.inj H
        obtain ⟨Ao12, co12, eo12⟩ := Kd.R_slice HO_3.out
        subst eo12
        go_wp2_with (first | ((with_reducible refine gate_callee (f := 15) rfl ?_); refine goesL_ (some 19) rfl rfl Tryz.func15 (by kernel_rfl) rfl #[.slice Ao12 x3_1.length co12, .string (⟨#[32]⟩ : ByteArray)] rfl (by (try simp only [List.map_toArray, List.map_cons, List.map_nil]); first | done | rfl | (simp only [List.length_drop, List.length_take]; rfl)) ?_; (with_reducible refine (strings_Join.calls _ _ x3_1 (⟨#[32]⟩ : ByteArray) t193 _ ?side1 ?side2 A11.out).mono ?_); (case side1 => repeat (first | exact (Kd.R_reads' HO_3.out).2.2 | (with_reducible refine Kd.C_alloc ?_ _) | (with_reducible refine Kd.C_drewN ?_ _) | (with_reducible refine Kd.C_drew ?_))); (case side2 => exact (Kd.R_reads' HO_3.out).2.1); rintro e w13 ⟨rfl, hb⟩; refine ⟨_, rfl, ?_⟩; have n0_ := Aside0.mk (Kd.R_below (by (with_reducible repeat (first | apply Kd.R_alloc | apply Kd.R_drewN | apply Kd.R_drew)); exact HO_3.out) hb); have n1_ := Aside0.mk (below_step (by repeat (first | (with_reducible first | exact HB.out | apply below_alloc | apply pw_below_drewN | apply below_drew1) | exact HB.out)) hb); clear HO_3; clear HB; have HO_3 := n0_; have HB := n1_; clear n0_ n1_; (try clear hb); (try clear hb2); (try clear hk); (try clear hi)))
        go_ret
        exact ⟨by first | rfl | (simp [errW_none, errW_some] <;> rfl) | (simp [*, errW_none, errW_some] <;> rfl), by repeat (first | (with_reducible first | exact HB.out | apply below_alloc | apply pw_below_drewN | apply below_drew1) | exact HB.out)⟩
end Go.Proofs.YtfdikkdbmlcjiaaGreatDoor.M
end
section
/- Laid by this session's program hbprint.py out of the translation: the function hornbook/tok.All and its contract. -/
namespace Go.Proofs.YtfdikkdbmlcjiaaGreatDoor.M
open Go.RowKit Go.Proofs.YtfdikkdbmlcjiaaGreatDoorW.PrintWords Go.Proofs.YtfdikkdbmlcjiaaGreatDoorW.PrintLast Go.Proofs.YtfdikkdbmlcjiaaGreatDoorW.PrintMore
attribute [local go_sem] max2_int min2_int max_two min_two max_three min_three max_four min_four
set_option linter.unusedVariables false
set_option linter.unusedSimpArgs false
def tok_All.l0 : Nat → ByteArray → List (S31) → Int → Option ((List (S31)) × Int × Int)
  | 0, _, _, _ => none
  | k + 1, x0, x5, x6 => (tok_Next.f k x0 x6).bind fun bt176 => (if bt176.2.2.2.2.2 = 0 then (if bt176.1 = 0 then (some (x5, (x0.size : Int), 0)) else (if (x5.length : Int) = 65536 then (some (([] : List (S31)), bt176.2.1, 10)) else (if x5.length < 3518437208883 then (tok_All.l0 k x0 (x5 ++ [(⟨bt176.1, bt176.2.1, bt176.2.2.1, bt176.2.2.2.1⟩ : S31)]) bt176.2.2.2.2.1) else (none)))) else (some (([] : List (S31)), bt176.2.2.2.2.1, bt176.2.2.2.2.2)))
def tok_All.f (k : Nat) (a0 : ByteArray) : Option ((List (S31)) × Int × Int) := tok_All.l0 k a0 ([] : List (S31)) 0
theorem tok_All.mono_l : ∀ k, (∀ y0 y1 y2, LeO (tok_All.l0 k y0 y1 y2) (tok_All.l0 (k + 1) y0 y1 y2))
  | 0 => fun _ _ _ r h => by simp [tok_All.l0] at h
  | k + 1 => by
    have ih0 := tok_All.mono_l k
    · intro y0 y1 y2
      unfold tok_All.l0
      repeat' first
      | (with_reducible exact ih0 _ _ _)
      | (with_reducible exact tok_Next.mono _ _ _)
      | (with_reducible exact LeO.refl _)
      | (with_reducible exact LeO.none _)
      | (with_reducible refine LeO.ite ?_ ?_)
      | (with_reducible refine LeO.bind ?_ (fun _ => ?_))
      | exact ih0 _ _ _
      | exact tok_Next.mono _ _ _
      | exact LeO.none _
      | refine LeO.ite ?_ ?_
      | refine LeO.bind ?_ (fun _ => ?_)
theorem tok_All.mono : ∀ a0 k, LeO (tok_All.f k a0) (tok_All.f (k + 1) a0) := by
  intro a0 k
  have ih0 := tok_All.mono_l k
  unfold tok_All.f
  repeat' first
      | (with_reducible exact ih0 _ _ _)
      | (with_reducible exact tok_Next.mono _ _ _)
      | (with_reducible exact LeO.refl _)
      | (with_reducible exact LeO.none _)
      | (with_reducible refine LeO.ite ?_ ?_)
      | (with_reducible refine LeO.bind ?_ (fun _ => ?_))
      | exact ih0 _ _ _
      | exact tok_Next.mono _ _ _
      | exact LeO.none _
      | refine LeO.ite ?_ ?_
      | refine LeO.bind ?_ (fun _ => ?_)
set_option maxHeartbeats 8000000 in
set_option maxRecDepth 100000 in
theorem tok_All.calls (k : Nat) (a0 : ByteArray) (r1 : List (S31)) (r2 : Int) (r3 : Int) (w : World) (hG : GW w) (h : tok_All.f k a0 = some (r1, r2, r3)) :
    Calls Tryz.prog 9 #[.string a0] w fun e w' => ∃ v0_ : Value, e = .returned (.tuple #[v0_, .int .i64 r2, .int .i64 r3]) ∧ Kd.R k31 31 w' w.heap.size (fun _ => True) v0_ r1 ∧ Below w.heap.size w w' := by
  have hu31 := Tryz.underlying31
  have HG := Aside0.mk hG
  clear hG
  have HB := Aside0.mk (Below.refl w.heap.size w)
  have H : (tok_All.l0 k a0 ([] : List (S31)) 0) = some (r1, r2, r3) := h
  clear h
  have H' := Aside0.mk H
  clear H
  go_enter Tryz.func9, Tryz.ntmps9
  go_wp2
  repeat (go_quiet (fail); try go_wp2)
  go_loopg [5, 6] k (fun kq v5 v6 w' => ∃ (x5_1 : List (S31)) (x6_1 : Int), v6 = .int .i64 x6_1 ∧ Aside0 (tok_All.l0 kq a0 x5_1 x6_1 = some (r1, r2, r3)) ∧ Aside0 (kq ≤ k) ∧ Aside0 (Kd.R k31 31 w' w.heap.size (fun _ => True) v5 x5_1) ∧ Aside0 (Below w.heap.size w w'))
  case atStart => exact ⟨(([] : List (S31))), (0), (by first | rfl | (simp; done) | (simp [*]; done)), H', ⟨Nat.le_refl _⟩, ⟨by first | exact Kd.R_nil _ _ _ _ _ | exact Kd.N_nil _ _ _ _ _ | exact Kd.V_nil _ _ _ _ _ | exact Kd.Q_nil _ _ _ _ _ | exact Kd.S_nil _ _ _ _ _⟩, ⟨by repeat (first | (with_reducible first | exact HB.out | apply below_alloc | apply pw_below_drewN | apply below_drew1) | exact HB.out)⟩⟩
  case round =>
    clear H'
    obtain ⟨x5_1, x6_1, rfl, HA, HK1, HO_5, HB⟩ := hrel
    cases gk with
    | zero => exact absurd HA.out (by simp [tok_All.l0])
    | succ k1 =>
      have H := HA.out
      clear HA
      simp only [tok_All.l0] at H
      replace H := Option.bind_eq_some_iff.mp H
      obtain ⟨⟨t176, t177, t178, t179, t180, t181⟩, A20, H⟩ := H
      replace H : (if t181 = 0 then (if t176 = 0 then (some (x5_1, (a0.size : Int), 0)) else (if (x5_1.length : Int) = 65536 then (some (([] : List (S31)), t177, 10)) else (if x5_1.length < 3518437208883 then (tok_All.l0 k1 a0 (x5_1 ++ [(⟨t176, t177, t178, t179⟩ : S31)]) t180) else (none)))) else (some (([] : List (S31)), t180, t181))) = some (r1, r2, r3) := H
      have A2 := Aside0.mk A20
      clear A20
      by_cases c3 : t181 = 0
      · rw [if_pos c3] at H
        have c3b0 : (t181 == 0) = true := beq_iff_eq.mpr c3
        have c3b1 : (t181 != 0) = false := bne_eq_false_iff_eq.mpr c3
        clear c3
        by_cases c4 : t176 = 0
        · rw [if_pos c4] at H
          have c4b0 : (t176 == 0) = true := beq_iff_eq.mpr c4
          have c4b1 : (t176 != 0) = false := bne_eq_false_iff_eq.mpr c4
          clear c4
          simp only [Option.some.injEq, Prod.mk.injEq] at H
          obtain ⟨rfl, rfl, rfl⟩ := H
          go_wp2_with (first | (go_at_call 13; (with_reducible refine (tok_Next.calls k1 a0 x6_1 t176 t177 t178 t179 t180 t181 _ ?side1 A2.out).mono ?_); (case side1 => exact GW.below (by repeat (first | (with_reducible first | exact HB.out | apply below_alloc | apply pw_below_drewN | apply below_drew1) | exact HB.out)) HG.out); rintro e w5 ⟨rfl, hb⟩; have n0_ := Aside0.mk (Kd.R_below (by (with_reducible repeat (first | apply Kd.R_alloc | apply Kd.R_drewN | apply Kd.R_drew)); exact HO_5.out) hb); have n1_ := Aside0.mk (below_step (by repeat (first | (with_reducible first | exact HB.out | apply below_alloc | apply pw_below_drewN | apply below_drew1) | exact HB.out)) hb); clear HO_5; clear HB; have HO_5 := n0_; have HB := n1_; clear n0_ n1_; (try clear hb); (try clear hb2); (try clear hk); (try clear hi)) | ((with_reducible refine gate_dst (N := 7) rfl ?_); refine box_event ?hg (N := 7) ?hd (cs := #[.int .i64 0, .int .i64 0, .int .i64 0, .string (⟨#[]⟩ : ByteArray)]) (t := 31) ?hr ?_; (case hd => rfl); (case hg => rfl); (case hr => first | (go_simp; done) | (go_simp; rfl)); intro gb182 hg w6 hbox hb; have n0_ := Aside0.mk (Kd.R_below (Kd.R_elderB (by (with_reducible repeat (first | apply Kd.R_alloc | apply Kd.R_drewN | apply Kd.R_drew)); exact HO_5.out) gb182 (Nat.le_of_eq hg.symm)) hb); have n1_ := Aside0.mk (below_step (by repeat (first | (with_reducible first | exact HB.out | apply below_alloc | apply pw_below_drewN | apply below_drew1) | exact HB.out)) hb); have n2_ := Aside0.mk (hbox); have n3_ := Aside0.mk ((by rw [hg]; exact (below_size (by repeat (first | (with_reducible first | exact HB.out | apply below_alloc | apply pw_below_drewN | apply below_drew1) | exact HB.out))) : w.heap.size ≤ gb182)); have n4_ := Aside0.mk ((by rw [hg]; exact (below_size (by repeat (first | (with_reducible first | exact HB.out | apply below_alloc | apply pw_below_drewN | apply below_drew1) | exact HB.out))) : w.heap.size ≤ gb182)); clear HO_5; clear HB; have HO_5 := n0_; have HB := n1_; have BK182 := n2_; have GW182 := n3_; have GE182 := n4_; clear n0_ n1_ n2_ n3_ n4_; clear hb hbox hg; have hcz7_0 : w6.cell? ⟨gb182, 0, none⟩ = some (.int .i64 0) := (blk_cell BK182.out 0).trans rfl; have hcz7_1 : w6.cell? ⟨gb182, 1, none⟩ = some (.int .i64 0) := (blk_cell BK182.out 1).trans rfl; have hcz7_2 : w6.cell? ⟨gb182, 2, none⟩ = some (.int .i64 0) := (blk_cell BK182.out 2).trans rfl; have hcz7_3 : w6.cell? ⟨gb182, 3, none⟩ = some (.string (⟨#[]⟩ : ByteArray)) := (blk_cell BK182.out 3).trans rfl; have hfz7_0 := blk_frozen BK182.out 0; have hfz7_1 := blk_frozen BK182.out 1; have hfz7_2 := blk_frozen BK182.out 2; have hfz7_3 := blk_frozen BK182.out 3))
          repeat (go_quiet (first | (go_at_call 13; (with_reducible refine (tok_Next.calls k1 a0 x6_1 t176 t177 t178 t179 t180 t181 _ ?side1 A2.out).mono ?_); (case side1 => exact GW.below (by repeat (first | (with_reducible first | exact HB.out | apply below_alloc | apply pw_below_drewN | apply below_drew1) | exact HB.out)) HG.out); rintro e w5 ⟨rfl, hb⟩; have n0_ := Aside0.mk (Kd.R_below (by (with_reducible repeat (first | apply Kd.R_alloc | apply Kd.R_drewN | apply Kd.R_drew)); exact HO_5.out) hb); have n1_ := Aside0.mk (below_step (by repeat (first | (with_reducible first | exact HB.out | apply below_alloc | apply pw_below_drewN | apply below_drew1) | exact HB.out)) hb); clear HO_5; clear HB; have HO_5 := n0_; have HB := n1_; clear n0_ n1_; (try clear hb); (try clear hb2); (try clear hk); (try clear hi)) | ((with_reducible refine gate_dst (N := 7) rfl ?_); refine box_event ?hg (N := 7) ?hd (cs := #[.int .i64 0, .int .i64 0, .int .i64 0, .string (⟨#[]⟩ : ByteArray)]) (t := 31) ?hr ?_; (case hd => rfl); (case hg => rfl); (case hr => first | (go_simp; done) | (go_simp; rfl)); intro gb182 hg w6 hbox hb; have n0_ := Aside0.mk (Kd.R_below (Kd.R_elderB (by (with_reducible repeat (first | apply Kd.R_alloc | apply Kd.R_drewN | apply Kd.R_drew)); exact HO_5.out) gb182 (Nat.le_of_eq hg.symm)) hb); have n1_ := Aside0.mk (below_step (by repeat (first | (with_reducible first | exact HB.out | apply below_alloc | apply pw_below_drewN | apply below_drew1) | exact HB.out)) hb); have n2_ := Aside0.mk (hbox); have n3_ := Aside0.mk ((by rw [hg]; exact (below_size (by repeat (first | (with_reducible first | exact HB.out | apply below_alloc | apply pw_below_drewN | apply below_drew1) | exact HB.out))) : w.heap.size ≤ gb182)); have n4_ := Aside0.mk ((by rw [hg]; exact (below_size (by repeat (first | (with_reducible first | exact HB.out | apply below_alloc | apply pw_below_drewN | apply below_drew1) | exact HB.out))) : w.heap.size ≤ gb182)); clear HO_5; clear HB; have HO_5 := n0_; have HB := n1_; have BK182 := n2_; have GW182 := n3_; have GE182 := n4_; clear n0_ n1_ n2_ n3_ n4_; clear hb hbox hg; have hcz7_0 : w6.cell? ⟨gb182, 0, none⟩ = some (.int .i64 0) := (blk_cell BK182.out 0).trans rfl; have hcz7_1 : w6.cell? ⟨gb182, 1, none⟩ = some (.int .i64 0) := (blk_cell BK182.out 1).trans rfl; have hcz7_2 : w6.cell? ⟨gb182, 2, none⟩ = some (.int .i64 0) := (blk_cell BK182.out 2).trans rfl; have hcz7_3 : w6.cell? ⟨gb182, 3, none⟩ = some (.string (⟨#[]⟩ : ByteArray)) := (blk_cell BK182.out 3).trans rfl; have hfz7_0 := blk_frozen BK182.out 0; have hfz7_1 := blk_frozen BK182.out 1; have hfz7_2 := blk_frozen BK182.out 2; have hfz7_3 := blk_frozen BK182.out 3)); try go_wp2_with (first | (go_at_call 13; (with_reducible refine (tok_Next.calls k1 a0 x6_1 t176 t177 t178 t179 t180 t181 _ ?side1 A2.out).mono ?_); (case side1 => exact GW.below (by repeat (first | (with_reducible first | exact HB.out | apply below_alloc | apply pw_below_drewN | apply below_drew1) | exact HB.out)) HG.out); rintro e w5 ⟨rfl, hb⟩; have n0_ := Aside0.mk (Kd.R_below (by (with_reducible repeat (first | apply Kd.R_alloc | apply Kd.R_drewN | apply Kd.R_drew)); exact HO_5.out) hb); have n1_ := Aside0.mk (below_step (by repeat (first | (with_reducible first | exact HB.out | apply below_alloc | apply pw_below_drewN | apply below_drew1) | exact HB.out)) hb); clear HO_5; clear HB; have HO_5 := n0_; have HB := n1_; clear n0_ n1_; (try clear hb); (try clear hb2); (try clear hk); (try clear hi)) | ((with_reducible refine gate_dst (N := 7) rfl ?_); refine box_event ?hg (N := 7) ?hd (cs := #[.int .i64 0, .int .i64 0, .int .i64 0, .string (⟨#[]⟩ : ByteArray)]) (t := 31) ?hr ?_; (case hd => rfl); (case hg => rfl); (case hr => first | (go_simp; done) | (go_simp; rfl)); intro gb182 hg w6 hbox hb; have n0_ := Aside0.mk (Kd.R_below (Kd.R_elderB (by (with_reducible repeat (first | apply Kd.R_alloc | apply Kd.R_drewN | apply Kd.R_drew)); exact HO_5.out) gb182 (Nat.le_of_eq hg.symm)) hb); have n1_ := Aside0.mk (below_step (by repeat (first | (with_reducible first | exact HB.out | apply below_alloc | apply pw_below_drewN | apply below_drew1) | exact HB.out)) hb); have n2_ := Aside0.mk (hbox); have n3_ := Aside0.mk ((by rw [hg]; exact (below_size (by repeat (first | (with_reducible first | exact HB.out | apply below_alloc | apply pw_below_drewN | apply below_drew1) | exact HB.out))) : w.heap.size ≤ gb182)); have n4_ := Aside0.mk ((by rw [hg]; exact (below_size (by repeat (first | (with_reducible first | exact HB.out | apply below_alloc | apply pw_below_drewN | apply below_drew1) | exact HB.out))) : w.heap.size ≤ gb182)); clear HO_5; clear HB; have HO_5 := n0_; have HB := n1_; have BK182 := n2_; have GW182 := n3_; have GE182 := n4_; clear n0_ n1_ n2_ n3_ n4_; clear hb hbox hg; have hcz7_0 : w6.cell? ⟨gb182, 0, none⟩ = some (.int .i64 0) := (blk_cell BK182.out 0).trans rfl; have hcz7_1 : w6.cell? ⟨gb182, 1, none⟩ = some (.int .i64 0) := (blk_cell BK182.out 1).trans rfl; have hcz7_2 : w6.cell? ⟨gb182, 2, none⟩ = some (.int .i64 0) := (blk_cell BK182.out 2).trans rfl; have hcz7_3 : w6.cell? ⟨gb182, 3, none⟩ = some (.string (⟨#[]⟩ : ByteArray)) := (blk_cell BK182.out 3).trans rfl; have hfz7_0 := blk_frozen BK182.out 0; have hfz7_1 := blk_frozen BK182.out 1; have hfz7_2 := blk_frozen BK182.out 2; have hfz7_3 := blk_frozen BK182.out 3)))
          go_ret3
          exact ⟨_, by first | rfl | (simp [errW_none, errW_some] <;> rfl) | (simp [*, errW_none, errW_some] <;> rfl), by (with_reducible repeat (first | apply Kd.R_alloc | apply Kd.R_drewN | apply Kd.R_drew)); exact Kd.R_mono (Kd.R_far (p := ⟨gb182, 3, none⟩) (Kd.R_far (p := ⟨gb182, 2, none⟩) (Kd.R_far (p := ⟨gb182, 1, none⟩) (Kd.R_far (p := ⟨gb182, 0, none⟩) (Kd.R_mono HO_5.out (fun k_ hk => (⟨hk, hk.2⟩ : _ ∧ k_ ≠ gb182))) (fun _ hk => hk.2) (.int .i64 t176)) (fun _ hk => hk.2) (.int .i64 t177)) (fun _ hk => hk.2) (.int .i64 t178)) (fun _ hk => hk.2) (.string t179)) (fun _ hk => trivial), by repeat (first | (with_reducible first | exact HB.out | apply below_alloc | apply pw_below_drewN | apply below_drew1 | refine below_set ?_ GE182.out) | exact HB.out)⟩
        · rw [if_neg c4] at H
          have c4b0 : (t176 == 0) = false := beq_eq_false_iff_ne.mpr c4
          have c4b1 : (t176 != 0) = true := bne_iff_ne.mpr c4
          by_cases c8 : (x5_1.length : Int) = 65536
          · rw [if_pos c8] at H
            have c8b0 : ((x5_1.length : Int) == 65536) = true := beq_iff_eq.mpr c8
            have c8b1 : ((x5_1.length : Int) != 65536) = false := bne_eq_false_iff_eq.mpr c8
            clear c8
            simp only [Option.some.injEq, Prod.mk.injEq] at H
            obtain ⟨rfl, rfl, rfl⟩ := H
            go_wp2_with (first | (go_at_call 13; (with_reducible refine (tok_Next.calls k1 a0 x6_1 t176 t177 t178 t179 t180 t181 _ ?side1 A2.out).mono ?_); (case side1 => exact GW.below (by repeat (first | (with_reducible first | exact HB.out | apply below_alloc | apply pw_below_drewN | apply below_drew1) | exact HB.out)) HG.out); rintro e w9 ⟨rfl, hb⟩; have n0_ := Aside0.mk (Kd.R_below (by (with_reducible repeat (first | apply Kd.R_alloc | apply Kd.R_drewN | apply Kd.R_drew)); exact HO_5.out) hb); have n1_ := Aside0.mk (below_step (by repeat (first | (with_reducible first | exact HB.out | apply below_alloc | apply pw_below_drewN | apply below_drew1) | exact HB.out)) hb); clear HO_5; clear HB; have HO_5 := n0_; have HB := n1_; clear n0_ n1_; (try clear hb); (try clear hb2); (try clear hk); (try clear hi)) | ((with_reducible refine gate_dst (N := 7) rfl ?_); refine box_event ?hg (N := 7) ?hd (cs := #[.int .i64 0, .int .i64 0, .int .i64 0, .string (⟨#[]⟩ : ByteArray)]) (t := 31) ?hr ?_; (case hd => rfl); (case hg => rfl); (case hr => first | (go_simp; done) | (go_simp; rfl)); intro gb182 hg w10 hbox hb; have n0_ := Aside0.mk (Kd.R_below (Kd.R_elderB (by (with_reducible repeat (first | apply Kd.R_alloc | apply Kd.R_drewN | apply Kd.R_drew)); exact HO_5.out) gb182 (Nat.le_of_eq hg.symm)) hb); have n1_ := Aside0.mk (below_step (by repeat (first | (with_reducible first | exact HB.out | apply below_alloc | apply pw_below_drewN | apply below_drew1) | exact HB.out)) hb); have n2_ := Aside0.mk (hbox); have n3_ := Aside0.mk ((by rw [hg]; exact (below_size (by repeat (first | (with_reducible first | exact HB.out | apply below_alloc | apply pw_below_drewN | apply below_drew1) | exact HB.out))) : w.heap.size ≤ gb182)); have n4_ := Aside0.mk ((by rw [hg]; exact (below_size (by repeat (first | (with_reducible first | exact HB.out | apply below_alloc | apply pw_below_drewN | apply below_drew1) | exact HB.out))) : w.heap.size ≤ gb182)); clear HO_5; clear HB; have HO_5 := n0_; have HB := n1_; have BK182 := n2_; have GW182 := n3_; have GE182 := n4_; clear n0_ n1_ n2_ n3_ n4_; clear hb hbox hg; have hcz11_0 : w10.cell? ⟨gb182, 0, none⟩ = some (.int .i64 0) := (blk_cell BK182.out 0).trans rfl; have hcz11_1 : w10.cell? ⟨gb182, 1, none⟩ = some (.int .i64 0) := (blk_cell BK182.out 1).trans rfl; have hcz11_2 : w10.cell? ⟨gb182, 2, none⟩ = some (.int .i64 0) := (blk_cell BK182.out 2).trans rfl; have hcz11_3 : w10.cell? ⟨gb182, 3, none⟩ = some (.string (⟨#[]⟩ : ByteArray)) := (blk_cell BK182.out 3).trans rfl; have hfz11_0 := blk_frozen BK182.out 0; have hfz11_1 := blk_frozen BK182.out 1; have hfz11_2 := blk_frozen BK182.out 2; have hfz11_3 := blk_frozen BK182.out 3; obtain ⟨Ao12, co12, eo12⟩ := Kd.R_slice HO_5.out; subst eo12))
            repeat (go_quiet (first | (go_at_call 13; (with_reducible refine (tok_Next.calls k1 a0 x6_1 t176 t177 t178 t179 t180 t181 _ ?side1 A2.out).mono ?_); (case side1 => exact GW.below (by repeat (first | (with_reducible first | exact HB.out | apply below_alloc | apply pw_below_drewN | apply below_drew1) | exact HB.out)) HG.out); rintro e w9 ⟨rfl, hb⟩; have n0_ := Aside0.mk (Kd.R_below (by (with_reducible repeat (first | apply Kd.R_alloc | apply Kd.R_drewN | apply Kd.R_drew)); exact HO_5.out) hb); have n1_ := Aside0.mk (below_step (by repeat (first | (with_reducible first | exact HB.out | apply below_alloc | apply pw_below_drewN | apply below_drew1) | exact HB.out)) hb); clear HO_5; clear HB; have HO_5 := n0_; have HB := n1_; clear n0_ n1_; (try clear hb); (try clear hb2); (try clear hk); (try clear hi)) | ((with_reducible refine gate_dst (N := 7) rfl ?_); refine box_event ?hg (N := 7) ?hd (cs := #[.int .i64 0, .int .i64 0, .int .i64 0, .string (⟨#[]⟩ : ByteArray)]) (t := 31) ?hr ?_; (case hd => rfl); (case hg => rfl); (case hr => first | (go_simp; done) | (go_simp; rfl)); intro gb182 hg w10 hbox hb; have n0_ := Aside0.mk (Kd.R_below (Kd.R_elderB (by (with_reducible repeat (first | apply Kd.R_alloc | apply Kd.R_drewN | apply Kd.R_drew)); exact HO_5.out) gb182 (Nat.le_of_eq hg.symm)) hb); have n1_ := Aside0.mk (below_step (by repeat (first | (with_reducible first | exact HB.out | apply below_alloc | apply pw_below_drewN | apply below_drew1) | exact HB.out)) hb); have n2_ := Aside0.mk (hbox); have n3_ := Aside0.mk ((by rw [hg]; exact (below_size (by repeat (first | (with_reducible first | exact HB.out | apply below_alloc | apply pw_below_drewN | apply below_drew1) | exact HB.out))) : w.heap.size ≤ gb182)); have n4_ := Aside0.mk ((by rw [hg]; exact (below_size (by repeat (first | (with_reducible first | exact HB.out | apply below_alloc | apply pw_below_drewN | apply below_drew1) | exact HB.out))) : w.heap.size ≤ gb182)); clear HO_5; clear HB; have HO_5 := n0_; have HB := n1_; have BK182 := n2_; have GW182 := n3_; have GE182 := n4_; clear n0_ n1_ n2_ n3_ n4_; clear hb hbox hg; have hcz11_0 : w10.cell? ⟨gb182, 0, none⟩ = some (.int .i64 0) := (blk_cell BK182.out 0).trans rfl; have hcz11_1 : w10.cell? ⟨gb182, 1, none⟩ = some (.int .i64 0) := (blk_cell BK182.out 1).trans rfl; have hcz11_2 : w10.cell? ⟨gb182, 2, none⟩ = some (.int .i64 0) := (blk_cell BK182.out 2).trans rfl; have hcz11_3 : w10.cell? ⟨gb182, 3, none⟩ = some (.string (⟨#[]⟩ : ByteArray)) := (blk_cell BK182.out 3).trans rfl; have hfz11_0 := blk_frozen BK182.out 0; have hfz11_1 := blk_frozen BK182.out 1; have hfz11_2 := blk_frozen BK182.out 2; have hfz11_3 := blk_frozen BK182.out 3; obtain ⟨Ao12, co12, eo12⟩ := Kd.R_slice HO_5.out; subst eo12)); try go_wp2_with (first | (go_at_call 13; (with_reducible refine (tok_Next.calls k1 a0 x6_1 t176 t177 t178 t179 t180 t181 _ ?side1 A2.out).mono ?_); (case side1 => exact GW.below (by repeat (first | (with_reducible first | exact HB.out | apply below_alloc | apply pw_below_drewN | apply below_drew1) | exact HB.out)) HG.out); rintro e w9 ⟨rfl, hb⟩; have n0_ := Aside0.mk (Kd.R_below (by (with_reducible repeat (first | apply Kd.R_alloc | apply Kd.R_drewN | apply Kd.R_drew)); exact HO_5.out) hb); have n1_ := Aside0.mk (below_step (by repeat (first | (with_reducible first | exact HB.out | apply below_alloc | apply pw_below_drewN | apply below_drew1) | exact HB.out)) hb); clear HO_5; clear HB; have HO_5 := n0_; have HB := n1_; clear n0_ n1_; (try clear hb); (try clear hb2); (try clear hk); (try clear hi)) | ((with_reducible refine gate_dst (N := 7) rfl ?_); refine box_event ?hg (N := 7) ?hd (cs := #[.int .i64 0, .int .i64 0, .int .i64 0, .string (⟨#[]⟩ : ByteArray)]) (t := 31) ?hr ?_; (case hd => rfl); (case hg => rfl); (case hr => first | (go_simp; done) | (go_simp; rfl)); intro gb182 hg w10 hbox hb; have n0_ := Aside0.mk (Kd.R_below (Kd.R_elderB (by (with_reducible repeat (first | apply Kd.R_alloc | apply Kd.R_drewN | apply Kd.R_drew)); exact HO_5.out) gb182 (Nat.le_of_eq hg.symm)) hb); have n1_ := Aside0.mk (below_step (by repeat (first | (with_reducible first | exact HB.out | apply below_alloc | apply pw_below_drewN | apply below_drew1) | exact HB.out)) hb); have n2_ := Aside0.mk (hbox); have n3_ := Aside0.mk ((by rw [hg]; exact (below_size (by repeat (first | (with_reducible first | exact HB.out | apply below_alloc | apply pw_below_drewN | apply below_drew1) | exact HB.out))) : w.heap.size ≤ gb182)); have n4_ := Aside0.mk ((by rw [hg]; exact (below_size (by repeat (first | (with_reducible first | exact HB.out | apply below_alloc | apply pw_below_drewN | apply below_drew1) | exact HB.out))) : w.heap.size ≤ gb182)); clear HO_5; clear HB; have HO_5 := n0_; have HB := n1_; have BK182 := n2_; have GW182 := n3_; have GE182 := n4_; clear n0_ n1_ n2_ n3_ n4_; clear hb hbox hg; have hcz11_0 : w10.cell? ⟨gb182, 0, none⟩ = some (.int .i64 0) := (blk_cell BK182.out 0).trans rfl; have hcz11_1 : w10.cell? ⟨gb182, 1, none⟩ = some (.int .i64 0) := (blk_cell BK182.out 1).trans rfl; have hcz11_2 : w10.cell? ⟨gb182, 2, none⟩ = some (.int .i64 0) := (blk_cell BK182.out 2).trans rfl; have hcz11_3 : w10.cell? ⟨gb182, 3, none⟩ = some (.string (⟨#[]⟩ : ByteArray)) := (blk_cell BK182.out 3).trans rfl; have hfz11_0 := blk_frozen BK182.out 0; have hfz11_1 := blk_frozen BK182.out 1; have hfz11_2 := blk_frozen BK182.out 2; have hfz11_3 := blk_frozen BK182.out 3; obtain ⟨Ao12, co12, eo12⟩ := Kd.R_slice HO_5.out; subst eo12)))
            go_ret3
            exact ⟨_, by first | rfl | (simp [errW_none, errW_some] <;> rfl) | (simp [*, errW_none, errW_some] <;> rfl), by first | exact Kd.R_nil _ _ _ _ _ | exact Kd.N_nil _ _ _ _ _ | exact Kd.V_nil _ _ _ _ _ | exact Kd.Q_nil _ _ _ _ _ | exact Kd.S_nil _ _ _ _ _, by repeat (first | (with_reducible first | exact HB.out | apply below_alloc | apply pw_below_drewN | apply below_drew1 | refine below_set ?_ GE182.out) | exact HB.out)⟩
          · rw [if_neg c8] at H
            have c8b0 : ((x5_1.length : Int) == 65536) = false := beq_eq_false_iff_ne.mpr c8
            have c8b1 : ((x5_1.length : Int) != 65536) = true := bne_iff_ne.mpr c8
            by_cases c13 : x5_1.length < 3518437208883
            · rw [if_pos c13] at H
              have LMc13 := Aside0.mk c13
              clear c13
              obtain ⟨y183, hy183⟩ : ∃ y_ : List (S31), y_ = (x5_1 ++ [(⟨t176, t177, t178, t179⟩ : S31)]) := ⟨_, rfl⟩
              replace H : (tok_All.l0 k1 a0 y183 t180) = some (r1, r2, r3) := by first | (rw [hy183]; with_reducible exact H) | (have H2_ := (Option.bind_some _ _).symm.trans H; rw [hy183]; with_reducible exact H2_) | (have H2_ := (Option.bind_some _ _).symm.trans H; with_reducible exact H2_) | with_reducible exact H | (rw [hy183]; exact H) | exact H
              have Ny183 := Aside0.mk hy183
              clear hy183
              have H' := Aside0.mk H
              clear H
              go_wp2_with (first | (go_at_call 13; (with_reducible refine (tok_Next.calls k1 a0 x6_1 t176 t177 t178 t179 t180 t181 _ ?side1 A2.out).mono ?_); (case side1 => exact GW.below (by repeat (first | (with_reducible first | exact HB.out | apply below_alloc | apply pw_below_drewN | apply below_drew1) | exact HB.out)) HG.out); rintro e w14 ⟨rfl, hb⟩; have n0_ := Aside0.mk (Kd.R_below (by (with_reducible repeat (first | apply Kd.R_alloc | apply Kd.R_drewN | apply Kd.R_drew)); exact HO_5.out) hb); have n1_ := Aside0.mk (below_step (by repeat (first | (with_reducible first | exact HB.out | apply below_alloc | apply pw_below_drewN | apply below_drew1) | exact HB.out)) hb); clear HO_5; clear HB; have HO_5 := n0_; have HB := n1_; clear n0_ n1_; (try clear hb); (try clear hb2); (try clear hk); (try clear hi)) | ((with_reducible refine gate_dst (N := 7) rfl ?_); refine box_event ?hg (N := 7) ?hd (cs := #[.int .i64 0, .int .i64 0, .int .i64 0, .string (⟨#[]⟩ : ByteArray)]) (t := 31) ?hr ?_; (case hd => rfl); (case hg => rfl); (case hr => first | (go_simp; done) | (go_simp; rfl)); intro gb182 hg w15 hbox hb; have n0_ := Aside0.mk (Kd.R_below (Kd.R_elderB (by (with_reducible repeat (first | apply Kd.R_alloc | apply Kd.R_drewN | apply Kd.R_drew)); exact HO_5.out) gb182 (Nat.le_of_eq hg.symm)) hb); have n1_ := Aside0.mk (below_step (by repeat (first | (with_reducible first | exact HB.out | apply below_alloc | apply pw_below_drewN | apply below_drew1) | exact HB.out)) hb); have n2_ := Aside0.mk (hbox); have n3_ := Aside0.mk ((by rw [hg]; exact (below_size (by repeat (first | (with_reducible first | exact HB.out | apply below_alloc | apply pw_below_drewN | apply below_drew1) | exact HB.out))) : w.heap.size ≤ gb182)); have n4_ := Aside0.mk ((by rw [hg]; exact (below_size (by repeat (first | (with_reducible first | exact HB.out | apply below_alloc | apply pw_below_drewN | apply below_drew1) | exact HB.out))) : w.heap.size ≤ gb182)); clear HO_5; clear HB; have HO_5 := n0_; have HB := n1_; have BK182 := n2_; have GW182 := n3_; have GE182 := n4_; clear n0_ n1_ n2_ n3_ n4_; clear hb hbox hg; have hcz16_0 : w15.cell? ⟨gb182, 0, none⟩ = some (.int .i64 0) := (blk_cell BK182.out 0).trans rfl; have hcz16_1 : w15.cell? ⟨gb182, 1, none⟩ = some (.int .i64 0) := (blk_cell BK182.out 1).trans rfl; have hcz16_2 : w15.cell? ⟨gb182, 2, none⟩ = some (.int .i64 0) := (blk_cell BK182.out 2).trans rfl; have hcz16_3 : w15.cell? ⟨gb182, 3, none⟩ = some (.string (⟨#[]⟩ : ByteArray)) := (blk_cell BK182.out 3).trans rfl; have hfz16_0 := blk_frozen BK182.out 0; have hfz16_1 := blk_frozen BK182.out 1; have hfz16_2 := blk_frozen BK182.out 2; have hfz16_3 := blk_frozen BK182.out 3; obtain ⟨Ao17, co17, eo17⟩ := Kd.R_slice HO_5.out; subst eo17) | ((with_reducible refine gate_builtin (b := .append) (xs := #[.tmp 35, .tmp 37]) rfl ?_); at_builtin; refine Kd.R_append k31 (w0 := w) w.heap.size rfl (.tmp 35) (.tmp 37) 23 31 (.agg #[(.int .i64 0), (.int .i64 0), (.int .i64 0), (.string ⟨#[]⟩)]) 40 rfl Tryz.underlying23 info31 rfl (by decide) (by omega) (.slice Ao17 x5_1.length co17) x5_1 (⟨t176, t177, t178, t179⟩ : S31) [.int .i64 t176, .int .i64 t177, .int .i64 t178, .string t179] (fun k_ => k_ ≠ gb182) (fun _ => False) rfl (by first | (go_simp; done) | (go_simp; rfl)) ?aP (fun _ hk => hk.elim) ?aF ?aO ?aB ?aS ?aL ?_; (case aP => exact k31_mkM _ _ _ (⟨t176, t177, t178, t179⟩ : S31)); (case aB => exact (by repeat (first | (with_reducible first | exact HB.out | apply below_alloc | apply pw_below_drewN | apply below_drew1 | refine below_set ?_ GE182.out) | exact HB.out))); (case aF => exact (fun k_ hk => Kd.freshB (g := gb182) (o := .cells #[.int .i64 t176, .int .i64 t177, .int .i64 t178, .string t179] 31 (0, 0)) (by (with_reducible repeat (first | refine blk_drewN ?_ _ | refine blk_drew ?_ | refine blk_alloc ?_ _)); refine blk_put (cs := #[.int .i64 t176, .int .i64 t177, .int .i64 t178, .string (⟨#[]⟩ : ByteArray)]) ?_ 3 _ rfl; (with_reducible repeat (first | refine blk_drewN ?_ _ | refine blk_drew ?_ | refine blk_alloc ?_ _)); refine blk_put (cs := #[.int .i64 t176, .int .i64 t177, .int .i64 0, .string (⟨#[]⟩ : ByteArray)]) ?_ 2 _ rfl; (with_reducible repeat (first | refine blk_drewN ?_ _ | refine blk_drew ?_ | refine blk_alloc ?_ _)); refine blk_put (cs := #[.int .i64 t176, .int .i64 0, .int .i64 0, .string (⟨#[]⟩ : ByteArray)]) ?_ 1 _ rfl; (with_reducible repeat (first | refine blk_drewN ?_ _ | refine blk_drew ?_ | refine blk_alloc ?_ _)); refine blk_put (cs := #[.int .i64 0, .int .i64 0, .int .i64 0, .string (⟨#[]⟩ : ByteArray)]) ?_ 0 _ rfl; (with_reducible repeat (first | refine blk_drewN ?_ _ | refine blk_drew ?_ | refine blk_alloc ?_ _)); exact BK182.out) k_ hk)); (case aO => exact (by (with_reducible repeat (first | apply Kd.R_alloc | apply Kd.R_drewN | apply Kd.R_drew)); exact Kd.R_mono (Kd.R_far (p := ⟨gb182, 3, none⟩) (Kd.R_far (p := ⟨gb182, 2, none⟩) (Kd.R_far (p := ⟨gb182, 1, none⟩) (Kd.R_far (p := ⟨gb182, 0, none⟩) (Kd.R_mono HO_5.out (fun k_ hk => (⟨hk, hk.2⟩ : _ ∧ k_ ≠ gb182))) (fun _ hk => hk.2) (.int .i64 t176)) (fun _ hk => hk.2) (.int .i64 t177)) (fun _ hk => hk.2) (.int .i64 t178)) (fun _ hk => hk.2) (.string t179)) (fun _ hk => hk.1.2))); (case aS => exact (below_size (by repeat (first | (with_reducible first | exact HB.out | apply below_alloc | apply pw_below_drewN | apply below_drew1 | refine below_set ?_ GE182.out) | exact HB.out)))); (case aL => have := LMc13.out; omega); intro v184 w18 ho hb hg hat; rw [← Ny183.out] at ho; have n0_ := Aside0.mk (blk_grown (g := gb182) (o := .cells #[.int .i64 t176, .int .i64 t177, .int .i64 t178, .string t179] 31 (0, 0)) (by (with_reducible repeat (first | refine blk_drewN ?_ _ | refine blk_drew ?_ | refine blk_alloc ?_ _)); refine blk_put (cs := #[.int .i64 t176, .int .i64 t177, .int .i64 t178, .string (⟨#[]⟩ : ByteArray)]) ?_ 3 _ rfl; (with_reducible repeat (first | refine blk_drewN ?_ _ | refine blk_drew ?_ | refine blk_alloc ?_ _)); refine blk_put (cs := #[.int .i64 t176, .int .i64 t177, .int .i64 0, .string (⟨#[]⟩ : ByteArray)]) ?_ 2 _ rfl; (with_reducible repeat (first | refine blk_drewN ?_ _ | refine blk_drew ?_ | refine blk_alloc ?_ _)); refine blk_put (cs := #[.int .i64 t176, .int .i64 0, .int .i64 0, .string (⟨#[]⟩ : ByteArray)]) ?_ 1 _ rfl; (with_reducible repeat (first | refine blk_drewN ?_ _ | refine blk_drew ?_ | refine blk_alloc ?_ _)); refine blk_put (cs := #[.int .i64 0, .int .i64 0, .int .i64 0, .string (⟨#[]⟩ : ByteArray)]) ?_ 0 _ rfl; (with_reducible repeat (first | refine blk_drewN ?_ _ | refine blk_drew ?_ | refine blk_alloc ?_ _)); exact BK182.out) hg (Kd.R_away HO_5.out (fun _ hk => hk.2))); have n1_ := Aside0.mk (hb); have n2_ := Aside0.mk (ho); clear BK182; clear HB; clear HO_5; have BK182 := n0_; have HB := n1_; have HO185 := n2_; clear n0_ n1_ n2_; clear ho hb hg hat))
              repeat (go_quiet (first | (go_at_call 13; (with_reducible refine (tok_Next.calls k1 a0 x6_1 t176 t177 t178 t179 t180 t181 _ ?side1 A2.out).mono ?_); (case side1 => exact GW.below (by repeat (first | (with_reducible first | exact HB.out | apply below_alloc | apply pw_below_drewN | apply below_drew1) | exact HB.out)) HG.out); rintro e w14 ⟨rfl, hb⟩; have n0_ := Aside0.mk (Kd.R_below (by (with_reducible repeat (first | apply Kd.R_alloc | apply Kd.R_drewN | apply Kd.R_drew)); exact HO_5.out) hb); have n1_ := Aside0.mk (below_step (by repeat (first | (with_reducible first | exact HB.out | apply below_alloc | apply pw_below_drewN | apply below_drew1) | exact HB.out)) hb); clear HO_5; clear HB; have HO_5 := n0_; have HB := n1_; clear n0_ n1_; (try clear hb); (try clear hb2); (try clear hk); (try clear hi)) | ((with_reducible refine gate_dst (N := 7) rfl ?_); refine box_event ?hg (N := 7) ?hd (cs := #[.int .i64 0, .int .i64 0, .int .i64 0, .string (⟨#[]⟩ : ByteArray)]) (t := 31) ?hr ?_; (case hd => rfl); (case hg => rfl); (case hr => first | (go_simp; done) | (go_simp; rfl)); intro gb182 hg w15 hbox hb; have n0_ := Aside0.mk (Kd.R_below (Kd.R_elderB (by (with_reducible repeat (first | apply Kd.R_alloc | apply Kd.R_drewN | apply Kd.R_drew)); exact HO_5.out) gb182 (Nat.le_of_eq hg.symm)) hb); have n1_ := Aside0.mk (below_step (by repeat (first | (with_reducible first | exact HB.out | apply below_alloc | apply pw_below_drewN | apply below_drew1) | exact HB.out)) hb); have n2_ := Aside0.mk (hbox); have n3_ := Aside0.mk ((by rw [hg]; exact (below_size (by repeat (first | (with_reducible first | exact HB.out | apply below_alloc | apply pw_below_drewN | apply below_drew1) | exact HB.out))) : w.heap.size ≤ gb182)); have n4_ := Aside0.mk ((by rw [hg]; exact (below_size (by repeat (first | (with_reducible first | exact HB.out | apply below_alloc | apply pw_below_drewN | apply below_drew1) | exact HB.out))) : w.heap.size ≤ gb182)); clear HO_5; clear HB; have HO_5 := n0_; have HB := n1_; have BK182 := n2_; have GW182 := n3_; have GE182 := n4_; clear n0_ n1_ n2_ n3_ n4_; clear hb hbox hg; have hcz16_0 : w15.cell? ⟨gb182, 0, none⟩ = some (.int .i64 0) := (blk_cell BK182.out 0).trans rfl; have hcz16_1 : w15.cell? ⟨gb182, 1, none⟩ = some (.int .i64 0) := (blk_cell BK182.out 1).trans rfl; have hcz16_2 : w15.cell? ⟨gb182, 2, none⟩ = some (.int .i64 0) := (blk_cell BK182.out 2).trans rfl; have hcz16_3 : w15.cell? ⟨gb182, 3, none⟩ = some (.string (⟨#[]⟩ : ByteArray)) := (blk_cell BK182.out 3).trans rfl; have hfz16_0 := blk_frozen BK182.out 0; have hfz16_1 := blk_frozen BK182.out 1; have hfz16_2 := blk_frozen BK182.out 2; have hfz16_3 := blk_frozen BK182.out 3; obtain ⟨Ao17, co17, eo17⟩ := Kd.R_slice HO_5.out; subst eo17) | ((with_reducible refine gate_builtin (b := .append) (xs := #[.tmp 35, .tmp 37]) rfl ?_); at_builtin; refine Kd.R_append k31 (w0 := w) w.heap.size rfl (.tmp 35) (.tmp 37) 23 31 (.agg #[(.int .i64 0), (.int .i64 0), (.int .i64 0), (.string ⟨#[]⟩)]) 40 rfl Tryz.underlying23 info31 rfl (by decide) (by omega) (.slice Ao17 x5_1.length co17) x5_1 (⟨t176, t177, t178, t179⟩ : S31) [.int .i64 t176, .int .i64 t177, .int .i64 t178, .string t179] (fun k_ => k_ ≠ gb182) (fun _ => False) rfl (by first | (go_simp; done) | (go_simp; rfl)) ?aP (fun _ hk => hk.elim) ?aF ?aO ?aB ?aS ?aL ?_; (case aP => exact k31_mkM _ _ _ (⟨t176, t177, t178, t179⟩ : S31)); (case aB => exact (by repeat (first | (with_reducible first | exact HB.out | apply below_alloc | apply pw_below_drewN | apply below_drew1 | refine below_set ?_ GE182.out) | exact HB.out))); (case aF => exact (fun k_ hk => Kd.freshB (g := gb182) (o := .cells #[.int .i64 t176, .int .i64 t177, .int .i64 t178, .string t179] 31 (0, 0)) (by (with_reducible repeat (first | refine blk_drewN ?_ _ | refine blk_drew ?_ | refine blk_alloc ?_ _)); refine blk_put (cs := #[.int .i64 t176, .int .i64 t177, .int .i64 t178, .string (⟨#[]⟩ : ByteArray)]) ?_ 3 _ rfl; (with_reducible repeat (first | refine blk_drewN ?_ _ | refine blk_drew ?_ | refine blk_alloc ?_ _)); refine blk_put (cs := #[.int .i64 t176, .int .i64 t177, .int .i64 0, .string (⟨#[]⟩ : ByteArray)]) ?_ 2 _ rfl; (with_reducible repeat (first | refine blk_drewN ?_ _ | refine blk_drew ?_ | refine blk_alloc ?_ _)); refine blk_put (cs := #[.int .i64 t176, .int .i64 0, .int .i64 0, .string (⟨#[]⟩ : ByteArray)]) ?_ 1 _ rfl; (with_reducible repeat (first | refine blk_drewN ?_ _ | refine blk_drew ?_ | refine blk_alloc ?_ _)); refine blk_put (cs := #[.int .i64 0, .int .i64 0, .int .i64 0, .string (⟨#[]⟩ : ByteArray)]) ?_ 0 _ rfl; (with_reducible repeat (first | refine blk_drewN ?_ _ | refine blk_drew ?_ | refine blk_alloc ?_ _)); exact BK182.out) k_ hk)); (case aO => exact (by (with_reducible repeat (first | apply Kd.R_alloc | apply Kd.R_drewN | apply Kd.R_drew)); exact Kd.R_mono (Kd.R_far (p := ⟨gb182, 3, none⟩) (Kd.R_far (p := ⟨gb182, 2, none⟩) (Kd.R_far (p := ⟨gb182, 1, none⟩) (Kd.R_far (p := ⟨gb182, 0, none⟩) (Kd.R_mono HO_5.out (fun k_ hk => (⟨hk, hk.2⟩ : _ ∧ k_ ≠ gb182))) (fun _ hk => hk.2) (.int .i64 t176)) (fun _ hk => hk.2) (.int .i64 t177)) (fun _ hk => hk.2) (.int .i64 t178)) (fun _ hk => hk.2) (.string t179)) (fun _ hk => hk.1.2))); (case aS => exact (below_size (by repeat (first | (with_reducible first | exact HB.out | apply below_alloc | apply pw_below_drewN | apply below_drew1 | refine below_set ?_ GE182.out) | exact HB.out)))); (case aL => have := LMc13.out; omega); intro v184 w18 ho hb hg hat; rw [← Ny183.out] at ho; have n0_ := Aside0.mk (blk_grown (g := gb182) (o := .cells #[.int .i64 t176, .int .i64 t177, .int .i64 t178, .string t179] 31 (0, 0)) (by (with_reducible repeat (first | refine blk_drewN ?_ _ | refine blk_drew ?_ | refine blk_alloc ?_ _)); refine blk_put (cs := #[.int .i64 t176, .int .i64 t177, .int .i64 t178, .string (⟨#[]⟩ : ByteArray)]) ?_ 3 _ rfl; (with_reducible repeat (first | refine blk_drewN ?_ _ | refine blk_drew ?_ | refine blk_alloc ?_ _)); refine blk_put (cs := #[.int .i64 t176, .int .i64 t177, .int .i64 0, .string (⟨#[]⟩ : ByteArray)]) ?_ 2 _ rfl; (with_reducible repeat (first | refine blk_drewN ?_ _ | refine blk_drew ?_ | refine blk_alloc ?_ _)); refine blk_put (cs := #[.int .i64 t176, .int .i64 0, .int .i64 0, .string (⟨#[]⟩ : ByteArray)]) ?_ 1 _ rfl; (with_reducible repeat (first | refine blk_drewN ?_ _ | refine blk_drew ?_ | refine blk_alloc ?_ _)); refine blk_put (cs := #[.int .i64 0, .int .i64 0, .int .i64 0, .string (⟨#[]⟩ : ByteArray)]) ?_ 0 _ rfl; (with_reducible repeat (first | refine blk_drewN ?_ _ | refine blk_drew ?_ | refine blk_alloc ?_ _)); exact BK182.out) hg (Kd.R_away HO_5.out (fun _ hk => hk.2))); have n1_ := Aside0.mk (hb); have n2_ := Aside0.mk (ho); clear BK182; clear HB; clear HO_5; have BK182 := n0_; have HB := n1_; have HO185 := n2_; clear n0_ n1_ n2_; clear ho hb hg hat)); try go_wp2_with (first | (go_at_call 13; (with_reducible refine (tok_Next.calls k1 a0 x6_1 t176 t177 t178 t179 t180 t181 _ ?side1 A2.out).mono ?_); (case side1 => exact GW.below (by repeat (first | (with_reducible first | exact HB.out | apply below_alloc | apply pw_below_drewN | apply below_drew1) | exact HB.out)) HG.out); rintro e w14 ⟨rfl, hb⟩; have n0_ := Aside0.mk (Kd.R_below (by (with_reducible repeat (first | apply Kd.R_alloc | apply Kd.R_drewN | apply Kd.R_drew)); exact HO_5.out) hb); have n1_ := Aside0.mk (below_step (by repeat (first | (with_reducible first | exact HB.out | apply below_alloc | apply pw_below_drewN | apply below_drew1) | exact HB.out)) hb); clear HO_5; clear HB; have HO_5 := n0_; have HB := n1_; clear n0_ n1_; (try clear hb); (try clear hb2); (try clear hk); (try clear hi)) | ((with_reducible refine gate_dst (N := 7) rfl ?_); refine box_event ?hg (N := 7) ?hd (cs := #[.int .i64 0, .int .i64 0, .int .i64 0, .string (⟨#[]⟩ : ByteArray)]) (t := 31) ?hr ?_; (case hd => rfl); (case hg => rfl); (case hr => first | (go_simp; done) | (go_simp; rfl)); intro gb182 hg w15 hbox hb; have n0_ := Aside0.mk (Kd.R_below (Kd.R_elderB (by (with_reducible repeat (first | apply Kd.R_alloc | apply Kd.R_drewN | apply Kd.R_drew)); exact HO_5.out) gb182 (Nat.le_of_eq hg.symm)) hb); have n1_ := Aside0.mk (below_step (by repeat (first | (with_reducible first | exact HB.out | apply below_alloc | apply pw_below_drewN | apply below_drew1) | exact HB.out)) hb); have n2_ := Aside0.mk (hbox); have n3_ := Aside0.mk ((by rw [hg]; exact (below_size (by repeat (first | (with_reducible first | exact HB.out | apply below_alloc | apply pw_below_drewN | apply below_drew1) | exact HB.out))) : w.heap.size ≤ gb182)); have n4_ := Aside0.mk ((by rw [hg]; exact (below_size (by repeat (first | (with_reducible first | exact HB.out | apply below_alloc | apply pw_below_drewN | apply below_drew1) | exact HB.out))) : w.heap.size ≤ gb182)); clear HO_5; clear HB; have HO_5 := n0_; have HB := n1_; have BK182 := n2_; have GW182 := n3_; have GE182 := n4_; clear n0_ n1_ n2_ n3_ n4_; clear hb hbox hg; have hcz16_0 : w15.cell? ⟨gb182, 0, none⟩ = some (.int .i64 0) := (blk_cell BK182.out 0).trans rfl; have hcz16_1 : w15.cell? ⟨gb182, 1, none⟩ = some (.int .i64 0) := (blk_cell BK182.out 1).trans rfl; have hcz16_2 : w15.cell? ⟨gb182, 2, none⟩ = some (.int .i64 0) := (blk_cell BK182.out 2).trans rfl; have hcz16_3 : w15.cell? ⟨gb182, 3, none⟩ = some (.string (⟨#[]⟩ : ByteArray)) := (blk_cell BK182.out 3).trans rfl; have hfz16_0 := blk_frozen BK182.out 0; have hfz16_1 := blk_frozen BK182.out 1; have hfz16_2 := blk_frozen BK182.out 2; have hfz16_3 := blk_frozen BK182.out 3; obtain ⟨Ao17, co17, eo17⟩ := Kd.R_slice HO_5.out; subst eo17) | ((with_reducible refine gate_builtin (b := .append) (xs := #[.tmp 35, .tmp 37]) rfl ?_); at_builtin; refine Kd.R_append k31 (w0 := w) w.heap.size rfl (.tmp 35) (.tmp 37) 23 31 (.agg #[(.int .i64 0), (.int .i64 0), (.int .i64 0), (.string ⟨#[]⟩)]) 40 rfl Tryz.underlying23 info31 rfl (by decide) (by omega) (.slice Ao17 x5_1.length co17) x5_1 (⟨t176, t177, t178, t179⟩ : S31) [.int .i64 t176, .int .i64 t177, .int .i64 t178, .string t179] (fun k_ => k_ ≠ gb182) (fun _ => False) rfl (by first | (go_simp; done) | (go_simp; rfl)) ?aP (fun _ hk => hk.elim) ?aF ?aO ?aB ?aS ?aL ?_; (case aP => exact k31_mkM _ _ _ (⟨t176, t177, t178, t179⟩ : S31)); (case aB => exact (by repeat (first | (with_reducible first | exact HB.out | apply below_alloc | apply pw_below_drewN | apply below_drew1 | refine below_set ?_ GE182.out) | exact HB.out))); (case aF => exact (fun k_ hk => Kd.freshB (g := gb182) (o := .cells #[.int .i64 t176, .int .i64 t177, .int .i64 t178, .string t179] 31 (0, 0)) (by (with_reducible repeat (first | refine blk_drewN ?_ _ | refine blk_drew ?_ | refine blk_alloc ?_ _)); refine blk_put (cs := #[.int .i64 t176, .int .i64 t177, .int .i64 t178, .string (⟨#[]⟩ : ByteArray)]) ?_ 3 _ rfl; (with_reducible repeat (first | refine blk_drewN ?_ _ | refine blk_drew ?_ | refine blk_alloc ?_ _)); refine blk_put (cs := #[.int .i64 t176, .int .i64 t177, .int .i64 0, .string (⟨#[]⟩ : ByteArray)]) ?_ 2 _ rfl; (with_reducible repeat (first | refine blk_drewN ?_ _ | refine blk_drew ?_ | refine blk_alloc ?_ _)); refine blk_put (cs := #[.int .i64 t176, .int .i64 0, .int .i64 0, .string (⟨#[]⟩ : ByteArray)]) ?_ 1 _ rfl; (with_reducible repeat (first | refine blk_drewN ?_ _ | refine blk_drew ?_ | refine blk_alloc ?_ _)); refine blk_put (cs := #[.int .i64 0, .int .i64 0, .int .i64 0, .string (⟨#[]⟩ : ByteArray)]) ?_ 0 _ rfl; (with_reducible repeat (first | refine blk_drewN ?_ _ | refine blk_drew ?_ | refine blk_alloc ?_ _)); exact BK182.out) k_ hk)); (case aO => exact (by (with_reducible repeat (first | apply Kd.R_alloc | apply Kd.R_drewN | apply Kd.R_drew)); exact Kd.R_mono (Kd.R_far (p := ⟨gb182, 3, none⟩) (Kd.R_far (p := ⟨gb182, 2, none⟩) (Kd.R_far (p := ⟨gb182, 1, none⟩) (Kd.R_far (p := ⟨gb182, 0, none⟩) (Kd.R_mono HO_5.out (fun k_ hk => (⟨hk, hk.2⟩ : _ ∧ k_ ≠ gb182))) (fun _ hk => hk.2) (.int .i64 t176)) (fun _ hk => hk.2) (.int .i64 t177)) (fun _ hk => hk.2) (.int .i64 t178)) (fun _ hk => hk.2) (.string t179)) (fun _ hk => hk.1.2))); (case aS => exact (below_size (by repeat (first | (with_reducible first | exact HB.out | apply below_alloc | apply pw_below_drewN | apply below_drew1 | refine below_set ?_ GE182.out) | exact HB.out)))); (case aL => have := LMc13.out; omega); intro v184 w18 ho hb hg hat; rw [← Ny183.out] at ho; have n0_ := Aside0.mk (blk_grown (g := gb182) (o := .cells #[.int .i64 t176, .int .i64 t177, .int .i64 t178, .string t179] 31 (0, 0)) (by (with_reducible repeat (first | refine blk_drewN ?_ _ | refine blk_drew ?_ | refine blk_alloc ?_ _)); refine blk_put (cs := #[.int .i64 t176, .int .i64 t177, .int .i64 t178, .string (⟨#[]⟩ : ByteArray)]) ?_ 3 _ rfl; (with_reducible repeat (first | refine blk_drewN ?_ _ | refine blk_drew ?_ | refine blk_alloc ?_ _)); refine blk_put (cs := #[.int .i64 t176, .int .i64 t177, .int .i64 0, .string (⟨#[]⟩ : ByteArray)]) ?_ 2 _ rfl; (with_reducible repeat (first | refine blk_drewN ?_ _ | refine blk_drew ?_ | refine blk_alloc ?_ _)); refine blk_put (cs := #[.int .i64 t176, .int .i64 0, .int .i64 0, .string (⟨#[]⟩ : ByteArray)]) ?_ 1 _ rfl; (with_reducible repeat (first | refine blk_drewN ?_ _ | refine blk_drew ?_ | refine blk_alloc ?_ _)); refine blk_put (cs := #[.int .i64 0, .int .i64 0, .int .i64 0, .string (⟨#[]⟩ : ByteArray)]) ?_ 0 _ rfl; (with_reducible repeat (first | refine blk_drewN ?_ _ | refine blk_drew ?_ | refine blk_alloc ?_ _)); exact BK182.out) hg (Kd.R_away HO_5.out (fun _ hk => hk.2))); have n1_ := Aside0.mk (hb); have n2_ := Aside0.mk (ho); clear BK182; clear HB; clear HO_5; have BK182 := n0_; have HB := n1_; have HO185 := n2_; clear n0_ n1_ n2_; clear ho hb hg hat)))
              go_roundg k1
              case measure => have := HK1.out; omega
              case rel => exact ⟨(y183), (t180), (by first | rfl | (simp; done) | (simp [*]; done)), H', ⟨by have := HK1.out; omega⟩, ⟨by (with_reducible repeat (first | apply Kd.R_alloc | apply Kd.R_drewN | apply Kd.R_drew)); exact Kd.R_mono HO185.out (fun _ hk => trivial)⟩, ⟨by repeat (first | (with_reducible first | exact HB.out | apply below_alloc | apply pw_below_drewN | apply below_drew1 | refine below_set ?_ GE182.out) | exact HB.out)⟩⟩
            · rw [if_neg c13] at H
              exact absurd H (by simp)
      · rw [if_neg c3] at H
        have c3b0 : (t181 == 0) = false := beq_eq_false_iff_ne.mpr c3
        have c3b1 : (t181 != 0) = true := bne_iff_ne.mpr c3
        simp only [Option.some.injEq, Prod.mk.injEq] at H
        obtain ⟨rfl, rfl, rfl⟩ := H
        go_wp2_with (first | (go_at_call 13; (with_reducible refine (tok_Next.calls k1 a0 x6_1 t176 t177 t178 t179 t180 t181 _ ?side1 A2.out).mono ?_); (case side1 => exact GW.below (by repeat (first | (with_reducible first | exact HB.out | apply below_alloc | apply pw_below_drewN | apply below_drew1) | exact HB.out)) HG.out); rintro e w19 ⟨rfl, hb⟩; have n0_ := Aside0.mk (Kd.R_below (by (with_reducible repeat (first | apply Kd.R_alloc | apply Kd.R_drewN | apply Kd.R_drew)); exact HO_5.out) hb); have n1_ := Aside0.mk (below_step (by repeat (first | (with_reducible first | exact HB.out | apply below_alloc | apply pw_below_drewN | apply below_drew1) | exact HB.out)) hb); clear HO_5; clear HB; have HO_5 := n0_; have HB := n1_; clear n0_ n1_; (try clear hb); (try clear hb2); (try clear hk); (try clear hi)) | ((with_reducible refine gate_dst (N := 7) rfl ?_); refine box_event ?hg (N := 7) ?hd (cs := #[.int .i64 0, .int .i64 0, .int .i64 0, .string (⟨#[]⟩ : ByteArray)]) (t := 31) ?hr ?_; (case hd => rfl); (case hg => rfl); (case hr => first | (go_simp; done) | (go_simp; rfl)); intro gb182 hg w20 hbox hb; have n0_ := Aside0.mk (Kd.R_below (Kd.R_elderB (by (with_reducible repeat (first | apply Kd.R_alloc | apply Kd.R_drewN | apply Kd.R_drew)); exact HO_5.out) gb182 (Nat.le_of_eq hg.symm)) hb); have n1_ := Aside0.mk (below_step (by repeat (first | (with_reducible first | exact HB.out | apply below_alloc | apply pw_below_drewN | apply below_drew1) | exact HB.out)) hb); have n2_ := Aside0.mk (hbox); have n3_ := Aside0.mk ((by rw [hg]; exact (below_size (by repeat (first | (with_reducible first | exact HB.out | apply below_alloc | apply pw_below_drewN | apply below_drew1) | exact HB.out))) : w.heap.size ≤ gb182)); have n4_ := Aside0.mk ((by rw [hg]; exact (below_size (by repeat (first | (with_reducible first | exact HB.out | apply below_alloc | apply pw_below_drewN | apply below_drew1) | exact HB.out))) : w.heap.size ≤ gb182)); clear HO_5; clear HB; have HO_5 := n0_; have HB := n1_; have BK182 := n2_; have GW182 := n3_; have GE182 := n4_; clear n0_ n1_ n2_ n3_ n4_; clear hb hbox hg; have hcz21_0 : w20.cell? ⟨gb182, 0, none⟩ = some (.int .i64 0) := (blk_cell BK182.out 0).trans rfl; have hcz21_1 : w20.cell? ⟨gb182, 1, none⟩ = some (.int .i64 0) := (blk_cell BK182.out 1).trans rfl; have hcz21_2 : w20.cell? ⟨gb182, 2, none⟩ = some (.int .i64 0) := (blk_cell BK182.out 2).trans rfl; have hcz21_3 : w20.cell? ⟨gb182, 3, none⟩ = some (.string (⟨#[]⟩ : ByteArray)) := (blk_cell BK182.out 3).trans rfl; have hfz21_0 := blk_frozen BK182.out 0; have hfz21_1 := blk_frozen BK182.out 1; have hfz21_2 := blk_frozen BK182.out 2; have hfz21_3 := blk_frozen BK182.out 3))
        repeat (go_quiet (first | (go_at_call 13; (with_reducible refine (tok_Next.calls k1 a0 x6_1 t176 t177 t178 t179 t180 t181 _ ?side1 A2.out).mono ?_); (case side1 => exact GW.below (by repeat (first | (with_reducible first | exact HB.out | apply below_alloc | apply pw_below_drewN | apply below_drew1) | exact HB.out)) HG.out); rintro e w19 ⟨rfl, hb⟩; have n0_ := Aside0.mk (Kd.R_below (by (with_reducible repeat (first | apply Kd.R_alloc | apply Kd.R_drewN | apply Kd.R_drew)); exact HO_5.out) hb); have n1_ := Aside0.mk (below_step (by repeat (first | (with_reducible first | exact HB.out | apply below_alloc | apply pw_below_drewN | apply below_drew1) | exact HB.out)) hb); clear HO_5; clear HB; have HO_5 := n0_; have HB := n1_; clear n0_ n1_; (try clear hb); (try clear hb2); (try clear hk); (try clear hi)) | ((with_reducible refine gate_dst (N := 7) rfl ?_); refine box_event ?hg (N := 7) ?hd (cs := #[.int .i64 0, .int .i64 0, .int .i64 0, .string (⟨#[]⟩ : ByteArray)]) (t := 31) ?hr ?_; (case hd => rfl); (case hg => rfl); (case hr => first | (go_simp; done) | (go_simp; rfl)); intro gb182 hg w20 hbox hb; have n0_ := Aside0.mk (Kd.R_below (Kd.R_elderB (by (with_reducible repeat (first | apply Kd.R_alloc | apply Kd.R_drewN | apply Kd.R_drew)); exact HO_5.out) gb182 (Nat.le_of_eq hg.symm)) hb); have n1_ := Aside0.mk (below_step (by repeat (first | (with_reducible first | exact HB.out | apply below_alloc | apply pw_below_drewN | apply below_drew1) | exact HB.out)) hb); have n2_ := Aside0.mk (hbox); have n3_ := Aside0.mk ((by rw [hg]; exact (below_size (by repeat (first | (with_reducible first | exact HB.out | apply below_alloc | apply pw_below_drewN | apply below_drew1) | exact HB.out))) : w.heap.size ≤ gb182)); have n4_ := Aside0.mk ((by rw [hg]; exact (below_size (by repeat (first | (with_reducible first | exact HB.out | apply below_alloc | apply pw_below_drewN | apply below_drew1) | exact HB.out))) : w.heap.size ≤ gb182)); clear HO_5; clear HB; have HO_5 := n0_; have HB := n1_; have BK182 := n2_; have GW182 := n3_; have GE182 := n4_; clear n0_ n1_ n2_ n3_ n4_; clear hb hbox hg; have hcz21_0 : w20.cell? ⟨gb182, 0, none⟩ = some (.int .i64 0) := (blk_cell BK182.out 0).trans rfl; have hcz21_1 : w20.cell? ⟨gb182, 1, none⟩ = some (.int .i64 0) := (blk_cell BK182.out 1).trans rfl; have hcz21_2 : w20.cell? ⟨gb182, 2, none⟩ = some (.int .i64 0) := (blk_cell BK182.out 2).trans rfl; have hcz21_3 : w20.cell? ⟨gb182, 3, none⟩ = some (.string (⟨#[]⟩ : ByteArray)) := (blk_cell BK182.out 3).trans rfl; have hfz21_0 := blk_frozen BK182.out 0; have hfz21_1 := blk_frozen BK182.out 1; have hfz21_2 := blk_frozen BK182.out 2; have hfz21_3 := blk_frozen BK182.out 3)); try go_wp2_with (first | (go_at_call 13; (with_reducible refine (tok_Next.calls k1 a0 x6_1 t176 t177 t178 t179 t180 t181 _ ?side1 A2.out).mono ?_); (case side1 => exact GW.below (by repeat (first | (with_reducible first | exact HB.out | apply below_alloc | apply pw_below_drewN | apply below_drew1) | exact HB.out)) HG.out); rintro e w19 ⟨rfl, hb⟩; have n0_ := Aside0.mk (Kd.R_below (by (with_reducible repeat (first | apply Kd.R_alloc | apply Kd.R_drewN | apply Kd.R_drew)); exact HO_5.out) hb); have n1_ := Aside0.mk (below_step (by repeat (first | (with_reducible first | exact HB.out | apply below_alloc | apply pw_below_drewN | apply below_drew1) | exact HB.out)) hb); clear HO_5; clear HB; have HO_5 := n0_; have HB := n1_; clear n0_ n1_; (try clear hb); (try clear hb2); (try clear hk); (try clear hi)) | ((with_reducible refine gate_dst (N := 7) rfl ?_); refine box_event ?hg (N := 7) ?hd (cs := #[.int .i64 0, .int .i64 0, .int .i64 0, .string (⟨#[]⟩ : ByteArray)]) (t := 31) ?hr ?_; (case hd => rfl); (case hg => rfl); (case hr => first | (go_simp; done) | (go_simp; rfl)); intro gb182 hg w20 hbox hb; have n0_ := Aside0.mk (Kd.R_below (Kd.R_elderB (by (with_reducible repeat (first | apply Kd.R_alloc | apply Kd.R_drewN | apply Kd.R_drew)); exact HO_5.out) gb182 (Nat.le_of_eq hg.symm)) hb); have n1_ := Aside0.mk (below_step (by repeat (first | (with_reducible first | exact HB.out | apply below_alloc | apply pw_below_drewN | apply below_drew1) | exact HB.out)) hb); have n2_ := Aside0.mk (hbox); have n3_ := Aside0.mk ((by rw [hg]; exact (below_size (by repeat (first | (with_reducible first | exact HB.out | apply below_alloc | apply pw_below_drewN | apply below_drew1) | exact HB.out))) : w.heap.size ≤ gb182)); have n4_ := Aside0.mk ((by rw [hg]; exact (below_size (by repeat (first | (with_reducible first | exact HB.out | apply below_alloc | apply pw_below_drewN | apply below_drew1) | exact HB.out))) : w.heap.size ≤ gb182)); clear HO_5; clear HB; have HO_5 := n0_; have HB := n1_; have BK182 := n2_; have GW182 := n3_; have GE182 := n4_; clear n0_ n1_ n2_ n3_ n4_; clear hb hbox hg; have hcz21_0 : w20.cell? ⟨gb182, 0, none⟩ = some (.int .i64 0) := (blk_cell BK182.out 0).trans rfl; have hcz21_1 : w20.cell? ⟨gb182, 1, none⟩ = some (.int .i64 0) := (blk_cell BK182.out 1).trans rfl; have hcz21_2 : w20.cell? ⟨gb182, 2, none⟩ = some (.int .i64 0) := (blk_cell BK182.out 2).trans rfl; have hcz21_3 : w20.cell? ⟨gb182, 3, none⟩ = some (.string (⟨#[]⟩ : ByteArray)) := (blk_cell BK182.out 3).trans rfl; have hfz21_0 := blk_frozen BK182.out 0; have hfz21_1 := blk_frozen BK182.out 1; have hfz21_2 := blk_frozen BK182.out 2; have hfz21_3 := blk_frozen BK182.out 3)))
        go_ret3
        exact ⟨_, by first | rfl | (simp [errW_none, errW_some] <;> rfl) | (simp [*, errW_none, errW_some] <;> rfl), by first | exact Kd.R_nil _ _ _ _ _ | exact Kd.N_nil _ _ _ _ _ | exact Kd.V_nil _ _ _ _ _ | exact Kd.Q_nil _ _ _ _ _ | exact Kd.S_nil _ _ _ _ _, by repeat (first | (with_reducible first | exact HB.out | apply below_alloc | apply pw_below_drewN | apply below_drew1 | refine below_set ?_ GE182.out) | exact HB.out)⟩
end Go.Proofs.YtfdikkdbmlcjiaaGreatDoor.M
end
section
/- Laid by this session's program hbprint.py out of the translation: the equality of structs of one type. -/
namespace Go.Proofs.YtfdikkdbmlcjiaaGreatDoor.M
open Go.RowKit Go.Proofs.YtfdikkdbmlcjiaaGreatDoorW.PrintWords Go.Proofs.YtfdikkdbmlcjiaaGreatDoorW.PrintLast Go.Proofs.YtfdikkdbmlcjiaaGreatDoorW.PrintMore
attribute [local go_sem] max2_int min2_int max_two min_two max_three min_three max_four min_four
set_option linter.unusedVariables false
set_option linter.unusedSimpArgs false
theorem eqA31 (d : Nat) (w : World) (x0 y0 : Int) (x1 y1 : Int) (x2 y2 : Int) (x3 y3 : ByteArray) :
    (Op.equalIn (d + 2) 31 (.agg #[.int .i64 x0, .int .i64 x1, .int .i64 x2, .string x3]) (.agg #[.int .i64 y0, .int .i64 y1, .int .i64 y2, .string y3])).run Tryz.prog w = .ok (x0 == y0 && (x1 == y1 && (x2 == y2 && (x3.toList == y3.toList)))) w := by
  refine eqA_of Tryz.underlying31 (by kernel_rfl) ?_
  refine eqf_cons (by rfl) (by go_simp; rfl) (by go_simp; rfl) (by go_simp) ?_
  refine eqf_cons (by rfl) (by go_simp; rfl) (by go_simp; rfl) (by go_simp) ?_
  refine eqf_cons (by rfl) (by go_simp; rfl) (by go_simp; rfl) (by go_simp) ?_
  exact eqf_last (by rfl) (by go_simp; rfl) (by go_simp; rfl) (by go_simp)
end Go.Proofs.YtfdikkdbmlcjiaaGreatDoor.M
end
section
/- Laid by this session's program hbprint.py out of the translation: the function hornbook/hornbooklaw04.awake and its contract. -/
namespace Go.Proofs.YtfdikkdbmlcjiaaGreatDoor.M
open Go.RowKit Go.Proofs.YtfdikkdbmlcjiaaGreatDoorW.PrintWords Go.Proofs.YtfdikkdbmlcjiaaGreatDoorW.PrintLast Go.Proofs.YtfdikkdbmlcjiaaGreatDoorW.PrintMore
attribute [local go_sem] max2_int min2_int max_two min_two max_three min_three max_four min_four
set_option linter.unusedVariables false
set_option linter.unusedSimpArgs false
attribute [local go_sem high] eqA31
def hornbooklaw04_awake.f (k : Nat)  : Option (Bool) := (tok_All.f k (⟨#[50, 32, 47, 97, 35, 50, 48, 98, 32, 60, 52, 65, 53, 62]⟩ : ByteArray)).bind fun bt194 => (if bt194.2.2 = 0 then (if bt194.2.1 = 14 then (if (bt194.1.length : Int) = 3 then (if 0 < (bt194.1.length : Int) then (if (((rd_T31 bt194.1 0).f0) == 1 && (((rd_T31 bt194.1 0).f1) == 0 && (((rd_T31 bt194.1 0).f2) == 2 && ((((rd_T31 bt194.1 0).f3).toList) == ([] : List UInt8))))) = true then (if 1 < (bt194.1.length : Int) then (if (((rd_T31 bt194.1 1).f0) == 2 && (((rd_T31 bt194.1 1).f1) == 2 && (((rd_T31 bt194.1 1).f2) == 0 && ((((rd_T31 bt194.1 1).f3).toList) == ([97, 32, 98] : List UInt8))))) = true then (if 2 < (bt194.1.length : Int) then (if ((rd_T31 bt194.1 2).f3).toList = ([74, 80] : List UInt8) then ((tok_Text.f k bt194.1).bind fun t202 => (some (t202.toList == ([50, 32, 47, 97, 35, 50, 48, 98, 32, 60, 52, 65, 53, 48, 62] : List UInt8)))) else (some false)) else (none)) else (some false)) else (none)) else (some false)) else (none)) else (some false)) else (some false)) else (some false))
theorem hornbooklaw04_awake.mono : ∀ k, LeO (hornbooklaw04_awake.f k ) (hornbooklaw04_awake.f (k + 1) ) := by
  intro  k
  unfold hornbooklaw04_awake.f
  repeat' first
      | (with_reducible exact tok_All.mono _ _)
      | (with_reducible exact tok_Text.mono _ _)
      | (with_reducible exact LeO.refl _)
      | (with_reducible exact LeO.none _)
      | (with_reducible refine LeO.ite ?_ ?_)
      | (with_reducible refine LeO.bind ?_ (fun _ => ?_))
      | exact tok_All.mono _ _
      | exact tok_Text.mono _ _
      | exact LeO.none _
      | refine LeO.ite ?_ ?_
      | refine LeO.bind ?_ (fun _ => ?_)
set_option maxHeartbeats 8000000 in
set_option maxRecDepth 100000 in
theorem hornbooklaw04_awake.calls (k : Nat)  (r : Bool) (w : World) (hG : GW w) (h : hornbooklaw04_awake.f k  = some r) :
    Calls Tryz.prog 8 #[] w fun e w' => e = .returned (.bool r) ∧ Below w.heap.size w w' := by
  have hu31 := Tryz.underlying31
  have HG := Aside0.mk hG
  clear hG
  have HB := Aside0.mk (Below.refl w.heap.size w)
  have H : ((tok_All.f k (⟨#[50, 32, 47, 97, 35, 50, 48, 98, 32, 60, 52, 65, 53, 62]⟩ : ByteArray)).bind fun bt194 => (if bt194.2.2 = 0 then (if bt194.2.1 = 14 then (if (bt194.1.length : Int) = 3 then (if 0 < (bt194.1.length : Int) then (if (((rd_T31 bt194.1 0).f0) == 1 && (((rd_T31 bt194.1 0).f1) == 0 && (((rd_T31 bt194.1 0).f2) == 2 && ((((rd_T31 bt194.1 0).f3).toList) == ([] : List UInt8))))) = true then (if 1 < (bt194.1.length : Int) then (if (((rd_T31 bt194.1 1).f0) == 2 && (((rd_T31 bt194.1 1).f1) == 2 && (((rd_T31 bt194.1 1).f2) == 0 && ((((rd_T31 bt194.1 1).f3).toList) == ([97, 32, 98] : List UInt8))))) = true then (if 2 < (bt194.1.length : Int) then (if ((rd_T31 bt194.1 2).f3).toList = ([74, 80] : List UInt8) then ((tok_Text.f k bt194.1).bind fun t202 => (some (t202.toList == ([50, 32, 47, 97, 35, 50, 48, 98, 32, 60, 52, 65, 53, 48, 62] : List UInt8)))) else (some false)) else (none)) else (some false)) else (none)) else (some false)) else (none)) else (some false)) else (some false)) else (some false))) = some r := h
  clear h
  replace H := Option.bind_eq_some_iff.mp H
  obtain ⟨⟨t194, t195, t196⟩, A10, H⟩ := H
  replace H : (if t196 = 0 then (if t195 = 14 then (if (t194.length : Int) = 3 then (if 0 < (t194.length : Int) then (if (((rd_T31 t194 0).f0) == 1 && (((rd_T31 t194 0).f1) == 0 && (((rd_T31 t194 0).f2) == 2 && ((((rd_T31 t194 0).f3).toList) == ([] : List UInt8))))) = true then (if 1 < (t194.length : Int) then (if (((rd_T31 t194 1).f0) == 2 && (((rd_T31 t194 1).f1) == 2 && (((rd_T31 t194 1).f2) == 0 && ((((rd_T31 t194 1).f3).toList) == ([97, 32, 98] : List UInt8))))) = true then (if 2 < (t194.length : Int) then (if ((rd_T31 t194 2).f3).toList = ([74, 80] : List UInt8) then ((tok_Text.f k t194).bind fun t202 => (some (t202.toList == ([50, 32, 47, 97, 35, 50, 48, 98, 32, 60, 52, 65, 53, 48, 62] : List UInt8)))) else (some false)) else (none)) else (some false)) else (none)) else (some false)) else (none)) else (some false)) else (some false)) else (some false)) = some r := H
  have A1 := Aside0.mk A10
  clear A10
  by_cases c2 : t196 = 0
  · rw [if_pos c2] at H
    have c2b0 : (t196 == 0) = true := beq_iff_eq.mpr c2
    have c2b1 : (t196 != 0) = false := bne_eq_false_iff_eq.mpr c2
    clear c2
    by_cases c3 : t195 = 14
    · rw [if_pos c3] at H
      have c3b0 : (t195 == 14) = true := beq_iff_eq.mpr c3
      have c3b1 : (t195 != 14) = false := bne_eq_false_iff_eq.mpr c3
      clear c3
      by_cases c4 : (t194.length : Int) = 3
      · rw [if_pos c4] at H
        have c4b0 : ((t194.length : Int) == 3) = true := beq_iff_eq.mpr c4
        have c4b1 : ((t194.length : Int) != 3) = false := bne_eq_false_iff_eq.mpr c4
        clear c4
        by_cases c5 : 0 < (t194.length : Int)
        · rw [if_pos c5] at H
          have c5b0 : decide (0 < (t194.length : Int)) = true := decide_eq_true c5
          have c5b1 : decide (0 < t194.length) = true := decide_eq_true (by omega)
          clear c5
          by_cases c6 : (((rd_T31 t194 0).f0) == 1 && (((rd_T31 t194 0).f1) == 0 && (((rd_T31 t194 0).f2) == 2 && ((((rd_T31 t194 0).f3).toList) == ([] : List UInt8))))) = true
          · rw [if_pos c6] at H
            have c6b0 : (((rd_T31 t194 0).f0) == 1 && (((rd_T31 t194 0).f1) == 0 && (((rd_T31 t194 0).f2) == 2 && ((((rd_T31 t194 0).f3).toList) == ([] : List UInt8))))) = true := c6
            (try (have c6b1 : decide (((rd_T31 t194 0).f0) = 1 && (((rd_T31 t194 0).f1) == 0 && (((rd_T31 t194 0).f2) == 2 && ((((rd_T31 t194 0).f3).toList) == ([] : List UInt8))))) = true := by simpa using c6))
            (try (have c6b2 : (((rd_T31 t194 0).f0) == 1 && (((rd_T31 t194 0).f1) == 0 && (((rd_T31 t194 0).f2) == 2 && ((((rd_T31 t194 0).f3).toList) == ([] : List UInt8))))) = true := by simpa using c6))
            (try (have c6b3 : ((((rd_T31 t194 0).f0) = 1 ∧ (((rd_T31 t194 0).f1) = 0 ∧ (((rd_T31 t194 0).f2) = 2 ∧ ((((rd_T31 t194 0).f3).toList) = ([] : List UInt8)))))) = True := eq_true (by simpa using c6)))
            (try (have c6b4 : (((rd_T31 t194 0).f0) = 1 ∧ (((rd_T31 t194 0).f1) = 0 ∧ (((rd_T31 t194 0).f2) = 2 ∧ ((((rd_T31 t194 0).f3).toList) = ([] : List UInt8))))) := by simpa using c6))
            clear c6
            by_cases c7 : 1 < (t194.length : Int)
            · rw [if_pos c7] at H
              have c7b0 : decide (1 < (t194.length : Int)) = true := decide_eq_true c7
              have c7b1 : decide (1 < t194.length) = true := decide_eq_true (by omega)
              clear c7
              by_cases c8 : (((rd_T31 t194 1).f0) == 2 && (((rd_T31 t194 1).f1) == 2 && (((rd_T31 t194 1).f2) == 0 && ((((rd_T31 t194 1).f3).toList) == ([97, 32, 98] : List UInt8))))) = true
              · rw [if_pos c8] at H
                have c8b0 : (((rd_T31 t194 1).f0) == 2 && (((rd_T31 t194 1).f1) == 2 && (((rd_T31 t194 1).f2) == 0 && ((((rd_T31 t194 1).f3).toList) == ([97, 32, 98] : List UInt8))))) = true := c8
                (try (have c8b1 : decide (((rd_T31 t194 1).f0) = 2 && (((rd_T31 t194 1).f1) == 2 && (((rd_T31 t194 1).f2) == 0 && ((((rd_T31 t194 1).f3).toList) == ([97, 32, 98] : List UInt8))))) = true := by simpa using c8))
                (try (have c8b2 : (((rd_T31 t194 1).f0) == 2 && (((rd_T31 t194 1).f1) == 2 && (((rd_T31 t194 1).f2) == 0 && ((((rd_T31 t194 1).f3).toList) == ([97, 32, 98] : List UInt8))))) = true := by simpa using c8))
                (try (have c8b3 : ((((rd_T31 t194 1).f0) = 2 ∧ (((rd_T31 t194 1).f1) = 2 ∧ (((rd_T31 t194 1).f2) = 0 ∧ ((((rd_T31 t194 1).f3).toList) = ([97, 32, 98] : List UInt8)))))) = True := eq_true (by simpa using c8)))
                (try (have c8b4 : (((rd_T31 t194 1).f0) = 2 ∧ (((rd_T31 t194 1).f1) = 2 ∧ (((rd_T31 t194 1).f2) = 0 ∧ ((((rd_T31 t194 1).f3).toList) = ([97, 32, 98] : List UInt8))))) := by simpa using c8))
                clear c8
                by_cases c9 : 2 < (t194.length : Int)
                · rw [if_pos c9] at H
                  have c9b0 : decide (2 < (t194.length : Int)) = true := decide_eq_true c9
                  have c9b1 : decide (2 < t194.length) = true := decide_eq_true (by omega)
                  clear c9
                  by_cases c10 : ((rd_T31 t194 2).f3).toList = ([74, 80] : List UInt8)
                  · rw [if_pos c10] at H
                    have c10b0 : (((rd_T31 t194 2).f3).toList == ([74, 80] : List UInt8)) = true := beq_iff_eq.mpr c10
                    have c10b1 : (((rd_T31 t194 2).f3).toList != ([74, 80] : List UInt8)) = false := bne_eq_false_iff_eq.mpr c10
                    clear c10
                    replace H := Option.bind_eq_some_iff.mp H
                    obtain ⟨t202, A110, H⟩ := H
                    replace H : (some (t202.toList == ([50, 32, 47, 97, 35, 50, 48, 98, 32, 60, 52, 65, 53, 48, 62] : List UInt8))) = some r := H
                    have A11 := Aside0.mk A110
                    clear A110
                    obtain rfl := Option.some.inj H
                    go_enter Tryz.func8, Tryz.ntmps8
                    go_wp2_with (first | ((with_reducible refine gate_callee (f := 9) rfl ?_); refine goesL_ (some 5) rfl rfl Tryz.func9 (by kernel_rfl) rfl #[.string (⟨#[50, 32, 47, 97, 35, 50, 48, 98, 32, 60, 52, 65, 53, 62]⟩ : ByteArray)] rfl (by (try simp only [List.map_toArray, List.map_cons, List.map_nil]); first | done | rfl | (simp only [List.length_drop, List.length_take]; rfl)) ?_; (with_reducible refine (tok_All.calls k (⟨#[50, 32, 47, 97, 35, 50, 48, 98, 32, 60, 52, 65, 53, 62]⟩ : ByteArray) t194 t195 t196 _ ?side1 A1.out).mono ?_); (case side1 => exact GW.below (by repeat (first | (with_reducible first | exact HB.out | apply below_alloc | apply pw_below_drewN | apply below_drew1) | exact HB.out)) HG.out); rintro e w12 ⟨v197, rfl, ho0, hb⟩; refine ⟨_, rfl, ?_⟩; have n0_ := Aside0.mk (Kd.R_lower ho0 (below_size (by repeat (first | (with_reducible first | exact HB.out | apply below_alloc | apply pw_below_drewN | apply below_drew1) | exact HB.out)))); have n1_ := Aside0.mk (below_step (by repeat (first | (with_reducible first | exact HB.out | apply below_alloc | apply pw_below_drewN | apply below_drew1) | exact HB.out)) hb); clear HB; have HO198 := n0_; have HB := n1_; clear n0_ n1_; (try clear hb); (try clear hb2); (try clear hk); (try clear hi); (try clear ho0); obtain ⟨Ao13, co13, eo13⟩ := Kd.R_slice HO198.out; subst eo13; have p199 : 0 ≤ (0 : Int) := (by omega); have q199 : 0 < (t194.length : Int) := of_decide_eq_true (by first | (with_reducible assumption) | assumption); obtain ⟨ad199, e199, hx199_0, hx199_1, hx199_2, hx199_3⟩ := at_T31 (Kd.R_reads' HO198.out).2.2 0 p199 q199; cases e199; have qi199 : (0 < t194.length) = True := eq_true (by omega); (try rw [show ((0 : Int)).toNat = 0 from rfl] at hx199_0); (try rw [show 0 * 4 = 0 from rfl] at hx199_0); (try rw [Addr.add_zero'] at hx199_0); (try rw [show ((0 : Int)).toNat = 0 from rfl] at hx199_1); (try rw [show 0 * 4 = 0 from rfl] at hx199_1); (try rw [Addr.add_zero'] at hx199_1); (try rw [show ((0 : Int)).toNat = 0 from rfl] at hx199_2); (try rw [show 0 * 4 = 0 from rfl] at hx199_2); (try rw [Addr.add_zero'] at hx199_2); (try rw [show ((0 : Int)).toNat = 0 from rfl] at hx199_3); (try rw [show 0 * 4 = 0 from rfl] at hx199_3); (try rw [Addr.add_zero'] at hx199_3); replace p199 := eq_true p199; replace q199 := eq_true q199; have p200 : 0 ≤ (1 : Int) := (by omega); have q200 : 1 < (t194.length : Int) := of_decide_eq_true (by first | (with_reducible assumption) | assumption); obtain ⟨ad200, e200, hx200_0, hx200_1, hx200_2, hx200_3⟩ := at_T31 (Kd.R_reads' HO198.out).2.2 1 p200 q200; obtain rfl : ad199 = ad200 := (by injection e200); (try simp only [show (1 : Int).toNat = 1 from rfl, Nat.reduceMul, Nat.reduceEqDiff, Go.Addr.add, ↓reduceIte] at hx200_0); (try simp only [show (1 : Int).toNat = 1 from rfl, Nat.reduceMul, Nat.reduceEqDiff, Go.Addr.add, ↓reduceIte] at hx200_1); (try simp only [show (1 : Int).toNat = 1 from rfl, Nat.reduceMul, Nat.reduceEqDiff, Go.Addr.add, ↓reduceIte] at hx200_2); (try simp only [show (1 : Int).toNat = 1 from rfl, Nat.reduceMul, Nat.reduceEqDiff, Go.Addr.add, ↓reduceIte] at hx200_3); have qi200 : (1 < t194.length) = True := eq_true (by omega); (try rw [show ((1 : Int)).toNat = 1 from rfl] at hx200_0); (try rw [show 1 * 4 = 4 from rfl] at hx200_0); (try rw [show ((1 : Int)).toNat = 1 from rfl] at hx200_1); (try rw [show 1 * 4 = 4 from rfl] at hx200_1); (try rw [show ((1 : Int)).toNat = 1 from rfl] at hx200_2); (try rw [show 1 * 4 = 4 from rfl] at hx200_2); (try rw [show ((1 : Int)).toNat = 1 from rfl] at hx200_3); (try rw [show 1 * 4 = 4 from rfl] at hx200_3); replace p200 := eq_true p200; replace q200 := eq_true q200; have p201 : 0 ≤ (2 : Int) := (by omega); have q201 : 2 < (t194.length : Int) := of_decide_eq_true (by first | (with_reducible assumption) | assumption); obtain ⟨ad201, e201, hx201_0, hx201_1, hx201_2, hx201_3⟩ := at_T31 (Kd.R_reads' HO198.out).2.2 2 p201 q201; obtain rfl : ad199 = ad201 := (by injection e201); (try simp only [show (2 : Int).toNat = 2 from rfl, Nat.reduceMul, Nat.reduceEqDiff, Go.Addr.add, ↓reduceIte] at hx201_0); (try simp only [show (2 : Int).toNat = 2 from rfl, Nat.reduceMul, Nat.reduceEqDiff, Go.Addr.add, ↓reduceIte] at hx201_1); (try simp only [show (2 : Int).toNat = 2 from rfl, Nat.reduceMul, Nat.reduceEqDiff, Go.Addr.add, ↓reduceIte] at hx201_2); (try simp only [show (2 : Int).toNat = 2 from rfl, Nat.reduceMul, Nat.reduceEqDiff, Go.Addr.add, ↓reduceIte] at hx201_3); have qi201 : (2 < t194.length) = True := eq_true (by omega); (try rw [show ((2 : Int)).toNat = 2 from rfl] at hx201_0); (try rw [show 2 * 4 = 8 from rfl] at hx201_0); (try rw [show ((2 : Int)).toNat = 2 from rfl] at hx201_1); (try rw [show 2 * 4 = 8 from rfl] at hx201_1); (try rw [show ((2 : Int)).toNat = 2 from rfl] at hx201_2); (try rw [show 2 * 4 = 8 from rfl] at hx201_2); (try rw [show ((2 : Int)).toNat = 2 from rfl] at hx201_3); (try rw [show 2 * 4 = 8 from rfl] at hx201_3); replace p201 := eq_true p201; replace q201 := eq_true q201) | (go_at_call 10; (with_reducible refine (tok_Text.calls k _ _ t194 t202 _ ?side1 ?side2 ?side3 A11.out).mono ?_); (case side1 => exact GW.below (by repeat (first | (with_reducible first | exact HB.out | apply below_alloc | apply pw_below_drewN | apply below_drew1) | exact HB.out)) HG.out); (case side2 => repeat (first | exact (Kd.R_reads' HO198.out).2.2 | (with_reducible refine Kd.C_alloc ?_ _) | (with_reducible refine Kd.C_drewN ?_ _) | (with_reducible refine Kd.C_drew ?_))); (case side3 => exact (Kd.R_reads' HO198.out).2.1); rintro e w14 ⟨rfl, hb⟩; have n0_ := Aside0.mk (Kd.R_below (by (with_reducible repeat (first | apply Kd.R_alloc | apply Kd.R_drewN | apply Kd.R_drew)); exact HO198.out) hb); have n1_ := Aside0.mk (below_step (by repeat (first | (with_reducible first | exact HB.out | apply below_alloc | apply pw_below_drewN | apply below_drew1) | exact HB.out)) hb); clear HO198; clear HB; have HO198 := n0_; have HB := n1_; clear n0_ n1_; (try clear hb); (try clear hb2); (try clear hk); (try clear hi)))
                    go_ret
                    exact ⟨by first | rfl | (simp [errW_none, errW_some] <;> rfl) | (simp [*, errW_none, errW_some] <;> rfl), by repeat (first | (with_reducible first | exact HB.out | apply below_alloc | apply pw_below_drewN | apply below_drew1) | exact HB.out)⟩
                  · rw [if_neg c10] at H
                    have c10b0 : (((rd_T31 t194 2).f3).toList == ([74, 80] : List UInt8)) = false := beq_eq_false_iff_ne.mpr c10
                    have c10b1 : (((rd_T31 t194 2).f3).toList != ([74, 80] : List UInt8)) = true := bne_iff_ne.mpr c10
                    obtain rfl := Option.some.inj H
                    go_enter Tryz.func8, Tryz.ntmps8
                    go_wp2_with (first | ((with_reducible refine gate_callee (f := 9) rfl ?_); refine goesL_ (some 5) rfl rfl Tryz.func9 (by kernel_rfl) rfl #[.string (⟨#[50, 32, 47, 97, 35, 50, 48, 98, 32, 60, 52, 65, 53, 62]⟩ : ByteArray)] rfl (by (try simp only [List.map_toArray, List.map_cons, List.map_nil]); first | done | rfl | (simp only [List.length_drop, List.length_take]; rfl)) ?_; (with_reducible refine (tok_All.calls k (⟨#[50, 32, 47, 97, 35, 50, 48, 98, 32, 60, 52, 65, 53, 62]⟩ : ByteArray) t194 t195 t196 _ ?side1 A1.out).mono ?_); (case side1 => exact GW.below (by repeat (first | (with_reducible first | exact HB.out | apply below_alloc | apply pw_below_drewN | apply below_drew1) | exact HB.out)) HG.out); rintro e w15 ⟨v197, rfl, ho0, hb⟩; refine ⟨_, rfl, ?_⟩; have n0_ := Aside0.mk (Kd.R_lower ho0 (below_size (by repeat (first | (with_reducible first | exact HB.out | apply below_alloc | apply pw_below_drewN | apply below_drew1) | exact HB.out)))); have n1_ := Aside0.mk (below_step (by repeat (first | (with_reducible first | exact HB.out | apply below_alloc | apply pw_below_drewN | apply below_drew1) | exact HB.out)) hb); clear HB; have HO198 := n0_; have HB := n1_; clear n0_ n1_; (try clear hb); (try clear hb2); (try clear hk); (try clear hi); (try clear ho0); obtain ⟨Ao16, co16, eo16⟩ := Kd.R_slice HO198.out; subst eo16; have p199 : 0 ≤ (0 : Int) := (by omega); have q199 : 0 < (t194.length : Int) := of_decide_eq_true (by first | (with_reducible assumption) | assumption); obtain ⟨ad199, e199, hx199_0, hx199_1, hx199_2, hx199_3⟩ := at_T31 (Kd.R_reads' HO198.out).2.2 0 p199 q199; cases e199; have qi199 : (0 < t194.length) = True := eq_true (by omega); (try rw [show ((0 : Int)).toNat = 0 from rfl] at hx199_0); (try rw [show 0 * 4 = 0 from rfl] at hx199_0); (try rw [Addr.add_zero'] at hx199_0); (try rw [show ((0 : Int)).toNat = 0 from rfl] at hx199_1); (try rw [show 0 * 4 = 0 from rfl] at hx199_1); (try rw [Addr.add_zero'] at hx199_1); (try rw [show ((0 : Int)).toNat = 0 from rfl] at hx199_2); (try rw [show 0 * 4 = 0 from rfl] at hx199_2); (try rw [Addr.add_zero'] at hx199_2); (try rw [show ((0 : Int)).toNat = 0 from rfl] at hx199_3); (try rw [show 0 * 4 = 0 from rfl] at hx199_3); (try rw [Addr.add_zero'] at hx199_3); replace p199 := eq_true p199; replace q199 := eq_true q199; have p200 : 0 ≤ (1 : Int) := (by omega); have q200 : 1 < (t194.length : Int) := of_decide_eq_true (by first | (with_reducible assumption) | assumption); obtain ⟨ad200, e200, hx200_0, hx200_1, hx200_2, hx200_3⟩ := at_T31 (Kd.R_reads' HO198.out).2.2 1 p200 q200; obtain rfl : ad199 = ad200 := (by injection e200); (try simp only [show (1 : Int).toNat = 1 from rfl, Nat.reduceMul, Nat.reduceEqDiff, Go.Addr.add, ↓reduceIte] at hx200_0); (try simp only [show (1 : Int).toNat = 1 from rfl, Nat.reduceMul, Nat.reduceEqDiff, Go.Addr.add, ↓reduceIte] at hx200_1); (try simp only [show (1 : Int).toNat = 1 from rfl, Nat.reduceMul, Nat.reduceEqDiff, Go.Addr.add, ↓reduceIte] at hx200_2); (try simp only [show (1 : Int).toNat = 1 from rfl, Nat.reduceMul, Nat.reduceEqDiff, Go.Addr.add, ↓reduceIte] at hx200_3); have qi200 : (1 < t194.length) = True := eq_true (by omega); (try rw [show ((1 : Int)).toNat = 1 from rfl] at hx200_0); (try rw [show 1 * 4 = 4 from rfl] at hx200_0); (try rw [show ((1 : Int)).toNat = 1 from rfl] at hx200_1); (try rw [show 1 * 4 = 4 from rfl] at hx200_1); (try rw [show ((1 : Int)).toNat = 1 from rfl] at hx200_2); (try rw [show 1 * 4 = 4 from rfl] at hx200_2); (try rw [show ((1 : Int)).toNat = 1 from rfl] at hx200_3); (try rw [show 1 * 4 = 4 from rfl] at hx200_3); replace p200 := eq_true p200; replace q200 := eq_true q200; have p201 : 0 ≤ (2 : Int) := (by omega); have q201 : 2 < (t194.length : Int) := of_decide_eq_true (by first | (with_reducible assumption) | assumption); obtain ⟨ad201, e201, hx201_0, hx201_1, hx201_2, hx201_3⟩ := at_T31 (Kd.R_reads' HO198.out).2.2 2 p201 q201; obtain rfl : ad199 = ad201 := (by injection e201); (try simp only [show (2 : Int).toNat = 2 from rfl, Nat.reduceMul, Nat.reduceEqDiff, Go.Addr.add, ↓reduceIte] at hx201_0); (try simp only [show (2 : Int).toNat = 2 from rfl, Nat.reduceMul, Nat.reduceEqDiff, Go.Addr.add, ↓reduceIte] at hx201_1); (try simp only [show (2 : Int).toNat = 2 from rfl, Nat.reduceMul, Nat.reduceEqDiff, Go.Addr.add, ↓reduceIte] at hx201_2); (try simp only [show (2 : Int).toNat = 2 from rfl, Nat.reduceMul, Nat.reduceEqDiff, Go.Addr.add, ↓reduceIte] at hx201_3); have qi201 : (2 < t194.length) = True := eq_true (by omega); (try rw [show ((2 : Int)).toNat = 2 from rfl] at hx201_0); (try rw [show 2 * 4 = 8 from rfl] at hx201_0); (try rw [show ((2 : Int)).toNat = 2 from rfl] at hx201_1); (try rw [show 2 * 4 = 8 from rfl] at hx201_1); (try rw [show ((2 : Int)).toNat = 2 from rfl] at hx201_2); (try rw [show 2 * 4 = 8 from rfl] at hx201_2); (try rw [show ((2 : Int)).toNat = 2 from rfl] at hx201_3); (try rw [show 2 * 4 = 8 from rfl] at hx201_3); replace p201 := eq_true p201; replace q201 := eq_true q201))
                    go_ret
                    exact ⟨by first | rfl | (simp [errW_none, errW_some] <;> rfl) | (simp [*, errW_none, errW_some] <;> rfl), by repeat (first | (with_reducible first | exact HB.out | apply below_alloc | apply pw_below_drewN | apply below_drew1) | exact HB.out)⟩
                · rw [if_neg c9] at H
                  exact absurd H (by simp)
              · rw [if_neg c8] at H
                have c8b0 : (((rd_T31 t194 1).f0) == 2 && (((rd_T31 t194 1).f1) == 2 && (((rd_T31 t194 1).f2) == 0 && ((((rd_T31 t194 1).f3).toList) == ([97, 32, 98] : List UInt8))))) = false := by simpa using c8
                (try (have c8b1 : decide (((rd_T31 t194 1).f0) = 2 && (((rd_T31 t194 1).f1) == 2 && (((rd_T31 t194 1).f2) == 0 && ((((rd_T31 t194 1).f3).toList) == ([97, 32, 98] : List UInt8))))) = false := by simpa using c8))
                (try (have c8b2 : (((rd_T31 t194 1).f0) == 2 && (((rd_T31 t194 1).f1) == 2 && (((rd_T31 t194 1).f2) == 0 && ((((rd_T31 t194 1).f3).toList) == ([97, 32, 98] : List UInt8))))) = false := by simpa using c8))
                (try (have c8b3 : ¬ (((rd_T31 t194 1).f0) = 2 && (((rd_T31 t194 1).f1) == 2 && (((rd_T31 t194 1).f2) == 0 && ((((rd_T31 t194 1).f3).toList) == ([97, 32, 98] : List UInt8))))) := by simpa using c8))
                (try (have c8b4 : ¬ ((((rd_T31 t194 1).f0) = 2 ∧ (((rd_T31 t194 1).f1) = 2 ∧ (((rd_T31 t194 1).f2) = 0 ∧ ((((rd_T31 t194 1).f3).toList) = ([97, 32, 98] : List UInt8)))))) := by first | simpa using c8 | (intro h_; simp [h_] at c8)))
                clear c8
                obtain rfl := Option.some.inj H
                go_enter Tryz.func8, Tryz.ntmps8
                go_wp2_with (first | ((with_reducible refine gate_callee (f := 9) rfl ?_); refine goesL_ (some 5) rfl rfl Tryz.func9 (by kernel_rfl) rfl #[.string (⟨#[50, 32, 47, 97, 35, 50, 48, 98, 32, 60, 52, 65, 53, 62]⟩ : ByteArray)] rfl (by (try simp only [List.map_toArray, List.map_cons, List.map_nil]); first | done | rfl | (simp only [List.length_drop, List.length_take]; rfl)) ?_; (with_reducible refine (tok_All.calls k (⟨#[50, 32, 47, 97, 35, 50, 48, 98, 32, 60, 52, 65, 53, 62]⟩ : ByteArray) t194 t195 t196 _ ?side1 A1.out).mono ?_); (case side1 => exact GW.below (by repeat (first | (with_reducible first | exact HB.out | apply below_alloc | apply pw_below_drewN | apply below_drew1) | exact HB.out)) HG.out); rintro e w17 ⟨v197, rfl, ho0, hb⟩; refine ⟨_, rfl, ?_⟩; have n0_ := Aside0.mk (Kd.R_lower ho0 (below_size (by repeat (first | (with_reducible first | exact HB.out | apply below_alloc | apply pw_below_drewN | apply below_drew1) | exact HB.out)))); have n1_ := Aside0.mk (below_step (by repeat (first | (with_reducible first | exact HB.out | apply below_alloc | apply pw_below_drewN | apply below_drew1) | exact HB.out)) hb); clear HB; have HO198 := n0_; have HB := n1_; clear n0_ n1_; (try clear hb); (try clear hb2); (try clear hk); (try clear hi); (try clear ho0); obtain ⟨Ao18, co18, eo18⟩ := Kd.R_slice HO198.out; subst eo18; have p199 : 0 ≤ (0 : Int) := (by omega); have q199 : 0 < (t194.length : Int) := of_decide_eq_true (by first | (with_reducible assumption) | assumption); obtain ⟨ad199, e199, hx199_0, hx199_1, hx199_2, hx199_3⟩ := at_T31 (Kd.R_reads' HO198.out).2.2 0 p199 q199; cases e199; have qi199 : (0 < t194.length) = True := eq_true (by omega); (try rw [show ((0 : Int)).toNat = 0 from rfl] at hx199_0); (try rw [show 0 * 4 = 0 from rfl] at hx199_0); (try rw [Addr.add_zero'] at hx199_0); (try rw [show ((0 : Int)).toNat = 0 from rfl] at hx199_1); (try rw [show 0 * 4 = 0 from rfl] at hx199_1); (try rw [Addr.add_zero'] at hx199_1); (try rw [show ((0 : Int)).toNat = 0 from rfl] at hx199_2); (try rw [show 0 * 4 = 0 from rfl] at hx199_2); (try rw [Addr.add_zero'] at hx199_2); (try rw [show ((0 : Int)).toNat = 0 from rfl] at hx199_3); (try rw [show 0 * 4 = 0 from rfl] at hx199_3); (try rw [Addr.add_zero'] at hx199_3); replace p199 := eq_true p199; replace q199 := eq_true q199; have p200 : 0 ≤ (1 : Int) := (by omega); have q200 : 1 < (t194.length : Int) := of_decide_eq_true (by first | (with_reducible assumption) | assumption); obtain ⟨ad200, e200, hx200_0, hx200_1, hx200_2, hx200_3⟩ := at_T31 (Kd.R_reads' HO198.out).2.2 1 p200 q200; obtain rfl : ad199 = ad200 := (by injection e200); (try simp only [show (1 : Int).toNat = 1 from rfl, Nat.reduceMul, Nat.reduceEqDiff, Go.Addr.add, ↓reduceIte] at hx200_0); (try simp only [show (1 : Int).toNat = 1 from rfl, Nat.reduceMul, Nat.reduceEqDiff, Go.Addr.add, ↓reduceIte] at hx200_1); (try simp only [show (1 : Int).toNat = 1 from rfl, Nat.reduceMul, Nat.reduceEqDiff, Go.Addr.add, ↓reduceIte] at hx200_2); (try simp only [show (1 : Int).toNat = 1 from rfl, Nat.reduceMul, Nat.reduceEqDiff, Go.Addr.add, ↓reduceIte] at hx200_3); have qi200 : (1 < t194.length) = True := eq_true (by omega); (try rw [show ((1 : Int)).toNat = 1 from rfl] at hx200_0); (try rw [show 1 * 4 = 4 from rfl] at hx200_0); (try rw [show ((1 : Int)).toNat = 1 from rfl] at hx200_1); (try rw [show 1 * 4 = 4 from rfl] at hx200_1); (try rw [show ((1 : Int)).toNat = 1 from rfl] at hx200_2); (try rw [show 1 * 4 = 4 from rfl] at hx200_2); (try rw [show ((1 : Int)).toNat = 1 from rfl] at hx200_3); (try rw [show 1 * 4 = 4 from rfl] at hx200_3); replace p200 := eq_true p200; replace q200 := eq_true q200))
                go_ret
                exact ⟨by first | rfl | (simp [errW_none, errW_some] <;> rfl) | (simp [*, errW_none, errW_some] <;> rfl), by repeat (first | (with_reducible first | exact HB.out | apply below_alloc | apply pw_below_drewN | apply below_drew1) | exact HB.out)⟩
            · rw [if_neg c7] at H
              exact absurd H (by simp)
          · rw [if_neg c6] at H
            have c6b0 : (((rd_T31 t194 0).f0) == 1 && (((rd_T31 t194 0).f1) == 0 && (((rd_T31 t194 0).f2) == 2 && ((((rd_T31 t194 0).f3).toList) == ([] : List UInt8))))) = false := by simpa using c6
            (try (have c6b1 : decide (((rd_T31 t194 0).f0) = 1 && (((rd_T31 t194 0).f1) == 0 && (((rd_T31 t194 0).f2) == 2 && ((((rd_T31 t194 0).f3).toList) == ([] : List UInt8))))) = false := by simpa using c6))
            (try (have c6b2 : (((rd_T31 t194 0).f0) == 1 && (((rd_T31 t194 0).f1) == 0 && (((rd_T31 t194 0).f2) == 2 && ((((rd_T31 t194 0).f3).toList) == ([] : List UInt8))))) = false := by simpa using c6))
            (try (have c6b3 : ¬ (((rd_T31 t194 0).f0) = 1 && (((rd_T31 t194 0).f1) == 0 && (((rd_T31 t194 0).f2) == 2 && ((((rd_T31 t194 0).f3).toList) == ([] : List UInt8))))) := by simpa using c6))
            (try (have c6b4 : ¬ ((((rd_T31 t194 0).f0) = 1 ∧ (((rd_T31 t194 0).f1) = 0 ∧ (((rd_T31 t194 0).f2) = 2 ∧ ((((rd_T31 t194 0).f3).toList) = ([] : List UInt8)))))) := by first | simpa using c6 | (intro h_; simp [h_] at c6)))
            clear c6
            obtain rfl := Option.some.inj H
            go_enter Tryz.func8, Tryz.ntmps8
            go_wp2_with (first | ((with_reducible refine gate_callee (f := 9) rfl ?_); refine goesL_ (some 5) rfl rfl Tryz.func9 (by kernel_rfl) rfl #[.string (⟨#[50, 32, 47, 97, 35, 50, 48, 98, 32, 60, 52, 65, 53, 62]⟩ : ByteArray)] rfl (by (try simp only [List.map_toArray, List.map_cons, List.map_nil]); first | done | rfl | (simp only [List.length_drop, List.length_take]; rfl)) ?_; (with_reducible refine (tok_All.calls k (⟨#[50, 32, 47, 97, 35, 50, 48, 98, 32, 60, 52, 65, 53, 62]⟩ : ByteArray) t194 t195 t196 _ ?side1 A1.out).mono ?_); (case side1 => exact GW.below (by repeat (first | (with_reducible first | exact HB.out | apply below_alloc | apply pw_below_drewN | apply below_drew1) | exact HB.out)) HG.out); rintro e w19 ⟨v197, rfl, ho0, hb⟩; refine ⟨_, rfl, ?_⟩; have n0_ := Aside0.mk (Kd.R_lower ho0 (below_size (by repeat (first | (with_reducible first | exact HB.out | apply below_alloc | apply pw_below_drewN | apply below_drew1) | exact HB.out)))); have n1_ := Aside0.mk (below_step (by repeat (first | (with_reducible first | exact HB.out | apply below_alloc | apply pw_below_drewN | apply below_drew1) | exact HB.out)) hb); clear HB; have HO198 := n0_; have HB := n1_; clear n0_ n1_; (try clear hb); (try clear hb2); (try clear hk); (try clear hi); (try clear ho0); obtain ⟨Ao20, co20, eo20⟩ := Kd.R_slice HO198.out; subst eo20; have p199 : 0 ≤ (0 : Int) := (by omega); have q199 : 0 < (t194.length : Int) := of_decide_eq_true (by first | (with_reducible assumption) | assumption); obtain ⟨ad199, e199, hx199_0, hx199_1, hx199_2, hx199_3⟩ := at_T31 (Kd.R_reads' HO198.out).2.2 0 p199 q199; cases e199; have qi199 : (0 < t194.length) = True := eq_true (by omega); (try rw [show ((0 : Int)).toNat = 0 from rfl] at hx199_0); (try rw [show 0 * 4 = 0 from rfl] at hx199_0); (try rw [Addr.add_zero'] at hx199_0); (try rw [show ((0 : Int)).toNat = 0 from rfl] at hx199_1); (try rw [show 0 * 4 = 0 from rfl] at hx199_1); (try rw [Addr.add_zero'] at hx199_1); (try rw [show ((0 : Int)).toNat = 0 from rfl] at hx199_2); (try rw [show 0 * 4 = 0 from rfl] at hx199_2); (try rw [Addr.add_zero'] at hx199_2); (try rw [show ((0 : Int)).toNat = 0 from rfl] at hx199_3); (try rw [show 0 * 4 = 0 from rfl] at hx199_3); (try rw [Addr.add_zero'] at hx199_3); replace p199 := eq_true p199; replace q199 := eq_true q199))
            go_ret
            exact ⟨by first | rfl | (simp [errW_none, errW_some] <;> rfl) | (simp [*, errW_none, errW_some] <;> rfl), by repeat (first | (with_reducible first | exact HB.out | apply below_alloc | apply pw_below_drewN | apply below_drew1) | exact HB.out)⟩
        · rw [if_neg c5] at H
          exact absurd H (by simp)
      · rw [if_neg c4] at H
        have c4b0 : ((t194.length : Int) == 3) = false := beq_eq_false_iff_ne.mpr c4
        have c4b1 : ((t194.length : Int) != 3) = true := bne_iff_ne.mpr c4
        obtain rfl := Option.some.inj H
        go_enter Tryz.func8, Tryz.ntmps8
        go_wp2_with (first | ((with_reducible refine gate_callee (f := 9) rfl ?_); refine goesL_ (some 5) rfl rfl Tryz.func9 (by kernel_rfl) rfl #[.string (⟨#[50, 32, 47, 97, 35, 50, 48, 98, 32, 60, 52, 65, 53, 62]⟩ : ByteArray)] rfl (by (try simp only [List.map_toArray, List.map_cons, List.map_nil]); first | done | rfl | (simp only [List.length_drop, List.length_take]; rfl)) ?_; (with_reducible refine (tok_All.calls k (⟨#[50, 32, 47, 97, 35, 50, 48, 98, 32, 60, 52, 65, 53, 62]⟩ : ByteArray) t194 t195 t196 _ ?side1 A1.out).mono ?_); (case side1 => exact GW.below (by repeat (first | (with_reducible first | exact HB.out | apply below_alloc | apply pw_below_drewN | apply below_drew1) | exact HB.out)) HG.out); rintro e w21 ⟨v197, rfl, ho0, hb⟩; refine ⟨_, rfl, ?_⟩; have n0_ := Aside0.mk (Kd.R_lower ho0 (below_size (by repeat (first | (with_reducible first | exact HB.out | apply below_alloc | apply pw_below_drewN | apply below_drew1) | exact HB.out)))); have n1_ := Aside0.mk (below_step (by repeat (first | (with_reducible first | exact HB.out | apply below_alloc | apply pw_below_drewN | apply below_drew1) | exact HB.out)) hb); clear HB; have HO198 := n0_; have HB := n1_; clear n0_ n1_; (try clear hb); (try clear hb2); (try clear hk); (try clear hi); (try clear ho0); obtain ⟨Ao22, co22, eo22⟩ := Kd.R_slice HO198.out; subst eo22))
        go_ret
        exact ⟨by first | rfl | (simp [errW_none, errW_some] <;> rfl) | (simp [*, errW_none, errW_some] <;> rfl), by repeat (first | (with_reducible first | exact HB.out | apply below_alloc | apply pw_below_drewN | apply below_drew1) | exact HB.out)⟩
    · rw [if_neg c3] at H
      have c3b0 : (t195 == 14) = false := beq_eq_false_iff_ne.mpr c3
      have c3b1 : (t195 != 14) = true := bne_iff_ne.mpr c3
      obtain rfl := Option.some.inj H
      go_enter Tryz.func8, Tryz.ntmps8
      go_wp2_with (first | ((with_reducible refine gate_callee (f := 9) rfl ?_); refine goesL_ (some 5) rfl rfl Tryz.func9 (by kernel_rfl) rfl #[.string (⟨#[50, 32, 47, 97, 35, 50, 48, 98, 32, 60, 52, 65, 53, 62]⟩ : ByteArray)] rfl (by (try simp only [List.map_toArray, List.map_cons, List.map_nil]); first | done | rfl | (simp only [List.length_drop, List.length_take]; rfl)) ?_; (with_reducible refine (tok_All.calls k (⟨#[50, 32, 47, 97, 35, 50, 48, 98, 32, 60, 52, 65, 53, 62]⟩ : ByteArray) t194 t195 t196 _ ?side1 A1.out).mono ?_); (case side1 => exact GW.below (by repeat (first | (with_reducible first | exact HB.out | apply below_alloc | apply pw_below_drewN | apply below_drew1) | exact HB.out)) HG.out); rintro e w23 ⟨v197, rfl, ho0, hb⟩; refine ⟨_, rfl, ?_⟩; have n0_ := Aside0.mk (Kd.R_lower ho0 (below_size (by repeat (first | (with_reducible first | exact HB.out | apply below_alloc | apply pw_below_drewN | apply below_drew1) | exact HB.out)))); have n1_ := Aside0.mk (below_step (by repeat (first | (with_reducible first | exact HB.out | apply below_alloc | apply pw_below_drewN | apply below_drew1) | exact HB.out)) hb); clear HB; have HO198 := n0_; have HB := n1_; clear n0_ n1_; (try clear hb); (try clear hb2); (try clear hk); (try clear hi); (try clear ho0)))
      go_ret
      exact ⟨by first | rfl | (simp [errW_none, errW_some] <;> rfl) | (simp [*, errW_none, errW_some] <;> rfl), by repeat (first | (with_reducible first | exact HB.out | apply below_alloc | apply pw_below_drewN | apply below_drew1) | exact HB.out)⟩
  · rw [if_neg c2] at H
    have c2b0 : (t196 == 0) = false := beq_eq_false_iff_ne.mpr c2
    have c2b1 : (t196 != 0) = true := bne_iff_ne.mpr c2
    obtain rfl := Option.some.inj H
    go_enter Tryz.func8, Tryz.ntmps8
    go_wp2_with (first | ((with_reducible refine gate_callee (f := 9) rfl ?_); refine goesL_ (some 5) rfl rfl Tryz.func9 (by kernel_rfl) rfl #[.string (⟨#[50, 32, 47, 97, 35, 50, 48, 98, 32, 60, 52, 65, 53, 62]⟩ : ByteArray)] rfl (by (try simp only [List.map_toArray, List.map_cons, List.map_nil]); first | done | rfl | (simp only [List.length_drop, List.length_take]; rfl)) ?_; (with_reducible refine (tok_All.calls k (⟨#[50, 32, 47, 97, 35, 50, 48, 98, 32, 60, 52, 65, 53, 62]⟩ : ByteArray) t194 t195 t196 _ ?side1 A1.out).mono ?_); (case side1 => exact GW.below (by repeat (first | (with_reducible first | exact HB.out | apply below_alloc | apply pw_below_drewN | apply below_drew1) | exact HB.out)) HG.out); rintro e w24 ⟨v197, rfl, ho0, hb⟩; refine ⟨_, rfl, ?_⟩; have n0_ := Aside0.mk (Kd.R_lower ho0 (below_size (by repeat (first | (with_reducible first | exact HB.out | apply below_alloc | apply pw_below_drewN | apply below_drew1) | exact HB.out)))); have n1_ := Aside0.mk (below_step (by repeat (first | (with_reducible first | exact HB.out | apply below_alloc | apply pw_below_drewN | apply below_drew1) | exact HB.out)) hb); clear HB; have HO198 := n0_; have HB := n1_; clear n0_ n1_; (try clear hb); (try clear hb2); (try clear hk); (try clear hi); (try clear ho0)))
    go_ret
    exact ⟨by first | rfl | (simp [errW_none, errW_some] <;> rfl) | (simp [*, errW_none, errW_some] <;> rfl), by repeat (first | (with_reducible first | exact HB.out | apply below_alloc | apply pw_below_drewN | apply below_drew1) | exact HB.out)⟩
end Go.Proofs.YtfdikkdbmlcjiaaGreatDoor.M
end
