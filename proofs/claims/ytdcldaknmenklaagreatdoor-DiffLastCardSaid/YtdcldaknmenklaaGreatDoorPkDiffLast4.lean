/- Packed by this session's program hbpack.py out of this claim's own texts (Q55, Is, Q92, Q56, Q38, Q29, Q30, Q15, Q35, Q189, Q187, Q23): the same declarations, without those that the claim does not use. -/
import Derived.Test.YtdcldaknmenklaaGreatDoorPkDiffLast3
import Derived.WalkMore
import Derived.ScopeJumps
import Derived.LaidEql
import Derived.Stop.Asserts
import Derived.RowKitTokens
import Derived.Lib.AppendIntMem
import Derived.Laws.BitsLemmas
section
namespace Go.Proofs.YtdcldaknmenklaaGreatDoor.M
open Go.RowKit Go.Proofs.YtdcldaknmenklaaGreatDoorW.PrintWords Go.Proofs.YtdcldaknmenklaaGreatDoorW.PrintLast
set_option linter.unusedVariables false
set_option linter.unusedSimpArgs false
abbrev TokR := Int × Int × Int × ByteArray × Int × Int
def deepOf (c deep : Int) : Int := if c = 41 then deep - 1 else if c = 40 then deep + 1 else deep
def tok_source_strung.g (K : Nat) (a0 : ByteArray) (a1 : Int) : Nat → List UInt8 → Int → Int → Option TokR
  | 0, _, _, _ => none
  | n + 1, out, deep, p =>
    if out.length ≤ 140737488351232 ∧ 0 ≤ p ∧ p ≤ 4611686018427387904 ∧ 1 ≤ deep ∧ deep ≤ 32 ∧ a0.size ≤ 140737488351232 then
      (tok_source_from.f a0 p).bind fun rest =>
      if rest.size = 0 then some (0, 0, 0, ⟨#[]⟩, a0.size, 2)
      else if bt rest 0 = 92 then
        (tok_escaped.f K (rest.extract 1 rest.size)).bind fun bn =>
        if bn.2 = 0 then some (0, 0, 0, ⟨#[]⟩, a0.size, 2)
        else if 0 < bn.2 ∧ bn.2 ≤ 4611686018427387900 ∧ out.length + bn.1.size ≤ 140737488351232 then tok_source_strung.g K a0 a1 n (out ++ bn.1.data.toList) deep (p + (1 + bn.2)) else none
      else if bt rest 0 = 41 ∧ deep = 1 then some (5, a1, 0, ⟨out.toArray⟩, p + 1, 0)
      else if bt rest 0 = 40 ∧ deep = 32 then some (0, 0, 0, ⟨#[]⟩, p, 5)
      else
        (tok_line.f rest).bind fun m =>
        if 0 < m ∧ m ≤ 2 then tok_source_strung.g K a0 a1 n (out ++ [10]) (deepOf (bt rest 0) deep) (p + m)
        else if m = 0 then tok_source_strung.g K a0 a1 n (out ++ [(bt rest 0).toNat.toUInt8]) (deepOf (bt rest 0) deep) (p + 1)
        else none
    else none
def tok_source_strung.f (K : Nat) (a0 : ByteArray) (a1 : Int) : Option TokR := if 0 ≤ a1 ∧ a1 ≤ 140737488351232 then tok_source_strung.g K a0 a1 K [] 1 (a1 + 1) else none
theorem tok_source_strung.mono_g (K : Nat) (a0 : ByteArray) (a1 : Int) : ∀ n out deep p, LeO (tok_source_strung.g K a0 a1 n out deep p) (tok_source_strung.g (K + 1) a0 a1 (n + 1) out deep p)
  | 0, _, _, _ => fun r h => by simp [tok_source_strung.g] at h
  | n + 1, out, deep, p => by
    have ih := tok_source_strung.mono_g K a0 a1 n
    unfold tok_source_strung.g
    repeat' first
      | (with_reducible exact ih _ _ _)
      | (with_reducible exact tok_escaped.mono _ _)
      | (with_reducible exact LeO.refl _)
      | (with_reducible exact LeO.none _)
      | (with_reducible refine LeO.ite ?_ ?_)
      | (with_reducible refine LeO.bind ?_ (fun _ => ?_))
theorem tok_source_strung.mono : ∀ a0 a1 k, LeO (tok_source_strung.f k a0 a1) (tok_source_strung.f (k + 1) a0 a1) := by
  intro a0 a1 k
  unfold tok_source_strung.f
  refine LeO.ite ?_ (LeO.none _)
  exact tok_source_strung.mono_g k a0 a1 k [] 1 (a1 + 1)
theorem from_lt {a0 rest : ByteArray} {p : Int} (h : tok_source_from.f a0 p = some rest) (hp : 0 ≤ p) (h0 : rest.size ≠ 0) : p < a0.size ∧ rest.size ≤ a0.size := by
  unfold tok_source_from.f at h
  split at h
  case isFalse => cases h
  split at h
  case isFalse => cases h
  obtain rfl := Option.some.inj h
  rw [ByteArray.size_extract] at h0 ⊢
  unfold mn at *
  split at h0 <;> omega
/-- A pass from the label holds at the first one too. -/
theorem wp_scope_once {P : Program} {a : Act} {w : World} {Q : Exit → Act → World → Prop} {c rest : Code} (l : Nat) (J : Act → World → Prop) (μ : Act → World → Nat) (hf : findLabel c l = some (Code.skip.seq rest))
    (pass : ∀ a w, J a w → rest.wp P (Exit.jump l (fun a' w' => J a' w' ∧ μ a' w' < μ a w) Q) a w)
    (first : Aside0 (∀ a w, J a w → rest.wp P (Exit.jump l J Q) a w) → c.wp P (Exit.jump l J Q) a w) : (Code.scope c).wp P Q a w := by
  refine wp_scope_jumps l J μ hf (first ⟨?_⟩) (fun a w hJ => wp_seq (wp_skip (pass a w hJ)))
  intro a w hJ b k cs
  obtain ⟨e, a', w', hq, ha⟩ := pass a w hJ b k cs
  refine ⟨e, a', w', ?_, ha⟩
  cases e <;> first | exact hq | exact ⟨hq.1, hq.2.1⟩
theorem strung_bt (rest : ByteArray) (h : rest.size ≠ 0) : ∃ c : UInt8, bt rest 0 = (c.toNat : Int) ∧ ∀ h : 0 < rest.size, rest[0]'h = c := by
  refine ⟨rest[0]'(by omega), ?_, fun _ => rfl⟩
  exact (bt_at rest 0 (by omega)).symm
def StrJ (K : Nat) (a0 : ByteArray) (a1 : Int) (R : TokR) (Z : Array Value) (w : World) (a' : Act) (w' : World) : Prop :=
  ∃ (n : Nat) (out : List UInt8) (deep p : Int) (u2 u3 u10 u11 u12 u13 u14 u15 u16 u17 u18 u19 u20 u21 u22 u23 u24 u25 u26 u27 u28 u29 u30 u31 u32 u33 u34 u35 u36 u37 u38 u39 u40 u41 u42 u43 u44 u45 u46 u47 u48 u49 u50 u51 u52 u53 u54 u55 u56 u57 u58 u59 u60 u61 u62 u63 u64 u65 u66 u67 u68 u69 u70 u71 u72 u73 u74 u75 u76 u77 u78 u79 u80 u81 u82 u83 u84 u85 u86 u87 u88 u89 u90 u91 u92 u93 : Value), a' = { tmps := #[.string a0, .int .i64 a1, u2, u3, .pointer (some ⟨w.heap.size, 0, none⟩), .int .i64 0, .int .i64 0, .pointer (some ⟨w.heap.size + 1, 0, none⟩), .int .i64 deep, .int .i64 p, u10, u11, u12, u13, u14, u15, u16, u17, u18, u19, u20, u21, u22, u23, u24, u25, u26, u27, u28, u29, u30, u31, u32, u33, u34, u35, u36, u37, u38, u39, u40, u41, u42, u43, u44, u45, u46, u47, u48, u49, u50, u51, u52, u53, u54, u55, u56, u57, u58, u59, u60, u61, u62, u63, u64, u65, u66, u67, u68, u69, u70, u71, u72, u73, u74, u75, u76, u77, u78, u79, u80, u81, u82, u83, u84, u85, u86, u87, u88, u89, u90, u91, u92, u93], defers := [] } ∧ Aside0 (tok_source_strung.g K a0 a1 n out deep p = some R) ∧ 0 ≤ p ∧ Aside0 (IsBd (w.heap.size + 1) (w.heap.size + 1) out w') ∧ Aside0 (Below w.heap.size w w') ∧ Aside0 (w'.heap[w.heap.size]? = some (.cells Z 65 (0, 0))) ∧ w.heap.size + 2 ≤ w'.heap.size
set_option maxHeartbeats 4000000 in
set_option maxRecDepth 1000000 in
theorem tok_source_strung.calls (k : Nat) (a0 : ByteArray) (a1 : Int) (r1 : Int) (r2 : Int) (r3 : Int) (r4 : ByteArray) (r5 : Int) (r6 : Int) (w : World) (h : tok_source_strung.f k a0 a1 = some (r1, r2, r3, r4, r5, r6)) :
    Calls Tryz.prog 55 #[.string a0, .int .i64 a1] w fun e w' => e = .returned (.tuple #[.agg #[.int .i64 r1, .int .i64 r2, .int .i64 r3, .string r4], .int .i64 r5, .int .i64 r6]) ∧ Below w.heap.size w w' := by
  unfold tok_source_strung.f at h
  split at h
  case isFalse => cases h
  rename_i hb
  obtain ⟨hb0, hb1⟩ := hb
  have H := Aside0.mk h
  clear h
  generalize hZ : (#[Value.int IntKind.i64 0, Value.int IntKind.i64 0, Value.int IntKind.i64 0, Value.string ⟨#[]⟩] : Array Value) = Z
  have hzs : Z.size = 4 := by rw [← hZ]; rfl
  have HZ := Aside0.mk hZ
  clear hZ
  go_enter Tryz.func55, Tryz.ntmps55
  go_wp2
  refine wp_scope_once 0 (StrJ k a0 a1 (r1, r2, r3, r4, r5, r6) Z w) (fun a' _ => a0.size + 1 - (intOf (a'.tmps.getD 9 undef)).toNat) rfl ?pass ?first
  case first =>
    intro hp
    go_wp2
    go_step3
    rename_i hK
    refine hK _ _ (hp.out _ _ ⟨k, [], 1, a1 + 1, _, _, _, _, _, _, _, _, _, _, _, _, _, _, _, _, _, _, _, _, _, _, _, _, _, _, _, _, _, _, _, _, _, _, _, _, _, _, _, _, _, _, _, _, _, _, _, _, _, _, _, _, _, _, _, _, _, _, _, _, _, _, _, _, _, _, _, _, _, _, _, _, _, _, _, _, _, _, _, _, _, _, _, _, _, _, rfl, H, by omega, ⟨?_⟩, ⟨?_⟩, ⟨?_⟩, ?_⟩)
    · have h := Lib.IsBuilderF.of (Lib.fresh_isBuilder 80 5 (w.alloc (.cells #[.int .i64 0, .int .i64 0, .int .i64 0, .string ⟨#[]⟩] 65)))
      rw [show (w.alloc (.cells #[.int .i64 0, .int .i64 0, .int .i64 0, .string ⟨#[]⟩] 65)).heap.size = w.heap.size + 1 from Array.size_push ..] at h
      exact h
    · exact below_alloc (below_alloc (Below.refl _ w) _) _
    · rw [← HZ.out]
      show ((w.heap.push _).push _)[w.heap.size]? = _
      rw [Array.getElem?_push, if_neg (by rw [Array.size_push]; omega), Array.getElem?_push_size]
    · simp
  case pass =>
    rintro a' w' ⟨n, out, deep, p, u2, u3, u10, u11, u12, u13, u14, u15, u16, u17, u18, u19, u20, u21, u22, u23, u24, u25, u26, u27, u28, u29, u30, u31, u32, u33, u34, u35, u36, u37, u38, u39, u40, u41, u42, u43, u44, u45, u46, u47, u48, u49, u50, u51, u52, u53, u54, u55, u56, u57, u58, u59, u60, u61, u62, u63, u64, u65, u66, u67, u68, u69, u70, u71, u72, u73, u74, u75, u76, u77, u78, u79, u80, u81, u82, u83, u84, u85, u86, u87, u88, u89, u90, u91, u92, u93, rfl, HG, hp0, HI, HB, HZ1, hs⟩
    cases n with
    | zero => exact absurd HG.out (by simp [tok_source_strung.g])
    | succ n =>
    have hg := HG.out
    clear HG
    rw [tok_source_strung.g] at hg
    split at hg
    case isFalse => cases hg
    rename_i hc
    obtain ⟨ho, -, hp2, hd1, hd2, ha0⟩ := hc
    obtain ⟨rest, hfrom, hg⟩ := Option.bind_eq_some_iff.1 hg
    have HF := Aside0.mk hfrom
    have HG := Aside0.mk hg
    have HLT := Aside0.mk (fun h => from_lt hfrom hp0 h)
    clear hfrom hg
    go_wp2_with fail
    with_reducible refine (tok_source_from.calls a0 p rest _ HF.out).mono ?_
    rintro e W1 ⟨rfl, hb⟩
    have HI1 := Aside0.mk (IsBd.below HI.out hb)
    have HZ2 : Aside0 (W1.heap[w.heap.size]? = some (.cells Z 65 (0, 0))) := ⟨(hb.block w.heap.size (by omega)).trans HZ1.out⟩
    have HB1 : Aside0 (Below w.heap.size w W1) := ⟨below_step HB.out hb⟩
    have hs1 : w.heap.size + 2 ≤ W1.heap.size := by have := hb.size; omega
    clear hb HZ1 HB HI
    have hg := HG.out
    clear HG
    by_cases h0 : rest.size = 0
    · rw [if_pos h0] at hg
      have hr : rest = ⟨#[]⟩ := by
        apply ByteArray.ext
        exact Array.size_eq_zero_iff.1 h0
      subst hr
      simp only [Option.some.injEq, Prod.mk.injEq] at hg
      obtain ⟨rfl, rfl, rfl, rfl, rfl, rfl⟩ := hg
      clear h0 HLT HF
      go_wp2_with (refine wpList_store_row rfl 65 (.tmp 4) (.tmp 22) rfl w.heap.size #[.int .i64 0, .int .i64 0, .int .i64 0, .string ⟨#[]⟩] rfl rfl 65 _ HZ2.out tok_info (by rw [hzs]; rfl) (tok_one _ _ _ _) ?_)
      simp only [Exit.jump]
      refine bodyPost_ret (v := .tuple #[.agg #[.int .i64 0, .int .i64 0, .int .i64 0, .string ⟨#[]⟩], .int .i64 a0.size, .int .i64 2]) ?_ rfl ⟨rfl, below_setRow HB1.out (Nat.le_refl _) _⟩
      exact results_ctt (fn := Tryz.f55) (p := 4) (u := 5) (v := 6) (ty := 65) rfl _ _ w.heap.size 65 _ (0, 0) _ rfl (setRow_heap W1 w.heap.size _ _ 65 (0, 0) HZ2.out) Tryz.underlying65 rfl tok_info
    rw [if_neg h0] at hg
    obtain ⟨hlt, hrs⟩ := HLT.out h0
    obtain ⟨c, hbt, hc0⟩ := strung_bt rest h0
    rw [hbt] at hg
    have h00 : 0 < rest.size := by omega
    have hne : (rest.toList == ([] : List UInt8)) = false := by
      rw [beq_eq_false_iff_ne]
      intro e
      rw [toList_data] at e
      apply h0
      rw [size_list, e]
      rfl
    clear HLT HF hbt h0
    by_cases e92 : c = 92
    · subst e92
      rw [if_pos (show (((92 : UInt8).toNat : Nat) : Int) = 92 from rfl)] at hg
      obtain ⟨⟨eb, en⟩, hesc, hg⟩ := Option.bind_eq_some_iff.1 hg
      dsimp only at hg
      have HE := Aside0.mk hesc
      have HG := Aside0.mk hg
      have h01 : 1 ≤ rest.size := by omega
      clear hesc hg
      go_wp2_with fail
      with_reducible refine (tok_escaped.calls k _ eb en _ HE.out).mono ?_
      rintro e W2 ⟨rfl, hb⟩
      have HI3 := Aside0.mk (IsBd.below HI1.out hb)
      have HZ3 : Aside0 (W2.heap[w.heap.size]? = some (.cells Z 65 (0, 0))) := ⟨(hb.block w.heap.size (by omega)).trans HZ2.out⟩
      have HB3 : Aside0 (Below w.heap.size w W2) := ⟨below_step HB1.out hb⟩
      have hs2 : w.heap.size + 2 ≤ W2.heap.size := by have := hb.size; omega
      clear hb HZ2 HB1 HI1 HE
      have hg := HG.out
      clear HG
      by_cases hn : en = 0
      · subst hn
        rw [if_pos rfl] at hg
        simp only [Option.some.injEq, Prod.mk.injEq] at hg
        obtain ⟨rfl, rfl, rfl, rfl, rfl, rfl⟩ := hg
        go_wp2_with (refine wpList_store_row rfl 65 (.tmp 4) (.tmp 37) rfl w.heap.size #[.int .i64 0, .int .i64 0, .int .i64 0, .string ⟨#[]⟩] rfl rfl 65 _ HZ3.out tok_info (by rw [hzs]; rfl) (tok_one _ _ _ _) ?_)
        simp only [Exit.jump]
        refine bodyPost_ret (v := .tuple #[.agg #[.int .i64 0, .int .i64 0, .int .i64 0, .string ⟨#[]⟩], .int .i64 a0.size, .int .i64 2]) ?_ rfl ⟨rfl, below_setRow HB3.out (Nat.le_refl _) _⟩
        exact results_ctt (fn := Tryz.f55) (p := 4) (u := 5) (v := 6) (ty := 65) rfl _ _ w.heap.size 65 _ (0, 0) _ rfl (setRow_heap W2 w.heap.size _ _ 65 (0, 0) HZ3.out) Tryz.underlying65 rfl tok_info
      · rw [if_neg hn] at hg
        split at hg
        case isFalse => cases hg
        rename_i hcn
        obtain ⟨hn0, hn1, hol⟩ := hcn
        have hen : (en == 0) = false := beq_eq_false_iff_ne.2 hn
        have HG := Aside0.mk hg
        have HOL := Aside0.mk hol
        clear hg hol
        go_wp2_with (go_at_call 42; refine (WriteString_k (w.heap.size + 1) (w.heap.size + 1) _ eb _ HI3.out ?c1 ?c2).mono ?_)
        case c1 => rw [Lib.byteCells_length]; have := HOL.out; omega
        case c2 => omega
        rintro e W3 ⟨rfl, h3, b3, -⟩
        have HI4 : Aside0 (IsBd (w.heap.size + 1) (w.heap.size + 1) (out ++ eb.data.toList) W3) := ⟨by rw [IsBd, Lib.byteCells_append]; exact .inr h3⟩
        have HZ4 : Aside0 (W3.heap[w.heap.size]? = some (.cells Z 65 (0, 0))) := ⟨(b3.block w.heap.size (by omega)).trans HZ3.out⟩
        have HB4 : Aside0 (Below w.heap.size w W3) := ⟨HB3.out.trans (b3.mono (by omega))⟩
        have hs3 : w.heap.size + 2 ≤ W3.heap.size := by have := b3.size; omega
        clear h3 b3 HZ3 HB3 HI3
        go_wp2
        go_step3
        refine ⟨rfl, ⟨n, _, deep, p + (1 + en), _, _, _, _, _, _, _, _, _, _, _, _, _, _, _, _, _, _, _, _, _, _, _, _, _, _, _, _, _, _, _, _, _, _, _, _, _, _, _, _, _, _, _, _, _, _, _, _, _, _, _, _, _, _, _, _, _, _, _, _, _, _, _, _, _, _, _, _, _, _, _, _, _, _, _, _, _, _, _, _, _, _, _, _, _, _, rfl, HG, by omega, HI4, HB4, HZ4, hs3⟩, ?_⟩
        simp [intOf]
        omega
    rw [if_neg (show ¬ (c.toNat : Int) = 92 from fun e => e92 (UInt8.toNat_inj.1 (by show c.toNat = 92; omega)))] at hg
    by_cases e41 : c = 41
    · subst e41
      by_cases d1 : deep = 1
      · subst d1
        rw [if_pos (show (((41 : UInt8).toNat : Nat) : Int) = 41 ∧ (1 : Int) = 1 from ⟨rfl, rfl⟩)] at hg
        simp only [Option.some.injEq, Prod.mk.injEq] at hg
        obtain ⟨rfl, rfl, rfl, rfl, rfl, rfl⟩ := hg
        go_wp2_with (go_at_call 43; refine (Tryz.Builder_String_any_k (w.heap.size + 1) (w.heap.size + 1) _ _ HI1.out ?c1).mono ?_)
        case c1 => omega
        rintro e W2 ⟨rfl, -, b2, -⟩
        have HZ3 : Aside0 (W2.heap[w.heap.size]? = some (.cells Z 65 (0, 0))) := ⟨(b2.block w.heap.size (by omega)).trans HZ2.out⟩
        have HB3 : Aside0 (Below w.heap.size w W2) := ⟨HB1.out.trans (b2.mono (by omega))⟩
        clear b2 HZ2 HB1 HI1
        go_wp2_with (refine wpList_store_row rfl 65 (.tmp 4) (.tmp 56) rfl w.heap.size #[.int .i64 5, .int .i64 a1, .int .i64 0, .string ⟨out.toArray⟩] rfl rfl 65 _ HZ3.out tok_info (by rw [hzs]; rfl) (tok_one _ _ _ _) ?_)
        simp only [Exit.jump]
        refine bodyPost_ret (v := .tuple #[.agg #[.int .i64 5, .int .i64 a1, .int .i64 0, .string ⟨out.toArray⟩], .int .i64 (p + 1), .int .i64 0]) ?_ rfl ⟨rfl, below_setRow HB3.out (Nat.le_refl _) _⟩
        exact results_ctt (fn := Tryz.f55) (p := 4) (u := 5) (v := 6) (ty := 65) rfl _ _ w.heap.size 65 _ (0, 0) _ rfl (setRow_heap W2 w.heap.size _ _ 65 (0, 0) HZ3.out) Tryz.underlying65 rfl tok_info
      · rw [if_neg (fun e => d1 e.2), if_neg (show ¬ ((((41 : UInt8).toNat : Nat) : Int) = 40 ∧ deep = 32) from fun e => absurd e.1 (by decide)), show deepOf (((41 : UInt8).toNat : Nat) : Int) deep = deep - 1 from rfl, show (((41 : UInt8).toNat : Nat) : Int).toNat.toUInt8 = 41 from rfl] at hg
        have dd1 : (deep == 1) = false := beq_eq_false_iff_ne.2 d1
        obtain ⟨m, hln, hg⟩ := Option.bind_eq_some_iff.1 hg
        have HL := Aside0.mk hln
        have HG := Aside0.mk hg
        clear hln hg
        go_wp2_with fail
        with_reducible refine (tok_line.calls rest m _ HL.out).mono ?_
        rintro e W2 ⟨rfl, ⟨nd, rfl⟩⟩
        have HI3 : Aside0 (IsBd (w.heap.size + 1) (w.heap.size + 1) out (W1.drewN nd)) := HI1
        have HZ3 : Aside0 ((W1.drewN nd).heap[w.heap.size]? = some (.cells Z 65 (0, 0))) := HZ2
        have HB3 : Aside0 (Below w.heap.size w (W1.drewN nd)) := ⟨pw_below_drewN HB1.out nd⟩
        have hs2 : w.heap.size + 2 ≤ (W1.drewN nd).heap.size := hs1
        clear HZ2 HB1 HI1 hs1
        generalize W1.drewN nd = W2 at HI3 HZ3 HB3 hs2 ⊢
        have hg := HG.out
        clear HG
        split at hg
        · rename_i hm
          have HG := Aside0.mk hg
          have hm2 : decide (0 < m) = true := decide_eq_true hm.1
          have hm0 := hm.1
          have hm1 := hm.2
          clear hg hm
          go_wp2_with (go_at_call 88; refine (WriteByte_k (w.heap.size + 1) (w.heap.size + 1) _ 10 _ HI3.out ?c1 ?c2).mono ?_)
          case c1 => rw [Lib.byteCells_length]; omega
          case c2 => omega
          rintro e W3 ⟨rfl, h3, b3, -⟩
          have HI4 : Aside0 (IsBd (w.heap.size + 1) (w.heap.size + 1) (out ++ [10]) W3) := ⟨by rw [IsBd, Lib.byteCells_append]; exact .inr h3⟩
          have HZ4 : Aside0 (W3.heap[w.heap.size]? = some (.cells Z 65 (0, 0))) := ⟨(b3.block w.heap.size (by omega)).trans HZ3.out⟩
          have HB4 : Aside0 (Below w.heap.size w W3) := ⟨HB3.out.trans (b3.mono (by omega))⟩
          have hs3 : w.heap.size + 2 ≤ W3.heap.size := by have := b3.size; omega
          clear h3 b3 HZ3 HB3 HI3
          go_wp2
          go_step3
          refine ⟨rfl, ⟨n, _, deep - 1, p + m, _, _, _, _, _, _, _, _, _, _, _, _, _, _, _, _, _, _, _, _, _, _, _, _, _, _, _, _, _, _, _, _, _, _, _, _, _, _, _, _, _, _, _, _, _, _, _, _, _, _, _, _, _, _, _, _, _, _, _, _, _, _, _, _, _, _, _, _, _, _, _, _, _, _, _, _, _, _, _, _, _, _, _, _, _, _, rfl, HG, by omega, HI4, HB4, HZ4, hs3⟩, ?_⟩
          simp [intOf]
          omega
        · split at hg
          case isFalse => cases hg
          rename_i hm
          subst hm
          have HG := Aside0.mk hg
          clear hg
          go_wp2_with (go_at_call 88; refine (WriteByte_k (w.heap.size + 1) (w.heap.size + 1) _ 41 _ HI3.out ?c1 ?c2).mono ?_)
          case c1 => rw [Lib.byteCells_length]; omega
          case c2 => omega
          rintro e W3 ⟨rfl, h3, b3, -⟩
          have HI4 : Aside0 (IsBd (w.heap.size + 1) (w.heap.size + 1) (out ++ [41]) W3) := ⟨by rw [IsBd, Lib.byteCells_append]; exact .inr h3⟩
          have HZ4 : Aside0 (W3.heap[w.heap.size]? = some (.cells Z 65 (0, 0))) := ⟨(b3.block w.heap.size (by omega)).trans HZ3.out⟩
          have HB4 : Aside0 (Below w.heap.size w W3) := ⟨HB3.out.trans (b3.mono (by omega))⟩
          have hs3 : w.heap.size + 2 ≤ W3.heap.size := by have := b3.size; omega
          clear h3 b3 HZ3 HB3 HI3
          go_wp2
          go_step3
          refine ⟨rfl, ⟨n, _, deep - 1, p + 1, _, _, _, _, _, _, _, _, _, _, _, _, _, _, _, _, _, _, _, _, _, _, _, _, _, _, _, _, _, _, _, _, _, _, _, _, _, _, _, _, _, _, _, _, _, _, _, _, _, _, _, _, _, _, _, _, _, _, _, _, _, _, _, _, _, _, _, _, _, _, _, _, _, _, _, _, _, _, _, _, _, _, _, _, _, _, rfl, HG, by omega, HI4, HB4, HZ4, hs3⟩, ?_⟩
          simp [intOf]
          omega
    rw [if_neg (show ¬ ((c.toNat : Int) = 41 ∧ deep = 1) from fun e => e41 (UInt8.toNat_inj.1 (by show c.toNat = 41; omega)))] at hg
    by_cases e40 : c = 40
    · subst e40
      by_cases d32 : deep = 32
      · subst d32
        rw [if_pos (show (((40 : UInt8).toNat : Nat) : Int) = 40 ∧ (32 : Int) = 32 from ⟨rfl, rfl⟩)] at hg
        simp only [Option.some.injEq, Prod.mk.injEq] at hg
        obtain ⟨rfl, rfl, rfl, rfl, rfl, rfl⟩ := hg
        go_wp2_with (refine wpList_store_row rfl 65 (.tmp 4) (.tmp 73) rfl w.heap.size #[.int .i64 0, .int .i64 0, .int .i64 0, .string ⟨#[]⟩] rfl rfl 65 _ HZ2.out tok_info (by rw [hzs]; rfl) (tok_one _ _ _ _) ?_)
        simp only [Exit.jump]
        refine bodyPost_ret (v := .tuple #[.agg #[.int .i64 0, .int .i64 0, .int .i64 0, .string ⟨#[]⟩], .int .i64 p, .int .i64 5]) ?_ rfl ⟨rfl, below_setRow HB1.out (Nat.le_refl _) _⟩
        exact results_ctt (fn := Tryz.f55) (p := 4) (u := 5) (v := 6) (ty := 65) rfl _ _ w.heap.size 65 _ (0, 0) _ rfl (setRow_heap W1 w.heap.size _ _ 65 (0, 0) HZ2.out) Tryz.underlying65 rfl tok_info
      · rw [if_neg (fun e => d32 e.2), show deepOf (((40 : UInt8).toNat : Nat) : Int) deep = deep + 1 from rfl, show (((40 : UInt8).toNat : Nat) : Int).toNat.toUInt8 = 40 from rfl] at hg
        have dd32 : (deep == 32) = false := beq_eq_false_iff_ne.2 d32
        obtain ⟨m, hln, hg⟩ := Option.bind_eq_some_iff.1 hg
        have HL := Aside0.mk hln
        have HG := Aside0.mk hg
        clear hln hg
        go_wp2_with fail
        with_reducible refine (tok_line.calls rest m _ HL.out).mono ?_
        rintro e W2 ⟨rfl, ⟨nd, rfl⟩⟩
        have HI3 : Aside0 (IsBd (w.heap.size + 1) (w.heap.size + 1) out (W1.drewN nd)) := HI1
        have HZ3 : Aside0 ((W1.drewN nd).heap[w.heap.size]? = some (.cells Z 65 (0, 0))) := HZ2
        have HB3 : Aside0 (Below w.heap.size w (W1.drewN nd)) := ⟨pw_below_drewN HB1.out nd⟩
        have hs2 : w.heap.size + 2 ≤ (W1.drewN nd).heap.size := hs1
        clear HZ2 HB1 HI1 hs1
        generalize W1.drewN nd = W2 at HI3 HZ3 HB3 hs2 ⊢
        have hg := HG.out
        clear HG
        split at hg
        · rename_i hm
          have HG := Aside0.mk hg
          have hm2 : decide (0 < m) = true := decide_eq_true hm.1
          have hm0 := hm.1
          have hm1 := hm.2
          clear hg hm
          go_wp2_with (go_at_call 88; refine (WriteByte_k (w.heap.size + 1) (w.heap.size + 1) _ 10 _ HI3.out ?c1 ?c2).mono ?_)
          case c1 => rw [Lib.byteCells_length]; omega
          case c2 => omega
          rintro e W3 ⟨rfl, h3, b3, -⟩
          have HI4 : Aside0 (IsBd (w.heap.size + 1) (w.heap.size + 1) (out ++ [10]) W3) := ⟨by rw [IsBd, Lib.byteCells_append]; exact .inr h3⟩
          have HZ4 : Aside0 (W3.heap[w.heap.size]? = some (.cells Z 65 (0, 0))) := ⟨(b3.block w.heap.size (by omega)).trans HZ3.out⟩
          have HB4 : Aside0 (Below w.heap.size w W3) := ⟨HB3.out.trans (b3.mono (by omega))⟩
          have hs3 : w.heap.size + 2 ≤ W3.heap.size := by have := b3.size; omega
          clear h3 b3 HZ3 HB3 HI3
          go_wp2
          go_step3
          refine ⟨rfl, ⟨n, _, deep + 1, p + m, _, _, _, _, _, _, _, _, _, _, _, _, _, _, _, _, _, _, _, _, _, _, _, _, _, _, _, _, _, _, _, _, _, _, _, _, _, _, _, _, _, _, _, _, _, _, _, _, _, _, _, _, _, _, _, _, _, _, _, _, _, _, _, _, _, _, _, _, _, _, _, _, _, _, _, _, _, _, _, _, _, _, _, _, _, _, rfl, HG, by omega, HI4, HB4, HZ4, hs3⟩, ?_⟩
          simp [intOf]
          omega
        · split at hg
          case isFalse => cases hg
          rename_i hm
          subst hm
          have HG := Aside0.mk hg
          clear hg
          go_wp2_with (go_at_call 88; refine (WriteByte_k (w.heap.size + 1) (w.heap.size + 1) _ 40 _ HI3.out ?c1 ?c2).mono ?_)
          case c1 => rw [Lib.byteCells_length]; omega
          case c2 => omega
          rintro e W3 ⟨rfl, h3, b3, -⟩
          have HI4 : Aside0 (IsBd (w.heap.size + 1) (w.heap.size + 1) (out ++ [40]) W3) := ⟨by rw [IsBd, Lib.byteCells_append]; exact .inr h3⟩
          have HZ4 : Aside0 (W3.heap[w.heap.size]? = some (.cells Z 65 (0, 0))) := ⟨(b3.block w.heap.size (by omega)).trans HZ3.out⟩
          have HB4 : Aside0 (Below w.heap.size w W3) := ⟨HB3.out.trans (b3.mono (by omega))⟩
          have hs3 : w.heap.size + 2 ≤ W3.heap.size := by have := b3.size; omega
          clear h3 b3 HZ3 HB3 HI3
          go_wp2
          go_step3
          refine ⟨rfl, ⟨n, _, deep + 1, p + 1, _, _, _, _, _, _, _, _, _, _, _, _, _, _, _, _, _, _, _, _, _, _, _, _, _, _, _, _, _, _, _, _, _, _, _, _, _, _, _, _, _, _, _, _, _, _, _, _, _, _, _, _, _, _, _, _, _, _, _, _, _, _, _, _, _, _, _, _, _, _, _, _, _, _, _, _, _, _, _, _, _, _, _, _, _, _, rfl, HG, by omega, HI4, HB4, HZ4, hs3⟩, ?_⟩
          simp [intOf]
          omega
    rw [if_neg (show ¬ ((c.toNat : Int) = 40 ∧ deep = 32) from fun e => e40 (UInt8.toNat_inj.1 (by show c.toNat = 40; omega)))] at hg
    have n92 : (c.toNat : Int) ≠ 92 := fun e => e92 (UInt8.toNat_inj.1 (by show c.toNat = 92; omega))
    have n41 : (c.toNat : Int) ≠ 41 := fun e => e41 (UInt8.toNat_inj.1 (by show c.toNat = 41; omega))
    have n40 : (c.toNat : Int) ≠ 40 := fun e => e40 (UInt8.toNat_inj.1 (by show c.toNat = 40; omega))
    rw [show deepOf (c.toNat : Int) deep = deep from by unfold deepOf; rw [if_neg n41, if_neg n40], show (c.toNat : Int).toNat.toUInt8 = c from by rw [Int.toNat_natCast]; exact UInt8.ofNat_toNat] at hg
    replace n92 : ((c.toNat : Int) == 92) = false := beq_eq_false_iff_ne.2 n92
    replace n41 : ((c.toNat : Int) == 41) = false := beq_eq_false_iff_ne.2 n41
    replace n40 : ((c.toNat : Int) == 40) = false := beq_eq_false_iff_ne.2 n40
    have h256 := c.toNat_lt
    clear e92 e41 e40
    obtain ⟨m, hln, hg⟩ := Option.bind_eq_some_iff.1 hg
    have HL := Aside0.mk hln
    have HG := Aside0.mk hg
    clear hln hg
    go_wp2_with fail
    with_reducible refine (tok_line.calls rest m _ HL.out).mono ?_
    rintro e W2 ⟨rfl, ⟨nd, rfl⟩⟩
    have HI3 : Aside0 (IsBd (w.heap.size + 1) (w.heap.size + 1) out (W1.drewN nd)) := HI1
    have HZ3 : Aside0 ((W1.drewN nd).heap[w.heap.size]? = some (.cells Z 65 (0, 0))) := HZ2
    have HB3 : Aside0 (Below w.heap.size w (W1.drewN nd)) := ⟨pw_below_drewN HB1.out nd⟩
    have hs2 : w.heap.size + 2 ≤ (W1.drewN nd).heap.size := hs1
    clear HZ2 HB1 HI1 hs1
    generalize W1.drewN nd = W2 at HI3 HZ3 HB3 hs2 ⊢
    have hg := HG.out
    clear HG
    split at hg
    · rename_i hm
      have HG := Aside0.mk hg
      have hm2 : decide (0 < m) = true := decide_eq_true hm.1
      have hm0 := hm.1
      have hm1 := hm.2
      clear hg hm
      go_wp2_with (go_at_call 88; refine (WriteByte_k (w.heap.size + 1) (w.heap.size + 1) _ 10 _ HI3.out ?c1 ?c2).mono ?_)
      case c1 => rw [Lib.byteCells_length]; omega
      case c2 => omega
      rintro e W3 ⟨rfl, h3, b3, -⟩
      have HI4 : Aside0 (IsBd (w.heap.size + 1) (w.heap.size + 1) (out ++ [10]) W3) := ⟨by rw [IsBd, Lib.byteCells_append]; exact .inr h3⟩
      have HZ4 : Aside0 (W3.heap[w.heap.size]? = some (.cells Z 65 (0, 0))) := ⟨(b3.block w.heap.size (by omega)).trans HZ3.out⟩
      have HB4 : Aside0 (Below w.heap.size w W3) := ⟨HB3.out.trans (b3.mono (by omega))⟩
      have hs3 : w.heap.size + 2 ≤ W3.heap.size := by have := b3.size; omega
      clear h3 b3 HZ3 HB3 HI3
      go_wp2
      go_step3
      refine ⟨rfl, ⟨n, _, deep, p + m, _, _, _, _, _, _, _, _, _, _, _, _, _, _, _, _, _, _, _, _, _, _, _, _, _, _, _, _, _, _, _, _, _, _, _, _, _, _, _, _, _, _, _, _, _, _, _, _, _, _, _, _, _, _, _, _, _, _, _, _, _, _, _, _, _, _, _, _, _, _, _, _, _, _, _, _, _, _, _, _, _, _, _, _, _, _, rfl, HG, by omega, HI4, HB4, HZ4, hs3⟩, ?_⟩
      simp [intOf]
      omega
    · split at hg
      case isFalse => cases hg
      rename_i hm
      subst hm
      have HG := Aside0.mk hg
      clear hg
      go_wp2_with (go_at_call 88; refine (WriteByte_k (w.heap.size + 1) (w.heap.size + 1) _ (c.toNat : Int) _ HI3.out ?c1 ?c2).mono ?_)
      case c1 => rw [Lib.byteCells_length]; omega
      case c2 => omega
      rintro e W3 ⟨rfl, h3, b3, -⟩
      have HI4 : Aside0 (IsBd (w.heap.size + 1) (w.heap.size + 1) (out ++ [c]) W3) := ⟨by rw [IsBd, Lib.byteCells_append]; exact .inr h3⟩
      have HZ4 : Aside0 (W3.heap[w.heap.size]? = some (.cells Z 65 (0, 0))) := ⟨(b3.block w.heap.size (by omega)).trans HZ3.out⟩
      have HB4 : Aside0 (Below w.heap.size w W3) := ⟨HB3.out.trans (b3.mono (by omega))⟩
      have hs3 : w.heap.size + 2 ≤ W3.heap.size := by have := b3.size; omega
      clear h3 b3 HZ3 HB3 HI3
      go_wp2
      go_step3
      refine ⟨rfl, ⟨n, _, deep, p + 1, _, _, _, _, _, _, _, _, _, _, _, _, _, _, _, _, _, _, _, _, _, _, _, _, _, _, _, _, _, _, _, _, _, _, _, _, _, _, _, _, _, _, _, _, _, _, _, _, _, _, _, _, _, _, _, _, _, _, _, _, _, _, _, _, _, _, _, _, _, _, _, _, _, _, _, _, _, _, _, _, _, _, _, _, _, _, rfl, HG, by omega, HI4, HB4, HZ4, hs3⟩, ?_⟩
      simp [intOf]
      omega
end Go.Proofs.YtdcldaknmenklaaGreatDoor.M
end
section
namespace Go.Proofs.YtdcldaknmenklaaGreatDoor.M
open Go.RowKit Go.Extern.Stop Go.Stop Go.Extern Go.Extern.Rtype Go.Proofs.YtdcldaknmenklaaGreatDoorW.PrintWords
set_option linter.unusedVariables false
theorem isTypeOf (v : Value) (w : World) : (Extern.ReflectliteType.typeOf #[.iface 212 v]).run Tryz.prog w = .ok (.iface 195 (.agg #[.pointer (some ⟨11, 212, none⟩)])) w := by kernel_rfl
theorem isComparable (w : World) : ((Extern.ReflectliteType.method fun t => do noPackHeld "Comparable" t; (fun a => Value.bool a.comparable) <$> typeInfo t) #[.agg #[.pointer (some ⟨11, 212, none⟩)]]).run Tryz.prog w = .ok (.bool true) w := by kernel_rfl
theorem isMethodComparable (v : Value) (w : World) : (Go.method 352 195 v "Comparable").run Tryz.prog w = .ok (197, v) w := by kernel_rfl
theorem isComp : (Tryz.prog.info? 212).map (·.comparable) = some true := by kernel_rfl
theorem isSize : (Tryz.prog.info? 214).map (·.size) = some 1 := by kernel_rfl
theorem noIsE (v : Value) (xT : TypeId) (w : World) : (Instr.typeAssert (.iface 212 v) xT 197 true).run Tryz.prog w = .ok (.tuple #[.nilIface, .bool false]) w := run_typeAssert_lacksB Tryz.underlying197 (by kernel_rfl) (by kernel_rfl) v xT w
theorem noIsW (v : Value) (xT : TypeId) (w : World) : (Instr.typeAssert (.iface 156 v) xT 197 true).run Tryz.prog w = .ok (.tuple #[.nilIface, .bool false]) w := run_typeAssert_lacksB Tryz.underlying197 (by kernel_rfl) (by kernel_rfl) v xT w
theorem hasUnwrapW (v : Value) (xT : TypeId) (w : World) : (Instr.typeAssert (.iface 156 v) xT 200 true).run Tryz.prog w = .ok (.tuple #[.iface 156 v, .bool true]) w := run_typeAssert_hasB Tryz.underlying200 (by kernel_rfl) v xT w
theorem methodUnwrap (v : Value) (w : World) : (Go.method 352 156 v "Unwrap").run Tryz.prog w = .ok (193, v) w := by kernel_rfl
theorem is_nil (b : Addr) (w : World) :
    Calls Tryz.prog 116 #[.nilIface, .iface 212 (.pointer (some b))] w fun e w' => e = .returned (.bool false) ∧ w' = w := by
  have hn := run_eql_iface_nil_left (P := Tryz.prog) w 212 (.pointer (some b)) Tryz.underlying83
  go_enter Tryz.func116, Tryz.ntmps116
  go_wp2
  go_ret
  exact ⟨rfl, rfl⟩
set_option maxHeartbeats 1000000 in
set_option maxRecDepth 1000000 in
theorem is_wrap_same (pb : Nat) (b : Addr) (w : World) (h1 : w.cell? ⟨pb, 2, none⟩ = some (.iface 212 (.pointer (some b)))) :
    Calls Tryz.prog 116 #[.iface 156 (.pointer (some ⟨pb, 0, none⟩)), .iface 212 (.pointer (some b))] w fun e w' => e = .returned (.bool true) ∧ w' = w := by
  obtain ⟨i, hi, hcmp⟩ := Option.map_eq_some_iff.1 isComp
  obtain ⟨j, hj, hjs⟩ := Option.map_eq_some_iff.1 isSize
  have h8 := @run_callFunc_extern Tryz.prog 137 _ Extern.ReflectliteType.typeOf Tryz.func137 (by kernel_rfl) (by kernel_rfl) (by kernel_rfl) (by kernel_rfl)
  have h32 := @run_callFunc_extern Tryz.prog 197 _ (Extern.ReflectliteType.method fun t => do noPackHeld "Comparable" t; pure (.bool (← typeInfo t).comparable)) Tryz.func197 (by kernel_rfl) (by kernel_rfl) (by kernel_rfl) (by kernel_rfl)
  have tT := isTypeOf
  have cT := isComparable
  have mR := isMethodComparable
  have nE := noIsE
  have nW := noIsW
  have uW := hasUnwrapW
  have mU := methodUnwrap
  have heq := run_eql_iface_ptr_same (P := Tryz.prog) w b Tryz.underlying83 Tryz.underlying212 hi hcmp hj
  have hty := run_eql_iface_types (P := Tryz.prog) 156 212 (.pointer (some ⟨pb, 0, none⟩)) (.pointer (some b)) Tryz.underlying83 (by decide) w
  go_enter Tryz.func116, Tryz.ntmps116
  go_wp2
  refine wp_loop_rounds 2 ?_
  rw [rounds_succ]
  go_wp2
  rw [rounds_succ]
  go_wp2
  go_ret
  exact ⟨rfl, rfl⟩
end Go.Proofs.YtdcldaknmenklaaGreatDoor.M
end
section
namespace Go.Proofs.YtdcldaknmenklaaGreatDoor.M
open Go.RowKit Go.Proofs.YtdcldaknmenklaaGreatDoorW.PrintWords
set_option linter.unusedVariables false
/-- A text's number, and the error's number: 3 no number, 4 too great. -/
def lexInt (l : List UInt8) : Int × Int := if wholeB l then (match Lib.parseIntB 32 l with | .ok v => (v, 0) | _ => (0, 4)) else (0, 3)
def lex_Int.f (a0 : ByteArray) : Option (Int × Int) := if a0.size ≤ 281474976710656 then some (lexInt a0.data.toList) else none
/-- Neither a number nor one that is too great. -/
def badNum {α : Type} : Lib.NumEnd α → Bool
  | .ok _ => false
  | .range => false
  | _ => true
theorem parseUintM_digits (M : Nat) : ∀ (l : List UInt8) (acc : Nat), l.all isDigB = true → badNum (Lib.parseUintM M acc l) = false
  | [], acc, _ => by simp [Lib.parseUintM, badNum]
  | c :: r, acc, h => by
    simp only [List.all_cons, Bool.and_eq_true, isDigB, decide_eq_true_eq] at h
    unfold Lib.parseUintM
    rw [if_pos ⟨h.1.1, h.1.2⟩]
    split
    · rfl
    · split
      · rfl
      · exact parseUintM_digits M r _ h.2
theorem parse_whole (l : List UInt8) (h : wholeB l = true) : badNum (Lib.parseIntB 32 l) = false := by
  match l with
  | [] => simp [wholeB, unsign] at h
  | c :: r =>
    have key : ∀ ds : List UInt8, ds ≠ [] → ds.all isDigB = true → badNum (Lib.parseUintB 32 ds) = false := by
      intro ds h1 h2
      unfold Lib.parseUintB
      rw [if_neg h1]
      exact parseUintM_digits _ _ _ h2
    have hu : (if c.toNat = 43 ∨ c.toNat = 45 then r else c :: r) = unsign (c :: r) := by
      have e1 : (c == 43) = decide (c.toNat = 43) := by rw [Bool.eq_iff_iff, beq_iff_eq, decide_eq_true_eq, ← UInt8.toNat_inj]; rfl
      have e2 : (c == 45) = decide (c.toNat = 45) := by rw [Bool.eq_iff_iff, beq_iff_eq, decide_eq_true_eq, ← UInt8.toNat_inj]; rfl
      simp [unsign, e1, e2]
    simp only [wholeB, Bool.and_eq_true, Bool.not_eq_true', List.isEmpty_eq_false_iff] at h
    have hk := key _ h.1 h.2
    unfold Lib.parseIntB
    simp only
    rw [hu]
    cases hp : Lib.parseUintB 32 (unsign (c :: r)) with
    | ok u =>
      simp only
      split
      · rfl
      · split
        · rfl
        · split <;> rfl
    | range => rfl
    | _ => rw [hp] at hk; exact absurd hk (by decide)
set_option maxHeartbeats 1000000 in
set_option maxRecDepth 1000000 in
theorem lex_Int.calls (a0 : ByteArray) (r1 r2 : Int) (w : World) (hG : GW w) (h : lex_Int.f a0 = some (r1, r2)) :
    Calls Tryz.prog 92 #[.string a0] w fun e w' => e = .returned (.tuple #[.int .i64 r1, .int .i64 r2]) ∧ Below w.heap.size w w' := by
  unfold lex_Int.f at h
  split at h
  case isFalse => cases h
  rename_i hl
  have he := Option.some.inj h
  clear h
  have hwh := whole_eq a0 (by omega)
  have HG := Aside0.mk hG
  clear hG
  unfold lexInt at he
  cases hb : wholeB a0.data.toList with
  | false =>
    rw [hb] at he hwh
    obtain ⟨rfl, rfl⟩ : 0 = r1 ∧ 3 = r2 := by simpa using he
    have HW := Aside0.mk hwh
    clear hwh he hb
    go_enter Tryz.func92, Tryz.ntmps92
    go_wp2_with (go_at_call 114; with_reducible refine (lex_whole.calls _ _ _ HW.out).mono ?_)
    rintro e w1 ⟨rfl, b1⟩
    go_wp2
    go_ret2
    exact ⟨rfl, b1⟩
  | true =>
    rw [hb] at he hwh
    have hns := parse_whole _ hb
    have HW := Aside0.mk hwh
    simp only [if_true] at he
    cases hp : Lib.parseIntB 32 a0.data.toList with
    | ok v =>
      rw [hp] at he
      obtain ⟨rfl, rfl⟩ : v = r1 ∧ 0 = r2 := by simpa using he
      have HP := Aside0.mk hp
      clear hwh he hb hp hns
      go_enter Tryz.func92, Tryz.ntmps92
      go_wp2_with (go_at_call 114; with_reducible refine (lex_whole.calls _ _ _ HW.out).mono ?_)
      rintro e w1 ⟨rfl, b1⟩
      go_wp2_with (go_at_call 115; with_reducible refine (Tryz.strconv_ParseInt_10_at32_ok _ (by omega) _ HP.out _).mono ?_)
      rintro e w2 ⟨rfl, hw2⟩
      have b2 : Below w.heap.size w w2 := by
        rcases hw2 with rfl | ⟨t, rfl⟩
        · exact b1
        · exact below_then b1 b1.size (Lib.bytesWorld_below _ _ _)
      clear hw2
      obtain ⟨a, ha⟩ := (GW.below b2 HG.out).range
      go_wp2_with (go_at_call 116; with_reducible refine (is_nil _ _).mono ?_)
      rintro e w3 ⟨rfl, rfl⟩
      go_wp2
      go_ret2
      exact ⟨rfl, b2⟩
    | range =>
      rw [hp] at he
      obtain ⟨rfl, rfl⟩ : 0 = r1 ∧ 4 = r2 := by simpa using he
      have HP := Aside0.mk hp
      clear hwh he hb hp hns
      go_enter Tryz.func92, Tryz.ntmps92
      go_wp2_with (go_at_call 114; with_reducible refine (lex_whole.calls _ _ _ HW.out).mono ?_)
      rintro e w1 ⟨rfl, b1⟩
      obtain ⟨a, ha⟩ := (GW.below b1 HG.out).range
      have HA := Aside0.mk ha
      clear ha
      go_wp2_with (go_at_call 115; with_reducible refine (Tryz.strconv_ParseInt_10_at32_range _ (by omega) HP.out _ _ HA.out (.inr ⟨_, _, rfl⟩)).mono ?_)
      rintro e w2 ⟨N, rfl, hN, hN2, b2⟩
      have ha2 := pw_cell_below b2 HA.out
      have hc2 : w2.cell? ⟨N, 2, none⟩ = some (.iface 212 (.pointer (some a))) := by rw [Lib.cell_of_heap hN2]; rfl
      replace b1 := below_then b1 b1.size b2
      clear hN hN2 b2
      go_wp2_with (go_at_call 116; with_reducible refine (is_wrap_same _ _ _ hc2).mono ?_)
      rintro e w3 ⟨rfl, rfl⟩
      go_wp2
      go_ret2
      exact ⟨rfl, b1⟩
    | _ => rw [hp] at hns; exact absurd hns (by decide)
end Go.Proofs.YtdcldaknmenklaaGreatDoor.M
end
section
/- Laid by this session's program hbprint.py out of the translation: the function  hornbook/tok.source .worded and its contract. -/
namespace Go.Proofs.YtdcldaknmenklaaGreatDoor.M
open Go.RowKit Go.Proofs.YtdcldaknmenklaaGreatDoorW.PrintWords Go.Proofs.YtdcldaknmenklaaGreatDoorW.PrintLast Go.Proofs.YtdcldaknmenklaaGreatDoorW.PrintMore
attribute [local go_sem] max2_int min2_int max_two min_two max_three min_three max_four min_four
set_option linter.unusedVariables false
set_option linter.unusedSimpArgs false
def tok_source_worded.f (k : Nat) (a0 : ByteArray) (a1 : Int) : Option (Int × Int × Int × ByteArray × Int × Int) := (lex_Word.f k a0 a1).bind fun bt212 => ((lex_Int.f bt212.1).bind fun bt214 => (if bt214.2 = 0 then (some (1, a1, bt214.1, (⟨#[]⟩ : ByteArray), bt212.2, 0)) else (if bt214.2 = 3 then (some (3, a1, 0, bt212.1, bt212.2, 0)) else (some (0, 0, 0, (⟨#[]⟩ : ByteArray), a1, bt214.2)))))
theorem tok_source_worded.mono : ∀ a0 a1 k, LeO (tok_source_worded.f k a0 a1) (tok_source_worded.f (k + 1) a0 a1) := by
  intro a0 a1 k
  unfold tok_source_worded.f
  repeat' first
      | (with_reducible exact lex_Word.mono _ _ _)
      | (with_reducible exact LeO.refl _)
      | (with_reducible exact LeO.none _)
      | (with_reducible refine LeO.ite ?_ ?_)
      | (with_reducible refine LeO.bind ?_ (fun _ => ?_))
      | exact lex_Word.mono _ _ _
      | exact LeO.none _
      | refine LeO.ite ?_ ?_
      | refine LeO.bind ?_ (fun _ => ?_)
set_option maxHeartbeats 8000000 in
set_option maxRecDepth 100000 in
theorem tok_source_worded.calls (k : Nat) (a0 : ByteArray) (a1 : Int) (r1 : Int) (r2 : Int) (r3 : Int) (r4 : ByteArray) (r5 : Int) (r6 : Int) (w : World) (hG : GW w) (h : tok_source_worded.f k a0 a1 = some (r1, r2, r3, r4, r5, r6)) :
    Calls Tryz.prog 56 #[.string a0, .int .i64 a1] w fun e w' => e = .returned (.tuple #[.agg #[.int .i64 r1, .int .i64 r2, .int .i64 r3, .string r4], .int .i64 r5, .int .i64 r6]) ∧ Below w.heap.size w w' := by
  have hu65 := Tryz.underlying65
  have HG := Aside0.mk hG
  clear hG
  have HB := Aside0.mk (Below.refl w.heap.size w)
  have H : ((lex_Word.f k a0 a1).bind fun bt212 => ((lex_Int.f bt212.1).bind fun bt214 => (if bt214.2 = 0 then (some (1, a1, bt214.1, (⟨#[]⟩ : ByteArray), bt212.2, 0)) else (if bt214.2 = 3 then (some (3, a1, 0, bt212.1, bt212.2, 0)) else (some (0, 0, 0, (⟨#[]⟩ : ByteArray), a1, bt214.2)))))) = some (r1, r2, r3, r4, r5, r6) := h
  clear h
  replace H := Option.bind_eq_some_iff.mp H
  obtain ⟨⟨t212, t213⟩, A30, H⟩ := H
  replace H : ((lex_Int.f t212).bind fun bt214 => (if bt214.2 = 0 then (some (1, a1, bt214.1, (⟨#[]⟩ : ByteArray), t213, 0)) else (if bt214.2 = 3 then (some (3, a1, 0, t212, t213, 0)) else (some (0, 0, 0, (⟨#[]⟩ : ByteArray), a1, bt214.2))))) = some (r1, r2, r3, r4, r5, r6) := H
  have A3 := Aside0.mk A30
  clear A30
  replace H := Option.bind_eq_some_iff.mp H
  obtain ⟨⟨t214, t215⟩, A40, H⟩ := H
  replace H : (if t215 = 0 then (some (1, a1, t214, (⟨#[]⟩ : ByteArray), t213, 0)) else (if t215 = 3 then (some (3, a1, 0, t212, t213, 0)) else (some (0, 0, 0, (⟨#[]⟩ : ByteArray), a1, t215)))) = some (r1, r2, r3, r4, r5, r6) := H
  have A4 := Aside0.mk A40
  clear A40
  by_cases c5 : t215 = 0
  · rw [if_pos c5] at H
    have c5b0 : (t215 == 0) = true := beq_iff_eq.mpr c5
    have c5b1 : (t215 != 0) = false := bne_eq_false_iff_eq.mpr c5
    clear c5
    simp only [Option.some.injEq, Prod.mk.injEq] at H
    obtain ⟨rfl, rfl, rfl, rfl, rfl, rfl⟩ := H
    go_enter Tryz.func56, Tryz.ntmps56
    go_wp2_with (first | ((with_reducible refine gate_dst (N := 4) rfl ?_); refine box_event ?hg (N := 4) ?hd (cs := #[.int .i64 0, .int .i64 0, .int .i64 0, .string (⟨#[]⟩ : ByteArray)]) (t := 65) ?hr ?_; (case hd => rfl); (case hg => rfl); (case hr => first | (go_simp; done) | (go_simp; rfl)); intro gb211 hg w6 hbox hb; have n0_ := Aside0.mk (below_step (by repeat (first | (with_reducible first | exact HB.out | apply below_alloc | apply pw_below_drewN | apply below_drew1) | exact HB.out)) hb); have n1_ := Aside0.mk (hbox); have n2_ := Aside0.mk ((by rw [hg]; exact (below_size (by repeat (first | (with_reducible first | exact HB.out | apply below_alloc | apply pw_below_drewN | apply below_drew1) | exact HB.out))) : w.heap.size ≤ gb211)); have n3_ := Aside0.mk ((by rw [hg]; exact (below_size (by repeat (first | (with_reducible first | exact HB.out | apply below_alloc | apply pw_below_drewN | apply below_drew1) | exact HB.out))) : w.heap.size ≤ gb211)); clear HB; have HB := n0_; have BK211 := n1_; have GW211 := n2_; have GE211 := n3_; clear n0_ n1_ n2_ n3_; clear hb hbox hg) | ((with_reducible refine gate_callee (f := 52) rfl ?_); refine goesL_ (some 14) rfl rfl Tryz.func52 (by kernel_rfl) rfl #[.string a0, .int .i64 a1] rfl (by (try simp only [List.map_toArray, List.map_cons, List.map_nil]); first | done | rfl | (simp only [List.length_drop, List.length_take]; rfl)) ?_; (with_reducible refine (lex_Word.calls k a0 a1 t212 t213 _ A3.out).mono ?_); rintro e w7 ⟨rfl, hb⟩; refine ⟨_, rfl, ?_⟩; have n0_ := Aside0.mk (blk_below (g := gb211) (o := .cells #[.int .i64 0, .int .i64 0, .int .i64 0, .string (⟨#[]⟩ : ByteArray)] 65 (0, 0)) (by (with_reducible repeat (first | refine blk_drewN ?_ _ | refine blk_drew ?_ | refine blk_alloc ?_ _)); exact BK211.out) hb); have n1_ := Aside0.mk (below_step (by repeat (first | (with_reducible first | exact HB.out | apply below_alloc | apply pw_below_drewN | apply below_drew1 | refine below_set ?_ GE211.out) | exact HB.out)) hb); clear BK211; clear HB; have BK211 := n0_; have HB := n1_; clear n0_ n1_; (try clear hb); (try clear hb2); (try clear hk); (try clear hi)) | ((with_reducible refine gate_callee (f := 92) rfl ?_); refine goesL_ (some 19) rfl rfl Tryz.func92 (by kernel_rfl) rfl #[.string t212] rfl (by (try simp only [List.map_toArray, List.map_cons, List.map_nil]); first | done | rfl | (simp only [List.length_drop, List.length_take]; rfl)) ?_; (with_reducible refine (lex_Int.calls t212 t214 t215 _ ?side1 A4.out).mono ?_); (case side1 => exact GW.below (by repeat (first | (with_reducible first | exact HB.out | apply below_alloc | apply pw_below_drewN | apply below_drew1 | refine below_set ?_ GE211.out) | exact HB.out)) HG.out); rintro e w8 ⟨rfl, hb⟩; refine ⟨_, rfl, ?_⟩; have n0_ := Aside0.mk (blk_below (g := gb211) (o := .cells #[.int .i64 0, .int .i64 0, .int .i64 0, .string (⟨#[]⟩ : ByteArray)] 65 (0, 0)) (by (with_reducible repeat (first | refine blk_drewN ?_ _ | refine blk_drew ?_ | refine blk_alloc ?_ _)); exact BK211.out) hb); have n1_ := Aside0.mk (below_step (by repeat (first | (with_reducible first | exact HB.out | apply below_alloc | apply pw_below_drewN | apply below_drew1 | refine below_set ?_ GE211.out) | exact HB.out)) hb); clear BK211; clear HB; have BK211 := n0_; have HB := n1_; clear n0_ n1_; (try clear hb); (try clear hb2); (try clear hk); (try clear hi); have hcz9_0 : w8.cell? ⟨gb211, 0, none⟩ = some (.int .i64 0) := (blk_cell BK211.out 0).trans rfl; have hcz9_1 : w8.cell? ⟨gb211, 1, none⟩ = some (.int .i64 0) := (blk_cell BK211.out 1).trans rfl; have hcz9_2 : w8.cell? ⟨gb211, 2, none⟩ = some (.int .i64 0) := (blk_cell BK211.out 2).trans rfl; have hcz9_3 : w8.cell? ⟨gb211, 3, none⟩ = some (.string (⟨#[]⟩ : ByteArray)) := (blk_cell BK211.out 3).trans rfl; have hfz9_0 := blk_frozen BK211.out 0; have hfz9_1 := blk_frozen BK211.out 1; have hfz9_2 := blk_frozen BK211.out 2; have hfz9_3 := blk_frozen BK211.out 3))
    refine bodyPost_ret (results_ctt rfl _ _ gb211 65 #[.int .i64 1, .int .i64 a1, .int .i64 t214, .string (⟨#[]⟩ : ByteArray)] (0, 0) _ rfl (by (with_reducible repeat (first | refine blk_drewN ?_ _ | refine blk_drew ?_ | refine blk_alloc ?_ _)); refine blk_put (cs := #[.int .i64 1, .int .i64 a1, .int .i64 t214, .string (⟨#[]⟩ : ByteArray)]) ?_ 3 _ rfl; (with_reducible repeat (first | refine blk_drewN ?_ _ | refine blk_drew ?_ | refine blk_alloc ?_ _)); refine blk_put (cs := #[.int .i64 1, .int .i64 a1, .int .i64 0, .string (⟨#[]⟩ : ByteArray)]) ?_ 2 _ rfl; (with_reducible repeat (first | refine blk_drewN ?_ _ | refine blk_drew ?_ | refine blk_alloc ?_ _)); refine blk_put (cs := #[.int .i64 1, .int .i64 0, .int .i64 0, .string (⟨#[]⟩ : ByteArray)]) ?_ 1 _ rfl; (with_reducible repeat (first | refine blk_drewN ?_ _ | refine blk_drew ?_ | refine blk_alloc ?_ _)); refine blk_put (cs := #[.int .i64 0, .int .i64 0, .int .i64 0, .string (⟨#[]⟩ : ByteArray)]) ?_ 0 _ rfl; (with_reducible repeat (first | refine blk_drewN ?_ _ | refine blk_drew ?_ | refine blk_alloc ?_ _)); exact BK211.out) Tryz.underlying65 rfl (by kernel_rfl)) rfl ?_
    exact ⟨by first | rfl | (simp [errW_none, errW_some] <;> rfl) | (simp [*, errW_none, errW_some] <;> rfl), by repeat (first | (with_reducible first | exact HB.out | apply below_alloc | apply pw_below_drewN | apply below_drew1 | refine below_set ?_ GE211.out) | exact HB.out)⟩
  · rw [if_neg c5] at H
    have c5b0 : (t215 == 0) = false := beq_eq_false_iff_ne.mpr c5
    have c5b1 : (t215 != 0) = true := bne_iff_ne.mpr c5
    by_cases c10 : t215 = 3
    · rw [if_pos c10] at H
      have c10b0 : (t215 == 3) = true := beq_iff_eq.mpr c10
      have c10b1 : (t215 != 3) = false := bne_eq_false_iff_eq.mpr c10
      clear c10
      simp only [Option.some.injEq, Prod.mk.injEq] at H
      obtain ⟨rfl, rfl, rfl, rfl, rfl, rfl⟩ := H
      go_enter Tryz.func56, Tryz.ntmps56
      go_wp2_with (first | ((with_reducible refine gate_dst (N := 4) rfl ?_); refine box_event ?hg (N := 4) ?hd (cs := #[.int .i64 0, .int .i64 0, .int .i64 0, .string (⟨#[]⟩ : ByteArray)]) (t := 65) ?hr ?_; (case hd => rfl); (case hg => rfl); (case hr => first | (go_simp; done) | (go_simp; rfl)); intro gb211 hg w11 hbox hb; have n0_ := Aside0.mk (below_step (by repeat (first | (with_reducible first | exact HB.out | apply below_alloc | apply pw_below_drewN | apply below_drew1) | exact HB.out)) hb); have n1_ := Aside0.mk (hbox); have n2_ := Aside0.mk ((by rw [hg]; exact (below_size (by repeat (first | (with_reducible first | exact HB.out | apply below_alloc | apply pw_below_drewN | apply below_drew1) | exact HB.out))) : w.heap.size ≤ gb211)); have n3_ := Aside0.mk ((by rw [hg]; exact (below_size (by repeat (first | (with_reducible first | exact HB.out | apply below_alloc | apply pw_below_drewN | apply below_drew1) | exact HB.out))) : w.heap.size ≤ gb211)); clear HB; have HB := n0_; have BK211 := n1_; have GW211 := n2_; have GE211 := n3_; clear n0_ n1_ n2_ n3_; clear hb hbox hg) | ((with_reducible refine gate_callee (f := 52) rfl ?_); refine goesL_ (some 14) rfl rfl Tryz.func52 (by kernel_rfl) rfl #[.string a0, .int .i64 a1] rfl (by (try simp only [List.map_toArray, List.map_cons, List.map_nil]); first | done | rfl | (simp only [List.length_drop, List.length_take]; rfl)) ?_; (with_reducible refine (lex_Word.calls k a0 a1 t212 t213 _ A3.out).mono ?_); rintro e w12 ⟨rfl, hb⟩; refine ⟨_, rfl, ?_⟩; have n0_ := Aside0.mk (blk_below (g := gb211) (o := .cells #[.int .i64 0, .int .i64 0, .int .i64 0, .string (⟨#[]⟩ : ByteArray)] 65 (0, 0)) (by (with_reducible repeat (first | refine blk_drewN ?_ _ | refine blk_drew ?_ | refine blk_alloc ?_ _)); exact BK211.out) hb); have n1_ := Aside0.mk (below_step (by repeat (first | (with_reducible first | exact HB.out | apply below_alloc | apply pw_below_drewN | apply below_drew1 | refine below_set ?_ GE211.out) | exact HB.out)) hb); clear BK211; clear HB; have BK211 := n0_; have HB := n1_; clear n0_ n1_; (try clear hb); (try clear hb2); (try clear hk); (try clear hi)) | ((with_reducible refine gate_callee (f := 92) rfl ?_); refine goesL_ (some 19) rfl rfl Tryz.func92 (by kernel_rfl) rfl #[.string t212] rfl (by (try simp only [List.map_toArray, List.map_cons, List.map_nil]); first | done | rfl | (simp only [List.length_drop, List.length_take]; rfl)) ?_; (with_reducible refine (lex_Int.calls t212 t214 t215 _ ?side1 A4.out).mono ?_); (case side1 => exact GW.below (by repeat (first | (with_reducible first | exact HB.out | apply below_alloc | apply pw_below_drewN | apply below_drew1 | refine below_set ?_ GE211.out) | exact HB.out)) HG.out); rintro e w13 ⟨rfl, hb⟩; refine ⟨_, rfl, ?_⟩; have n0_ := Aside0.mk (blk_below (g := gb211) (o := .cells #[.int .i64 0, .int .i64 0, .int .i64 0, .string (⟨#[]⟩ : ByteArray)] 65 (0, 0)) (by (with_reducible repeat (first | refine blk_drewN ?_ _ | refine blk_drew ?_ | refine blk_alloc ?_ _)); exact BK211.out) hb); have n1_ := Aside0.mk (below_step (by repeat (first | (with_reducible first | exact HB.out | apply below_alloc | apply pw_below_drewN | apply below_drew1 | refine below_set ?_ GE211.out) | exact HB.out)) hb); clear BK211; clear HB; have BK211 := n0_; have HB := n1_; clear n0_ n1_; (try clear hb); (try clear hb2); (try clear hk); (try clear hi); have hcz14_0 : w13.cell? ⟨gb211, 0, none⟩ = some (.int .i64 0) := (blk_cell BK211.out 0).trans rfl; have hcz14_1 : w13.cell? ⟨gb211, 1, none⟩ = some (.int .i64 0) := (blk_cell BK211.out 1).trans rfl; have hcz14_2 : w13.cell? ⟨gb211, 2, none⟩ = some (.int .i64 0) := (blk_cell BK211.out 2).trans rfl; have hcz14_3 : w13.cell? ⟨gb211, 3, none⟩ = some (.string (⟨#[]⟩ : ByteArray)) := (blk_cell BK211.out 3).trans rfl; have hfz14_0 := blk_frozen BK211.out 0; have hfz14_1 := blk_frozen BK211.out 1; have hfz14_2 := blk_frozen BK211.out 2; have hfz14_3 := blk_frozen BK211.out 3))
      refine bodyPost_ret (results_ctt rfl _ _ gb211 65 #[.int .i64 3, .int .i64 a1, .int .i64 0, .string t212] (0, 0) _ rfl (by (with_reducible repeat (first | refine blk_drewN ?_ _ | refine blk_drew ?_ | refine blk_alloc ?_ _)); refine blk_put (cs := #[.int .i64 3, .int .i64 a1, .int .i64 0, .string (⟨#[]⟩ : ByteArray)]) ?_ 3 _ rfl; (with_reducible repeat (first | refine blk_drewN ?_ _ | refine blk_drew ?_ | refine blk_alloc ?_ _)); refine blk_put (cs := #[.int .i64 3, .int .i64 a1, .int .i64 0, .string (⟨#[]⟩ : ByteArray)]) ?_ 2 _ rfl; (with_reducible repeat (first | refine blk_drewN ?_ _ | refine blk_drew ?_ | refine blk_alloc ?_ _)); refine blk_put (cs := #[.int .i64 3, .int .i64 0, .int .i64 0, .string (⟨#[]⟩ : ByteArray)]) ?_ 1 _ rfl; (with_reducible repeat (first | refine blk_drewN ?_ _ | refine blk_drew ?_ | refine blk_alloc ?_ _)); refine blk_put (cs := #[.int .i64 0, .int .i64 0, .int .i64 0, .string (⟨#[]⟩ : ByteArray)]) ?_ 0 _ rfl; (with_reducible repeat (first | refine blk_drewN ?_ _ | refine blk_drew ?_ | refine blk_alloc ?_ _)); exact BK211.out) Tryz.underlying65 rfl (by kernel_rfl)) rfl ?_
      exact ⟨by first | rfl | (simp [errW_none, errW_some] <;> rfl) | (simp [*, errW_none, errW_some] <;> rfl), by repeat (first | (with_reducible first | exact HB.out | apply below_alloc | apply pw_below_drewN | apply below_drew1 | refine below_set ?_ GE211.out) | exact HB.out)⟩
    · rw [if_neg c10] at H
      have c10b0 : (t215 == 3) = false := beq_eq_false_iff_ne.mpr c10
      have c10b1 : (t215 != 3) = true := bne_iff_ne.mpr c10
      simp only [Option.some.injEq, Prod.mk.injEq] at H
      obtain ⟨rfl, rfl, rfl, rfl, rfl, rfl⟩ := H
      go_enter Tryz.func56, Tryz.ntmps56
      go_wp2_with (first | ((with_reducible refine gate_dst (N := 4) rfl ?_); refine box_event ?hg (N := 4) ?hd (cs := #[.int .i64 0, .int .i64 0, .int .i64 0, .string (⟨#[]⟩ : ByteArray)]) (t := 65) ?hr ?_; (case hd => rfl); (case hg => rfl); (case hr => first | (go_simp; done) | (go_simp; rfl)); intro gb211 hg w15 hbox hb; have n0_ := Aside0.mk (below_step (by repeat (first | (with_reducible first | exact HB.out | apply below_alloc | apply pw_below_drewN | apply below_drew1) | exact HB.out)) hb); have n1_ := Aside0.mk (hbox); have n2_ := Aside0.mk ((by rw [hg]; exact (below_size (by repeat (first | (with_reducible first | exact HB.out | apply below_alloc | apply pw_below_drewN | apply below_drew1) | exact HB.out))) : w.heap.size ≤ gb211)); have n3_ := Aside0.mk ((by rw [hg]; exact (below_size (by repeat (first | (with_reducible first | exact HB.out | apply below_alloc | apply pw_below_drewN | apply below_drew1) | exact HB.out))) : w.heap.size ≤ gb211)); clear HB; have HB := n0_; have BK211 := n1_; have GW211 := n2_; have GE211 := n3_; clear n0_ n1_ n2_ n3_; clear hb hbox hg) | ((with_reducible refine gate_callee (f := 52) rfl ?_); refine goesL_ (some 14) rfl rfl Tryz.func52 (by kernel_rfl) rfl #[.string a0, .int .i64 a1] rfl (by (try simp only [List.map_toArray, List.map_cons, List.map_nil]); first | done | rfl | (simp only [List.length_drop, List.length_take]; rfl)) ?_; (with_reducible refine (lex_Word.calls k a0 a1 t212 t213 _ A3.out).mono ?_); rintro e w16 ⟨rfl, hb⟩; refine ⟨_, rfl, ?_⟩; have n0_ := Aside0.mk (blk_below (g := gb211) (o := .cells #[.int .i64 0, .int .i64 0, .int .i64 0, .string (⟨#[]⟩ : ByteArray)] 65 (0, 0)) (by (with_reducible repeat (first | refine blk_drewN ?_ _ | refine blk_drew ?_ | refine blk_alloc ?_ _)); exact BK211.out) hb); have n1_ := Aside0.mk (below_step (by repeat (first | (with_reducible first | exact HB.out | apply below_alloc | apply pw_below_drewN | apply below_drew1 | refine below_set ?_ GE211.out) | exact HB.out)) hb); clear BK211; clear HB; have BK211 := n0_; have HB := n1_; clear n0_ n1_; (try clear hb); (try clear hb2); (try clear hk); (try clear hi)) | ((with_reducible refine gate_callee (f := 92) rfl ?_); refine goesL_ (some 19) rfl rfl Tryz.func92 (by kernel_rfl) rfl #[.string t212] rfl (by (try simp only [List.map_toArray, List.map_cons, List.map_nil]); first | done | rfl | (simp only [List.length_drop, List.length_take]; rfl)) ?_; (with_reducible refine (lex_Int.calls t212 t214 t215 _ ?side1 A4.out).mono ?_); (case side1 => exact GW.below (by repeat (first | (with_reducible first | exact HB.out | apply below_alloc | apply pw_below_drewN | apply below_drew1 | refine below_set ?_ GE211.out) | exact HB.out)) HG.out); rintro e w17 ⟨rfl, hb⟩; refine ⟨_, rfl, ?_⟩; have n0_ := Aside0.mk (blk_below (g := gb211) (o := .cells #[.int .i64 0, .int .i64 0, .int .i64 0, .string (⟨#[]⟩ : ByteArray)] 65 (0, 0)) (by (with_reducible repeat (first | refine blk_drewN ?_ _ | refine blk_drew ?_ | refine blk_alloc ?_ _)); exact BK211.out) hb); have n1_ := Aside0.mk (below_step (by repeat (first | (with_reducible first | exact HB.out | apply below_alloc | apply pw_below_drewN | apply below_drew1 | refine below_set ?_ GE211.out) | exact HB.out)) hb); clear BK211; clear HB; have BK211 := n0_; have HB := n1_; clear n0_ n1_; (try clear hb); (try clear hb2); (try clear hk); (try clear hi); have hcz18_0 : w17.cell? ⟨gb211, 0, none⟩ = some (.int .i64 0) := (blk_cell BK211.out 0).trans rfl; have hcz18_1 : w17.cell? ⟨gb211, 1, none⟩ = some (.int .i64 0) := (blk_cell BK211.out 1).trans rfl; have hcz18_2 : w17.cell? ⟨gb211, 2, none⟩ = some (.int .i64 0) := (blk_cell BK211.out 2).trans rfl; have hcz18_3 : w17.cell? ⟨gb211, 3, none⟩ = some (.string (⟨#[]⟩ : ByteArray)) := (blk_cell BK211.out 3).trans rfl; have hfz18_0 := blk_frozen BK211.out 0; have hfz18_1 := blk_frozen BK211.out 1; have hfz18_2 := blk_frozen BK211.out 2; have hfz18_3 := blk_frozen BK211.out 3))
      refine bodyPost_ret (results_ctt rfl _ _ gb211 65 #[.int .i64 0, .int .i64 0, .int .i64 0, .string (⟨#[]⟩ : ByteArray)] (0, 0) _ rfl (by (with_reducible repeat (first | refine blk_drewN ?_ _ | refine blk_drew ?_ | refine blk_alloc ?_ _)); refine blk_put (cs := #[.int .i64 0, .int .i64 0, .int .i64 0, .string (⟨#[]⟩ : ByteArray)]) ?_ 3 _ rfl; (with_reducible repeat (first | refine blk_drewN ?_ _ | refine blk_drew ?_ | refine blk_alloc ?_ _)); refine blk_put (cs := #[.int .i64 0, .int .i64 0, .int .i64 0, .string (⟨#[]⟩ : ByteArray)]) ?_ 2 _ rfl; (with_reducible repeat (first | refine blk_drewN ?_ _ | refine blk_drew ?_ | refine blk_alloc ?_ _)); refine blk_put (cs := #[.int .i64 0, .int .i64 0, .int .i64 0, .string (⟨#[]⟩ : ByteArray)]) ?_ 1 _ rfl; (with_reducible repeat (first | refine blk_drewN ?_ _ | refine blk_drew ?_ | refine blk_alloc ?_ _)); refine blk_put (cs := #[.int .i64 0, .int .i64 0, .int .i64 0, .string (⟨#[]⟩ : ByteArray)]) ?_ 0 _ rfl; (with_reducible repeat (first | refine blk_drewN ?_ _ | refine blk_drew ?_ | refine blk_alloc ?_ _)); exact BK211.out) Tryz.underlying65 rfl (by kernel_rfl)) rfl ?_
      exact ⟨by first | rfl | (simp [errW_none, errW_some] <;> rfl) | (simp [*, errW_none, errW_some] <;> rfl), by repeat (first | (with_reducible first | exact HB.out | apply below_alloc | apply pw_below_drewN | apply below_drew1 | refine below_set ?_ GE211.out) | exact HB.out)⟩
end Go.Proofs.YtdcldaknmenklaaGreatDoor.M
end
section
/- Laid by this session's program hbprint.py out of the translation: the function hornbook/tok.Next and its contract. -/
namespace Go.Proofs.YtdcldaknmenklaaGreatDoor.M
open Go.RowKit Go.Proofs.YtdcldaknmenklaaGreatDoorW.PrintWords Go.Proofs.YtdcldaknmenklaaGreatDoorW.PrintLast Go.Proofs.YtdcldaknmenklaaGreatDoorW.PrintMore
attribute [local go_sem] max2_int min2_int max_two min_two max_three min_three max_four min_four
set_option linter.unusedVariables false
set_option linter.unusedSimpArgs false
def tok_Next.j0 : Nat → ByteArray → Int → ByteArray → Int → Bool → Option (Int × Int × Int × ByteArray × Int × Int)
  | 0, _, _, _, _, _ => none
  | k + 1, x0, x7, x8, x37, x38 => if x38 = true then (some (0, 0, 0, (⟨#[]⟩ : ByteArray), x7, 3)) else (if x37 = 47 then ((lex_Word.f k x0 (wrap64 (x7 + 1))).bind fun bt225 => ((lex_Name.f bt225.1).bind fun t227 => (some (2, x7, 0, t227, bt225.2, 0)))) else (if x37 = 60 then ((tok_source_hexed.f k x8 x7).bind fun bt228 => (some (bt228.1, bt228.2.1, bt228.2.2.1, bt228.2.2.2.1, bt228.2.2.2.2.1, bt228.2.2.2.2.2))) else (if x37 = 40 then ((tok_source_strung.f k x8 x7).bind fun bt234 => (some (bt234.1, bt234.2.1, bt234.2.2.1, bt234.2.2.2.1, bt234.2.2.2.2.1, bt234.2.2.2.2.2))) else ((tok_source_worded.f k x8 x7).bind fun bt240 => (some (bt240.1, bt240.2.1, bt240.2.2.1, bt240.2.2.2.1, bt240.2.2.2.2.1, bt240.2.2.2.2.2))))))
def tok_Next.f (k : Nat) (a0 : ByteArray) (a1 : Int) : Option (Int × Int × Int × ByteArray × Int × Int) := (lex_Skip.f k a0 a1).bind fun t217 => (if t217 = (a0.size : Int) then (some (0, t217, 0, (⟨#[]⟩ : ByteArray), t217, 0)) else ((tok_source_sign.f a0 t217).bind fun bt218 => (if bt218.2.2.2.2.2 = true then (some (bt218.1, bt218.2.1, bt218.2.2.1, bt218.2.2.2.1, bt218.2.2.2.2.1, 0)) else (if 0 ≤ t217 then (if t217 < (a0.size : Int) then (if (bt a0 t217) = 41 then (tok_Next.j0 k a0 t217 a0 (bt a0 t217) ((bt a0 t217) == 41)) else (tok_Next.j0 k a0 t217 a0 (bt a0 t217) ((bt a0 t217) == 62))) else (none)) else (none)))))
theorem tok_Next.mono_l : ∀ k, (∀ y0 y1 y2 y3 y4, LeO (tok_Next.j0 k y0 y1 y2 y3 y4) (tok_Next.j0 (k + 1) y0 y1 y2 y3 y4))
  | 0 => fun _ _ _ _ _ r h => by simp [tok_Next.j0] at h
  | k + 1 => by
    have ih0 := tok_Next.mono_l k
    · intro y0 y1 y2 y3 y4
      unfold tok_Next.j0
      repeat' first
      | (with_reducible exact ih0 _ _ _ _ _)
      | (with_reducible exact lex_Skip.mono _ _ _)
      | (with_reducible exact lex_Word.mono _ _ _)
      | (with_reducible exact tok_source_hexed.mono _ _ _)
      | (with_reducible exact tok_source_strung.mono _ _ _)
      | (with_reducible exact tok_source_worded.mono _ _ _)
      | (with_reducible exact LeO.refl _)
      | (with_reducible exact LeO.none _)
      | (with_reducible refine LeO.ite ?_ ?_)
      | (with_reducible refine LeO.bind ?_ (fun _ => ?_))
      | exact ih0 _ _ _ _ _
      | exact lex_Skip.mono _ _ _
      | exact lex_Word.mono _ _ _
      | exact tok_source_hexed.mono _ _ _
      | exact tok_source_strung.mono _ _ _
      | exact tok_source_worded.mono _ _ _
      | exact LeO.none _
      | refine LeO.ite ?_ ?_
      | refine LeO.bind ?_ (fun _ => ?_)
theorem tok_Next.mono : ∀ a0 a1 k, LeO (tok_Next.f k a0 a1) (tok_Next.f (k + 1) a0 a1) := by
  intro a0 a1 k
  have ih0 := tok_Next.mono_l k
  unfold tok_Next.f
  repeat' first
      | (with_reducible exact ih0 _ _ _ _ _)
      | (with_reducible exact lex_Skip.mono _ _ _)
      | (with_reducible exact lex_Word.mono _ _ _)
      | (with_reducible exact tok_source_hexed.mono _ _ _)
      | (with_reducible exact tok_source_strung.mono _ _ _)
      | (with_reducible exact tok_source_worded.mono _ _ _)
      | (with_reducible exact LeO.refl _)
      | (with_reducible exact LeO.none _)
      | (with_reducible refine LeO.ite ?_ ?_)
      | (with_reducible refine LeO.bind ?_ (fun _ => ?_))
      | exact ih0 _ _ _ _ _
      | exact lex_Skip.mono _ _ _
      | exact lex_Word.mono _ _ _
      | exact tok_source_hexed.mono _ _ _
      | exact tok_source_strung.mono _ _ _
      | exact tok_source_worded.mono _ _ _
      | exact LeO.none _
      | refine LeO.ite ?_ ?_
      | refine LeO.bind ?_ (fun _ => ?_)
set_option maxHeartbeats 8000000 in
set_option maxRecDepth 100000 in
theorem tok_Next.calls (k : Nat) (a0 : ByteArray) (a1 : Int) (r1 : Int) (r2 : Int) (r3 : Int) (r4 : ByteArray) (r5 : Int) (r6 : Int) (w : World) (hG : GW w) (h : tok_Next.f k a0 a1 = some (r1, r2, r3, r4, r5, r6)) :
    Calls Tryz.prog 38 #[.string a0, .int .i64 a1] w fun e w' => e = .returned (.tuple #[.agg #[.int .i64 r1, .int .i64 r2, .int .i64 r3, .string r4], .int .i64 r5, .int .i64 r6]) ∧ Below w.heap.size w w' := by
  have hu65 := Tryz.underlying65
  have HG := Aside0.mk hG
  clear hG
  have HB := Aside0.mk (Below.refl w.heap.size w)
  have H : ((lex_Skip.f k a0 a1).bind fun t217 => (if t217 = (a0.size : Int) then (some (0, t217, 0, (⟨#[]⟩ : ByteArray), t217, 0)) else ((tok_source_sign.f a0 t217).bind fun bt218 => (if bt218.2.2.2.2.2 = true then (some (bt218.1, bt218.2.1, bt218.2.2.1, bt218.2.2.2.1, bt218.2.2.2.2.1, 0)) else (if 0 ≤ t217 then (if t217 < (a0.size : Int) then (if (bt a0 t217) = 41 then (tok_Next.j0 k a0 t217 a0 (bt a0 t217) ((bt a0 t217) == 41)) else (tok_Next.j0 k a0 t217 a0 (bt a0 t217) ((bt a0 t217) == 62))) else (none)) else (none)))))) = some (r1, r2, r3, r4, r5, r6) := h
  clear h
  replace H := Option.bind_eq_some_iff.mp H
  obtain ⟨t217, A30, H⟩ := H
  replace H : (if t217 = (a0.size : Int) then (some (0, t217, 0, (⟨#[]⟩ : ByteArray), t217, 0)) else ((tok_source_sign.f a0 t217).bind fun bt218 => (if bt218.2.2.2.2.2 = true then (some (bt218.1, bt218.2.1, bt218.2.2.1, bt218.2.2.2.1, bt218.2.2.2.2.1, 0)) else (if 0 ≤ t217 then (if t217 < (a0.size : Int) then (if (bt a0 t217) = 41 then (tok_Next.j0 k a0 t217 a0 (bt a0 t217) ((bt a0 t217) == 41)) else (tok_Next.j0 k a0 t217 a0 (bt a0 t217) ((bt a0 t217) == 62))) else (none)) else (none))))) = some (r1, r2, r3, r4, r5, r6) := H
  have A3 := Aside0.mk A30
  clear A30
  by_cases c4 : t217 = (a0.size : Int)
  · rw [if_pos c4] at H
    have c4b0 : (t217 == (a0.size : Int)) = true := beq_iff_eq.mpr c4
    have c4b1 : (t217 != (a0.size : Int)) = false := bne_eq_false_iff_eq.mpr c4
    clear c4
    simp only [Option.some.injEq, Prod.mk.injEq] at H
    obtain ⟨rfl, rfl, rfl, rfl, rfl, rfl⟩ := H
    go_enter Tryz.func38, Tryz.ntmps38
    go_wp2_with (first | ((with_reducible refine gate_dst (N := 4) rfl ?_); refine box_event ?hg (N := 4) ?hd (cs := #[.int .i64 0, .int .i64 0, .int .i64 0, .string (⟨#[]⟩ : ByteArray)]) (t := 65) ?hr ?_; (case hd => rfl); (case hg => rfl); (case hr => first | (go_simp; done) | (go_simp; rfl)); intro gb216 hg w5 hbox hb; have n0_ := Aside0.mk (below_step (by repeat (first | (with_reducible first | exact HB.out | apply below_alloc | apply pw_below_drewN | apply below_drew1) | exact HB.out)) hb); have n1_ := Aside0.mk (hbox); have n2_ := Aside0.mk ((by rw [hg]; exact (below_size (by repeat (first | (with_reducible first | exact HB.out | apply below_alloc | apply pw_below_drewN | apply below_drew1) | exact HB.out))) : w.heap.size ≤ gb216)); have n3_ := Aside0.mk ((by rw [hg]; exact (below_size (by repeat (first | (with_reducible first | exact HB.out | apply below_alloc | apply pw_below_drewN | apply below_drew1) | exact HB.out))) : w.heap.size ≤ gb216)); clear HB; have HB := n0_; have BK216 := n1_; have GW216 := n2_; have GE216 := n3_; clear n0_ n1_ n2_ n3_; clear hb hbox hg) | ((with_reducible refine gate_callee (f := 50) rfl ?_); refine goesL_ (some 16) rfl rfl Tryz.func50 (by kernel_rfl) rfl #[.string a0, .int .i64 a1] rfl (by (try simp only [List.map_toArray, List.map_cons, List.map_nil]); first | done | rfl | (simp only [List.length_drop, List.length_take]; rfl)) ?_; (with_reducible refine (lex_Skip.calls k a0 a1 t217 _ A3.out).mono ?_); rintro e w6 ⟨rfl, hb⟩; refine ⟨_, rfl, ?_⟩; have n0_ := Aside0.mk (blk_below (g := gb216) (o := .cells #[.int .i64 0, .int .i64 0, .int .i64 0, .string (⟨#[]⟩ : ByteArray)] 65 (0, 0)) (by (with_reducible repeat (first | refine blk_drewN ?_ _ | refine blk_drew ?_ | refine blk_alloc ?_ _)); exact BK216.out) hb); have n1_ := Aside0.mk (below_step (by repeat (first | (with_reducible first | exact HB.out | apply below_alloc | apply pw_below_drewN | apply below_drew1 | refine below_set ?_ GE216.out) | exact HB.out)) hb); clear BK216; clear HB; have BK216 := n0_; have HB := n1_; clear n0_ n1_; (try clear hb); (try clear hb2); (try clear hk); (try clear hi); have hcz7_0 : w6.cell? ⟨gb216, 0, none⟩ = some (.int .i64 0) := (blk_cell BK216.out 0).trans rfl; have hcz7_1 : w6.cell? ⟨gb216, 1, none⟩ = some (.int .i64 0) := (blk_cell BK216.out 1).trans rfl; have hcz7_2 : w6.cell? ⟨gb216, 2, none⟩ = some (.int .i64 0) := (blk_cell BK216.out 2).trans rfl; have hcz7_3 : w6.cell? ⟨gb216, 3, none⟩ = some (.string (⟨#[]⟩ : ByteArray)) := (blk_cell BK216.out 3).trans rfl; have hfz7_0 := blk_frozen BK216.out 0; have hfz7_1 := blk_frozen BK216.out 1; have hfz7_2 := blk_frozen BK216.out 2; have hfz7_3 := blk_frozen BK216.out 3))
    refine bodyPost_ret (results_ctt rfl _ _ gb216 65 #[.int .i64 0, .int .i64 t217, .int .i64 0, .string (⟨#[]⟩ : ByteArray)] (0, 0) _ rfl (by (with_reducible repeat (first | refine blk_drewN ?_ _ | refine blk_drew ?_ | refine blk_alloc ?_ _)); refine blk_put (cs := #[.int .i64 0, .int .i64 t217, .int .i64 0, .string (⟨#[]⟩ : ByteArray)]) ?_ 3 _ rfl; (with_reducible repeat (first | refine blk_drewN ?_ _ | refine blk_drew ?_ | refine blk_alloc ?_ _)); refine blk_put (cs := #[.int .i64 0, .int .i64 t217, .int .i64 0, .string (⟨#[]⟩ : ByteArray)]) ?_ 2 _ rfl; (with_reducible repeat (first | refine blk_drewN ?_ _ | refine blk_drew ?_ | refine blk_alloc ?_ _)); refine blk_put (cs := #[.int .i64 0, .int .i64 0, .int .i64 0, .string (⟨#[]⟩ : ByteArray)]) ?_ 1 _ rfl; (with_reducible repeat (first | refine blk_drewN ?_ _ | refine blk_drew ?_ | refine blk_alloc ?_ _)); refine blk_put (cs := #[.int .i64 0, .int .i64 0, .int .i64 0, .string (⟨#[]⟩ : ByteArray)]) ?_ 0 _ rfl; (with_reducible repeat (first | refine blk_drewN ?_ _ | refine blk_drew ?_ | refine blk_alloc ?_ _)); exact BK216.out) Tryz.underlying65 rfl (by kernel_rfl)) rfl ?_
    exact ⟨by first | rfl | (simp [errW_none, errW_some] <;> rfl) | (simp [*, errW_none, errW_some] <;> rfl), by repeat (first | (with_reducible first | exact HB.out | apply below_alloc | apply pw_below_drewN | apply below_drew1 | refine below_set ?_ GE216.out) | exact HB.out)⟩
  · rw [if_neg c4] at H
    have c4b0 : (t217 == (a0.size : Int)) = false := beq_eq_false_iff_ne.mpr c4
    have c4b1 : (t217 != (a0.size : Int)) = true := bne_iff_ne.mpr c4
    replace H := Option.bind_eq_some_iff.mp H
    obtain ⟨⟨t218, t219, t220, t221, t222, t223⟩, A80, H⟩ := H
    replace H : (if t223 = true then (some (t218, t219, t220, t221, t222, 0)) else (if 0 ≤ t217 then (if t217 < (a0.size : Int) then (if (bt a0 t217) = 41 then (tok_Next.j0 k a0 t217 a0 (bt a0 t217) ((bt a0 t217) == 41)) else (tok_Next.j0 k a0 t217 a0 (bt a0 t217) ((bt a0 t217) == 62))) else (none)) else (none))) = some (r1, r2, r3, r4, r5, r6) := H
    have A8 := Aside0.mk A80
    clear A80
    by_cases c9 : t223 = true
    · subst c9
      have H1 : (some (t218, t219, t220, t221, t222, 0)) = some (r1, r2, r3, r4, r5, r6) := by rw [if_pos rfl] at H; exact H
      clear H
      have H := H1
      clear H1
      simp only [Option.some.injEq, Prod.mk.injEq] at H
      obtain ⟨rfl, rfl, rfl, rfl, rfl, rfl⟩ := H
      go_enter Tryz.func38, Tryz.ntmps38
      go_wp2_with (first | ((with_reducible refine gate_dst (N := 4) rfl ?_); refine box_event ?hg (N := 4) ?hd (cs := #[.int .i64 0, .int .i64 0, .int .i64 0, .string (⟨#[]⟩ : ByteArray)]) (t := 65) ?hr ?_; (case hd => rfl); (case hg => rfl); (case hr => first | (go_simp; done) | (go_simp; rfl)); intro gb216 hg w10 hbox hb; have n0_ := Aside0.mk (below_step (by repeat (first | (with_reducible first | exact HB.out | apply below_alloc | apply pw_below_drewN | apply below_drew1) | exact HB.out)) hb); have n1_ := Aside0.mk (hbox); have n2_ := Aside0.mk ((by rw [hg]; exact (below_size (by repeat (first | (with_reducible first | exact HB.out | apply below_alloc | apply pw_below_drewN | apply below_drew1) | exact HB.out))) : w.heap.size ≤ gb216)); have n3_ := Aside0.mk ((by rw [hg]; exact (below_size (by repeat (first | (with_reducible first | exact HB.out | apply below_alloc | apply pw_below_drewN | apply below_drew1) | exact HB.out))) : w.heap.size ≤ gb216)); clear HB; have HB := n0_; have BK216 := n1_; have GW216 := n2_; have GE216 := n3_; clear n0_ n1_ n2_ n3_; clear hb hbox hg) | ((with_reducible refine gate_callee (f := 50) rfl ?_); refine goesL_ (some 16) rfl rfl Tryz.func50 (by kernel_rfl) rfl #[.string a0, .int .i64 a1] rfl (by (try simp only [List.map_toArray, List.map_cons, List.map_nil]); first | done | rfl | (simp only [List.length_drop, List.length_take]; rfl)) ?_; (with_reducible refine (lex_Skip.calls k a0 a1 t217 _ A3.out).mono ?_); rintro e w11 ⟨rfl, hb⟩; refine ⟨_, rfl, ?_⟩; have n0_ := Aside0.mk (blk_below (g := gb216) (o := .cells #[.int .i64 0, .int .i64 0, .int .i64 0, .string (⟨#[]⟩ : ByteArray)] 65 (0, 0)) (by (with_reducible repeat (first | refine blk_drewN ?_ _ | refine blk_drew ?_ | refine blk_alloc ?_ _)); exact BK216.out) hb); have n1_ := Aside0.mk (below_step (by repeat (first | (with_reducible first | exact HB.out | apply below_alloc | apply pw_below_drewN | apply below_drew1 | refine below_set ?_ GE216.out) | exact HB.out)) hb); clear BK216; clear HB; have BK216 := n0_; have HB := n1_; clear n0_ n1_; (try clear hb); (try clear hb2); (try clear hk); (try clear hi)) | ((with_reducible refine gate_callee (f := 51) rfl ?_); refine goesL_ (some 28) rfl rfl Tryz.func51 (by kernel_rfl) rfl #[.string a0, .int .i64 t217] rfl (by (try simp only [List.map_toArray, List.map_cons, List.map_nil]); first | done | rfl | (simp only [List.length_drop, List.length_take]; rfl)) ?_; (with_reducible refine (tok_source_sign.calls a0 t217 t218 t219 t220 t221 t222 true _ A8.out).mono ?_); rintro e w12 ⟨rfl, hb⟩; refine ⟨_, rfl, ?_⟩; have n0_ := Aside0.mk (blk_below (g := gb216) (o := .cells #[.int .i64 0, .int .i64 0, .int .i64 0, .string (⟨#[]⟩ : ByteArray)] 65 (0, 0)) (by (with_reducible repeat (first | refine blk_drewN ?_ _ | refine blk_drew ?_ | refine blk_alloc ?_ _)); exact BK216.out) hb); have n1_ := Aside0.mk (below_step (by repeat (first | (with_reducible first | exact HB.out | apply below_alloc | apply pw_below_drewN | apply below_drew1 | refine below_set ?_ GE216.out) | exact HB.out)) hb); clear BK216; clear HB; have BK216 := n0_; have HB := n1_; clear n0_ n1_; (try clear hb); (try clear hb2); (try clear hk); (try clear hi)) | ((with_reducible refine gate_dst (N := 9) rfl ?_); refine box_event ?hg (N := 9) ?hd (cs := #[.int .i64 0, .int .i64 0, .int .i64 0, .string (⟨#[]⟩ : ByteArray)]) (t := 65) ?hr ?_; (case hd => rfl); (case hg => rfl); (case hr => first | (go_simp; done) | (go_simp; rfl)); intro gb224 hg w13 hbox hb; have n0_ := Aside0.mk (blk_below (g := gb216) (o := .cells #[.int .i64 0, .int .i64 0, .int .i64 0, .string (⟨#[]⟩ : ByteArray)] 65 (0, 0)) (by (with_reducible repeat (first | refine blk_drewN ?_ _ | refine blk_drew ?_ | refine blk_alloc ?_ _)); exact BK216.out) hb); have n1_ := Aside0.mk (below_step (by repeat (first | (with_reducible first | exact HB.out | apply below_alloc | apply pw_below_drewN | apply below_drew1 | refine below_set ?_ GE216.out) | exact HB.out)) hb); have n2_ := Aside0.mk (hbox); have n3_ := Aside0.mk ((by rw [hg]; exact (below_size (by repeat (first | (with_reducible first | exact HB.out | apply below_alloc | apply pw_below_drewN | apply below_drew1 | refine below_set ?_ GE216.out) | exact HB.out))) : w.heap.size ≤ gb224)); have n4_ := Aside0.mk ((by rw [hg]; exact (below_size (by repeat (first | (with_reducible first | exact HB.out | apply below_alloc | apply pw_below_drewN | apply below_drew1 | refine below_set ?_ GE216.out) | exact HB.out))) : w.heap.size ≤ gb224)); have n5_ := Aside0.mk ((by rw [hg]; exact Nat.ne_of_lt (blk_lt (g := gb216) (o := .cells #[.int .i64 0, .int .i64 0, .int .i64 0, .string (⟨#[]⟩ : ByteArray)] 65 (0, 0)) (by (with_reducible repeat (first | refine blk_drewN ?_ _ | refine blk_drew ?_ | refine blk_alloc ?_ _)); exact BK216.out)) : gb216 ≠ gb224)); have n6_ := Aside0.mk ((by rw [hg]; exact Nat.ne_of_gt (blk_lt (g := gb216) (o := .cells #[.int .i64 0, .int .i64 0, .int .i64 0, .string (⟨#[]⟩ : ByteArray)] 65 (0, 0)) (by (with_reducible repeat (first | refine blk_drewN ?_ _ | refine blk_drew ?_ | refine blk_alloc ?_ _)); exact BK216.out)) : gb224 ≠ gb216)); clear BK216; clear HB; have BK216 := n0_; have HB := n1_; have BK224 := n2_; have GW224 := n3_; have GE224 := n4_; have NB216_224 := n5_; have NB224_216 := n6_; clear n0_ n1_ n2_ n3_ n4_ n5_ n6_; clear hb hbox hg; have hnb14 := NB224_216.out; have hnc14 := NB216_224.out; have hcz15_0 : w13.cell? ⟨gb224, 0, none⟩ = some (.int .i64 0) := (blk_cell BK224.out 0).trans rfl; have hcz15_1 : w13.cell? ⟨gb224, 1, none⟩ = some (.int .i64 0) := (blk_cell BK224.out 1).trans rfl; have hcz15_2 : w13.cell? ⟨gb224, 2, none⟩ = some (.int .i64 0) := (blk_cell BK224.out 2).trans rfl; have hcz15_3 : w13.cell? ⟨gb224, 3, none⟩ = some (.string (⟨#[]⟩ : ByteArray)) := (blk_cell BK224.out 3).trans rfl; have hfz15_0 := blk_frozen BK224.out 0; have hfz15_1 := blk_frozen BK224.out 1; have hfz15_2 := blk_frozen BK224.out 2; have hfz15_3 := blk_frozen BK224.out 3; have hcz16_0 : w13.cell? ⟨gb216, 0, none⟩ = some (.int .i64 0) := (blk_cell BK216.out 0).trans rfl; have hcz16_1 : w13.cell? ⟨gb216, 1, none⟩ = some (.int .i64 0) := (blk_cell BK216.out 1).trans rfl; have hcz16_2 : w13.cell? ⟨gb216, 2, none⟩ = some (.int .i64 0) := (blk_cell BK216.out 2).trans rfl; have hcz16_3 : w13.cell? ⟨gb216, 3, none⟩ = some (.string (⟨#[]⟩ : ByteArray)) := (blk_cell BK216.out 3).trans rfl; have hfz16_0 := blk_frozen BK216.out 0; have hfz16_1 := blk_frozen BK216.out 1; have hfz16_2 := blk_frozen BK216.out 2; have hfz16_3 := blk_frozen BK216.out 3))
      refine bodyPost_ret (results_ctt rfl _ _ gb216 65 #[.int .i64 t218, .int .i64 t219, .int .i64 t220, .string t221] (0, 0) _ rfl (by (with_reducible repeat (first | refine blk_drewN ?_ _ | refine blk_drew ?_ | refine blk_alloc ?_ _)); refine blk_put (cs := #[.int .i64 t218, .int .i64 t219, .int .i64 t220, .string (⟨#[]⟩ : ByteArray)]) ?_ 3 _ rfl; (with_reducible repeat (first | refine blk_drewN ?_ _ | refine blk_drew ?_ | refine blk_alloc ?_ _)); refine blk_put (cs := #[.int .i64 t218, .int .i64 t219, .int .i64 0, .string (⟨#[]⟩ : ByteArray)]) ?_ 2 _ rfl; (with_reducible repeat (first | refine blk_drewN ?_ _ | refine blk_drew ?_ | refine blk_alloc ?_ _)); refine blk_put (cs := #[.int .i64 t218, .int .i64 0, .int .i64 0, .string (⟨#[]⟩ : ByteArray)]) ?_ 1 _ rfl; (with_reducible repeat (first | refine blk_drewN ?_ _ | refine blk_drew ?_ | refine blk_alloc ?_ _)); refine blk_put (cs := #[.int .i64 0, .int .i64 0, .int .i64 0, .string (⟨#[]⟩ : ByteArray)]) ?_ 0 _ rfl; (with_reducible repeat (first | refine blk_drewN ?_ _ | refine blk_drew ?_ | refine blk_alloc ?_ _)); refine blk_far ?_ NB216_224.out _; (with_reducible repeat (first | refine blk_drewN ?_ _ | refine blk_drew ?_ | refine blk_alloc ?_ _)); refine blk_far ?_ NB216_224.out _; (with_reducible repeat (first | refine blk_drewN ?_ _ | refine blk_drew ?_ | refine blk_alloc ?_ _)); refine blk_far ?_ NB216_224.out _; (with_reducible repeat (first | refine blk_drewN ?_ _ | refine blk_drew ?_ | refine blk_alloc ?_ _)); refine blk_far ?_ NB216_224.out _; (with_reducible repeat (first | refine blk_drewN ?_ _ | refine blk_drew ?_ | refine blk_alloc ?_ _)); exact BK216.out) Tryz.underlying65 rfl (by kernel_rfl)) rfl ?_
      exact ⟨by first | rfl | (simp [errW_none, errW_some] <;> rfl) | (simp [*, errW_none, errW_some] <;> rfl), by repeat (first | (with_reducible first | exact HB.out | apply below_alloc | apply pw_below_drewN | apply below_drew1 | refine below_set ?_ GE216.out | refine below_set ?_ GE224.out) | exact HB.out)⟩
    · replace c9 := Bool.eq_false_iff.mpr c9
      subst c9
      have H1 : (if 0 ≤ t217 then (if t217 < (a0.size : Int) then (if (bt a0 t217) = 41 then (tok_Next.j0 k a0 t217 a0 (bt a0 t217) ((bt a0 t217) == 41)) else (tok_Next.j0 k a0 t217 a0 (bt a0 t217) ((bt a0 t217) == 62))) else (none)) else (none)) = some (r1, r2, r3, r4, r5, r6) := by rw [if_neg (show ¬ (false = true) by decide)] at H; exact H
      clear H
      have H := H1
      clear H1
      by_cases c17 : 0 ≤ t217
      · rw [if_pos c17] at H
        have c17b0 : decide (0 ≤ t217) = true := decide_eq_true c17
        clear c17
        by_cases c18 : t217 < (a0.size : Int)
        · rw [if_pos c18] at H
          have c18b0 : decide (t217 < (a0.size : Int)) = true := decide_eq_true c18
          clear c18
          have HC20 := Aside0.mk H
          clear H
          go_enter Tryz.func38, Tryz.ntmps38
          go_upto_if 38 with (first | ((with_reducible refine gate_dst (N := 4) rfl ?_); refine box_event ?hg (N := 4) ?hd (cs := #[.int .i64 0, .int .i64 0, .int .i64 0, .string (⟨#[]⟩ : ByteArray)]) (t := 65) ?hr ?_; (case hd => rfl); (case hg => rfl); (case hr => first | (go_simp; done) | (go_simp; rfl)); intro gb216 hg w21 hbox hb; have n0_ := Aside0.mk (below_step (by repeat (first | (with_reducible first | exact HB.out | apply below_alloc | apply pw_below_drewN | apply below_drew1) | exact HB.out)) hb); have n1_ := Aside0.mk (hbox); have n2_ := Aside0.mk ((by rw [hg]; exact (below_size (by repeat (first | (with_reducible first | exact HB.out | apply below_alloc | apply pw_below_drewN | apply below_drew1) | exact HB.out))) : w.heap.size ≤ gb216)); have n3_ := Aside0.mk ((by rw [hg]; exact (below_size (by repeat (first | (with_reducible first | exact HB.out | apply below_alloc | apply pw_below_drewN | apply below_drew1) | exact HB.out))) : w.heap.size ≤ gb216)); clear HB; have HB := n0_; have BK216 := n1_; have GW216 := n2_; have GE216 := n3_; clear n0_ n1_ n2_ n3_; clear hb hbox hg) | ((with_reducible refine gate_callee (f := 50) rfl ?_); refine goesL_ (some 16) rfl rfl Tryz.func50 (by kernel_rfl) rfl #[.string a0, .int .i64 a1] rfl (by (try simp only [List.map_toArray, List.map_cons, List.map_nil]); first | done | rfl | (simp only [List.length_drop, List.length_take]; rfl)) ?_; (with_reducible refine (lex_Skip.calls k a0 a1 t217 _ A3.out).mono ?_); rintro e w22 ⟨rfl, hb⟩; refine ⟨_, rfl, ?_⟩; have n0_ := Aside0.mk (blk_below (g := gb216) (o := .cells #[.int .i64 0, .int .i64 0, .int .i64 0, .string (⟨#[]⟩ : ByteArray)] 65 (0, 0)) (by (with_reducible repeat (first | refine blk_drewN ?_ _ | refine blk_drew ?_ | refine blk_alloc ?_ _)); exact BK216.out) hb); have n1_ := Aside0.mk (below_step (by repeat (first | (with_reducible first | exact HB.out | apply below_alloc | apply pw_below_drewN | apply below_drew1 | refine below_set ?_ GE216.out) | exact HB.out)) hb); clear BK216; clear HB; have BK216 := n0_; have HB := n1_; clear n0_ n1_; (try clear hb); (try clear hb2); (try clear hk); (try clear hi)) | ((with_reducible refine gate_callee (f := 51) rfl ?_); refine goesL_ (some 28) rfl rfl Tryz.func51 (by kernel_rfl) rfl #[.string a0, .int .i64 t217] rfl (by (try simp only [List.map_toArray, List.map_cons, List.map_nil]); first | done | rfl | (simp only [List.length_drop, List.length_take]; rfl)) ?_; (with_reducible refine (tok_source_sign.calls a0 t217 t218 t219 t220 t221 t222 false _ A8.out).mono ?_); rintro e w23 ⟨rfl, hb⟩; refine ⟨_, rfl, ?_⟩; have n0_ := Aside0.mk (blk_below (g := gb216) (o := .cells #[.int .i64 0, .int .i64 0, .int .i64 0, .string (⟨#[]⟩ : ByteArray)] 65 (0, 0)) (by (with_reducible repeat (first | refine blk_drewN ?_ _ | refine blk_drew ?_ | refine blk_alloc ?_ _)); exact BK216.out) hb); have n1_ := Aside0.mk (below_step (by repeat (first | (with_reducible first | exact HB.out | apply below_alloc | apply pw_below_drewN | apply below_drew1 | refine below_set ?_ GE216.out) | exact HB.out)) hb); clear BK216; clear HB; have BK216 := n0_; have HB := n1_; clear n0_ n1_; (try clear hb); (try clear hb2); (try clear hk); (try clear hi)) | ((with_reducible refine gate_dst (N := 9) rfl ?_); refine box_event ?hg (N := 9) ?hd (cs := #[.int .i64 0, .int .i64 0, .int .i64 0, .string (⟨#[]⟩ : ByteArray)]) (t := 65) ?hr ?_; (case hd => rfl); (case hg => rfl); (case hr => first | (go_simp; done) | (go_simp; rfl)); intro gb224 hg w24 hbox hb; have n0_ := Aside0.mk (blk_below (g := gb216) (o := .cells #[.int .i64 0, .int .i64 0, .int .i64 0, .string (⟨#[]⟩ : ByteArray)] 65 (0, 0)) (by (with_reducible repeat (first | refine blk_drewN ?_ _ | refine blk_drew ?_ | refine blk_alloc ?_ _)); exact BK216.out) hb); have n1_ := Aside0.mk (below_step (by repeat (first | (with_reducible first | exact HB.out | apply below_alloc | apply pw_below_drewN | apply below_drew1 | refine below_set ?_ GE216.out) | exact HB.out)) hb); have n2_ := Aside0.mk (hbox); have n3_ := Aside0.mk ((by rw [hg]; exact (below_size (by repeat (first | (with_reducible first | exact HB.out | apply below_alloc | apply pw_below_drewN | apply below_drew1 | refine below_set ?_ GE216.out) | exact HB.out))) : w.heap.size ≤ gb224)); have n4_ := Aside0.mk ((by rw [hg]; exact (below_size (by repeat (first | (with_reducible first | exact HB.out | apply below_alloc | apply pw_below_drewN | apply below_drew1 | refine below_set ?_ GE216.out) | exact HB.out))) : w.heap.size ≤ gb224)); have n5_ := Aside0.mk ((by rw [hg]; exact Nat.ne_of_lt (blk_lt (g := gb216) (o := .cells #[.int .i64 0, .int .i64 0, .int .i64 0, .string (⟨#[]⟩ : ByteArray)] 65 (0, 0)) (by (with_reducible repeat (first | refine blk_drewN ?_ _ | refine blk_drew ?_ | refine blk_alloc ?_ _)); exact BK216.out)) : gb216 ≠ gb224)); have n6_ := Aside0.mk ((by rw [hg]; exact Nat.ne_of_gt (blk_lt (g := gb216) (o := .cells #[.int .i64 0, .int .i64 0, .int .i64 0, .string (⟨#[]⟩ : ByteArray)] 65 (0, 0)) (by (with_reducible repeat (first | refine blk_drewN ?_ _ | refine blk_drew ?_ | refine blk_alloc ?_ _)); exact BK216.out)) : gb224 ≠ gb216)); clear BK216; clear HB; have BK216 := n0_; have HB := n1_; have BK224 := n2_; have GW224 := n3_; have GE224 := n4_; have NB216_224 := n5_; have NB224_216 := n6_; clear n0_ n1_ n2_ n3_ n4_ n5_ n6_; clear hb hbox hg; have hnb25 := NB224_216.out; have hnc25 := NB216_224.out; have hcz26_0 : w24.cell? ⟨gb224, 0, none⟩ = some (.int .i64 0) := (blk_cell BK224.out 0).trans rfl; have hcz26_1 : w24.cell? ⟨gb224, 1, none⟩ = some (.int .i64 0) := (blk_cell BK224.out 1).trans rfl; have hcz26_2 : w24.cell? ⟨gb224, 2, none⟩ = some (.int .i64 0) := (blk_cell BK224.out 2).trans rfl; have hcz26_3 : w24.cell? ⟨gb224, 3, none⟩ = some (.string (⟨#[]⟩ : ByteArray)) := (blk_cell BK224.out 3).trans rfl; have hfz26_0 := blk_frozen BK224.out 0; have hfz26_1 := blk_frozen BK224.out 1; have hfz26_2 := blk_frozen BK224.out 2; have hfz26_3 := blk_frozen BK224.out 3; have p19 : 0 ≤ (t217 : Int) := of_decide_eq_true (by first | (with_reducible assumption) | assumption); have q19 : t217 < (a0.size : Int) := of_decide_eq_true (by first | (with_reducible assumption) | assumption); have hx19 := bt_at a0 t217; replace p19 := eq_true p19; replace q19 := eq_true q19))
          (try simp only [Act.put, List.setIfInBounds_toArray, List.set_cons_zero, List.set_cons_succ])
          go_cut [38] (fun v38 wc => ∃ (kq : Nat) (x38_19 : Bool), v38 = .bool x38_19 ∧ Aside0 (tok_Next.j0 kq a0 t217 a0 (bt a0 t217) x38_19 = some (r1, r2, r3, r4, r5, r6)) ∧ Aside0 (kq ≤ k) ∧ Aside0 (wc.heap[gb216]? = some (.cells #[.int .i64 0, .int .i64 0, .int .i64 0, .string (⟨#[]⟩ : ByteArray)] 65 (0, 0))) ∧ Aside0 (wc.heap[gb224]? = some (.cells #[.int .i64 t218, .int .i64 t219, .int .i64 t220, .string t221] 65 (0, 0))) ∧ Aside0 (Below w.heap.size w wc))
          case first =>
            have H := HC20.out
            clear HC20
            by_cases c27 : (bt a0 t217) = 41
            · rw [if_pos c27] at H
              have c27b0 : ((bt a0 t217) == 41) = true := beq_iff_eq.mpr c27
              have c27b1 : ((bt a0 t217) != 41) = false := bne_eq_false_iff_eq.mpr c27
              clear c27
              (first | rw [c27b0] | (simp only [i64_w, i32_w]; rw [c27b0]) | skip)
              have H' := Aside0.mk H
              clear H
              go_wp2
              go_meet
              case rel => exact ⟨_, (((bt a0 t217) == 41)), (by first | rfl | (simp; done) | (simp [*]; done)), H', ⟨by first | omega | exact Nat.le_refl _⟩, ⟨by (with_reducible repeat (first | refine blk_drewN ?_ _ | refine blk_drew ?_ | refine blk_alloc ?_ _)); refine blk_far ?_ NB216_224.out _; (with_reducible repeat (first | refine blk_drewN ?_ _ | refine blk_drew ?_ | refine blk_alloc ?_ _)); refine blk_far ?_ NB216_224.out _; (with_reducible repeat (first | refine blk_drewN ?_ _ | refine blk_drew ?_ | refine blk_alloc ?_ _)); refine blk_far ?_ NB216_224.out _; (with_reducible repeat (first | refine blk_drewN ?_ _ | refine blk_drew ?_ | refine blk_alloc ?_ _)); refine blk_far ?_ NB216_224.out _; (with_reducible repeat (first | refine blk_drewN ?_ _ | refine blk_drew ?_ | refine blk_alloc ?_ _)); exact BK216.out⟩, ⟨by (with_reducible repeat (first | refine blk_drewN ?_ _ | refine blk_drew ?_ | refine blk_alloc ?_ _)); refine blk_put (cs := #[.int .i64 t218, .int .i64 t219, .int .i64 t220, .string (⟨#[]⟩ : ByteArray)]) ?_ 3 _ rfl; (with_reducible repeat (first | refine blk_drewN ?_ _ | refine blk_drew ?_ | refine blk_alloc ?_ _)); refine blk_put (cs := #[.int .i64 t218, .int .i64 t219, .int .i64 0, .string (⟨#[]⟩ : ByteArray)]) ?_ 2 _ rfl; (with_reducible repeat (first | refine blk_drewN ?_ _ | refine blk_drew ?_ | refine blk_alloc ?_ _)); refine blk_put (cs := #[.int .i64 t218, .int .i64 0, .int .i64 0, .string (⟨#[]⟩ : ByteArray)]) ?_ 1 _ rfl; (with_reducible repeat (first | refine blk_drewN ?_ _ | refine blk_drew ?_ | refine blk_alloc ?_ _)); refine blk_put (cs := #[.int .i64 0, .int .i64 0, .int .i64 0, .string (⟨#[]⟩ : ByteArray)]) ?_ 0 _ rfl; (with_reducible repeat (first | refine blk_drewN ?_ _ | refine blk_drew ?_ | refine blk_alloc ?_ _)); exact BK224.out⟩, ⟨by repeat (first | (with_reducible first | exact HB.out | apply below_alloc | apply pw_below_drewN | apply below_drew1 | refine below_set ?_ GE216.out | refine below_set ?_ GE224.out) | exact HB.out)⟩⟩
            · rw [if_neg c27] at H
              have c27b0 : ((bt a0 t217) == 41) = false := beq_eq_false_iff_ne.mpr c27
              have c27b1 : ((bt a0 t217) != 41) = true := bne_iff_ne.mpr c27
              (first | rw [c27b0] | (simp only [i64_w, i32_w]; rw [c27b0]) | skip)
              have H' := Aside0.mk H
              clear H
              go_wp2
              go_meet
              case rel => exact ⟨_, (((bt a0 t217) == 62)), (by first | rfl | (simp; done) | (simp [*]; done)), H', ⟨by first | omega | exact Nat.le_refl _⟩, ⟨by (with_reducible repeat (first | refine blk_drewN ?_ _ | refine blk_drew ?_ | refine blk_alloc ?_ _)); refine blk_far ?_ NB216_224.out _; (with_reducible repeat (first | refine blk_drewN ?_ _ | refine blk_drew ?_ | refine blk_alloc ?_ _)); refine blk_far ?_ NB216_224.out _; (with_reducible repeat (first | refine blk_drewN ?_ _ | refine blk_drew ?_ | refine blk_alloc ?_ _)); refine blk_far ?_ NB216_224.out _; (with_reducible repeat (first | refine blk_drewN ?_ _ | refine blk_drew ?_ | refine blk_alloc ?_ _)); refine blk_far ?_ NB216_224.out _; (with_reducible repeat (first | refine blk_drewN ?_ _ | refine blk_drew ?_ | refine blk_alloc ?_ _)); exact BK216.out⟩, ⟨by (with_reducible repeat (first | refine blk_drewN ?_ _ | refine blk_drew ?_ | refine blk_alloc ?_ _)); refine blk_put (cs := #[.int .i64 t218, .int .i64 t219, .int .i64 t220, .string (⟨#[]⟩ : ByteArray)]) ?_ 3 _ rfl; (with_reducible repeat (first | refine blk_drewN ?_ _ | refine blk_drew ?_ | refine blk_alloc ?_ _)); refine blk_put (cs := #[.int .i64 t218, .int .i64 t219, .int .i64 0, .string (⟨#[]⟩ : ByteArray)]) ?_ 2 _ rfl; (with_reducible repeat (first | refine blk_drewN ?_ _ | refine blk_drew ?_ | refine blk_alloc ?_ _)); refine blk_put (cs := #[.int .i64 t218, .int .i64 0, .int .i64 0, .string (⟨#[]⟩ : ByteArray)]) ?_ 1 _ rfl; (with_reducible repeat (first | refine blk_drewN ?_ _ | refine blk_drew ?_ | refine blk_alloc ?_ _)); refine blk_put (cs := #[.int .i64 0, .int .i64 0, .int .i64 0, .string (⟨#[]⟩ : ByteArray)]) ?_ 0 _ rfl; (with_reducible repeat (first | refine blk_drewN ?_ _ | refine blk_drew ?_ | refine blk_alloc ?_ _)); exact BK224.out⟩, ⟨by repeat (first | (with_reducible first | exact HB.out | apply below_alloc | apply pw_below_drewN | apply below_drew1 | refine below_set ?_ GE216.out | refine below_set ?_ GE224.out) | exact HB.out)⟩⟩
          case rest =>
            clear HC20
            try clear c1
            try clear p1
            try clear q1
            try clear hx1
            try clear c2
            try clear p2
            try clear c3
            try clear c4
            try clear c4b0
            try clear c4b1
            try clear c5
            try clear c9
            try clear c14
            try clear c17
            try clear c17b0
            try clear c18
            try clear c18b0
            try clear p19
            try clear q19
            try clear hx19
            try clear c25
            try clear c27
            try clear c27b0
            try clear c27b1
            try clear hcz15_0
            try clear hcz15_1
            try clear hcz15_2
            try clear hcz15_3
            try clear hcz16_0
            try clear hcz16_1
            try clear hcz16_2
            try clear hcz16_3
            try clear hcz26_0
            try clear hcz26_1
            try clear hcz26_2
            try clear hcz26_3
            try clear hcz7_0
            try clear hcz7_1
            try clear hcz7_2
            try clear hcz7_3
            try clear hfz15_0
            try clear hfz15_1
            try clear hfz15_2
            try clear hfz15_3
            try clear hfz16_0
            try clear hfz16_1
            try clear hfz16_2
            try clear hfz16_3
            try clear hfz26_0
            try clear hfz26_1
            try clear hfz26_2
            try clear hfz26_3
            try clear hfz7_0
            try clear hfz7_1
            try clear hfz7_2
            try clear hfz7_3
            try clear p19
            try clear q19
            obtain ⟨kq, x38_19, rfl, HA, HJ19, BK216, BK224, HB⟩ := hcut
            cases kq with
            | zero => exact absurd HA.out (by simp [tok_Next.j0])
            | succ kj19 =>
              have H := HA.out
              clear HA
              simp only [tok_Next.j0] at H
              by_cases c28 : x38_19 = true
              · subst c28
                have H1 : (some (0, 0, 0, (⟨#[]⟩ : ByteArray), t217, 3)) = some (r1, r2, r3, r4, r5, r6) := by rw [if_pos rfl] at H; exact H
                clear H
                have H := H1
                clear H1
                simp only [Option.some.injEq, Prod.mk.injEq] at H
                obtain ⟨rfl, rfl, rfl, rfl, rfl, rfl⟩ := H
                have hnb29 := NB216_224.out
                have hnc29 := NB224_216.out
                have hcz30_0 : wc.cell? ⟨gb216, 0, none⟩ = some (.int .i64 0) := (blk_cell BK216.out 0).trans rfl
                have hcz30_1 : wc.cell? ⟨gb216, 1, none⟩ = some (.int .i64 0) := (blk_cell BK216.out 1).trans rfl
                have hcz30_2 : wc.cell? ⟨gb216, 2, none⟩ = some (.int .i64 0) := (blk_cell BK216.out 2).trans rfl
                have hcz30_3 : wc.cell? ⟨gb216, 3, none⟩ = some (.string (⟨#[]⟩ : ByteArray)) := (blk_cell BK216.out 3).trans rfl
                have hfz30_0 := blk_frozen BK216.out 0
                have hfz30_1 := blk_frozen BK216.out 1
                have hfz30_2 := blk_frozen BK216.out 2
                have hfz30_3 := blk_frozen BK216.out 3
                go_wp2
                refine bodyPost_ret (results_ctt rfl _ _ gb216 65 #[.int .i64 0, .int .i64 0, .int .i64 0, .string (⟨#[]⟩ : ByteArray)] (0, 0) _ rfl (by (with_reducible repeat (first | refine blk_drewN ?_ _ | refine blk_drew ?_ | refine blk_alloc ?_ _)); refine blk_put (cs := #[.int .i64 0, .int .i64 0, .int .i64 0, .string (⟨#[]⟩ : ByteArray)]) ?_ 3 _ rfl; (with_reducible repeat (first | refine blk_drewN ?_ _ | refine blk_drew ?_ | refine blk_alloc ?_ _)); refine blk_put (cs := #[.int .i64 0, .int .i64 0, .int .i64 0, .string (⟨#[]⟩ : ByteArray)]) ?_ 2 _ rfl; (with_reducible repeat (first | refine blk_drewN ?_ _ | refine blk_drew ?_ | refine blk_alloc ?_ _)); refine blk_put (cs := #[.int .i64 0, .int .i64 0, .int .i64 0, .string (⟨#[]⟩ : ByteArray)]) ?_ 1 _ rfl; (with_reducible repeat (first | refine blk_drewN ?_ _ | refine blk_drew ?_ | refine blk_alloc ?_ _)); refine blk_put (cs := #[.int .i64 0, .int .i64 0, .int .i64 0, .string (⟨#[]⟩ : ByteArray)]) ?_ 0 _ rfl; (with_reducible repeat (first | refine blk_drewN ?_ _ | refine blk_drew ?_ | refine blk_alloc ?_ _)); exact BK216.out) Tryz.underlying65 rfl (by kernel_rfl)) rfl ?_
                exact ⟨by first | rfl | (simp [errW_none, errW_some] <;> rfl) | (simp [*, errW_none, errW_some] <;> rfl), by repeat (first | (with_reducible first | exact HB.out | apply below_alloc | apply pw_below_drewN | apply below_drew1 | refine below_set ?_ GE216.out | refine below_set ?_ GE224.out) | exact HB.out)⟩
              · replace c28 := Bool.eq_false_iff.mpr c28
                subst c28
                have H1 : (if (bt a0 t217) = 47 then ((lex_Word.f kj19 a0 (wrap64 (t217 + 1))).bind fun bt225 => ((lex_Name.f bt225.1).bind fun t227 => (some (2, t217, 0, t227, bt225.2, 0)))) else (if (bt a0 t217) = 60 then ((tok_source_hexed.f kj19 a0 t217).bind fun bt228 => (some (bt228.1, bt228.2.1, bt228.2.2.1, bt228.2.2.2.1, bt228.2.2.2.2.1, bt228.2.2.2.2.2))) else (if (bt a0 t217) = 40 then ((tok_source_strung.f kj19 a0 t217).bind fun bt234 => (some (bt234.1, bt234.2.1, bt234.2.2.1, bt234.2.2.2.1, bt234.2.2.2.2.1, bt234.2.2.2.2.2))) else ((tok_source_worded.f kj19 a0 t217).bind fun bt240 => (some (bt240.1, bt240.2.1, bt240.2.2.1, bt240.2.2.2.1, bt240.2.2.2.2.1, bt240.2.2.2.2.2)))))) = some (r1, r2, r3, r4, r5, r6) := by rw [if_neg (show ¬ (false = true) by decide)] at H; exact H
                clear H
                have H := H1
                clear H1
                by_cases c31 : (bt a0 t217) = 47
                · rw [if_pos c31] at H
                  have c31b0 : ((bt a0 t217) == 47) = true := beq_iff_eq.mpr c31
                  have c31b1 : ((bt a0 t217) != 47) = false := bne_eq_false_iff_eq.mpr c31
                  clear c31
                  replace H := Option.bind_eq_some_iff.mp H
                  obtain ⟨⟨t225, t226⟩, A320, H⟩ := H
                  replace H : ((lex_Name.f t225).bind fun t227 => (some (2, t217, 0, t227, t226, 0))) = some (r1, r2, r3, r4, r5, r6) := H
                  have A32 := Aside0.mk A320
                  clear A320
                  replace H := Option.bind_eq_some_iff.mp H
                  obtain ⟨t227, A330, H⟩ := H
                  replace H : (some (2, t217, 0, t227, t226, 0)) = some (r1, r2, r3, r4, r5, r6) := H
                  have A33 := Aside0.mk A330
                  clear A330
                  simp only [Option.some.injEq, Prod.mk.injEq] at H
                  obtain ⟨rfl, rfl, rfl, rfl, rfl, rfl⟩ := H
                  go_wp2_with (first | ((with_reducible refine gate_callee (f := 52) rfl ?_); refine goesL_ (some 49) rfl rfl Tryz.func52 (by kernel_rfl) rfl #[.string a0, .int .i64 (wrap64 (t217 + 1))] rfl (by (try simp only [List.map_toArray, List.map_cons, List.map_nil]); first | done | rfl | (simp only [List.length_drop, List.length_take]; rfl)) ?_; (with_reducible refine (lex_Word.calls kj19 a0 (wrap64 (t217 + 1)) t225 t226 _ A32.out).mono ?_); rintro e w34 ⟨rfl, hb⟩; refine ⟨_, rfl, ?_⟩; have n0_ := Aside0.mk (blk_below (g := gb216) (o := .cells #[.int .i64 0, .int .i64 0, .int .i64 0, .string (⟨#[]⟩ : ByteArray)] 65 (0, 0)) (by (with_reducible repeat (first | refine blk_drewN ?_ _ | refine blk_drew ?_ | refine blk_alloc ?_ _)); exact BK216.out) hb); have n1_ := Aside0.mk (blk_below (g := gb224) (o := .cells #[.int .i64 t218, .int .i64 t219, .int .i64 t220, .string t221] 65 (0, 0)) (by (with_reducible repeat (first | refine blk_drewN ?_ _ | refine blk_drew ?_ | refine blk_alloc ?_ _)); exact BK224.out) hb); have n2_ := Aside0.mk (below_step (by repeat (first | (with_reducible first | exact HB.out | apply below_alloc | apply pw_below_drewN | apply below_drew1 | refine below_set ?_ GE216.out | refine below_set ?_ GE224.out) | exact HB.out)) hb); clear BK216; clear BK224; clear HB; have BK216 := n0_; have BK224 := n1_; have HB := n2_; clear n0_ n1_ n2_; (try clear hb); (try clear hb2); (try clear hk); (try clear hi)) | ((with_reducible refine gate_callee (f := 53) rfl ?_); refine goesL_ (some 54) rfl rfl Tryz.func53 (by kernel_rfl) rfl #[.string t225] rfl (by (try simp only [List.map_toArray, List.map_cons, List.map_nil]); first | done | rfl | (simp only [List.length_drop, List.length_take]; rfl)) ?_; (with_reducible refine (lex_Name.calls t225 t227 _ A33.out).mono ?_); rintro e w35 ⟨rfl, hb⟩; refine ⟨_, rfl, ?_⟩; have n0_ := Aside0.mk (blk_below (g := gb216) (o := .cells #[.int .i64 0, .int .i64 0, .int .i64 0, .string (⟨#[]⟩ : ByteArray)] 65 (0, 0)) (by (with_reducible repeat (first | refine blk_drewN ?_ _ | refine blk_drew ?_ | refine blk_alloc ?_ _)); exact BK216.out) hb); have n1_ := Aside0.mk (blk_below (g := gb224) (o := .cells #[.int .i64 t218, .int .i64 t219, .int .i64 t220, .string t221] 65 (0, 0)) (by (with_reducible repeat (first | refine blk_drewN ?_ _ | refine blk_drew ?_ | refine blk_alloc ?_ _)); exact BK224.out) hb); have n2_ := Aside0.mk (below_step (by repeat (first | (with_reducible first | exact HB.out | apply below_alloc | apply pw_below_drewN | apply below_drew1 | refine below_set ?_ GE216.out | refine below_set ?_ GE224.out) | exact HB.out)) hb); clear BK216; clear BK224; clear HB; have BK216 := n0_; have BK224 := n1_; have HB := n2_; clear n0_ n1_ n2_; (try clear hb); (try clear hb2); (try clear hk); (try clear hi); have hnb36 := NB216_224.out; have hnc36 := NB224_216.out; have hcz37_0 : w35.cell? ⟨gb216, 0, none⟩ = some (.int .i64 0) := (blk_cell BK216.out 0).trans rfl; have hcz37_1 : w35.cell? ⟨gb216, 1, none⟩ = some (.int .i64 0) := (blk_cell BK216.out 1).trans rfl; have hcz37_2 : w35.cell? ⟨gb216, 2, none⟩ = some (.int .i64 0) := (blk_cell BK216.out 2).trans rfl; have hcz37_3 : w35.cell? ⟨gb216, 3, none⟩ = some (.string (⟨#[]⟩ : ByteArray)) := (blk_cell BK216.out 3).trans rfl; have hfz37_0 := blk_frozen BK216.out 0; have hfz37_1 := blk_frozen BK216.out 1; have hfz37_2 := blk_frozen BK216.out 2; have hfz37_3 := blk_frozen BK216.out 3))
                  refine bodyPost_ret (results_ctt rfl _ _ gb216 65 #[.int .i64 2, .int .i64 t217, .int .i64 0, .string t227] (0, 0) _ rfl (by (with_reducible repeat (first | refine blk_drewN ?_ _ | refine blk_drew ?_ | refine blk_alloc ?_ _)); refine blk_put (cs := #[.int .i64 2, .int .i64 t217, .int .i64 0, .string (⟨#[]⟩ : ByteArray)]) ?_ 3 _ rfl; (with_reducible repeat (first | refine blk_drewN ?_ _ | refine blk_drew ?_ | refine blk_alloc ?_ _)); refine blk_put (cs := #[.int .i64 2, .int .i64 t217, .int .i64 0, .string (⟨#[]⟩ : ByteArray)]) ?_ 2 _ rfl; (with_reducible repeat (first | refine blk_drewN ?_ _ | refine blk_drew ?_ | refine blk_alloc ?_ _)); refine blk_put (cs := #[.int .i64 2, .int .i64 0, .int .i64 0, .string (⟨#[]⟩ : ByteArray)]) ?_ 1 _ rfl; (with_reducible repeat (first | refine blk_drewN ?_ _ | refine blk_drew ?_ | refine blk_alloc ?_ _)); refine blk_put (cs := #[.int .i64 0, .int .i64 0, .int .i64 0, .string (⟨#[]⟩ : ByteArray)]) ?_ 0 _ rfl; (with_reducible repeat (first | refine blk_drewN ?_ _ | refine blk_drew ?_ | refine blk_alloc ?_ _)); exact BK216.out) Tryz.underlying65 rfl (by kernel_rfl)) rfl ?_
                  exact ⟨by first | rfl | (simp [errW_none, errW_some] <;> rfl) | (simp [*, errW_none, errW_some] <;> rfl), by repeat (first | (with_reducible first | exact HB.out | apply below_alloc | apply pw_below_drewN | apply below_drew1 | refine below_set ?_ GE216.out | refine below_set ?_ GE224.out) | exact HB.out)⟩
                · rw [if_neg c31] at H
                  have c31b0 : ((bt a0 t217) == 47) = false := beq_eq_false_iff_ne.mpr c31
                  have c31b1 : ((bt a0 t217) != 47) = true := bne_iff_ne.mpr c31
                  by_cases c38 : (bt a0 t217) = 60
                  · rw [if_pos c38] at H
                    have c38b0 : ((bt a0 t217) == 60) = true := beq_iff_eq.mpr c38
                    have c38b1 : ((bt a0 t217) != 60) = false := bne_eq_false_iff_eq.mpr c38
                    clear c38
                    replace H := Option.bind_eq_some_iff.mp H
                    obtain ⟨⟨t228, t229, t230, t231, t232, t233⟩, A390, H⟩ := H
                    replace H : (some (t228, t229, t230, t231, t232, t233)) = some (r1, r2, r3, r4, r5, r6) := H
                    have A39 := Aside0.mk A390
                    clear A390
                    simp only [Option.some.injEq, Prod.mk.injEq] at H
                    obtain ⟨rfl, rfl, rfl, rfl, rfl, rfl⟩ := H
                    go_wp2_with (first | ((with_reducible refine gate_callee (f := 54) rfl ?_); refine goesL_ (some 61) rfl rfl Tryz.func54 (by kernel_rfl) rfl #[.string a0, .int .i64 t217] rfl (by (try simp only [List.map_toArray, List.map_cons, List.map_nil]); first | done | rfl | (simp only [List.length_drop, List.length_take]; rfl)) ?_; (with_reducible refine (tok_source_hexed.calls kj19 a0 t217 t228 t229 t230 t231 t232 t233 _ ?side1 A39.out).mono ?_); (case side1 => exact GW.below (by repeat (first | (with_reducible first | exact HB.out | apply below_alloc | apply pw_below_drewN | apply below_drew1 | refine below_set ?_ GE216.out | refine below_set ?_ GE224.out) | exact HB.out)) HG.out); rintro e w40 ⟨rfl, hb⟩; refine ⟨_, rfl, ?_⟩; have n0_ := Aside0.mk (blk_below (g := gb216) (o := .cells #[.int .i64 0, .int .i64 0, .int .i64 0, .string (⟨#[]⟩ : ByteArray)] 65 (0, 0)) (by (with_reducible repeat (first | refine blk_drewN ?_ _ | refine blk_drew ?_ | refine blk_alloc ?_ _)); exact BK216.out) hb); have n1_ := Aside0.mk (blk_below (g := gb224) (o := .cells #[.int .i64 t218, .int .i64 t219, .int .i64 t220, .string t221] 65 (0, 0)) (by (with_reducible repeat (first | refine blk_drewN ?_ _ | refine blk_drew ?_ | refine blk_alloc ?_ _)); exact BK224.out) hb); have n2_ := Aside0.mk (below_step (by repeat (first | (with_reducible first | exact HB.out | apply below_alloc | apply pw_below_drewN | apply below_drew1 | refine below_set ?_ GE216.out | refine below_set ?_ GE224.out) | exact HB.out)) hb); clear BK216; clear BK224; clear HB; have BK216 := n0_; have BK224 := n1_; have HB := n2_; clear n0_ n1_ n2_; (try clear hb); (try clear hb2); (try clear hk); (try clear hi); have hnb41 := NB216_224.out; have hnc41 := NB224_216.out; have hcz42_0 : w40.cell? ⟨gb216, 0, none⟩ = some (.int .i64 0) := (blk_cell BK216.out 0).trans rfl; have hcz42_1 : w40.cell? ⟨gb216, 1, none⟩ = some (.int .i64 0) := (blk_cell BK216.out 1).trans rfl; have hcz42_2 : w40.cell? ⟨gb216, 2, none⟩ = some (.int .i64 0) := (blk_cell BK216.out 2).trans rfl; have hcz42_3 : w40.cell? ⟨gb216, 3, none⟩ = some (.string (⟨#[]⟩ : ByteArray)) := (blk_cell BK216.out 3).trans rfl; have hfz42_0 := blk_frozen BK216.out 0; have hfz42_1 := blk_frozen BK216.out 1; have hfz42_2 := blk_frozen BK216.out 2; have hfz42_3 := blk_frozen BK216.out 3))
                    refine bodyPost_ret (results_ctt rfl _ _ gb216 65 #[.int .i64 t228, .int .i64 t229, .int .i64 t230, .string t231] (0, 0) _ rfl (by (with_reducible repeat (first | refine blk_drewN ?_ _ | refine blk_drew ?_ | refine blk_alloc ?_ _)); refine blk_put (cs := #[.int .i64 t228, .int .i64 t229, .int .i64 t230, .string (⟨#[]⟩ : ByteArray)]) ?_ 3 _ rfl; (with_reducible repeat (first | refine blk_drewN ?_ _ | refine blk_drew ?_ | refine blk_alloc ?_ _)); refine blk_put (cs := #[.int .i64 t228, .int .i64 t229, .int .i64 0, .string (⟨#[]⟩ : ByteArray)]) ?_ 2 _ rfl; (with_reducible repeat (first | refine blk_drewN ?_ _ | refine blk_drew ?_ | refine blk_alloc ?_ _)); refine blk_put (cs := #[.int .i64 t228, .int .i64 0, .int .i64 0, .string (⟨#[]⟩ : ByteArray)]) ?_ 1 _ rfl; (with_reducible repeat (first | refine blk_drewN ?_ _ | refine blk_drew ?_ | refine blk_alloc ?_ _)); refine blk_put (cs := #[.int .i64 0, .int .i64 0, .int .i64 0, .string (⟨#[]⟩ : ByteArray)]) ?_ 0 _ rfl; (with_reducible repeat (first | refine blk_drewN ?_ _ | refine blk_drew ?_ | refine blk_alloc ?_ _)); exact BK216.out) Tryz.underlying65 rfl (by kernel_rfl)) rfl ?_
                    exact ⟨by first | rfl | (simp [errW_none, errW_some] <;> rfl) | (simp [*, errW_none, errW_some] <;> rfl), by repeat (first | (with_reducible first | exact HB.out | apply below_alloc | apply pw_below_drewN | apply below_drew1 | refine below_set ?_ GE216.out | refine below_set ?_ GE224.out) | exact HB.out)⟩
                  · rw [if_neg c38] at H
                    have c38b0 : ((bt a0 t217) == 60) = false := beq_eq_false_iff_ne.mpr c38
                    have c38b1 : ((bt a0 t217) != 60) = true := bne_iff_ne.mpr c38
                    by_cases c43 : (bt a0 t217) = 40
                    · rw [if_pos c43] at H
                      have c43b0 : ((bt a0 t217) == 40) = true := beq_iff_eq.mpr c43
                      have c43b1 : ((bt a0 t217) != 40) = false := bne_eq_false_iff_eq.mpr c43
                      clear c43
                      replace H := Option.bind_eq_some_iff.mp H
                      obtain ⟨⟨t234, t235, t236, t237, t238, t239⟩, A440, H⟩ := H
                      replace H : (some (t234, t235, t236, t237, t238, t239)) = some (r1, r2, r3, r4, r5, r6) := H
                      have A44 := Aside0.mk A440
                      clear A440
                      simp only [Option.some.injEq, Prod.mk.injEq] at H
                      obtain ⟨rfl, rfl, rfl, rfl, rfl, rfl⟩ := H
                      go_wp2_with (first | ((with_reducible refine gate_callee (f := 55) rfl ?_); refine goesL_ (some 69) rfl rfl Tryz.func55 (by kernel_rfl) rfl #[.string a0, .int .i64 t217] rfl (by (try simp only [List.map_toArray, List.map_cons, List.map_nil]); first | done | rfl | (simp only [List.length_drop, List.length_take]; rfl)) ?_; (with_reducible refine (tok_source_strung.calls kj19 a0 t217 t234 t235 t236 t237 t238 t239 _ A44.out).mono ?_); rintro e w45 ⟨rfl, hb⟩; refine ⟨_, rfl, ?_⟩; have n0_ := Aside0.mk (blk_below (g := gb216) (o := .cells #[.int .i64 0, .int .i64 0, .int .i64 0, .string (⟨#[]⟩ : ByteArray)] 65 (0, 0)) (by (with_reducible repeat (first | refine blk_drewN ?_ _ | refine blk_drew ?_ | refine blk_alloc ?_ _)); exact BK216.out) hb); have n1_ := Aside0.mk (blk_below (g := gb224) (o := .cells #[.int .i64 t218, .int .i64 t219, .int .i64 t220, .string t221] 65 (0, 0)) (by (with_reducible repeat (first | refine blk_drewN ?_ _ | refine blk_drew ?_ | refine blk_alloc ?_ _)); exact BK224.out) hb); have n2_ := Aside0.mk (below_step (by repeat (first | (with_reducible first | exact HB.out | apply below_alloc | apply pw_below_drewN | apply below_drew1 | refine below_set ?_ GE216.out | refine below_set ?_ GE224.out) | exact HB.out)) hb); clear BK216; clear BK224; clear HB; have BK216 := n0_; have BK224 := n1_; have HB := n2_; clear n0_ n1_ n2_; (try clear hb); (try clear hb2); (try clear hk); (try clear hi); have hnb46 := NB216_224.out; have hnc46 := NB224_216.out; have hcz47_0 : w45.cell? ⟨gb216, 0, none⟩ = some (.int .i64 0) := (blk_cell BK216.out 0).trans rfl; have hcz47_1 : w45.cell? ⟨gb216, 1, none⟩ = some (.int .i64 0) := (blk_cell BK216.out 1).trans rfl; have hcz47_2 : w45.cell? ⟨gb216, 2, none⟩ = some (.int .i64 0) := (blk_cell BK216.out 2).trans rfl; have hcz47_3 : w45.cell? ⟨gb216, 3, none⟩ = some (.string (⟨#[]⟩ : ByteArray)) := (blk_cell BK216.out 3).trans rfl; have hfz47_0 := blk_frozen BK216.out 0; have hfz47_1 := blk_frozen BK216.out 1; have hfz47_2 := blk_frozen BK216.out 2; have hfz47_3 := blk_frozen BK216.out 3))
                      refine bodyPost_ret (results_ctt rfl _ _ gb216 65 #[.int .i64 t234, .int .i64 t235, .int .i64 t236, .string t237] (0, 0) _ rfl (by (with_reducible repeat (first | refine blk_drewN ?_ _ | refine blk_drew ?_ | refine blk_alloc ?_ _)); refine blk_put (cs := #[.int .i64 t234, .int .i64 t235, .int .i64 t236, .string (⟨#[]⟩ : ByteArray)]) ?_ 3 _ rfl; (with_reducible repeat (first | refine blk_drewN ?_ _ | refine blk_drew ?_ | refine blk_alloc ?_ _)); refine blk_put (cs := #[.int .i64 t234, .int .i64 t235, .int .i64 0, .string (⟨#[]⟩ : ByteArray)]) ?_ 2 _ rfl; (with_reducible repeat (first | refine blk_drewN ?_ _ | refine blk_drew ?_ | refine blk_alloc ?_ _)); refine blk_put (cs := #[.int .i64 t234, .int .i64 0, .int .i64 0, .string (⟨#[]⟩ : ByteArray)]) ?_ 1 _ rfl; (with_reducible repeat (first | refine blk_drewN ?_ _ | refine blk_drew ?_ | refine blk_alloc ?_ _)); refine blk_put (cs := #[.int .i64 0, .int .i64 0, .int .i64 0, .string (⟨#[]⟩ : ByteArray)]) ?_ 0 _ rfl; (with_reducible repeat (first | refine blk_drewN ?_ _ | refine blk_drew ?_ | refine blk_alloc ?_ _)); exact BK216.out) Tryz.underlying65 rfl (by kernel_rfl)) rfl ?_
                      exact ⟨by first | rfl | (simp [errW_none, errW_some] <;> rfl) | (simp [*, errW_none, errW_some] <;> rfl), by repeat (first | (with_reducible first | exact HB.out | apply below_alloc | apply pw_below_drewN | apply below_drew1 | refine below_set ?_ GE216.out | refine below_set ?_ GE224.out) | exact HB.out)⟩
                    · rw [if_neg c43] at H
                      have c43b0 : ((bt a0 t217) == 40) = false := beq_eq_false_iff_ne.mpr c43
                      have c43b1 : ((bt a0 t217) != 40) = true := bne_iff_ne.mpr c43
                      replace H := Option.bind_eq_some_iff.mp H
                      obtain ⟨⟨t240, t241, t242, t243, t244, t245⟩, A480, H⟩ := H
                      replace H : (some (t240, t241, t242, t243, t244, t245)) = some (r1, r2, r3, r4, r5, r6) := H
                      have A48 := Aside0.mk A480
                      clear A480
                      simp only [Option.some.injEq, Prod.mk.injEq] at H
                      obtain ⟨rfl, rfl, rfl, rfl, rfl, rfl⟩ := H
                      go_wp2_with (first | ((with_reducible refine gate_callee (f := 56) rfl ?_); refine goesL_ (some 75) rfl rfl Tryz.func56 (by kernel_rfl) rfl #[.string a0, .int .i64 t217] rfl (by (try simp only [List.map_toArray, List.map_cons, List.map_nil]); first | done | rfl | (simp only [List.length_drop, List.length_take]; rfl)) ?_; (with_reducible refine (tok_source_worded.calls kj19 a0 t217 t240 t241 t242 t243 t244 t245 _ ?side1 A48.out).mono ?_); (case side1 => exact GW.below (by repeat (first | (with_reducible first | exact HB.out | apply below_alloc | apply pw_below_drewN | apply below_drew1 | refine below_set ?_ GE216.out | refine below_set ?_ GE224.out) | exact HB.out)) HG.out); rintro e w49 ⟨rfl, hb⟩; refine ⟨_, rfl, ?_⟩; have n0_ := Aside0.mk (blk_below (g := gb216) (o := .cells #[.int .i64 0, .int .i64 0, .int .i64 0, .string (⟨#[]⟩ : ByteArray)] 65 (0, 0)) (by (with_reducible repeat (first | refine blk_drewN ?_ _ | refine blk_drew ?_ | refine blk_alloc ?_ _)); exact BK216.out) hb); have n1_ := Aside0.mk (blk_below (g := gb224) (o := .cells #[.int .i64 t218, .int .i64 t219, .int .i64 t220, .string t221] 65 (0, 0)) (by (with_reducible repeat (first | refine blk_drewN ?_ _ | refine blk_drew ?_ | refine blk_alloc ?_ _)); exact BK224.out) hb); have n2_ := Aside0.mk (below_step (by repeat (first | (with_reducible first | exact HB.out | apply below_alloc | apply pw_below_drewN | apply below_drew1 | refine below_set ?_ GE216.out | refine below_set ?_ GE224.out) | exact HB.out)) hb); clear BK216; clear BK224; clear HB; have BK216 := n0_; have BK224 := n1_; have HB := n2_; clear n0_ n1_ n2_; (try clear hb); (try clear hb2); (try clear hk); (try clear hi); have hnb50 := NB216_224.out; have hnc50 := NB224_216.out; have hcz51_0 : w49.cell? ⟨gb216, 0, none⟩ = some (.int .i64 0) := (blk_cell BK216.out 0).trans rfl; have hcz51_1 : w49.cell? ⟨gb216, 1, none⟩ = some (.int .i64 0) := (blk_cell BK216.out 1).trans rfl; have hcz51_2 : w49.cell? ⟨gb216, 2, none⟩ = some (.int .i64 0) := (blk_cell BK216.out 2).trans rfl; have hcz51_3 : w49.cell? ⟨gb216, 3, none⟩ = some (.string (⟨#[]⟩ : ByteArray)) := (blk_cell BK216.out 3).trans rfl; have hfz51_0 := blk_frozen BK216.out 0; have hfz51_1 := blk_frozen BK216.out 1; have hfz51_2 := blk_frozen BK216.out 2; have hfz51_3 := blk_frozen BK216.out 3))
                      refine bodyPost_ret (results_ctt rfl _ _ gb216 65 #[.int .i64 t240, .int .i64 t241, .int .i64 t242, .string t243] (0, 0) _ rfl (by (with_reducible repeat (first | refine blk_drewN ?_ _ | refine blk_drew ?_ | refine blk_alloc ?_ _)); refine blk_put (cs := #[.int .i64 t240, .int .i64 t241, .int .i64 t242, .string (⟨#[]⟩ : ByteArray)]) ?_ 3 _ rfl; (with_reducible repeat (first | refine blk_drewN ?_ _ | refine blk_drew ?_ | refine blk_alloc ?_ _)); refine blk_put (cs := #[.int .i64 t240, .int .i64 t241, .int .i64 0, .string (⟨#[]⟩ : ByteArray)]) ?_ 2 _ rfl; (with_reducible repeat (first | refine blk_drewN ?_ _ | refine blk_drew ?_ | refine blk_alloc ?_ _)); refine blk_put (cs := #[.int .i64 t240, .int .i64 0, .int .i64 0, .string (⟨#[]⟩ : ByteArray)]) ?_ 1 _ rfl; (with_reducible repeat (first | refine blk_drewN ?_ _ | refine blk_drew ?_ | refine blk_alloc ?_ _)); refine blk_put (cs := #[.int .i64 0, .int .i64 0, .int .i64 0, .string (⟨#[]⟩ : ByteArray)]) ?_ 0 _ rfl; (with_reducible repeat (first | refine blk_drewN ?_ _ | refine blk_drew ?_ | refine blk_alloc ?_ _)); exact BK216.out) Tryz.underlying65 rfl (by kernel_rfl)) rfl ?_
                      exact ⟨by first | rfl | (simp [errW_none, errW_some] <;> rfl) | (simp [*, errW_none, errW_some] <;> rfl), by repeat (first | (with_reducible first | exact HB.out | apply below_alloc | apply pw_below_drewN | apply below_drew1 | refine below_set ?_ GE216.out | refine below_set ?_ GE224.out) | exact HB.out)⟩
        · rw [if_neg c18] at H
          exact absurd H (by simp)
      · rw [if_neg c17] at H
        exact absurd H (by simp)
end Go.Proofs.YtdcldaknmenklaaGreatDoor.M
end
section
/- Laid by this session's program hbprint.py out of the translation: the function hornbook/tok.All and its contract. -/
namespace Go.Proofs.YtdcldaknmenklaaGreatDoor.M
open Go.RowKit Go.Proofs.YtdcldaknmenklaaGreatDoorW.PrintWords Go.Proofs.YtdcldaknmenklaaGreatDoorW.PrintLast Go.Proofs.YtdcldaknmenklaaGreatDoorW.PrintMore
attribute [local go_sem] max2_int min2_int max_two min_two max_three min_three max_four min_four
set_option linter.unusedVariables false
set_option linter.unusedSimpArgs false
def tok_All.l0 : Nat → ByteArray → List (S65) → Int → Option ((List (S65)) × Int × Int)
  | 0, _, _, _ => none
  | k + 1, x0, x5, x6 => (tok_Next.f k x0 x6).bind fun bt246 => (if bt246.2.2.2.2.2 = 0 then (if bt246.1 = 0 then (some (x5, (x0.size : Int), 0)) else (if (x5.length : Int) = 65536 then (some (([] : List (S65)), bt246.2.1, 10)) else (if x5.length < 3518437208883 then (tok_All.l0 k x0 (x5 ++ [(⟨bt246.1, bt246.2.1, bt246.2.2.1, bt246.2.2.2.1⟩ : S65)]) bt246.2.2.2.2.1) else (none)))) else (some (([] : List (S65)), bt246.2.2.2.2.1, bt246.2.2.2.2.2)))
def tok_All.f (k : Nat) (a0 : ByteArray) : Option ((List (S65)) × Int × Int) := tok_All.l0 k a0 ([] : List (S65)) 0
theorem tok_All.mono_l : ∀ k, (∀ y0 y1 y2, LeO (tok_All.l0 k y0 y1 y2) (tok_All.l0 (k + 1) y0 y1 y2))
  | 0 => fun _ _ _ r h => by simp [tok_All.l0] at h
  | k + 1 => by
    have ih0 := tok_All.mono_l k
    · intro y0 y1 y2
      unfold tok_All.l0
      repeat' first
      | (with_reducible exact ih0 _ _ _)
      | (with_reducible exact tok_Next.mono _ _ _)
      | (with_reducible exact LeO.refl _)
      | (with_reducible exact LeO.none _)
      | (with_reducible refine LeO.ite ?_ ?_)
      | (with_reducible refine LeO.bind ?_ (fun _ => ?_))
      | exact ih0 _ _ _
      | exact tok_Next.mono _ _ _
      | exact LeO.none _
      | refine LeO.ite ?_ ?_
      | refine LeO.bind ?_ (fun _ => ?_)
theorem tok_All.mono : ∀ a0 k, LeO (tok_All.f k a0) (tok_All.f (k + 1) a0) := by
  intro a0 k
  have ih0 := tok_All.mono_l k
  unfold tok_All.f
  repeat' first
      | (with_reducible exact ih0 _ _ _)
      | (with_reducible exact tok_Next.mono _ _ _)
      | (with_reducible exact LeO.refl _)
      | (with_reducible exact LeO.none _)
      | (with_reducible refine LeO.ite ?_ ?_)
      | (with_reducible refine LeO.bind ?_ (fun _ => ?_))
      | exact ih0 _ _ _
      | exact tok_Next.mono _ _ _
      | exact LeO.none _
      | refine LeO.ite ?_ ?_
      | refine LeO.bind ?_ (fun _ => ?_)
set_option maxHeartbeats 8000000 in
set_option maxRecDepth 100000 in
theorem tok_All.calls (k : Nat) (a0 : ByteArray) (r1 : List (S65)) (r2 : Int) (r3 : Int) (w : World) (hG : GW w) (h : tok_All.f k a0 = some (r1, r2, r3)) :
    Calls Tryz.prog 29 #[.string a0] w fun e w' => ∃ v0_ : Value, e = .returned (.tuple #[v0_, .int .i64 r2, .int .i64 r3]) ∧ Kd.R k65 65 w' w.heap.size (fun _ => True) v0_ r1 ∧ Below w.heap.size w w' := by
  have hu65 := Tryz.underlying65
  have HG := Aside0.mk hG
  clear hG
  have HB := Aside0.mk (Below.refl w.heap.size w)
  have H : (tok_All.l0 k a0 ([] : List (S65)) 0) = some (r1, r2, r3) := h
  clear h
  have H' := Aside0.mk H
  clear H
  go_enter Tryz.func29, Tryz.ntmps29
  go_wp2
  repeat (go_quiet (fail); try go_wp2)
  go_loopg [5, 6] k (fun kq v5 v6 w' => ∃ (x5_1 : List (S65)) (x6_1 : Int), v6 = .int .i64 x6_1 ∧ Aside0 (tok_All.l0 kq a0 x5_1 x6_1 = some (r1, r2, r3)) ∧ Aside0 (kq ≤ k) ∧ Aside0 (Kd.R k65 65 w' w.heap.size (fun _ => True) v5 x5_1) ∧ Aside0 (Below w.heap.size w w'))
  case atStart => exact ⟨(([] : List (S65))), (0), (by first | rfl | (simp; done) | (simp [*]; done)), H', ⟨Nat.le_refl _⟩, ⟨by first | exact Kd.R_nil _ _ _ _ _ | exact Kd.N_nil _ _ _ _ _ | exact Kd.V_nil _ _ _ _ _ | exact Kd.Q_nil _ _ _ _ _ | exact Kd.S_nil _ _ _ _ _⟩, ⟨by repeat (first | (with_reducible first | exact HB.out | apply below_alloc | apply pw_below_drewN | apply below_drew1) | exact HB.out)⟩⟩
  case round =>
    clear H'
    obtain ⟨x5_1, x6_1, rfl, HA, HK1, HO_5, HB⟩ := hrel
    cases gk with
    | zero => exact absurd HA.out (by simp [tok_All.l0])
    | succ k1 =>
      have H := HA.out
      clear HA
      simp only [tok_All.l0] at H
      replace H := Option.bind_eq_some_iff.mp H
      obtain ⟨⟨t246, t247, t248, t249, t250, t251⟩, A20, H⟩ := H
      replace H : (if t251 = 0 then (if t246 = 0 then (some (x5_1, (a0.size : Int), 0)) else (if (x5_1.length : Int) = 65536 then (some (([] : List (S65)), t247, 10)) else (if x5_1.length < 3518437208883 then (tok_All.l0 k1 a0 (x5_1 ++ [(⟨t246, t247, t248, t249⟩ : S65)]) t250) else (none)))) else (some (([] : List (S65)), t250, t251))) = some (r1, r2, r3) := H
      have A2 := Aside0.mk A20
      clear A20
      by_cases c3 : t251 = 0
      · rw [if_pos c3] at H
        have c3b0 : (t251 == 0) = true := beq_iff_eq.mpr c3
        have c3b1 : (t251 != 0) = false := bne_eq_false_iff_eq.mpr c3
        clear c3
        by_cases c4 : t246 = 0
        · rw [if_pos c4] at H
          have c4b0 : (t246 == 0) = true := beq_iff_eq.mpr c4
          have c4b1 : (t246 != 0) = false := bne_eq_false_iff_eq.mpr c4
          clear c4
          simp only [Option.some.injEq, Prod.mk.injEq] at H
          obtain ⟨rfl, rfl, rfl⟩ := H
          go_wp2_with (first | (go_at_call 38; (with_reducible refine (tok_Next.calls k1 a0 x6_1 t246 t247 t248 t249 t250 t251 _ ?side1 A2.out).mono ?_); (case side1 => exact GW.below (by repeat (first | (with_reducible first | exact HB.out | apply below_alloc | apply pw_below_drewN | apply below_drew1) | exact HB.out)) HG.out); rintro e w5 ⟨rfl, hb⟩; have n0_ := Aside0.mk (Kd.R_below (by (with_reducible repeat (first | apply Kd.R_alloc | apply Kd.R_drewN | apply Kd.R_drew)); exact HO_5.out) hb); have n1_ := Aside0.mk (below_step (by repeat (first | (with_reducible first | exact HB.out | apply below_alloc | apply pw_below_drewN | apply below_drew1) | exact HB.out)) hb); clear HO_5; clear HB; have HO_5 := n0_; have HB := n1_; clear n0_ n1_; (try clear hb); (try clear hb2); (try clear hk); (try clear hi)) | ((with_reducible refine gate_dst (N := 7) rfl ?_); refine box_event ?hg (N := 7) ?hd (cs := #[.int .i64 0, .int .i64 0, .int .i64 0, .string (⟨#[]⟩ : ByteArray)]) (t := 65) ?hr ?_; (case hd => rfl); (case hg => rfl); (case hr => first | (go_simp; done) | (go_simp; rfl)); intro gb252 hg w6 hbox hb; have n0_ := Aside0.mk (Kd.R_below (Kd.R_elderB (by (with_reducible repeat (first | apply Kd.R_alloc | apply Kd.R_drewN | apply Kd.R_drew)); exact HO_5.out) gb252 (Nat.le_of_eq hg.symm)) hb); have n1_ := Aside0.mk (below_step (by repeat (first | (with_reducible first | exact HB.out | apply below_alloc | apply pw_below_drewN | apply below_drew1) | exact HB.out)) hb); have n2_ := Aside0.mk (hbox); have n3_ := Aside0.mk ((by rw [hg]; exact (below_size (by repeat (first | (with_reducible first | exact HB.out | apply below_alloc | apply pw_below_drewN | apply below_drew1) | exact HB.out))) : w.heap.size ≤ gb252)); have n4_ := Aside0.mk ((by rw [hg]; exact (below_size (by repeat (first | (with_reducible first | exact HB.out | apply below_alloc | apply pw_below_drewN | apply below_drew1) | exact HB.out))) : w.heap.size ≤ gb252)); clear HO_5; clear HB; have HO_5 := n0_; have HB := n1_; have BK252 := n2_; have GW252 := n3_; have GE252 := n4_; clear n0_ n1_ n2_ n3_ n4_; clear hb hbox hg; have hcz7_0 : w6.cell? ⟨gb252, 0, none⟩ = some (.int .i64 0) := (blk_cell BK252.out 0).trans rfl; have hcz7_1 : w6.cell? ⟨gb252, 1, none⟩ = some (.int .i64 0) := (blk_cell BK252.out 1).trans rfl; have hcz7_2 : w6.cell? ⟨gb252, 2, none⟩ = some (.int .i64 0) := (blk_cell BK252.out 2).trans rfl; have hcz7_3 : w6.cell? ⟨gb252, 3, none⟩ = some (.string (⟨#[]⟩ : ByteArray)) := (blk_cell BK252.out 3).trans rfl; have hfz7_0 := blk_frozen BK252.out 0; have hfz7_1 := blk_frozen BK252.out 1; have hfz7_2 := blk_frozen BK252.out 2; have hfz7_3 := blk_frozen BK252.out 3))
          repeat (go_quiet (first | (go_at_call 38; (with_reducible refine (tok_Next.calls k1 a0 x6_1 t246 t247 t248 t249 t250 t251 _ ?side1 A2.out).mono ?_); (case side1 => exact GW.below (by repeat (first | (with_reducible first | exact HB.out | apply below_alloc | apply pw_below_drewN | apply below_drew1) | exact HB.out)) HG.out); rintro e w5 ⟨rfl, hb⟩; have n0_ := Aside0.mk (Kd.R_below (by (with_reducible repeat (first | apply Kd.R_alloc | apply Kd.R_drewN | apply Kd.R_drew)); exact HO_5.out) hb); have n1_ := Aside0.mk (below_step (by repeat (first | (with_reducible first | exact HB.out | apply below_alloc | apply pw_below_drewN | apply below_drew1) | exact HB.out)) hb); clear HO_5; clear HB; have HO_5 := n0_; have HB := n1_; clear n0_ n1_; (try clear hb); (try clear hb2); (try clear hk); (try clear hi)) | ((with_reducible refine gate_dst (N := 7) rfl ?_); refine box_event ?hg (N := 7) ?hd (cs := #[.int .i64 0, .int .i64 0, .int .i64 0, .string (⟨#[]⟩ : ByteArray)]) (t := 65) ?hr ?_; (case hd => rfl); (case hg => rfl); (case hr => first | (go_simp; done) | (go_simp; rfl)); intro gb252 hg w6 hbox hb; have n0_ := Aside0.mk (Kd.R_below (Kd.R_elderB (by (with_reducible repeat (first | apply Kd.R_alloc | apply Kd.R_drewN | apply Kd.R_drew)); exact HO_5.out) gb252 (Nat.le_of_eq hg.symm)) hb); have n1_ := Aside0.mk (below_step (by repeat (first | (with_reducible first | exact HB.out | apply below_alloc | apply pw_below_drewN | apply below_drew1) | exact HB.out)) hb); have n2_ := Aside0.mk (hbox); have n3_ := Aside0.mk ((by rw [hg]; exact (below_size (by repeat (first | (with_reducible first | exact HB.out | apply below_alloc | apply pw_below_drewN | apply below_drew1) | exact HB.out))) : w.heap.size ≤ gb252)); have n4_ := Aside0.mk ((by rw [hg]; exact (below_size (by repeat (first | (with_reducible first | exact HB.out | apply below_alloc | apply pw_below_drewN | apply below_drew1) | exact HB.out))) : w.heap.size ≤ gb252)); clear HO_5; clear HB; have HO_5 := n0_; have HB := n1_; have BK252 := n2_; have GW252 := n3_; have GE252 := n4_; clear n0_ n1_ n2_ n3_ n4_; clear hb hbox hg; have hcz7_0 : w6.cell? ⟨gb252, 0, none⟩ = some (.int .i64 0) := (blk_cell BK252.out 0).trans rfl; have hcz7_1 : w6.cell? ⟨gb252, 1, none⟩ = some (.int .i64 0) := (blk_cell BK252.out 1).trans rfl; have hcz7_2 : w6.cell? ⟨gb252, 2, none⟩ = some (.int .i64 0) := (blk_cell BK252.out 2).trans rfl; have hcz7_3 : w6.cell? ⟨gb252, 3, none⟩ = some (.string (⟨#[]⟩ : ByteArray)) := (blk_cell BK252.out 3).trans rfl; have hfz7_0 := blk_frozen BK252.out 0; have hfz7_1 := blk_frozen BK252.out 1; have hfz7_2 := blk_frozen BK252.out 2; have hfz7_3 := blk_frozen BK252.out 3)); try go_wp2_with (first | (go_at_call 38; (with_reducible refine (tok_Next.calls k1 a0 x6_1 t246 t247 t248 t249 t250 t251 _ ?side1 A2.out).mono ?_); (case side1 => exact GW.below (by repeat (first | (with_reducible first | exact HB.out | apply below_alloc | apply pw_below_drewN | apply below_drew1) | exact HB.out)) HG.out); rintro e w5 ⟨rfl, hb⟩; have n0_ := Aside0.mk (Kd.R_below (by (with_reducible repeat (first | apply Kd.R_alloc | apply Kd.R_drewN | apply Kd.R_drew)); exact HO_5.out) hb); have n1_ := Aside0.mk (below_step (by repeat (first | (with_reducible first | exact HB.out | apply below_alloc | apply pw_below_drewN | apply below_drew1) | exact HB.out)) hb); clear HO_5; clear HB; have HO_5 := n0_; have HB := n1_; clear n0_ n1_; (try clear hb); (try clear hb2); (try clear hk); (try clear hi)) | ((with_reducible refine gate_dst (N := 7) rfl ?_); refine box_event ?hg (N := 7) ?hd (cs := #[.int .i64 0, .int .i64 0, .int .i64 0, .string (⟨#[]⟩ : ByteArray)]) (t := 65) ?hr ?_; (case hd => rfl); (case hg => rfl); (case hr => first | (go_simp; done) | (go_simp; rfl)); intro gb252 hg w6 hbox hb; have n0_ := Aside0.mk (Kd.R_below (Kd.R_elderB (by (with_reducible repeat (first | apply Kd.R_alloc | apply Kd.R_drewN | apply Kd.R_drew)); exact HO_5.out) gb252 (Nat.le_of_eq hg.symm)) hb); have n1_ := Aside0.mk (below_step (by repeat (first | (with_reducible first | exact HB.out | apply below_alloc | apply pw_below_drewN | apply below_drew1) | exact HB.out)) hb); have n2_ := Aside0.mk (hbox); have n3_ := Aside0.mk ((by rw [hg]; exact (below_size (by repeat (first | (with_reducible first | exact HB.out | apply below_alloc | apply pw_below_drewN | apply below_drew1) | exact HB.out))) : w.heap.size ≤ gb252)); have n4_ := Aside0.mk ((by rw [hg]; exact (below_size (by repeat (first | (with_reducible first | exact HB.out | apply below_alloc | apply pw_below_drewN | apply below_drew1) | exact HB.out))) : w.heap.size ≤ gb252)); clear HO_5; clear HB; have HO_5 := n0_; have HB := n1_; have BK252 := n2_; have GW252 := n3_; have GE252 := n4_; clear n0_ n1_ n2_ n3_ n4_; clear hb hbox hg; have hcz7_0 : w6.cell? ⟨gb252, 0, none⟩ = some (.int .i64 0) := (blk_cell BK252.out 0).trans rfl; have hcz7_1 : w6.cell? ⟨gb252, 1, none⟩ = some (.int .i64 0) := (blk_cell BK252.out 1).trans rfl; have hcz7_2 : w6.cell? ⟨gb252, 2, none⟩ = some (.int .i64 0) := (blk_cell BK252.out 2).trans rfl; have hcz7_3 : w6.cell? ⟨gb252, 3, none⟩ = some (.string (⟨#[]⟩ : ByteArray)) := (blk_cell BK252.out 3).trans rfl; have hfz7_0 := blk_frozen BK252.out 0; have hfz7_1 := blk_frozen BK252.out 1; have hfz7_2 := blk_frozen BK252.out 2; have hfz7_3 := blk_frozen BK252.out 3)))
          go_ret3
          exact ⟨_, by first | rfl | (simp [errW_none, errW_some] <;> rfl) | (simp [*, errW_none, errW_some] <;> rfl), by (with_reducible repeat (first | apply Kd.R_alloc | apply Kd.R_drewN | apply Kd.R_drew)); exact Kd.R_mono (Kd.R_far (p := ⟨gb252, 3, none⟩) (Kd.R_far (p := ⟨gb252, 2, none⟩) (Kd.R_far (p := ⟨gb252, 1, none⟩) (Kd.R_far (p := ⟨gb252, 0, none⟩) (Kd.R_mono HO_5.out (fun k_ hk => (⟨hk, hk.2⟩ : _ ∧ k_ ≠ gb252))) (fun _ hk => hk.2) (.int .i64 t246)) (fun _ hk => hk.2) (.int .i64 t247)) (fun _ hk => hk.2) (.int .i64 t248)) (fun _ hk => hk.2) (.string t249)) (fun _ hk => trivial), by repeat (first | (with_reducible first | exact HB.out | apply below_alloc | apply pw_below_drewN | apply below_drew1 | refine below_set ?_ GE252.out) | exact HB.out)⟩
        · rw [if_neg c4] at H
          have c4b0 : (t246 == 0) = false := beq_eq_false_iff_ne.mpr c4
          have c4b1 : (t246 != 0) = true := bne_iff_ne.mpr c4
          by_cases c8 : (x5_1.length : Int) = 65536
          · rw [if_pos c8] at H
            have c8b0 : ((x5_1.length : Int) == 65536) = true := beq_iff_eq.mpr c8
            have c8b1 : ((x5_1.length : Int) != 65536) = false := bne_eq_false_iff_eq.mpr c8
            clear c8
            simp only [Option.some.injEq, Prod.mk.injEq] at H
            obtain ⟨rfl, rfl, rfl⟩ := H
            go_wp2_with (first | (go_at_call 38; (with_reducible refine (tok_Next.calls k1 a0 x6_1 t246 t247 t248 t249 t250 t251 _ ?side1 A2.out).mono ?_); (case side1 => exact GW.below (by repeat (first | (with_reducible first | exact HB.out | apply below_alloc | apply pw_below_drewN | apply below_drew1) | exact HB.out)) HG.out); rintro e w9 ⟨rfl, hb⟩; have n0_ := Aside0.mk (Kd.R_below (by (with_reducible repeat (first | apply Kd.R_alloc | apply Kd.R_drewN | apply Kd.R_drew)); exact HO_5.out) hb); have n1_ := Aside0.mk (below_step (by repeat (first | (with_reducible first | exact HB.out | apply below_alloc | apply pw_below_drewN | apply below_drew1) | exact HB.out)) hb); clear HO_5; clear HB; have HO_5 := n0_; have HB := n1_; clear n0_ n1_; (try clear hb); (try clear hb2); (try clear hk); (try clear hi)) | ((with_reducible refine gate_dst (N := 7) rfl ?_); refine box_event ?hg (N := 7) ?hd (cs := #[.int .i64 0, .int .i64 0, .int .i64 0, .string (⟨#[]⟩ : ByteArray)]) (t := 65) ?hr ?_; (case hd => rfl); (case hg => rfl); (case hr => first | (go_simp; done) | (go_simp; rfl)); intro gb252 hg w10 hbox hb; have n0_ := Aside0.mk (Kd.R_below (Kd.R_elderB (by (with_reducible repeat (first | apply Kd.R_alloc | apply Kd.R_drewN | apply Kd.R_drew)); exact HO_5.out) gb252 (Nat.le_of_eq hg.symm)) hb); have n1_ := Aside0.mk (below_step (by repeat (first | (with_reducible first | exact HB.out | apply below_alloc | apply pw_below_drewN | apply below_drew1) | exact HB.out)) hb); have n2_ := Aside0.mk (hbox); have n3_ := Aside0.mk ((by rw [hg]; exact (below_size (by repeat (first | (with_reducible first | exact HB.out | apply below_alloc | apply pw_below_drewN | apply below_drew1) | exact HB.out))) : w.heap.size ≤ gb252)); have n4_ := Aside0.mk ((by rw [hg]; exact (below_size (by repeat (first | (with_reducible first | exact HB.out | apply below_alloc | apply pw_below_drewN | apply below_drew1) | exact HB.out))) : w.heap.size ≤ gb252)); clear HO_5; clear HB; have HO_5 := n0_; have HB := n1_; have BK252 := n2_; have GW252 := n3_; have GE252 := n4_; clear n0_ n1_ n2_ n3_ n4_; clear hb hbox hg; have hcz11_0 : w10.cell? ⟨gb252, 0, none⟩ = some (.int .i64 0) := (blk_cell BK252.out 0).trans rfl; have hcz11_1 : w10.cell? ⟨gb252, 1, none⟩ = some (.int .i64 0) := (blk_cell BK252.out 1).trans rfl; have hcz11_2 : w10.cell? ⟨gb252, 2, none⟩ = some (.int .i64 0) := (blk_cell BK252.out 2).trans rfl; have hcz11_3 : w10.cell? ⟨gb252, 3, none⟩ = some (.string (⟨#[]⟩ : ByteArray)) := (blk_cell BK252.out 3).trans rfl; have hfz11_0 := blk_frozen BK252.out 0; have hfz11_1 := blk_frozen BK252.out 1; have hfz11_2 := blk_frozen BK252.out 2; have hfz11_3 := blk_frozen BK252.out 3; obtain ⟨Ao12, co12, eo12⟩ := Kd.R_slice HO_5.out; subst eo12))
            repeat (go_quiet (first | (go_at_call 38; (with_reducible refine (tok_Next.calls k1 a0 x6_1 t246 t247 t248 t249 t250 t251 _ ?side1 A2.out).mono ?_); (case side1 => exact GW.below (by repeat (first | (with_reducible first | exact HB.out | apply below_alloc | apply pw_below_drewN | apply below_drew1) | exact HB.out)) HG.out); rintro e w9 ⟨rfl, hb⟩; have n0_ := Aside0.mk (Kd.R_below (by (with_reducible repeat (first | apply Kd.R_alloc | apply Kd.R_drewN | apply Kd.R_drew)); exact HO_5.out) hb); have n1_ := Aside0.mk (below_step (by repeat (first | (with_reducible first | exact HB.out | apply below_alloc | apply pw_below_drewN | apply below_drew1) | exact HB.out)) hb); clear HO_5; clear HB; have HO_5 := n0_; have HB := n1_; clear n0_ n1_; (try clear hb); (try clear hb2); (try clear hk); (try clear hi)) | ((with_reducible refine gate_dst (N := 7) rfl ?_); refine box_event ?hg (N := 7) ?hd (cs := #[.int .i64 0, .int .i64 0, .int .i64 0, .string (⟨#[]⟩ : ByteArray)]) (t := 65) ?hr ?_; (case hd => rfl); (case hg => rfl); (case hr => first | (go_simp; done) | (go_simp; rfl)); intro gb252 hg w10 hbox hb; have n0_ := Aside0.mk (Kd.R_below (Kd.R_elderB (by (with_reducible repeat (first | apply Kd.R_alloc | apply Kd.R_drewN | apply Kd.R_drew)); exact HO_5.out) gb252 (Nat.le_of_eq hg.symm)) hb); have n1_ := Aside0.mk (below_step (by repeat (first | (with_reducible first | exact HB.out | apply below_alloc | apply pw_below_drewN | apply below_drew1) | exact HB.out)) hb); have n2_ := Aside0.mk (hbox); have n3_ := Aside0.mk ((by rw [hg]; exact (below_size (by repeat (first | (with_reducible first | exact HB.out | apply below_alloc | apply pw_below_drewN | apply below_drew1) | exact HB.out))) : w.heap.size ≤ gb252)); have n4_ := Aside0.mk ((by rw [hg]; exact (below_size (by repeat (first | (with_reducible first | exact HB.out | apply below_alloc | apply pw_below_drewN | apply below_drew1) | exact HB.out))) : w.heap.size ≤ gb252)); clear HO_5; clear HB; have HO_5 := n0_; have HB := n1_; have BK252 := n2_; have GW252 := n3_; have GE252 := n4_; clear n0_ n1_ n2_ n3_ n4_; clear hb hbox hg; have hcz11_0 : w10.cell? ⟨gb252, 0, none⟩ = some (.int .i64 0) := (blk_cell BK252.out 0).trans rfl; have hcz11_1 : w10.cell? ⟨gb252, 1, none⟩ = some (.int .i64 0) := (blk_cell BK252.out 1).trans rfl; have hcz11_2 : w10.cell? ⟨gb252, 2, none⟩ = some (.int .i64 0) := (blk_cell BK252.out 2).trans rfl; have hcz11_3 : w10.cell? ⟨gb252, 3, none⟩ = some (.string (⟨#[]⟩ : ByteArray)) := (blk_cell BK252.out 3).trans rfl; have hfz11_0 := blk_frozen BK252.out 0; have hfz11_1 := blk_frozen BK252.out 1; have hfz11_2 := blk_frozen BK252.out 2; have hfz11_3 := blk_frozen BK252.out 3; obtain ⟨Ao12, co12, eo12⟩ := Kd.R_slice HO_5.out; subst eo12)); try go_wp2_with (first | (go_at_call 38; (with_reducible refine (tok_Next.calls k1 a0 x6_1 t246 t247 t248 t249 t250 t251 _ ?side1 A2.out).mono ?_); (case side1 => exact GW.below (by repeat (first | (with_reducible first | exact HB.out | apply below_alloc | apply pw_below_drewN | apply below_drew1) | exact HB.out)) HG.out); rintro e w9 ⟨rfl, hb⟩; have n0_ := Aside0.mk (Kd.R_below (by (with_reducible repeat (first | apply Kd.R_alloc | apply Kd.R_drewN | apply Kd.R_drew)); exact HO_5.out) hb); have n1_ := Aside0.mk (below_step (by repeat (first | (with_reducible first | exact HB.out | apply below_alloc | apply pw_below_drewN | apply below_drew1) | exact HB.out)) hb); clear HO_5; clear HB; have HO_5 := n0_; have HB := n1_; clear n0_ n1_; (try clear hb); (try clear hb2); (try clear hk); (try clear hi)) | ((with_reducible refine gate_dst (N := 7) rfl ?_); refine box_event ?hg (N := 7) ?hd (cs := #[.int .i64 0, .int .i64 0, .int .i64 0, .string (⟨#[]⟩ : ByteArray)]) (t := 65) ?hr ?_; (case hd => rfl); (case hg => rfl); (case hr => first | (go_simp; done) | (go_simp; rfl)); intro gb252 hg w10 hbox hb; have n0_ := Aside0.mk (Kd.R_below (Kd.R_elderB (by (with_reducible repeat (first | apply Kd.R_alloc | apply Kd.R_drewN | apply Kd.R_drew)); exact HO_5.out) gb252 (Nat.le_of_eq hg.symm)) hb); have n1_ := Aside0.mk (below_step (by repeat (first | (with_reducible first | exact HB.out | apply below_alloc | apply pw_below_drewN | apply below_drew1) | exact HB.out)) hb); have n2_ := Aside0.mk (hbox); have n3_ := Aside0.mk ((by rw [hg]; exact (below_size (by repeat (first | (with_reducible first | exact HB.out | apply below_alloc | apply pw_below_drewN | apply below_drew1) | exact HB.out))) : w.heap.size ≤ gb252)); have n4_ := Aside0.mk ((by rw [hg]; exact (below_size (by repeat (first | (with_reducible first | exact HB.out | apply below_alloc | apply pw_below_drewN | apply below_drew1) | exact HB.out))) : w.heap.size ≤ gb252)); clear HO_5; clear HB; have HO_5 := n0_; have HB := n1_; have BK252 := n2_; have GW252 := n3_; have GE252 := n4_; clear n0_ n1_ n2_ n3_ n4_; clear hb hbox hg; have hcz11_0 : w10.cell? ⟨gb252, 0, none⟩ = some (.int .i64 0) := (blk_cell BK252.out 0).trans rfl; have hcz11_1 : w10.cell? ⟨gb252, 1, none⟩ = some (.int .i64 0) := (blk_cell BK252.out 1).trans rfl; have hcz11_2 : w10.cell? ⟨gb252, 2, none⟩ = some (.int .i64 0) := (blk_cell BK252.out 2).trans rfl; have hcz11_3 : w10.cell? ⟨gb252, 3, none⟩ = some (.string (⟨#[]⟩ : ByteArray)) := (blk_cell BK252.out 3).trans rfl; have hfz11_0 := blk_frozen BK252.out 0; have hfz11_1 := blk_frozen BK252.out 1; have hfz11_2 := blk_frozen BK252.out 2; have hfz11_3 := blk_frozen BK252.out 3; obtain ⟨Ao12, co12, eo12⟩ := Kd.R_slice HO_5.out; subst eo12)))
            go_ret3
            exact ⟨_, by first | rfl | (simp [errW_none, errW_some] <;> rfl) | (simp [*, errW_none, errW_some] <;> rfl), by first | exact Kd.R_nil _ _ _ _ _ | exact Kd.N_nil _ _ _ _ _ | exact Kd.V_nil _ _ _ _ _ | exact Kd.Q_nil _ _ _ _ _ | exact Kd.S_nil _ _ _ _ _, by repeat (first | (with_reducible first | exact HB.out | apply below_alloc | apply pw_below_drewN | apply below_drew1 | refine below_set ?_ GE252.out) | exact HB.out)⟩
          · rw [if_neg c8] at H
            have c8b0 : ((x5_1.length : Int) == 65536) = false := beq_eq_false_iff_ne.mpr c8
            have c8b1 : ((x5_1.length : Int) != 65536) = true := bne_iff_ne.mpr c8
            by_cases c13 : x5_1.length < 3518437208883
            · rw [if_pos c13] at H
              have LMc13 := Aside0.mk c13
              clear c13
              obtain ⟨y253, hy253⟩ : ∃ y_ : List (S65), y_ = (x5_1 ++ [(⟨t246, t247, t248, t249⟩ : S65)]) := ⟨_, rfl⟩
              replace H : (tok_All.l0 k1 a0 y253 t250) = some (r1, r2, r3) := by first | (rw [hy253]; with_reducible exact H) | (have H2_ := (Option.bind_some _ _).symm.trans H; rw [hy253]; with_reducible exact H2_) | (have H2_ := (Option.bind_some _ _).symm.trans H; with_reducible exact H2_) | with_reducible exact H | (rw [hy253]; exact H) | exact H
              have Ny253 := Aside0.mk hy253
              clear hy253
              have H' := Aside0.mk H
              clear H
              go_wp2_with (first | (go_at_call 38; (with_reducible refine (tok_Next.calls k1 a0 x6_1 t246 t247 t248 t249 t250 t251 _ ?side1 A2.out).mono ?_); (case side1 => exact GW.below (by repeat (first | (with_reducible first | exact HB.out | apply below_alloc | apply pw_below_drewN | apply below_drew1) | exact HB.out)) HG.out); rintro e w14 ⟨rfl, hb⟩; have n0_ := Aside0.mk (Kd.R_below (by (with_reducible repeat (first | apply Kd.R_alloc | apply Kd.R_drewN | apply Kd.R_drew)); exact HO_5.out) hb); have n1_ := Aside0.mk (below_step (by repeat (first | (with_reducible first | exact HB.out | apply below_alloc | apply pw_below_drewN | apply below_drew1) | exact HB.out)) hb); clear HO_5; clear HB; have HO_5 := n0_; have HB := n1_; clear n0_ n1_; (try clear hb); (try clear hb2); (try clear hk); (try clear hi)) | ((with_reducible refine gate_dst (N := 7) rfl ?_); refine box_event ?hg (N := 7) ?hd (cs := #[.int .i64 0, .int .i64 0, .int .i64 0, .string (⟨#[]⟩ : ByteArray)]) (t := 65) ?hr ?_; (case hd => rfl); (case hg => rfl); (case hr => first | (go_simp; done) | (go_simp; rfl)); intro gb252 hg w15 hbox hb; have n0_ := Aside0.mk (Kd.R_below (Kd.R_elderB (by (with_reducible repeat (first | apply Kd.R_alloc | apply Kd.R_drewN | apply Kd.R_drew)); exact HO_5.out) gb252 (Nat.le_of_eq hg.symm)) hb); have n1_ := Aside0.mk (below_step (by repeat (first | (with_reducible first | exact HB.out | apply below_alloc | apply pw_below_drewN | apply below_drew1) | exact HB.out)) hb); have n2_ := Aside0.mk (hbox); have n3_ := Aside0.mk ((by rw [hg]; exact (below_size (by repeat (first | (with_reducible first | exact HB.out | apply below_alloc | apply pw_below_drewN | apply below_drew1) | exact HB.out))) : w.heap.size ≤ gb252)); have n4_ := Aside0.mk ((by rw [hg]; exact (below_size (by repeat (first | (with_reducible first | exact HB.out | apply below_alloc | apply pw_below_drewN | apply below_drew1) | exact HB.out))) : w.heap.size ≤ gb252)); clear HO_5; clear HB; have HO_5 := n0_; have HB := n1_; have BK252 := n2_; have GW252 := n3_; have GE252 := n4_; clear n0_ n1_ n2_ n3_ n4_; clear hb hbox hg; have hcz16_0 : w15.cell? ⟨gb252, 0, none⟩ = some (.int .i64 0) := (blk_cell BK252.out 0).trans rfl; have hcz16_1 : w15.cell? ⟨gb252, 1, none⟩ = some (.int .i64 0) := (blk_cell BK252.out 1).trans rfl; have hcz16_2 : w15.cell? ⟨gb252, 2, none⟩ = some (.int .i64 0) := (blk_cell BK252.out 2).trans rfl; have hcz16_3 : w15.cell? ⟨gb252, 3, none⟩ = some (.string (⟨#[]⟩ : ByteArray)) := (blk_cell BK252.out 3).trans rfl; have hfz16_0 := blk_frozen BK252.out 0; have hfz16_1 := blk_frozen BK252.out 1; have hfz16_2 := blk_frozen BK252.out 2; have hfz16_3 := blk_frozen BK252.out 3; obtain ⟨Ao17, co17, eo17⟩ := Kd.R_slice HO_5.out; subst eo17) | ((with_reducible refine gate_builtin (b := .append) (xs := #[.tmp 35, .tmp 37]) rfl ?_); at_builtin; refine Kd.R_append k65 (w0 := w) w.heap.size rfl (.tmp 35) (.tmp 37) 61 65 (.agg #[(.int .i64 0), (.int .i64 0), (.int .i64 0), (.string ⟨#[]⟩)]) 40 rfl Tryz.underlying61 info65 rfl (by decide) (by omega) (.slice Ao17 x5_1.length co17) x5_1 (⟨t246, t247, t248, t249⟩ : S65) [.int .i64 t246, .int .i64 t247, .int .i64 t248, .string t249] (fun k_ => k_ ≠ gb252) (fun _ => False) rfl (by first | (go_simp; done) | (go_simp; rfl)) ?aP (fun _ hk => hk.elim) ?aF ?aO ?aB ?aS ?aL ?_; (case aP => exact k65_mkM _ _ _ (⟨t246, t247, t248, t249⟩ : S65)); (case aB => exact (by repeat (first | (with_reducible first | exact HB.out | apply below_alloc | apply pw_below_drewN | apply below_drew1 | refine below_set ?_ GE252.out) | exact HB.out))); (case aF => exact (fun k_ hk => Kd.freshB (g := gb252) (o := .cells #[.int .i64 t246, .int .i64 t247, .int .i64 t248, .string t249] 65 (0, 0)) (by (with_reducible repeat (first | refine blk_drewN ?_ _ | refine blk_drew ?_ | refine blk_alloc ?_ _)); refine blk_put (cs := #[.int .i64 t246, .int .i64 t247, .int .i64 t248, .string (⟨#[]⟩ : ByteArray)]) ?_ 3 _ rfl; (with_reducible repeat (first | refine blk_drewN ?_ _ | refine blk_drew ?_ | refine blk_alloc ?_ _)); refine blk_put (cs := #[.int .i64 t246, .int .i64 t247, .int .i64 0, .string (⟨#[]⟩ : ByteArray)]) ?_ 2 _ rfl; (with_reducible repeat (first | refine blk_drewN ?_ _ | refine blk_drew ?_ | refine blk_alloc ?_ _)); refine blk_put (cs := #[.int .i64 t246, .int .i64 0, .int .i64 0, .string (⟨#[]⟩ : ByteArray)]) ?_ 1 _ rfl; (with_reducible repeat (first | refine blk_drewN ?_ _ | refine blk_drew ?_ | refine blk_alloc ?_ _)); refine blk_put (cs := #[.int .i64 0, .int .i64 0, .int .i64 0, .string (⟨#[]⟩ : ByteArray)]) ?_ 0 _ rfl; (with_reducible repeat (first | refine blk_drewN ?_ _ | refine blk_drew ?_ | refine blk_alloc ?_ _)); exact BK252.out) k_ hk)); (case aO => exact (by (with_reducible repeat (first | apply Kd.R_alloc | apply Kd.R_drewN | apply Kd.R_drew)); exact Kd.R_mono (Kd.R_far (p := ⟨gb252, 3, none⟩) (Kd.R_far (p := ⟨gb252, 2, none⟩) (Kd.R_far (p := ⟨gb252, 1, none⟩) (Kd.R_far (p := ⟨gb252, 0, none⟩) (Kd.R_mono HO_5.out (fun k_ hk => (⟨hk, hk.2⟩ : _ ∧ k_ ≠ gb252))) (fun _ hk => hk.2) (.int .i64 t246)) (fun _ hk => hk.2) (.int .i64 t247)) (fun _ hk => hk.2) (.int .i64 t248)) (fun _ hk => hk.2) (.string t249)) (fun _ hk => hk.1.2))); (case aS => exact (below_size (by repeat (first | (with_reducible first | exact HB.out | apply below_alloc | apply pw_below_drewN | apply below_drew1 | refine below_set ?_ GE252.out) | exact HB.out)))); (case aL => have := LMc13.out; omega); intro v254 w18 ho hb hg hat; rw [← Ny253.out] at ho; have n0_ := Aside0.mk (blk_grown (g := gb252) (o := .cells #[.int .i64 t246, .int .i64 t247, .int .i64 t248, .string t249] 65 (0, 0)) (by (with_reducible repeat (first | refine blk_drewN ?_ _ | refine blk_drew ?_ | refine blk_alloc ?_ _)); refine blk_put (cs := #[.int .i64 t246, .int .i64 t247, .int .i64 t248, .string (⟨#[]⟩ : ByteArray)]) ?_ 3 _ rfl; (with_reducible repeat (first | refine blk_drewN ?_ _ | refine blk_drew ?_ | refine blk_alloc ?_ _)); refine blk_put (cs := #[.int .i64 t246, .int .i64 t247, .int .i64 0, .string (⟨#[]⟩ : ByteArray)]) ?_ 2 _ rfl; (with_reducible repeat (first | refine blk_drewN ?_ _ | refine blk_drew ?_ | refine blk_alloc ?_ _)); refine blk_put (cs := #[.int .i64 t246, .int .i64 0, .int .i64 0, .string (⟨#[]⟩ : ByteArray)]) ?_ 1 _ rfl; (with_reducible repeat (first | refine blk_drewN ?_ _ | refine blk_drew ?_ | refine blk_alloc ?_ _)); refine blk_put (cs := #[.int .i64 0, .int .i64 0, .int .i64 0, .string (⟨#[]⟩ : ByteArray)]) ?_ 0 _ rfl; (with_reducible repeat (first | refine blk_drewN ?_ _ | refine blk_drew ?_ | refine blk_alloc ?_ _)); exact BK252.out) hg (Kd.R_away HO_5.out (fun _ hk => hk.2))); have n1_ := Aside0.mk (hb); have n2_ := Aside0.mk (ho); clear BK252; clear HB; clear HO_5; have BK252 := n0_; have HB := n1_; have HO255 := n2_; clear n0_ n1_ n2_; clear ho hb hg hat))
              repeat (go_quiet (first | (go_at_call 38; (with_reducible refine (tok_Next.calls k1 a0 x6_1 t246 t247 t248 t249 t250 t251 _ ?side1 A2.out).mono ?_); (case side1 => exact GW.below (by repeat (first | (with_reducible first | exact HB.out | apply below_alloc | apply pw_below_drewN | apply below_drew1) | exact HB.out)) HG.out); rintro e w14 ⟨rfl, hb⟩; have n0_ := Aside0.mk (Kd.R_below (by (with_reducible repeat (first | apply Kd.R_alloc | apply Kd.R_drewN | apply Kd.R_drew)); exact HO_5.out) hb); have n1_ := Aside0.mk (below_step (by repeat (first | (with_reducible first | exact HB.out | apply below_alloc | apply pw_below_drewN | apply below_drew1) | exact HB.out)) hb); clear HO_5; clear HB; have HO_5 := n0_; have HB := n1_; clear n0_ n1_; (try clear hb); (try clear hb2); (try clear hk); (try clear hi)) | ((with_reducible refine gate_dst (N := 7) rfl ?_); refine box_event ?hg (N := 7) ?hd (cs := #[.int .i64 0, .int .i64 0, .int .i64 0, .string (⟨#[]⟩ : ByteArray)]) (t := 65) ?hr ?_; (case hd => rfl); (case hg => rfl); (case hr => first | (go_simp; done) | (go_simp; rfl)); intro gb252 hg w15 hbox hb; have n0_ := Aside0.mk (Kd.R_below (Kd.R_elderB (by (with_reducible repeat (first | apply Kd.R_alloc | apply Kd.R_drewN | apply Kd.R_drew)); exact HO_5.out) gb252 (Nat.le_of_eq hg.symm)) hb); have n1_ := Aside0.mk (below_step (by repeat (first | (with_reducible first | exact HB.out | apply below_alloc | apply pw_below_drewN | apply below_drew1) | exact HB.out)) hb); have n2_ := Aside0.mk (hbox); have n3_ := Aside0.mk ((by rw [hg]; exact (below_size (by repeat (first | (with_reducible first | exact HB.out | apply below_alloc | apply pw_below_drewN | apply below_drew1) | exact HB.out))) : w.heap.size ≤ gb252)); have n4_ := Aside0.mk ((by rw [hg]; exact (below_size (by repeat (first | (with_reducible first | exact HB.out | apply below_alloc | apply pw_below_drewN | apply below_drew1) | exact HB.out))) : w.heap.size ≤ gb252)); clear HO_5; clear HB; have HO_5 := n0_; have HB := n1_; have BK252 := n2_; have GW252 := n3_; have GE252 := n4_; clear n0_ n1_ n2_ n3_ n4_; clear hb hbox hg; have hcz16_0 : w15.cell? ⟨gb252, 0, none⟩ = some (.int .i64 0) := (blk_cell BK252.out 0).trans rfl; have hcz16_1 : w15.cell? ⟨gb252, 1, none⟩ = some (.int .i64 0) := (blk_cell BK252.out 1).trans rfl; have hcz16_2 : w15.cell? ⟨gb252, 2, none⟩ = some (.int .i64 0) := (blk_cell BK252.out 2).trans rfl; have hcz16_3 : w15.cell? ⟨gb252, 3, none⟩ = some (.string (⟨#[]⟩ : ByteArray)) := (blk_cell BK252.out 3).trans rfl; have hfz16_0 := blk_frozen BK252.out 0; have hfz16_1 := blk_frozen BK252.out 1; have hfz16_2 := blk_frozen BK252.out 2; have hfz16_3 := blk_frozen BK252.out 3; obtain ⟨Ao17, co17, eo17⟩ := Kd.R_slice HO_5.out; subst eo17) | ((with_reducible refine gate_builtin (b := .append) (xs := #[.tmp 35, .tmp 37]) rfl ?_); at_builtin; refine Kd.R_append k65 (w0 := w) w.heap.size rfl (.tmp 35) (.tmp 37) 61 65 (.agg #[(.int .i64 0), (.int .i64 0), (.int .i64 0), (.string ⟨#[]⟩)]) 40 rfl Tryz.underlying61 info65 rfl (by decide) (by omega) (.slice Ao17 x5_1.length co17) x5_1 (⟨t246, t247, t248, t249⟩ : S65) [.int .i64 t246, .int .i64 t247, .int .i64 t248, .string t249] (fun k_ => k_ ≠ gb252) (fun _ => False) rfl (by first | (go_simp; done) | (go_simp; rfl)) ?aP (fun _ hk => hk.elim) ?aF ?aO ?aB ?aS ?aL ?_; (case aP => exact k65_mkM _ _ _ (⟨t246, t247, t248, t249⟩ : S65)); (case aB => exact (by repeat (first | (with_reducible first | exact HB.out | apply below_alloc | apply pw_below_drewN | apply below_drew1 | refine below_set ?_ GE252.out) | exact HB.out))); (case aF => exact (fun k_ hk => Kd.freshB (g := gb252) (o := .cells #[.int .i64 t246, .int .i64 t247, .int .i64 t248, .string t249] 65 (0, 0)) (by (with_reducible repeat (first | refine blk_drewN ?_ _ | refine blk_drew ?_ | refine blk_alloc ?_ _)); refine blk_put (cs := #[.int .i64 t246, .int .i64 t247, .int .i64 t248, .string (⟨#[]⟩ : ByteArray)]) ?_ 3 _ rfl; (with_reducible repeat (first | refine blk_drewN ?_ _ | refine blk_drew ?_ | refine blk_alloc ?_ _)); refine blk_put (cs := #[.int .i64 t246, .int .i64 t247, .int .i64 0, .string (⟨#[]⟩ : ByteArray)]) ?_ 2 _ rfl; (with_reducible repeat (first | refine blk_drewN ?_ _ | refine blk_drew ?_ | refine blk_alloc ?_ _)); refine blk_put (cs := #[.int .i64 t246, .int .i64 0, .int .i64 0, .string (⟨#[]⟩ : ByteArray)]) ?_ 1 _ rfl; (with_reducible repeat (first | refine blk_drewN ?_ _ | refine blk_drew ?_ | refine blk_alloc ?_ _)); refine blk_put (cs := #[.int .i64 0, .int .i64 0, .int .i64 0, .string (⟨#[]⟩ : ByteArray)]) ?_ 0 _ rfl; (with_reducible repeat (first | refine blk_drewN ?_ _ | refine blk_drew ?_ | refine blk_alloc ?_ _)); exact BK252.out) k_ hk)); (case aO => exact (by (with_reducible repeat (first | apply Kd.R_alloc | apply Kd.R_drewN | apply Kd.R_drew)); exact Kd.R_mono (Kd.R_far (p := ⟨gb252, 3, none⟩) (Kd.R_far (p := ⟨gb252, 2, none⟩) (Kd.R_far (p := ⟨gb252, 1, none⟩) (Kd.R_far (p := ⟨gb252, 0, none⟩) (Kd.R_mono HO_5.out (fun k_ hk => (⟨hk, hk.2⟩ : _ ∧ k_ ≠ gb252))) (fun _ hk => hk.2) (.int .i64 t246)) (fun _ hk => hk.2) (.int .i64 t247)) (fun _ hk => hk.2) (.int .i64 t248)) (fun _ hk => hk.2) (.string t249)) (fun _ hk => hk.1.2))); (case aS => exact (below_size (by repeat (first | (with_reducible first | exact HB.out | apply below_alloc | apply pw_below_drewN | apply below_drew1 | refine below_set ?_ GE252.out) | exact HB.out)))); (case aL => have := LMc13.out; omega); intro v254 w18 ho hb hg hat; rw [← Ny253.out] at ho; have n0_ := Aside0.mk (blk_grown (g := gb252) (o := .cells #[.int .i64 t246, .int .i64 t247, .int .i64 t248, .string t249] 65 (0, 0)) (by (with_reducible repeat (first | refine blk_drewN ?_ _ | refine blk_drew ?_ | refine blk_alloc ?_ _)); refine blk_put (cs := #[.int .i64 t246, .int .i64 t247, .int .i64 t248, .string (⟨#[]⟩ : ByteArray)]) ?_ 3 _ rfl; (with_reducible repeat (first | refine blk_drewN ?_ _ | refine blk_drew ?_ | refine blk_alloc ?_ _)); refine blk_put (cs := #[.int .i64 t246, .int .i64 t247, .int .i64 0, .string (⟨#[]⟩ : ByteArray)]) ?_ 2 _ rfl; (with_reducible repeat (first | refine blk_drewN ?_ _ | refine blk_drew ?_ | refine blk_alloc ?_ _)); refine blk_put (cs := #[.int .i64 t246, .int .i64 0, .int .i64 0, .string (⟨#[]⟩ : ByteArray)]) ?_ 1 _ rfl; (with_reducible repeat (first | refine blk_drewN ?_ _ | refine blk_drew ?_ | refine blk_alloc ?_ _)); refine blk_put (cs := #[.int .i64 0, .int .i64 0, .int .i64 0, .string (⟨#[]⟩ : ByteArray)]) ?_ 0 _ rfl; (with_reducible repeat (first | refine blk_drewN ?_ _ | refine blk_drew ?_ | refine blk_alloc ?_ _)); exact BK252.out) hg (Kd.R_away HO_5.out (fun _ hk => hk.2))); have n1_ := Aside0.mk (hb); have n2_ := Aside0.mk (ho); clear BK252; clear HB; clear HO_5; have BK252 := n0_; have HB := n1_; have HO255 := n2_; clear n0_ n1_ n2_; clear ho hb hg hat)); try go_wp2_with (first | (go_at_call 38; (with_reducible refine (tok_Next.calls k1 a0 x6_1 t246 t247 t248 t249 t250 t251 _ ?side1 A2.out).mono ?_); (case side1 => exact GW.below (by repeat (first | (with_reducible first | exact HB.out | apply below_alloc | apply pw_below_drewN | apply below_drew1) | exact HB.out)) HG.out); rintro e w14 ⟨rfl, hb⟩; have n0_ := Aside0.mk (Kd.R_below (by (with_reducible repeat (first | apply Kd.R_alloc | apply Kd.R_drewN | apply Kd.R_drew)); exact HO_5.out) hb); have n1_ := Aside0.mk (below_step (by repeat (first | (with_reducible first | exact HB.out | apply below_alloc | apply pw_below_drewN | apply below_drew1) | exact HB.out)) hb); clear HO_5; clear HB; have HO_5 := n0_; have HB := n1_; clear n0_ n1_; (try clear hb); (try clear hb2); (try clear hk); (try clear hi)) | ((with_reducible refine gate_dst (N := 7) rfl ?_); refine box_event ?hg (N := 7) ?hd (cs := #[.int .i64 0, .int .i64 0, .int .i64 0, .string (⟨#[]⟩ : ByteArray)]) (t := 65) ?hr ?_; (case hd => rfl); (case hg => rfl); (case hr => first | (go_simp; done) | (go_simp; rfl)); intro gb252 hg w15 hbox hb; have n0_ := Aside0.mk (Kd.R_below (Kd.R_elderB (by (with_reducible repeat (first | apply Kd.R_alloc | apply Kd.R_drewN | apply Kd.R_drew)); exact HO_5.out) gb252 (Nat.le_of_eq hg.symm)) hb); have n1_ := Aside0.mk (below_step (by repeat (first | (with_reducible first | exact HB.out | apply below_alloc | apply pw_below_drewN | apply below_drew1) | exact HB.out)) hb); have n2_ := Aside0.mk (hbox); have n3_ := Aside0.mk ((by rw [hg]; exact (below_size (by repeat (first | (with_reducible first | exact HB.out | apply below_alloc | apply pw_below_drewN | apply below_drew1) | exact HB.out))) : w.heap.size ≤ gb252)); have n4_ := Aside0.mk ((by rw [hg]; exact (below_size (by repeat (first | (with_reducible first | exact HB.out | apply below_alloc | apply pw_below_drewN | apply below_drew1) | exact HB.out))) : w.heap.size ≤ gb252)); clear HO_5; clear HB; have HO_5 := n0_; have HB := n1_; have BK252 := n2_; have GW252 := n3_; have GE252 := n4_; clear n0_ n1_ n2_ n3_ n4_; clear hb hbox hg; have hcz16_0 : w15.cell? ⟨gb252, 0, none⟩ = some (.int .i64 0) := (blk_cell BK252.out 0).trans rfl; have hcz16_1 : w15.cell? ⟨gb252, 1, none⟩ = some (.int .i64 0) := (blk_cell BK252.out 1).trans rfl; have hcz16_2 : w15.cell? ⟨gb252, 2, none⟩ = some (.int .i64 0) := (blk_cell BK252.out 2).trans rfl; have hcz16_3 : w15.cell? ⟨gb252, 3, none⟩ = some (.string (⟨#[]⟩ : ByteArray)) := (blk_cell BK252.out 3).trans rfl; have hfz16_0 := blk_frozen BK252.out 0; have hfz16_1 := blk_frozen BK252.out 1; have hfz16_2 := blk_frozen BK252.out 2; have hfz16_3 := blk_frozen BK252.out 3; obtain ⟨Ao17, co17, eo17⟩ := Kd.R_slice HO_5.out; subst eo17) | ((with_reducible refine gate_builtin (b := .append) (xs := #[.tmp 35, .tmp 37]) rfl ?_); at_builtin; refine Kd.R_append k65 (w0 := w) w.heap.size rfl (.tmp 35) (.tmp 37) 61 65 (.agg #[(.int .i64 0), (.int .i64 0), (.int .i64 0), (.string ⟨#[]⟩)]) 40 rfl Tryz.underlying61 info65 rfl (by decide) (by omega) (.slice Ao17 x5_1.length co17) x5_1 (⟨t246, t247, t248, t249⟩ : S65) [.int .i64 t246, .int .i64 t247, .int .i64 t248, .string t249] (fun k_ => k_ ≠ gb252) (fun _ => False) rfl (by first | (go_simp; done) | (go_simp; rfl)) ?aP (fun _ hk => hk.elim) ?aF ?aO ?aB ?aS ?aL ?_; (case aP => exact k65_mkM _ _ _ (⟨t246, t247, t248, t249⟩ : S65)); (case aB => exact (by repeat (first | (with_reducible first | exact HB.out | apply below_alloc | apply pw_below_drewN | apply below_drew1 | refine below_set ?_ GE252.out) | exact HB.out))); (case aF => exact (fun k_ hk => Kd.freshB (g := gb252) (o := .cells #[.int .i64 t246, .int .i64 t247, .int .i64 t248, .string t249] 65 (0, 0)) (by (with_reducible repeat (first | refine blk_drewN ?_ _ | refine blk_drew ?_ | refine blk_alloc ?_ _)); refine blk_put (cs := #[.int .i64 t246, .int .i64 t247, .int .i64 t248, .string (⟨#[]⟩ : ByteArray)]) ?_ 3 _ rfl; (with_reducible repeat (first | refine blk_drewN ?_ _ | refine blk_drew ?_ | refine blk_alloc ?_ _)); refine blk_put (cs := #[.int .i64 t246, .int .i64 t247, .int .i64 0, .string (⟨#[]⟩ : ByteArray)]) ?_ 2 _ rfl; (with_reducible repeat (first | refine blk_drewN ?_ _ | refine blk_drew ?_ | refine blk_alloc ?_ _)); refine blk_put (cs := #[.int .i64 t246, .int .i64 0, .int .i64 0, .string (⟨#[]⟩ : ByteArray)]) ?_ 1 _ rfl; (with_reducible repeat (first | refine blk_drewN ?_ _ | refine blk_drew ?_ | refine blk_alloc ?_ _)); refine blk_put (cs := #[.int .i64 0, .int .i64 0, .int .i64 0, .string (⟨#[]⟩ : ByteArray)]) ?_ 0 _ rfl; (with_reducible repeat (first | refine blk_drewN ?_ _ | refine blk_drew ?_ | refine blk_alloc ?_ _)); exact BK252.out) k_ hk)); (case aO => exact (by (with_reducible repeat (first | apply Kd.R_alloc | apply Kd.R_drewN | apply Kd.R_drew)); exact Kd.R_mono (Kd.R_far (p := ⟨gb252, 3, none⟩) (Kd.R_far (p := ⟨gb252, 2, none⟩) (Kd.R_far (p := ⟨gb252, 1, none⟩) (Kd.R_far (p := ⟨gb252, 0, none⟩) (Kd.R_mono HO_5.out (fun k_ hk => (⟨hk, hk.2⟩ : _ ∧ k_ ≠ gb252))) (fun _ hk => hk.2) (.int .i64 t246)) (fun _ hk => hk.2) (.int .i64 t247)) (fun _ hk => hk.2) (.int .i64 t248)) (fun _ hk => hk.2) (.string t249)) (fun _ hk => hk.1.2))); (case aS => exact (below_size (by repeat (first | (with_reducible first | exact HB.out | apply below_alloc | apply pw_below_drewN | apply below_drew1 | refine below_set ?_ GE252.out) | exact HB.out)))); (case aL => have := LMc13.out; omega); intro v254 w18 ho hb hg hat; rw [← Ny253.out] at ho; have n0_ := Aside0.mk (blk_grown (g := gb252) (o := .cells #[.int .i64 t246, .int .i64 t247, .int .i64 t248, .string t249] 65 (0, 0)) (by (with_reducible repeat (first | refine blk_drewN ?_ _ | refine blk_drew ?_ | refine blk_alloc ?_ _)); refine blk_put (cs := #[.int .i64 t246, .int .i64 t247, .int .i64 t248, .string (⟨#[]⟩ : ByteArray)]) ?_ 3 _ rfl; (with_reducible repeat (first | refine blk_drewN ?_ _ | refine blk_drew ?_ | refine blk_alloc ?_ _)); refine blk_put (cs := #[.int .i64 t246, .int .i64 t247, .int .i64 0, .string (⟨#[]⟩ : ByteArray)]) ?_ 2 _ rfl; (with_reducible repeat (first | refine blk_drewN ?_ _ | refine blk_drew ?_ | refine blk_alloc ?_ _)); refine blk_put (cs := #[.int .i64 t246, .int .i64 0, .int .i64 0, .string (⟨#[]⟩ : ByteArray)]) ?_ 1 _ rfl; (with_reducible repeat (first | refine blk_drewN ?_ _ | refine blk_drew ?_ | refine blk_alloc ?_ _)); refine blk_put (cs := #[.int .i64 0, .int .i64 0, .int .i64 0, .string (⟨#[]⟩ : ByteArray)]) ?_ 0 _ rfl; (with_reducible repeat (first | refine blk_drewN ?_ _ | refine blk_drew ?_ | refine blk_alloc ?_ _)); exact BK252.out) hg (Kd.R_away HO_5.out (fun _ hk => hk.2))); have n1_ := Aside0.mk (hb); have n2_ := Aside0.mk (ho); clear BK252; clear HB; clear HO_5; have BK252 := n0_; have HB := n1_; have HO255 := n2_; clear n0_ n1_ n2_; clear ho hb hg hat)))
              go_roundg k1
              case measure => have := HK1.out; omega
              case rel => exact ⟨(y253), (t250), (by first | rfl | (simp; done) | (simp [*]; done)), H', ⟨by have := HK1.out; omega⟩, ⟨by (with_reducible repeat (first | apply Kd.R_alloc | apply Kd.R_drewN | apply Kd.R_drew)); exact Kd.R_mono HO255.out (fun _ hk => trivial)⟩, ⟨by repeat (first | (with_reducible first | exact HB.out | apply below_alloc | apply pw_below_drewN | apply below_drew1 | refine below_set ?_ GE252.out) | exact HB.out)⟩⟩
            · rw [if_neg c13] at H
              exact absurd H (by simp)
      · rw [if_neg c3] at H
        have c3b0 : (t251 == 0) = false := beq_eq_false_iff_ne.mpr c3
        have c3b1 : (t251 != 0) = true := bne_iff_ne.mpr c3
        simp only [Option.some.injEq, Prod.mk.injEq] at H
        obtain ⟨rfl, rfl, rfl⟩ := H
        go_wp2_with (first | (go_at_call 38; (with_reducible refine (tok_Next.calls k1 a0 x6_1 t246 t247 t248 t249 t250 t251 _ ?side1 A2.out).mono ?_); (case side1 => exact GW.below (by repeat (first | (with_reducible first | exact HB.out | apply below_alloc | apply pw_below_drewN | apply below_drew1) | exact HB.out)) HG.out); rintro e w19 ⟨rfl, hb⟩; have n0_ := Aside0.mk (Kd.R_below (by (with_reducible repeat (first | apply Kd.R_alloc | apply Kd.R_drewN | apply Kd.R_drew)); exact HO_5.out) hb); have n1_ := Aside0.mk (below_step (by repeat (first | (with_reducible first | exact HB.out | apply below_alloc | apply pw_below_drewN | apply below_drew1) | exact HB.out)) hb); clear HO_5; clear HB; have HO_5 := n0_; have HB := n1_; clear n0_ n1_; (try clear hb); (try clear hb2); (try clear hk); (try clear hi)) | ((with_reducible refine gate_dst (N := 7) rfl ?_); refine box_event ?hg (N := 7) ?hd (cs := #[.int .i64 0, .int .i64 0, .int .i64 0, .string (⟨#[]⟩ : ByteArray)]) (t := 65) ?hr ?_; (case hd => rfl); (case hg => rfl); (case hr => first | (go_simp; done) | (go_simp; rfl)); intro gb252 hg w20 hbox hb; have n0_ := Aside0.mk (Kd.R_below (Kd.R_elderB (by (with_reducible repeat (first | apply Kd.R_alloc | apply Kd.R_drewN | apply Kd.R_drew)); exact HO_5.out) gb252 (Nat.le_of_eq hg.symm)) hb); have n1_ := Aside0.mk (below_step (by repeat (first | (with_reducible first | exact HB.out | apply below_alloc | apply pw_below_drewN | apply below_drew1) | exact HB.out)) hb); have n2_ := Aside0.mk (hbox); have n3_ := Aside0.mk ((by rw [hg]; exact (below_size (by repeat (first | (with_reducible first | exact HB.out | apply below_alloc | apply pw_below_drewN | apply below_drew1) | exact HB.out))) : w.heap.size ≤ gb252)); have n4_ := Aside0.mk ((by rw [hg]; exact (below_size (by repeat (first | (with_reducible first | exact HB.out | apply below_alloc | apply pw_below_drewN | apply below_drew1) | exact HB.out))) : w.heap.size ≤ gb252)); clear HO_5; clear HB; have HO_5 := n0_; have HB := n1_; have BK252 := n2_; have GW252 := n3_; have GE252 := n4_; clear n0_ n1_ n2_ n3_ n4_; clear hb hbox hg; have hcz21_0 : w20.cell? ⟨gb252, 0, none⟩ = some (.int .i64 0) := (blk_cell BK252.out 0).trans rfl; have hcz21_1 : w20.cell? ⟨gb252, 1, none⟩ = some (.int .i64 0) := (blk_cell BK252.out 1).trans rfl; have hcz21_2 : w20.cell? ⟨gb252, 2, none⟩ = some (.int .i64 0) := (blk_cell BK252.out 2).trans rfl; have hcz21_3 : w20.cell? ⟨gb252, 3, none⟩ = some (.string (⟨#[]⟩ : ByteArray)) := (blk_cell BK252.out 3).trans rfl; have hfz21_0 := blk_frozen BK252.out 0; have hfz21_1 := blk_frozen BK252.out 1; have hfz21_2 := blk_frozen BK252.out 2; have hfz21_3 := blk_frozen BK252.out 3))
        repeat (go_quiet (first | (go_at_call 38; (with_reducible refine (tok_Next.calls k1 a0 x6_1 t246 t247 t248 t249 t250 t251 _ ?side1 A2.out).mono ?_); (case side1 => exact GW.below (by repeat (first | (with_reducible first | exact HB.out | apply below_alloc | apply pw_below_drewN | apply below_drew1) | exact HB.out)) HG.out); rintro e w19 ⟨rfl, hb⟩; have n0_ := Aside0.mk (Kd.R_below (by (with_reducible repeat (first | apply Kd.R_alloc | apply Kd.R_drewN | apply Kd.R_drew)); exact HO_5.out) hb); have n1_ := Aside0.mk (below_step (by repeat (first | (with_reducible first | exact HB.out | apply below_alloc | apply pw_below_drewN | apply below_drew1) | exact HB.out)) hb); clear HO_5; clear HB; have HO_5 := n0_; have HB := n1_; clear n0_ n1_; (try clear hb); (try clear hb2); (try clear hk); (try clear hi)) | ((with_reducible refine gate_dst (N := 7) rfl ?_); refine box_event ?hg (N := 7) ?hd (cs := #[.int .i64 0, .int .i64 0, .int .i64 0, .string (⟨#[]⟩ : ByteArray)]) (t := 65) ?hr ?_; (case hd => rfl); (case hg => rfl); (case hr => first | (go_simp; done) | (go_simp; rfl)); intro gb252 hg w20 hbox hb; have n0_ := Aside0.mk (Kd.R_below (Kd.R_elderB (by (with_reducible repeat (first | apply Kd.R_alloc | apply Kd.R_drewN | apply Kd.R_drew)); exact HO_5.out) gb252 (Nat.le_of_eq hg.symm)) hb); have n1_ := Aside0.mk (below_step (by repeat (first | (with_reducible first | exact HB.out | apply below_alloc | apply pw_below_drewN | apply below_drew1) | exact HB.out)) hb); have n2_ := Aside0.mk (hbox); have n3_ := Aside0.mk ((by rw [hg]; exact (below_size (by repeat (first | (with_reducible first | exact HB.out | apply below_alloc | apply pw_below_drewN | apply below_drew1) | exact HB.out))) : w.heap.size ≤ gb252)); have n4_ := Aside0.mk ((by rw [hg]; exact (below_size (by repeat (first | (with_reducible first | exact HB.out | apply below_alloc | apply pw_below_drewN | apply below_drew1) | exact HB.out))) : w.heap.size ≤ gb252)); clear HO_5; clear HB; have HO_5 := n0_; have HB := n1_; have BK252 := n2_; have GW252 := n3_; have GE252 := n4_; clear n0_ n1_ n2_ n3_ n4_; clear hb hbox hg; have hcz21_0 : w20.cell? ⟨gb252, 0, none⟩ = some (.int .i64 0) := (blk_cell BK252.out 0).trans rfl; have hcz21_1 : w20.cell? ⟨gb252, 1, none⟩ = some (.int .i64 0) := (blk_cell BK252.out 1).trans rfl; have hcz21_2 : w20.cell? ⟨gb252, 2, none⟩ = some (.int .i64 0) := (blk_cell BK252.out 2).trans rfl; have hcz21_3 : w20.cell? ⟨gb252, 3, none⟩ = some (.string (⟨#[]⟩ : ByteArray)) := (blk_cell BK252.out 3).trans rfl; have hfz21_0 := blk_frozen BK252.out 0; have hfz21_1 := blk_frozen BK252.out 1; have hfz21_2 := blk_frozen BK252.out 2; have hfz21_3 := blk_frozen BK252.out 3)); try go_wp2_with (first | (go_at_call 38; (with_reducible refine (tok_Next.calls k1 a0 x6_1 t246 t247 t248 t249 t250 t251 _ ?side1 A2.out).mono ?_); (case side1 => exact GW.below (by repeat (first | (with_reducible first | exact HB.out | apply below_alloc | apply pw_below_drewN | apply below_drew1) | exact HB.out)) HG.out); rintro e w19 ⟨rfl, hb⟩; have n0_ := Aside0.mk (Kd.R_below (by (with_reducible repeat (first | apply Kd.R_alloc | apply Kd.R_drewN | apply Kd.R_drew)); exact HO_5.out) hb); have n1_ := Aside0.mk (below_step (by repeat (first | (with_reducible first | exact HB.out | apply below_alloc | apply pw_below_drewN | apply below_drew1) | exact HB.out)) hb); clear HO_5; clear HB; have HO_5 := n0_; have HB := n1_; clear n0_ n1_; (try clear hb); (try clear hb2); (try clear hk); (try clear hi)) | ((with_reducible refine gate_dst (N := 7) rfl ?_); refine box_event ?hg (N := 7) ?hd (cs := #[.int .i64 0, .int .i64 0, .int .i64 0, .string (⟨#[]⟩ : ByteArray)]) (t := 65) ?hr ?_; (case hd => rfl); (case hg => rfl); (case hr => first | (go_simp; done) | (go_simp; rfl)); intro gb252 hg w20 hbox hb; have n0_ := Aside0.mk (Kd.R_below (Kd.R_elderB (by (with_reducible repeat (first | apply Kd.R_alloc | apply Kd.R_drewN | apply Kd.R_drew)); exact HO_5.out) gb252 (Nat.le_of_eq hg.symm)) hb); have n1_ := Aside0.mk (below_step (by repeat (first | (with_reducible first | exact HB.out | apply below_alloc | apply pw_below_drewN | apply below_drew1) | exact HB.out)) hb); have n2_ := Aside0.mk (hbox); have n3_ := Aside0.mk ((by rw [hg]; exact (below_size (by repeat (first | (with_reducible first | exact HB.out | apply below_alloc | apply pw_below_drewN | apply below_drew1) | exact HB.out))) : w.heap.size ≤ gb252)); have n4_ := Aside0.mk ((by rw [hg]; exact (below_size (by repeat (first | (with_reducible first | exact HB.out | apply below_alloc | apply pw_below_drewN | apply below_drew1) | exact HB.out))) : w.heap.size ≤ gb252)); clear HO_5; clear HB; have HO_5 := n0_; have HB := n1_; have BK252 := n2_; have GW252 := n3_; have GE252 := n4_; clear n0_ n1_ n2_ n3_ n4_; clear hb hbox hg; have hcz21_0 : w20.cell? ⟨gb252, 0, none⟩ = some (.int .i64 0) := (blk_cell BK252.out 0).trans rfl; have hcz21_1 : w20.cell? ⟨gb252, 1, none⟩ = some (.int .i64 0) := (blk_cell BK252.out 1).trans rfl; have hcz21_2 : w20.cell? ⟨gb252, 2, none⟩ = some (.int .i64 0) := (blk_cell BK252.out 2).trans rfl; have hcz21_3 : w20.cell? ⟨gb252, 3, none⟩ = some (.string (⟨#[]⟩ : ByteArray)) := (blk_cell BK252.out 3).trans rfl; have hfz21_0 := blk_frozen BK252.out 0; have hfz21_1 := blk_frozen BK252.out 1; have hfz21_2 := blk_frozen BK252.out 2; have hfz21_3 := blk_frozen BK252.out 3)))
        go_ret3
        exact ⟨_, by first | rfl | (simp [errW_none, errW_some] <;> rfl) | (simp [*, errW_none, errW_some] <;> rfl), by first | exact Kd.R_nil _ _ _ _ _ | exact Kd.N_nil _ _ _ _ _ | exact Kd.V_nil _ _ _ _ _ | exact Kd.Q_nil _ _ _ _ _ | exact Kd.S_nil _ _ _ _ _, by repeat (first | (with_reducible first | exact HB.out | apply below_alloc | apply pw_below_drewN | apply below_drew1 | refine below_set ?_ GE252.out) | exact HB.out)⟩
end Go.Proofs.YtdcldaknmenklaaGreatDoor.M
end
section
/- Laid by this session's program hbprint.py out of the translation: the function hornbook/diff.entries and its contract. -/
namespace Go.Proofs.YtdcldaknmenklaaGreatDoor.M
open Go.RowKit Go.Proofs.YtdcldaknmenklaaGreatDoorW.PrintWords Go.Proofs.YtdcldaknmenklaaGreatDoorW.PrintLast Go.Proofs.YtdcldaknmenklaaGreatDoorW.PrintMore
attribute [local go_sem] max2_int min2_int max_two min_two max_three min_three max_four min_four
set_option linter.unusedVariables false
set_option linter.unusedSimpArgs false
def diff_entries.l0 : Nat → List (S65) → List (S32) → Option ((List (S32)) × (List (S65)))
  | 0, _, _ => none
  | k + 1, x0, x4 => if (x0.length : Int) > 0 then (if 0 < (x0.length : Int) then (if ((rd_T65 x0 0).f0) = 1 then (if x4.length < 4398046511104 then (if 1 ≤ (x0.length : Int) then (diff_entries.l0 k (x0.drop 1) (x4 ++ [(⟨true, (rd_T65 x0 0).f2, (⟨#[]⟩ : ByteArray)⟩ : S32)])) else (none)) else (none)) else (if ((rd_T65 x0 0).f0) = 2 then (if x4.length < 4398046511104 then (if 1 ≤ (x0.length : Int) then (diff_entries.l0 k (x0.drop 1) (x4 ++ [(⟨false, 0, (rd_T65 x0 0).f3⟩ : S32)])) else (none)) else (none)) else (some (x4, x0)))) else (none)) else (some (x4, x0))
def diff_entries.f (k : Nat) (l0 : List (S65)) : Option ((List (S32)) × (List (S65))) := diff_entries.l0 k l0 ([] : List (S32))
theorem diff_entries.mono_l : ∀ k, (∀ y0 y1, LeO (diff_entries.l0 k y0 y1) (diff_entries.l0 (k + 1) y0 y1))
  | 0 => fun _ _ r h => by simp [diff_entries.l0] at h
  | k + 1 => by
    have ih0 := diff_entries.mono_l k
    · intro y0 y1
      unfold diff_entries.l0
      repeat' first
      | (with_reducible exact ih0 _ _)
      | (with_reducible exact LeO.refl _)
      | (with_reducible exact LeO.none _)
      | (with_reducible refine LeO.ite ?_ ?_)
      | (with_reducible refine LeO.bind ?_ (fun _ => ?_))
      | exact ih0 _ _
      | exact LeO.none _
      | refine LeO.ite ?_ ?_
      | refine LeO.bind ?_ (fun _ => ?_)
theorem diff_entries.mono : ∀ a0 k, LeO (diff_entries.f k a0) (diff_entries.f (k + 1) a0) := by
  intro a0 k
  have ih0 := diff_entries.mono_l k
  unfold diff_entries.f
  repeat' first
      | (with_reducible exact ih0 _ _)
      | (with_reducible exact LeO.refl _)
      | (with_reducible exact LeO.none _)
      | (with_reducible refine LeO.ite ?_ ?_)
      | (with_reducible refine LeO.bind ?_ (fun _ => ?_))
      | exact ih0 _ _
      | exact LeO.none _
      | refine LeO.ite ?_ ?_
      | refine LeO.bind ?_ (fun _ => ?_)
set_option maxHeartbeats 8000000 in
set_option maxRecDepth 100000 in
theorem diff_entries.calls (k : Nat) (P0_ : Nat → Prop) (A0 : Option Addr) (c0 : Nat) (l0 : List (S65)) (r1 : List (S32)) (r2 : List (S65)) (w : World) (hs0 : Kd.V k65 65 w w.heap.size (fun k_ => P0_ k_) (.slice A0 l0.length c0) l0) (h : diff_entries.f k l0 = some (r1, r2)) :
    Calls Tryz.prog 30 #[.slice A0 l0.length c0] w fun e w' => ∃ v0_ v1_ : Value, e = .returned (.tuple #[v0_, v1_]) ∧ Kd.R k32 32 w' w.heap.size (fun k_ => (w.heap.size ≤ k_)) v0_ r1 ∧ Kd.V k65 65 w' w.heap.size (fun k_ => (P0_ k_ ∨ w.heap.size ≤ k_) ∧ some k_ ≠ (v0_ : Value).ownBlock) v1_ r2 ∧ Below w.heap.size w w' := by
  have hu65 := Tryz.underlying65
  have hu32 := Tryz.underlying32
  have HO0 := Aside0.mk (show Kd.V k65 65 w w.heap.size (fun k_ => (P0_ k_ ∨ w.heap.size ≤ k_)) (.slice A0 l0.length c0) l0 from Kd.V_mono hs0 (fun k_ hk => .inl hk))
  have HB := Aside0.mk (Below.refl w.heap.size w)
  have H : (diff_entries.l0 k l0 ([] : List (S32))) = some (r1, r2) := h
  clear h
  have H' := Aside0.mk H
  clear H
  go_enter Tryz.func30, Tryz.ntmps30
  go_wp2
  go_loopg [0, 4] k (fun kq v0 v4 w' => ∃ (x0_1 : List (S65)) (x4_1 : List (S32)), Aside0 (diff_entries.l0 kq x0_1 x4_1 = some (r1, r2)) ∧ Aside0 (kq ≤ k) ∧ Aside0 (Kd.V k65 65 w' w.heap.size (fun k_ => (P0_ k_ ∨ w.heap.size ≤ k_) ∧ some k_ ≠ (v4 : Value).ownBlock) v0 x0_1) ∧ Aside0 (Kd.R k32 32 w' w.heap.size (fun k_ => (w.heap.size ≤ k_)) v4 x4_1) ∧ Aside0 (Below w.heap.size w w'))
  case atStart => exact ⟨(l0), (([] : List (S32))), H', ⟨Nat.le_refl _⟩, ⟨by (with_reducible repeat (first | apply Kd.V_alloc | apply Kd.V_drewN | apply Kd.V_drew)); exact Kd.V_mono HO0.out (fun _ hk => ⟨hk, (by simp [Value.ownBlock])⟩)⟩, ⟨by first | exact Kd.R_nil _ _ _ _ _ | exact Kd.N_nil _ _ _ _ _ | exact Kd.V_nil _ _ _ _ _ | exact Kd.Q_nil _ _ _ _ _ | exact Kd.S_nil _ _ _ _ _⟩, ⟨by repeat (first | (with_reducible first | exact HB.out | apply below_alloc | apply pw_below_drewN | apply below_drew1) | exact HB.out)⟩⟩
  case round =>
    clear H'
    obtain ⟨x0_1, x4_1, HA, HK1, HO_0, HO_4, HB⟩ := hrel
    cases gk with
    | zero => exact absurd HA.out (by simp [diff_entries.l0])
    | succ k1 =>
      have H := HA.out
      clear HA
      simp only [diff_entries.l0] at H
      by_cases c2 : (x0_1.length : Int) > 0
      · rw [if_pos c2] at H
        have c2b0 : decide (0 < (x0_1.length : Int)) = true := decide_eq_true c2
        have c2b1 : decide (0 < x0_1.length) = true := decide_eq_true (by omega)
        clear c2
        by_cases c3 : 0 < (x0_1.length : Int)
        · rw [if_pos c3] at H
          have c3b0 : decide (0 < (x0_1.length : Int)) = true := decide_eq_true c3
          have c3b1 : decide (0 < x0_1.length) = true := decide_eq_true (by omega)
          clear c3
          by_cases c4 : ((rd_T65 x0_1 0).f0) = 1
          · rw [if_pos c4] at H
            have c4b0 : (((rd_T65 x0_1 0).f0) == 1) = true := beq_iff_eq.mpr c4
            have c4b1 : (((rd_T65 x0_1 0).f0) != 1) = false := bne_eq_false_iff_eq.mpr c4
            clear c4
            by_cases c5 : x4_1.length < 4398046511104
            · rw [if_pos c5] at H
              have LMc5 := Aside0.mk c5
              clear c5
              obtain ⟨y258, hy258⟩ : ∃ y_ : List (S32), y_ = (x4_1 ++ [(⟨true, (rd_T65 x0_1 0).f2, (⟨#[]⟩ : ByteArray)⟩ : S32)]) := ⟨_, rfl⟩
              replace H : (if 1 ≤ (x0_1.length : Int) then (diff_entries.l0 k1 (x0_1.drop 1) y258) else (none)) = some (r1, r2) := by first | (rw [hy258]; with_reducible exact H) | (have H2_ := (Option.bind_some _ _).symm.trans H; rw [hy258]; with_reducible exact H2_) | (have H2_ := (Option.bind_some _ _).symm.trans H; with_reducible exact H2_) | with_reducible exact H | (rw [hy258]; exact H) | exact H
              have Ny258 := Aside0.mk hy258
              clear hy258
              by_cases c6 : 1 ≤ (x0_1.length : Int)
              · rw [if_pos c6] at H
                have c6b0 := eq_true c6
                have c6b1 : decide (1 ≤ (x0_1.length : Int)) = true := decide_eq_true c6
                clear c6
                obtain ⟨y261, hy261⟩ : ∃ y_ : List (S65), y_ = (x0_1.drop 1) := ⟨_, rfl⟩
                replace H : (diff_entries.l0 k1 y261 y258) = some (r1, r2) := by first | (rw [hy261]; with_reducible exact H) | (have H2_ := (Option.bind_some _ _).symm.trans H; rw [hy261]; with_reducible exact H2_) | (have H2_ := (Option.bind_some _ _).symm.trans H; with_reducible exact H2_) | with_reducible exact H | (rw [hy261]; exact H) | exact H
                have Ny261 := Aside0.mk hy261
                clear hy261
                have H' := Aside0.mk H
                clear H
                obtain ⟨Ao7, co7, eo7⟩ := Kd.V_slice HO_0.out
                subst eo7
                have p256 : 0 ≤ (0 : Int) := (by omega)
                have q256 : 0 < (x0_1.length : Int) := of_decide_eq_true (by first | (with_reducible assumption) | assumption)
                obtain ⟨ad256, e256, hx256_0, hx256_1, hx256_2, hx256_3⟩ := at_T65 (Kd.V_reads' HO_0.out).2.2 0 p256 q256
                cases e256
                have qi256 : (0 < x0_1.length) = True := eq_true (by omega)
                (try rw [show ((0 : Int)).toNat = 0 from rfl] at hx256_0)
                (try rw [show 0 * 4 = 0 from rfl] at hx256_0)
                (try rw [Addr.add_zero'] at hx256_0)
                (try rw [show ((0 : Int)).toNat = 0 from rfl] at hx256_1)
                (try rw [show 0 * 4 = 0 from rfl] at hx256_1)
                (try rw [Addr.add_zero'] at hx256_1)
                (try rw [show ((0 : Int)).toNat = 0 from rfl] at hx256_2)
                (try rw [show 0 * 4 = 0 from rfl] at hx256_2)
                (try rw [Addr.add_zero'] at hx256_2)
                (try rw [show ((0 : Int)).toNat = 0 from rfl] at hx256_3)
                (try rw [show 0 * 4 = 0 from rfl] at hx256_3)
                (try rw [Addr.add_zero'] at hx256_3)
                replace p256 := eq_true p256
                replace q256 := eq_true q256
                go_wp2_with (first | ((with_reducible refine gate_dst (N := 5) rfl ?_); refine box_event ?hg (N := 5) ?hd (cs := #[.int .i64 0, .int .i64 0, .int .i64 0, .string (⟨#[]⟩ : ByteArray)]) (t := 65) ?hr ?_; (case hd => rfl); (case hg => rfl); (case hr => first | (go_simp; done) | (go_simp; rfl)); intro gb257 hg w8 hbox hb; have n0_ := Aside0.mk (Kd.V_below (Kd.V_elderB (by (with_reducible repeat (first | apply Kd.V_alloc | apply Kd.V_drewN | apply Kd.V_drew)); exact HO_0.out) gb257 (Nat.le_of_eq hg.symm)) hb); have n1_ := Aside0.mk (Kd.R_below (by (with_reducible repeat (first | apply Kd.R_alloc | apply Kd.R_drewN | apply Kd.R_drew)); exact HO_4.out) hb); have n2_ := Aside0.mk (below_step (by repeat (first | (with_reducible first | exact HB.out | apply below_alloc | apply pw_below_drewN | apply below_drew1) | exact HB.out)) hb); have n3_ := Aside0.mk (hbox); have n4_ := Aside0.mk ((by rw [hg]; exact (below_size (by repeat (first | (with_reducible first | exact HB.out | apply below_alloc | apply pw_below_drewN | apply below_drew1) | exact HB.out))) : w.heap.size ≤ gb257)); have n5_ := Aside0.mk ((by rw [hg]; exact (below_size (by repeat (first | (with_reducible first | exact HB.out | apply below_alloc | apply pw_below_drewN | apply below_drew1) | exact HB.out))) : w.heap.size ≤ gb257)); clear HO_0; clear HO_4; clear HB; have HO_0 := n0_; have HO_4 := n1_; have HB := n2_; have BK257 := n3_; have GW257 := n4_; have GE257 := n5_; clear n0_ n1_ n2_ n3_ n4_ n5_; clear hb hbox hg; have hcz9_0 : w8.cell? ⟨gb257, 0, none⟩ = some (.int .i64 0) := (blk_cell BK257.out 0).trans rfl; have hcz9_1 : w8.cell? ⟨gb257, 1, none⟩ = some (.int .i64 0) := (blk_cell BK257.out 1).trans rfl; have hcz9_2 : w8.cell? ⟨gb257, 2, none⟩ = some (.int .i64 0) := (blk_cell BK257.out 2).trans rfl; have hcz9_3 : w8.cell? ⟨gb257, 3, none⟩ = some (.string (⟨#[]⟩ : ByteArray)) := (blk_cell BK257.out 3).trans rfl; have hfz9_0 := blk_frozen BK257.out 0; have hfz9_1 := blk_frozen BK257.out 1; have hfz9_2 := blk_frozen BK257.out 2; have hfz9_3 := blk_frozen BK257.out 3) | ((with_reducible refine gate_builtin (b := .append) (xs := #[.tmp 18, .tmp 22]) rfl ?_); at_builtin; refine Kd.R_append k32 (w0 := w) w.heap.size rfl (.tmp 18) (.tmp 22) 29 32 (.agg #[(.bool false), (.int .i64 0), (.string ⟨#[]⟩)]) 32 rfl Tryz.underlying29 info32 rfl (by decide) (by omega) u4 x4_1 (⟨true, (rd_T65 x0_1 0).f2, (⟨#[]⟩ : ByteArray)⟩ : S32) [.bool true, .int .i64 ((rd_T65 x0_1 0).f2), .string (⟨#[]⟩ : ByteArray)] (fun k_ => (w.heap.size ≤ k_)) (fun _ => False) rfl (by first | (go_simp; done) | (go_simp; rfl)) ?aP (fun _ hk => hk.elim) ?aF ?aO ?aB ?aS ?aL ?_; (case aP => exact k32_mkM _ _ _ (⟨true, (rd_T65 x0_1 0).f2, (⟨#[]⟩ : ByteArray)⟩ : S32)); (case aB => exact (by repeat (first | (with_reducible first | exact HB.out | apply below_alloc | apply pw_below_drewN | apply below_drew1 | refine below_set ?_ GE257.out) | exact HB.out))); (case aF => exact (fun k_ hk => (Nat.le_trans (below_size (by repeat (first | (with_reducible first | exact HB.out | apply below_alloc | apply pw_below_drewN | apply below_drew1 | refine below_set ?_ GE257.out) | exact HB.out))) hk))); (case aO => exact (by (with_reducible repeat (first | apply Kd.R_alloc | apply Kd.R_drewN | apply Kd.R_drew)); exact Kd.R_mono (Kd.R_far (p := ⟨gb257, 3, none⟩) (Kd.R_far (p := ⟨gb257, 2, none⟩) (Kd.R_far (p := ⟨gb257, 1, none⟩) (Kd.R_far (p := ⟨gb257, 0, none⟩) (Kd.R_types HO_4.out BK257.out (by decide)) (fun _ hk => hk.2) (.int .i64 ((rd_T65 x0_1 0).f0))) (fun _ hk => hk.2) (.int .i64 ((rd_T65 x0_1 0).f1))) (fun _ hk => hk.2) (.int .i64 ((rd_T65 x0_1 0).f2))) (fun _ hk => hk.2) (.string ((rd_T65 x0_1 0).f3))) (fun _ hk => hk.1))); (case aS => exact (below_size (by repeat (first | (with_reducible first | exact HB.out | apply below_alloc | apply pw_below_drewN | apply below_drew1 | refine below_set ?_ GE257.out) | exact HB.out)))); (case aL => have := LMc5.out; omega); intro v259 w10 ho hb hg hat; rw [← Ny258.out] at ho; have n0_ := Aside0.mk (Kd.V_afterv (ok := (fun k_ => (P0_ k_ ∨ w.heap.size ≤ k_) ∧ k_ ≠ gb257)) (by (with_reducible repeat (first | apply Kd.V_alloc | apply Kd.V_drewN | apply Kd.V_drew)); exact Kd.V_mono (Kd.V_far (p := ⟨gb257, 3, none⟩) (Kd.V_far (p := ⟨gb257, 2, none⟩) (Kd.V_far (p := ⟨gb257, 1, none⟩) (Kd.V_far (p := ⟨gb257, 0, none⟩) (Kd.V_mono HO_0.out (fun k_ hk => (⟨hk, hk.2⟩ : _ ∧ k_ ≠ gb257))) (fun _ hk => hk.2) (.int .i64 ((rd_T65 x0_1 0).f0))) (fun _ hk => hk.2) (.int .i64 ((rd_T65 x0_1 0).f1))) (fun _ hk => hk.2) (.int .i64 ((rd_T65 x0_1 0).f2))) (fun _ hk => hk.2) (.string ((rd_T65 x0_1 0).f3))) (fun _ hk => ⟨⟨hk.1.1.1, hk.1.2⟩, hk.1.1.2⟩)) hg hat); have n1_ := Aside0.mk (blk_grown (g := gb257) (o := .cells #[.int .i64 ((rd_T65 x0_1 0).f0), .int .i64 ((rd_T65 x0_1 0).f1), .int .i64 ((rd_T65 x0_1 0).f2), .string ((rd_T65 x0_1 0).f3)] 65 (0, 0)) (by (with_reducible repeat (first | refine blk_drewN ?_ _ | refine blk_drew ?_ | refine blk_alloc ?_ _)); refine blk_put (cs := #[.int .i64 ((rd_T65 x0_1 0).f0), .int .i64 ((rd_T65 x0_1 0).f1), .int .i64 ((rd_T65 x0_1 0).f2), .string (⟨#[]⟩ : ByteArray)]) ?_ 3 _ rfl; (with_reducible repeat (first | refine blk_drewN ?_ _ | refine blk_drew ?_ | refine blk_alloc ?_ _)); refine blk_put (cs := #[.int .i64 ((rd_T65 x0_1 0).f0), .int .i64 ((rd_T65 x0_1 0).f1), .int .i64 0, .string (⟨#[]⟩ : ByteArray)]) ?_ 2 _ rfl; (with_reducible repeat (first | refine blk_drewN ?_ _ | refine blk_drew ?_ | refine blk_alloc ?_ _)); refine blk_put (cs := #[.int .i64 ((rd_T65 x0_1 0).f0), .int .i64 0, .int .i64 0, .string (⟨#[]⟩ : ByteArray)]) ?_ 1 _ rfl; (with_reducible repeat (first | refine blk_drewN ?_ _ | refine blk_drew ?_ | refine blk_alloc ?_ _)); refine blk_put (cs := #[.int .i64 0, .int .i64 0, .int .i64 0, .string (⟨#[]⟩ : ByteArray)]) ?_ 0 _ rfl; (with_reducible repeat (first | refine blk_drewN ?_ _ | refine blk_drew ?_ | refine blk_alloc ?_ _)); exact BK257.out) hg (Kd.R_ne HO_4.out BK257.out (by decide))); have n2_ := Aside0.mk (hb); have n3_ := Aside0.mk (ho); clear HO_0; clear BK257; clear HB; clear HO_4; have HO_0 := n0_; have BK257 := n1_; have HB := n2_; have HO260 := n3_; clear n0_ n1_ n2_ n3_; clear ho hb hg hat; have q11 : (1 : Int) ≤ ((x0_1.length : Int) : Int) := of_decide_eq_true (by first | (with_reducible assumption) | assumption); obtain ⟨i011, hi011, _, hsz11, _⟩ := info_parts info65; have hroom11 : x0_1.length ≤ co7 := (Kd.V_reads' HO_0.out).2.1; have hC11 : Kd.F k65 _ _ (some ad256) x0_1.length x0_1 := (Kd.V_at (base := w.heap.size) HO_0.out).2.2; have hcut11 := cut_from (P := Tryz.prog) 61 65 .i64 Tryz.underlying61 hi011 4 hsz11 (some ad256) x0_1.length co7 1 (by omega) q11; have hr11 := Kd.F_cut (m := (1 : Int).toNat) (c := co7) hC11 (by omega) hroom11; obtain ⟨A11, hA11⟩ : ∃ A1, A1 = (if co7 = (1 : Int).toNat then (some ad256) else ((some ad256) : Option Addr).map (·.add ((1 : Int).toNat * 4))) := ⟨_, rfl⟩; obtain ⟨c11, hc11⟩ : ∃ c1, c1 = co7 - (1 : Int).toNat := ⟨_, rfl⟩; have hy11 : y261.length = x0_1.length - (1 : Int).toNat := (by rw [Ny261.out, List.length_drop] <;> omega); rw [show (x0_1).drop (1 : Int).toNat = y261 from Ny261.out.symm] at hr11; replace hr11 : Kd.F k65 _ _ A11 y261.length y261 := (by rw [hA11]; exact hr11); rw [← hy11, ← hA11, ← hc11] at hcut11; have HO265 := Aside0.mk (show Kd.V k65 65 _ w.heap.size _ (.slice A11 y261.length c11) y261 from Kd.V_mk (by rw [hy11, hc11]; exact Nat.sub_le_sub_right hroom11 _) hr11); have HC265 := Aside0.mk (show y261.length ≤ c11 from by rw [hy11, hc11]; exact Nat.sub_le_sub_right hroom11 _); clear hr11 hC11 hroom11 hi011 hsz11 hc11; have KY11 := Aside0.mk hy11; have KA11 := Aside0.mk hA11; clear hy11 hA11; replace q11 := eq_true q11))
                go_roundg k1
                case measure => have := HK1.out; omega
                case rel => exact ⟨(y261), (y258), H', ⟨by have := HK1.out; omega⟩, ⟨by (with_reducible repeat (first | apply Kd.V_alloc | apply Kd.V_drewN | apply Kd.V_drew)); exact Kd.V_mono HO265.out (fun _ hk => ⟨hk.1.1, hk.2⟩)⟩, ⟨by (with_reducible repeat (first | apply Kd.R_alloc | apply Kd.R_drewN | apply Kd.R_drew)); exact HO260.out⟩, ⟨by repeat (first | (with_reducible first | exact HB.out | apply below_alloc | apply pw_below_drewN | apply below_drew1 | refine below_set ?_ GE257.out) | exact HB.out)⟩⟩
              · rw [if_neg c6] at H
                exact absurd H (by simp)
            · rw [if_neg c5] at H
              exact absurd H (by simp)
          · rw [if_neg c4] at H
            have c4b0 : (((rd_T65 x0_1 0).f0) == 1) = false := beq_eq_false_iff_ne.mpr c4
            have c4b1 : (((rd_T65 x0_1 0).f0) != 1) = true := bne_iff_ne.mpr c4
            by_cases c12 : ((rd_T65 x0_1 0).f0) = 2
            · rw [if_pos c12] at H
              have c12b0 : (((rd_T65 x0_1 0).f0) == 2) = true := beq_iff_eq.mpr c12
              have c12b1 : (((rd_T65 x0_1 0).f0) != 2) = false := bne_eq_false_iff_eq.mpr c12
              clear c12
              by_cases c13 : x4_1.length < 4398046511104
              · rw [if_pos c13] at H
                have LMc13 := Aside0.mk c13
                clear c13
                obtain ⟨y266, hy266⟩ : ∃ y_ : List (S32), y_ = (x4_1 ++ [(⟨false, 0, (rd_T65 x0_1 0).f3⟩ : S32)]) := ⟨_, rfl⟩
                replace H : (if 1 ≤ (x0_1.length : Int) then (diff_entries.l0 k1 (x0_1.drop 1) y266) else (none)) = some (r1, r2) := by first | (rw [hy266]; with_reducible exact H) | (have H2_ := (Option.bind_some _ _).symm.trans H; rw [hy266]; with_reducible exact H2_) | (have H2_ := (Option.bind_some _ _).symm.trans H; with_reducible exact H2_) | with_reducible exact H | (rw [hy266]; exact H) | exact H
                have Ny266 := Aside0.mk hy266
                clear hy266
                by_cases c14 : 1 ≤ (x0_1.length : Int)
                · rw [if_pos c14] at H
                  have c14b0 := eq_true c14
                  have c14b1 : decide (1 ≤ (x0_1.length : Int)) = true := decide_eq_true c14
                  clear c14
                  obtain ⟨y269, hy269⟩ : ∃ y_ : List (S65), y_ = (x0_1.drop 1) := ⟨_, rfl⟩
                  replace H : (diff_entries.l0 k1 y269 y266) = some (r1, r2) := by first | (rw [hy269]; with_reducible exact H) | (have H2_ := (Option.bind_some _ _).symm.trans H; rw [hy269]; with_reducible exact H2_) | (have H2_ := (Option.bind_some _ _).symm.trans H; with_reducible exact H2_) | with_reducible exact H | (rw [hy269]; exact H) | exact H
                  have Ny269 := Aside0.mk hy269
                  clear hy269
                  have H' := Aside0.mk H
                  clear H
                  obtain ⟨Ao15, co15, eo15⟩ := Kd.V_slice HO_0.out
                  subst eo15
                  have p256 : 0 ≤ (0 : Int) := (by omega)
                  have q256 : 0 < (x0_1.length : Int) := of_decide_eq_true (by first | (with_reducible assumption) | assumption)
                  obtain ⟨ad256, e256, hx256_0, hx256_1, hx256_2, hx256_3⟩ := at_T65 (Kd.V_reads' HO_0.out).2.2 0 p256 q256
                  cases e256
                  have qi256 : (0 < x0_1.length) = True := eq_true (by omega)
                  (try rw [show ((0 : Int)).toNat = 0 from rfl] at hx256_0)
                  (try rw [show 0 * 4 = 0 from rfl] at hx256_0)
                  (try rw [Addr.add_zero'] at hx256_0)
                  (try rw [show ((0 : Int)).toNat = 0 from rfl] at hx256_1)
                  (try rw [show 0 * 4 = 0 from rfl] at hx256_1)
                  (try rw [Addr.add_zero'] at hx256_1)
                  (try rw [show ((0 : Int)).toNat = 0 from rfl] at hx256_2)
                  (try rw [show 0 * 4 = 0 from rfl] at hx256_2)
                  (try rw [Addr.add_zero'] at hx256_2)
                  (try rw [show ((0 : Int)).toNat = 0 from rfl] at hx256_3)
                  (try rw [show 0 * 4 = 0 from rfl] at hx256_3)
                  (try rw [Addr.add_zero'] at hx256_3)
                  replace p256 := eq_true p256
                  replace q256 := eq_true q256
                  go_wp2_with (first | ((with_reducible refine gate_dst (N := 5) rfl ?_); refine box_event ?hg (N := 5) ?hd (cs := #[.int .i64 0, .int .i64 0, .int .i64 0, .string (⟨#[]⟩ : ByteArray)]) (t := 65) ?hr ?_; (case hd => rfl); (case hg => rfl); (case hr => first | (go_simp; done) | (go_simp; rfl)); intro gb257 hg w16 hbox hb; have n0_ := Aside0.mk (Kd.V_below (Kd.V_elderB (by (with_reducible repeat (first | apply Kd.V_alloc | apply Kd.V_drewN | apply Kd.V_drew)); exact HO_0.out) gb257 (Nat.le_of_eq hg.symm)) hb); have n1_ := Aside0.mk (Kd.R_below (by (with_reducible repeat (first | apply Kd.R_alloc | apply Kd.R_drewN | apply Kd.R_drew)); exact HO_4.out) hb); have n2_ := Aside0.mk (below_step (by repeat (first | (with_reducible first | exact HB.out | apply below_alloc | apply pw_below_drewN | apply below_drew1) | exact HB.out)) hb); have n3_ := Aside0.mk (hbox); have n4_ := Aside0.mk ((by rw [hg]; exact (below_size (by repeat (first | (with_reducible first | exact HB.out | apply below_alloc | apply pw_below_drewN | apply below_drew1) | exact HB.out))) : w.heap.size ≤ gb257)); have n5_ := Aside0.mk ((by rw [hg]; exact (below_size (by repeat (first | (with_reducible first | exact HB.out | apply below_alloc | apply pw_below_drewN | apply below_drew1) | exact HB.out))) : w.heap.size ≤ gb257)); clear HO_0; clear HO_4; clear HB; have HO_0 := n0_; have HO_4 := n1_; have HB := n2_; have BK257 := n3_; have GW257 := n4_; have GE257 := n5_; clear n0_ n1_ n2_ n3_ n4_ n5_; clear hb hbox hg; have hcz17_0 : w16.cell? ⟨gb257, 0, none⟩ = some (.int .i64 0) := (blk_cell BK257.out 0).trans rfl; have hcz17_1 : w16.cell? ⟨gb257, 1, none⟩ = some (.int .i64 0) := (blk_cell BK257.out 1).trans rfl; have hcz17_2 : w16.cell? ⟨gb257, 2, none⟩ = some (.int .i64 0) := (blk_cell BK257.out 2).trans rfl; have hcz17_3 : w16.cell? ⟨gb257, 3, none⟩ = some (.string (⟨#[]⟩ : ByteArray)) := (blk_cell BK257.out 3).trans rfl; have hfz17_0 := blk_frozen BK257.out 0; have hfz17_1 := blk_frozen BK257.out 1; have hfz17_2 := blk_frozen BK257.out 2; have hfz17_3 := blk_frozen BK257.out 3) | ((with_reducible refine gate_builtin (b := .append) (xs := #[.tmp 26, .tmp 30]) rfl ?_); at_builtin; refine Kd.R_append k32 (w0 := w) w.heap.size rfl (.tmp 26) (.tmp 30) 29 32 (.agg #[(.bool false), (.int .i64 0), (.string ⟨#[]⟩)]) 32 rfl Tryz.underlying29 info32 rfl (by decide) (by omega) u4 x4_1 (⟨false, 0, (rd_T65 x0_1 0).f3⟩ : S32) [.bool false, .int .i64 0, .string ((rd_T65 x0_1 0).f3)] (fun k_ => (w.heap.size ≤ k_)) (fun _ => False) rfl (by first | (go_simp; done) | (go_simp; rfl)) ?aP (fun _ hk => hk.elim) ?aF ?aO ?aB ?aS ?aL ?_; (case aP => exact k32_mkM _ _ _ (⟨false, 0, (rd_T65 x0_1 0).f3⟩ : S32)); (case aB => exact (by repeat (first | (with_reducible first | exact HB.out | apply below_alloc | apply pw_below_drewN | apply below_drew1 | refine below_set ?_ GE257.out) | exact HB.out))); (case aF => exact (fun k_ hk => (Nat.le_trans (below_size (by repeat (first | (with_reducible first | exact HB.out | apply below_alloc | apply pw_below_drewN | apply below_drew1 | refine below_set ?_ GE257.out) | exact HB.out))) hk))); (case aO => exact (by (with_reducible repeat (first | apply Kd.R_alloc | apply Kd.R_drewN | apply Kd.R_drew)); exact Kd.R_mono (Kd.R_far (p := ⟨gb257, 3, none⟩) (Kd.R_far (p := ⟨gb257, 2, none⟩) (Kd.R_far (p := ⟨gb257, 1, none⟩) (Kd.R_far (p := ⟨gb257, 0, none⟩) (Kd.R_types HO_4.out BK257.out (by decide)) (fun _ hk => hk.2) (.int .i64 ((rd_T65 x0_1 0).f0))) (fun _ hk => hk.2) (.int .i64 ((rd_T65 x0_1 0).f1))) (fun _ hk => hk.2) (.int .i64 ((rd_T65 x0_1 0).f2))) (fun _ hk => hk.2) (.string ((rd_T65 x0_1 0).f3))) (fun _ hk => hk.1))); (case aS => exact (below_size (by repeat (first | (with_reducible first | exact HB.out | apply below_alloc | apply pw_below_drewN | apply below_drew1 | refine below_set ?_ GE257.out) | exact HB.out)))); (case aL => have := LMc13.out; omega); intro v267 w18 ho hb hg hat; rw [← Ny266.out] at ho; have n0_ := Aside0.mk (Kd.V_afterv (ok := (fun k_ => (P0_ k_ ∨ w.heap.size ≤ k_) ∧ k_ ≠ gb257)) (by (with_reducible repeat (first | apply Kd.V_alloc | apply Kd.V_drewN | apply Kd.V_drew)); exact Kd.V_mono (Kd.V_far (p := ⟨gb257, 3, none⟩) (Kd.V_far (p := ⟨gb257, 2, none⟩) (Kd.V_far (p := ⟨gb257, 1, none⟩) (Kd.V_far (p := ⟨gb257, 0, none⟩) (Kd.V_mono HO_0.out (fun k_ hk => (⟨hk, hk.2⟩ : _ ∧ k_ ≠ gb257))) (fun _ hk => hk.2) (.int .i64 ((rd_T65 x0_1 0).f0))) (fun _ hk => hk.2) (.int .i64 ((rd_T65 x0_1 0).f1))) (fun _ hk => hk.2) (.int .i64 ((rd_T65 x0_1 0).f2))) (fun _ hk => hk.2) (.string ((rd_T65 x0_1 0).f3))) (fun _ hk => ⟨⟨hk.1.1.1, hk.1.2⟩, hk.1.1.2⟩)) hg hat); have n1_ := Aside0.mk (blk_grown (g := gb257) (o := .cells #[.int .i64 ((rd_T65 x0_1 0).f0), .int .i64 ((rd_T65 x0_1 0).f1), .int .i64 ((rd_T65 x0_1 0).f2), .string ((rd_T65 x0_1 0).f3)] 65 (0, 0)) (by (with_reducible repeat (first | refine blk_drewN ?_ _ | refine blk_drew ?_ | refine blk_alloc ?_ _)); refine blk_put (cs := #[.int .i64 ((rd_T65 x0_1 0).f0), .int .i64 ((rd_T65 x0_1 0).f1), .int .i64 ((rd_T65 x0_1 0).f2), .string (⟨#[]⟩ : ByteArray)]) ?_ 3 _ rfl; (with_reducible repeat (first | refine blk_drewN ?_ _ | refine blk_drew ?_ | refine blk_alloc ?_ _)); refine blk_put (cs := #[.int .i64 ((rd_T65 x0_1 0).f0), .int .i64 ((rd_T65 x0_1 0).f1), .int .i64 0, .string (⟨#[]⟩ : ByteArray)]) ?_ 2 _ rfl; (with_reducible repeat (first | refine blk_drewN ?_ _ | refine blk_drew ?_ | refine blk_alloc ?_ _)); refine blk_put (cs := #[.int .i64 ((rd_T65 x0_1 0).f0), .int .i64 0, .int .i64 0, .string (⟨#[]⟩ : ByteArray)]) ?_ 1 _ rfl; (with_reducible repeat (first | refine blk_drewN ?_ _ | refine blk_drew ?_ | refine blk_alloc ?_ _)); refine blk_put (cs := #[.int .i64 0, .int .i64 0, .int .i64 0, .string (⟨#[]⟩ : ByteArray)]) ?_ 0 _ rfl; (with_reducible repeat (first | refine blk_drewN ?_ _ | refine blk_drew ?_ | refine blk_alloc ?_ _)); exact BK257.out) hg (Kd.R_ne HO_4.out BK257.out (by decide))); have n2_ := Aside0.mk (hb); have n3_ := Aside0.mk (ho); clear HO_0; clear BK257; clear HB; clear HO_4; have HO_0 := n0_; have BK257 := n1_; have HB := n2_; have HO268 := n3_; clear n0_ n1_ n2_ n3_; clear ho hb hg hat; have q19 : (1 : Int) ≤ ((x0_1.length : Int) : Int) := of_decide_eq_true (by first | (with_reducible assumption) | assumption); obtain ⟨i019, hi019, _, hsz19, _⟩ := info_parts info65; have hroom19 : x0_1.length ≤ co15 := (Kd.V_reads' HO_0.out).2.1; have hC19 : Kd.F k65 _ _ (some ad256) x0_1.length x0_1 := (Kd.V_at (base := w.heap.size) HO_0.out).2.2; have hcut19 := cut_from (P := Tryz.prog) 61 65 .i64 Tryz.underlying61 hi019 4 hsz19 (some ad256) x0_1.length co15 1 (by omega) q19; have hr19 := Kd.F_cut (m := (1 : Int).toNat) (c := co15) hC19 (by omega) hroom19; obtain ⟨A19, hA19⟩ : ∃ A1, A1 = (if co15 = (1 : Int).toNat then (some ad256) else ((some ad256) : Option Addr).map (·.add ((1 : Int).toNat * 4))) := ⟨_, rfl⟩; obtain ⟨c19, hc19⟩ : ∃ c1, c1 = co15 - (1 : Int).toNat := ⟨_, rfl⟩; have hy19 : y269.length = x0_1.length - (1 : Int).toNat := (by rw [Ny269.out, List.length_drop] <;> omega); rw [show (x0_1).drop (1 : Int).toNat = y269 from Ny269.out.symm] at hr19; replace hr19 : Kd.F k65 _ _ A19 y269.length y269 := (by rw [hA19]; exact hr19); rw [← hy19, ← hA19, ← hc19] at hcut19; have HO273 := Aside0.mk (show Kd.V k65 65 _ w.heap.size _ (.slice A19 y269.length c19) y269 from Kd.V_mk (by rw [hy19, hc19]; exact Nat.sub_le_sub_right hroom19 _) hr19); have HC273 := Aside0.mk (show y269.length ≤ c19 from by rw [hy19, hc19]; exact Nat.sub_le_sub_right hroom19 _); clear hr19 hC19 hroom19 hi019 hsz19 hc19; have KY19 := Aside0.mk hy19; have KA19 := Aside0.mk hA19; clear hy19 hA19; replace q19 := eq_true q19))
                  go_roundg k1
                  case measure => have := HK1.out; omega
                  case rel => exact ⟨(y269), (y266), H', ⟨by have := HK1.out; omega⟩, ⟨by (with_reducible repeat (first | apply Kd.V_alloc | apply Kd.V_drewN | apply Kd.V_drew)); exact Kd.V_mono HO273.out (fun _ hk => ⟨hk.1.1, hk.2⟩)⟩, ⟨by (with_reducible repeat (first | apply Kd.R_alloc | apply Kd.R_drewN | apply Kd.R_drew)); exact HO268.out⟩, ⟨by repeat (first | (with_reducible first | exact HB.out | apply below_alloc | apply pw_below_drewN | apply below_drew1 | refine below_set ?_ GE257.out) | exact HB.out)⟩⟩
                · rw [if_neg c14] at H
                  exact absurd H (by simp)
              · rw [if_neg c13] at H
                exact absurd H (by simp)
            · rw [if_neg c12] at H
              have c12b0 : (((rd_T65 x0_1 0).f0) == 2) = false := beq_eq_false_iff_ne.mpr c12
              have c12b1 : (((rd_T65 x0_1 0).f0) != 2) = true := bne_iff_ne.mpr c12
              simp only [Option.some.injEq, Prod.mk.injEq] at H
              obtain ⟨rfl, rfl⟩ := H
              obtain ⟨Ao20, co20, eo20⟩ := Kd.V_slice HO_0.out
              subst eo20
              have p256 : 0 ≤ (0 : Int) := (by omega)
              have q256 : 0 < (x0_1.length : Int) := of_decide_eq_true (by first | (with_reducible assumption) | assumption)
              obtain ⟨ad256, e256, hx256_0, hx256_1, hx256_2, hx256_3⟩ := at_T65 (Kd.V_reads' HO_0.out).2.2 0 p256 q256
              cases e256
              have qi256 : (0 < x0_1.length) = True := eq_true (by omega)
              (try rw [show ((0 : Int)).toNat = 0 from rfl] at hx256_0)
              (try rw [show 0 * 4 = 0 from rfl] at hx256_0)
              (try rw [Addr.add_zero'] at hx256_0)
              (try rw [show ((0 : Int)).toNat = 0 from rfl] at hx256_1)
              (try rw [show 0 * 4 = 0 from rfl] at hx256_1)
              (try rw [Addr.add_zero'] at hx256_1)
              (try rw [show ((0 : Int)).toNat = 0 from rfl] at hx256_2)
              (try rw [show 0 * 4 = 0 from rfl] at hx256_2)
              (try rw [Addr.add_zero'] at hx256_2)
              (try rw [show ((0 : Int)).toNat = 0 from rfl] at hx256_3)
              (try rw [show 0 * 4 = 0 from rfl] at hx256_3)
              (try rw [Addr.add_zero'] at hx256_3)
              replace p256 := eq_true p256
              replace q256 := eq_true q256
              go_wp2_with (first | ((with_reducible refine gate_dst (N := 5) rfl ?_); refine box_event ?hg (N := 5) ?hd (cs := #[.int .i64 0, .int .i64 0, .int .i64 0, .string (⟨#[]⟩ : ByteArray)]) (t := 65) ?hr ?_; (case hd => rfl); (case hg => rfl); (case hr => first | (go_simp; done) | (go_simp; rfl)); intro gb257 hg w21 hbox hb; have n0_ := Aside0.mk (Kd.V_below (Kd.V_elderB (by (with_reducible repeat (first | apply Kd.V_alloc | apply Kd.V_drewN | apply Kd.V_drew)); exact HO_0.out) gb257 (Nat.le_of_eq hg.symm)) hb); have n1_ := Aside0.mk (Kd.R_below (by (with_reducible repeat (first | apply Kd.R_alloc | apply Kd.R_drewN | apply Kd.R_drew)); exact HO_4.out) hb); have n2_ := Aside0.mk (below_step (by repeat (first | (with_reducible first | exact HB.out | apply below_alloc | apply pw_below_drewN | apply below_drew1) | exact HB.out)) hb); have n3_ := Aside0.mk (hbox); have n4_ := Aside0.mk ((by rw [hg]; exact (below_size (by repeat (first | (with_reducible first | exact HB.out | apply below_alloc | apply pw_below_drewN | apply below_drew1) | exact HB.out))) : w.heap.size ≤ gb257)); have n5_ := Aside0.mk ((by rw [hg]; exact (below_size (by repeat (first | (with_reducible first | exact HB.out | apply below_alloc | apply pw_below_drewN | apply below_drew1) | exact HB.out))) : w.heap.size ≤ gb257)); clear HO_0; clear HO_4; clear HB; have HO_0 := n0_; have HO_4 := n1_; have HB := n2_; have BK257 := n3_; have GW257 := n4_; have GE257 := n5_; clear n0_ n1_ n2_ n3_ n4_ n5_; clear hb hbox hg; have hcz22_0 : w21.cell? ⟨gb257, 0, none⟩ = some (.int .i64 0) := (blk_cell BK257.out 0).trans rfl; have hcz22_1 : w21.cell? ⟨gb257, 1, none⟩ = some (.int .i64 0) := (blk_cell BK257.out 1).trans rfl; have hcz22_2 : w21.cell? ⟨gb257, 2, none⟩ = some (.int .i64 0) := (blk_cell BK257.out 2).trans rfl; have hcz22_3 : w21.cell? ⟨gb257, 3, none⟩ = some (.string (⟨#[]⟩ : ByteArray)) := (blk_cell BK257.out 3).trans rfl; have hfz22_0 := blk_frozen BK257.out 0; have hfz22_1 := blk_frozen BK257.out 1; have hfz22_2 := blk_frozen BK257.out 2; have hfz22_3 := blk_frozen BK257.out 3))
              go_ret2
              exact ⟨_, _, by first | rfl | (simp [errW_none, errW_some] <;> rfl) | (simp [*, errW_none, errW_some] <;> rfl), by (with_reducible repeat (first | apply Kd.R_alloc | apply Kd.R_drewN | apply Kd.R_drew)); exact Kd.R_mono (Kd.R_far (p := ⟨gb257, 3, none⟩) (Kd.R_far (p := ⟨gb257, 2, none⟩) (Kd.R_far (p := ⟨gb257, 1, none⟩) (Kd.R_far (p := ⟨gb257, 0, none⟩) (Kd.R_types HO_4.out BK257.out (by decide)) (fun _ hk => hk.2) (.int .i64 ((rd_T65 x0_1 0).f0))) (fun _ hk => hk.2) (.int .i64 ((rd_T65 x0_1 0).f1))) (fun _ hk => hk.2) (.int .i64 ((rd_T65 x0_1 0).f2))) (fun _ hk => hk.2) (.string ((rd_T65 x0_1 0).f3))) (fun _ hk => hk.1), by (with_reducible repeat (first | apply Kd.V_alloc | apply Kd.V_drewN | apply Kd.V_drew)); exact Kd.V_mono (Kd.V_far (p := ⟨gb257, 3, none⟩) (Kd.V_far (p := ⟨gb257, 2, none⟩) (Kd.V_far (p := ⟨gb257, 1, none⟩) (Kd.V_far (p := ⟨gb257, 0, none⟩) (Kd.V_mono HO_0.out (fun k_ hk => (⟨hk, hk.2⟩ : _ ∧ k_ ≠ gb257))) (fun _ hk => hk.2) (.int .i64 ((rd_T65 x0_1 0).f0))) (fun _ hk => hk.2) (.int .i64 ((rd_T65 x0_1 0).f1))) (fun _ hk => hk.2) (.int .i64 ((rd_T65 x0_1 0).f2))) (fun _ hk => hk.2) (.string ((rd_T65 x0_1 0).f3))) (fun _ hk => ⟨hk.1.1.1, hk.1.1.2⟩), by repeat (first | (with_reducible first | exact HB.out | apply below_alloc | apply pw_below_drewN | apply below_drew1 | refine below_set ?_ GE257.out) | exact HB.out)⟩
        · rw [if_neg c3] at H
          exact absurd H (by simp)
      · rw [if_neg c2] at H
        have c2b0 : decide (0 < (x0_1.length : Int)) = false := decide_eq_false c2
        have c2b1 : decide (0 < x0_1.length) = false := decide_eq_false (by omega)
        clear c2
        simp only [Option.some.injEq, Prod.mk.injEq] at H
        obtain ⟨rfl, rfl⟩ := H
        obtain ⟨Ao23, co23, eo23⟩ := Kd.V_slice HO_0.out
        subst eo23
        go_wp2
        go_ret2
        exact ⟨_, _, by first | rfl | (simp [errW_none, errW_some] <;> rfl) | (simp [*, errW_none, errW_some] <;> rfl), by (with_reducible repeat (first | apply Kd.R_alloc | apply Kd.R_drewN | apply Kd.R_drew)); exact HO_4.out, by (with_reducible repeat (first | apply Kd.V_alloc | apply Kd.V_drewN | apply Kd.V_drew)); exact HO_0.out, by repeat (first | (with_reducible first | exact HB.out | apply below_alloc | apply pw_below_drewN | apply below_drew1) | exact HB.out)⟩
end Go.Proofs.YtdcldaknmenklaaGreatDoor.M
end
section
namespace Go.Proofs.YtdcldaknmenklaaGreatDoor.M
open Go.RowKit Go.Proofs.YtdcldaknmenklaaGreatDoorW.PrintWords Go.Proofs.YtdcldaknmenklaaGreatDoorW.PrintLast Go.Proofs.YtdcldaknmenklaaGreatDoorW.PrintMore
set_option linter.unusedVariables false
set_option linter.unusedSimpArgs false
def parseRest (size : Int) (z : List S32 × List S65) : List S32 × Int × Int :=
  match z.2 with
  | [] => ([], size, 2)
  | y :: r => if y.f0 = 7 then (match r with | [] => (z.1, size, 0) | u :: _ => ([], u.f1, 3)) else ([], y.f1, 3)
def diff_Parse.f (k : Nat) (a0 : ByteArray) : Option (List S32 × Int × Int) :=
  (tok_All.f k a0).bind fun y => if y.2.2 = 0 then (match y.1 with
    | [] => some ([], (a0.size : Int), 2)
    | x :: l => if x.f0 = 6 then (diff_entries.f k l).bind fun z => some (parseRest (a0.size : Int) z) else some ([], x.f1, 3)) else some ([], y.2.1, y.2.2)
theorem diff_Parse.mono : ∀ a0 k, LeO (diff_Parse.f k a0) (diff_Parse.f (k + 1) a0) := by
  intro a0 k
  unfold diff_Parse.f
  refine LeO.bind (tok_All.mono _ _) (fun y => LeO.ite ?_ (LeO.refl _))
  cases y.1 with
  | nil => exact LeO.refl _
  | cons x l => exact LeO.ite (LeO.bind (diff_entries.mono _ _) (fun _ => LeO.refl _)) (LeO.refl _)
theorem rd_zero (x : S65) (l : List S65) : rd_T65 (x :: l) 0 = x := rfl
theorem rd_one (x y : S65) (l : List S65) : rd_T65 (x :: y :: l) 1 = y := rfl
set_option maxHeartbeats 4000000 in
set_option maxRecDepth 1000000 in
theorem diff_Parse.calls (k : Nat) (a0 : ByteArray) (r1 : List S32) (r2 r3 : Int) (w : World) (hG : GW w) (h : diff_Parse.f k a0 = some (r1, r2, r3)) :
    Calls Tryz.prog 15 #[.string a0] w fun e w' => ∃ v0_ : Value, e = .returned (.tuple #[v0_, .int .i64 r2, .int .i64 r3]) ∧ Kd.R k32 32 w' w.heap.size (fun _ => True) v0_ r1 ∧ Below w.heap.size w w' := by
  have huE := Tryz.underlying32
  have huT := Tryz.underlying65
  unfold diff_Parse.f at h
  obtain ⟨⟨l, p, e⟩, hA, h⟩ := Option.bind_eq_some_iff.1 h
  dsimp only at h
  have HA := Aside0.mk hA
  have HG := Aside0.mk hG
  clear hA hG
  by_cases he : e = 0
  · subst he
    rw [if_pos rfl] at h
    rcases l with _ | ⟨x, l⟩
    · have hR := Option.some.inj h
      clear h
      injection hR with e1 hR
      injection hR with e2 e3
      subst e1 e2 e3
      go_enter Tryz.func15, Tryz.ntmps15
      go_wp2_with (go_at_call 29; refine (tok_All.calls k a0 _ _ _ _ HG.out HA.out).mono ?_; rintro ev W1 ⟨v0, rfl, ho, hb⟩; obtain ⟨A1, c1, eo⟩ := Kd.R_slice ho; subst eo; have HO := Aside0.mk ho; have HB := Aside0.mk hb; clear ho hb)
      go_ret3
      exact ⟨_, rfl, Kd.R_nil _ _ _ _ _, HB.out⟩
    have hlen1 : ((((x :: l).length : Nat) : Int) == 0) = false := by rw [beq_eq_false_iff_ne, List.length_cons]; omega
    by_cases h6 : x.f0 = 6
    · dsimp only at h
      rw [if_pos h6] at h
      obtain ⟨⟨z1, z2⟩, hE, h⟩ := Option.bind_eq_some_iff.1 h
      have hR := Option.some.inj h
      clear h
      have HE := Aside0.mk hE
      clear hE
      have h6b : (x.f0 != 6) = false := bne_eq_false_iff_eq.2 h6
      have h6c : (x.f0 == 6) = true := beq_iff_eq.2 h6
      unfold parseRest at hR
      dsimp only at hR
      rcases z2 with _ | ⟨y, z2⟩
      · dsimp only at hR
        injection hR with e1 hR
        injection hR with e2 e3
        subst e1 e2 e3
        go_enter Tryz.func15, Tryz.ntmps15
        go_wp2_with (first | (go_at_call 29; refine (tok_All.calls k a0 _ _ _ _ HG.out HA.out).mono ?_; rintro ev W1 ⟨v0, rfl, ho, hb⟩; obtain ⟨A1, c1, eo⟩ := Kd.R_slice ho; subst eo; have HO := Aside0.mk ho; have HB := Aside0.mk hb; clear ho hb; obtain ⟨ad1, ea1, hx0, hx1, hx2, hx3⟩ := at_T65 (Kd.R_reads' HO.out).2.2 0 (by omega) (by rw [List.length_cons]; omega); subst ea1; rw [rd_zero] at hx0 hx1 hx2 hx3; simp only [Int.toNat_zero, Nat.zero_mul, Addr.add_zero'] at hx0 hx1 hx2 hx3; have hlp : ((0 : Int) < (((x :: l).length : Nat) : Int)) = True := eq_true (by rw [List.length_cons]; omega); obtain ⟨i0_, hi0_, _, hsz0_, _⟩ := info_parts info65; have hroom_ := (Kd.R_reads' HO.out).2.1; have hcut := cut_from (P := Tryz.prog) 61 65 .i64 Tryz.underlying61 hi0_ 4 hsz0_ (some ad1) (x :: l).length c1 1 (by omega) (by rw [List.length_cons]; omega); have hF_ := Kd.F_cut (m := (1 : Int).toNat) (c := c1) (Kd.R_F HO.out) (by rw [List.length_cons]; simp) hroom_; obtain ⟨A2, hA2⟩ : ∃ A2, A2 = (if c1 = (1 : Int).toNat then (some ad1) else ((some ad1) : Option Addr).map (·.add ((1 : Int).toNat * 4))) := ⟨_, rfl⟩; obtain ⟨c2, hc2⟩ : ∃ c2, c2 = c1 - (1 : Int).toNat := ⟨_, rfl⟩; have hy_ : l.length = (x :: l).length - (1 : Int).toNat := (by rw [List.length_cons]; simp); rw [← hy_, ← hA2, ← hc2] at hcut; have HV := Aside0.mk (show Kd.V k65 65 W1 W1.heap.size (fun _ => True) (.slice A2 l.length c2) l from Kd.V_mk (by rw [hy_, hc2]; exact Nat.sub_le_sub_right hroom_ _) (by rw [hA2]; exact hF_)); clear hF_ hroom_ hi0_ hsz0_ hc2 hA2 hy_; (try rw [List.length_cons] at hcut)) | (go_at_call 30; refine (diff_entries.calls k (fun _ => True) A2 c2 l _ _ _ HV.out HE.out).mono ?_; rintro ev W2 ⟨v2, v3, rfl, ho2, hv3, hb2⟩; obtain ⟨A3, c3, eo3⟩ := Kd.V_slice hv3; subst eo3; have HB2 := Aside0.mk (below_step HB.out hb2); have HO2 := Aside0.mk (Kd.R_mono (ok' := fun _ => True) (Kd.R_lower ho2 (below_size HB.out)) (fun _ _ => trivial)); have HV3 := Aside0.mk hv3; clear ho2 hv3 hb2))
        repeat (go_quiet (fail); try go_wp2)
        go_ret3
        exact ⟨_, rfl, Kd.R_nil _ _ _ _ _, (by repeat (first | exact HB2.out | apply pw_below_drewN))⟩
      dsimp only at hR
      have hlen2 : ((((y :: z2).length : Nat) : Int) == 0) = false := by rw [beq_eq_false_iff_ne, List.length_cons]; omega
      have hlp2 : ((0 : Int) < (((y :: z2).length : Nat) : Int)) = True := eq_true (by rw [List.length_cons]; omega)
      by_cases h7 : y.f0 = 7
      · rw [if_pos h7] at hR
        have h7b : (y.f0 != 7) = false := bne_eq_false_iff_eq.2 h7
        rcases z2 with _ | ⟨u, z2⟩
        · dsimp only at hR
          injection hR with e1 hR
          injection hR with e2 e3
          subst e1 e2 e3
          go_enter Tryz.func15, Tryz.ntmps15
          go_wp2_with (first | (go_at_call 29; refine (tok_All.calls k a0 _ _ _ _ HG.out HA.out).mono ?_; rintro ev W1 ⟨v0, rfl, ho, hb⟩; obtain ⟨A1, c1, eo⟩ := Kd.R_slice ho; subst eo; have HO := Aside0.mk ho; have HB := Aside0.mk hb; clear ho hb; obtain ⟨ad1, ea1, hx0, hx1, hx2, hx3⟩ := at_T65 (Kd.R_reads' HO.out).2.2 0 (by omega) (by rw [List.length_cons]; omega); subst ea1; rw [rd_zero] at hx0 hx1 hx2 hx3; simp only [Int.toNat_zero, Nat.zero_mul, Addr.add_zero'] at hx0 hx1 hx2 hx3; have hlp : ((0 : Int) < (((x :: l).length : Nat) : Int)) = True := eq_true (by rw [List.length_cons]; omega); obtain ⟨i0_, hi0_, _, hsz0_, _⟩ := info_parts info65; have hroom_ := (Kd.R_reads' HO.out).2.1; have hcut := cut_from (P := Tryz.prog) 61 65 .i64 Tryz.underlying61 hi0_ 4 hsz0_ (some ad1) (x :: l).length c1 1 (by omega) (by rw [List.length_cons]; omega); have hF_ := Kd.F_cut (m := (1 : Int).toNat) (c := c1) (Kd.R_F HO.out) (by rw [List.length_cons]; simp) hroom_; obtain ⟨A2, hA2⟩ : ∃ A2, A2 = (if c1 = (1 : Int).toNat then (some ad1) else ((some ad1) : Option Addr).map (·.add ((1 : Int).toNat * 4))) := ⟨_, rfl⟩; obtain ⟨c2, hc2⟩ : ∃ c2, c2 = c1 - (1 : Int).toNat := ⟨_, rfl⟩; have hy_ : l.length = (x :: l).length - (1 : Int).toNat := (by rw [List.length_cons]; simp); rw [← hy_, ← hA2, ← hc2] at hcut; have HV := Aside0.mk (show Kd.V k65 65 W1 W1.heap.size (fun _ => True) (.slice A2 l.length c2) l from Kd.V_mk (by rw [hy_, hc2]; exact Nat.sub_le_sub_right hroom_ _) (by rw [hA2]; exact hF_)); clear hF_ hroom_ hi0_ hsz0_ hc2 hA2 hy_; (try rw [List.length_cons] at hcut)) | (go_at_call 30; refine (diff_entries.calls k (fun _ => True) A2 c2 l _ _ _ HV.out HE.out).mono ?_; rintro ev W2 ⟨v2, v3, rfl, ho2, hv3, hb2⟩; obtain ⟨A3, c3, eo3⟩ := Kd.V_slice hv3; subst eo3; have HB2 := Aside0.mk (below_step HB.out hb2); have HO2 := Aside0.mk (Kd.R_mono (ok' := fun _ => True) (Kd.R_lower ho2 (below_size HB.out)) (fun _ _ => trivial)); have HV3 := Aside0.mk hv3; clear ho2 hv3 hb2; obtain ⟨ad3, ea3, hy0, hy1, hy2, hy3⟩ := at_T65 (Kd.V_reads' HV3.out).2.2 0 (by omega) (by rw [List.length_cons]; omega); subst ea3; rw [rd_zero] at hy0 hy1 hy2 hy3; simp only [Int.toNat_zero, Nat.zero_mul, Addr.add_zero'] at hy0 hy1 hy2 hy3))
          repeat (go_quiet (fail); try go_wp2)
          go_ret3
          exact ⟨_, rfl, HO2.out, (by repeat (first | exact HB2.out | apply pw_below_drewN))⟩
        · dsimp only at hR
          have hlp4 : ((1 : Int) < (z2.length : Int) + 1 + 1) = True := eq_true (by omega)
          have hlp5 : ((1 : Int) < (((y :: u :: z2).length : Nat) : Int)) = True := eq_true (by rw [List.length_cons, List.length_cons]; omega)
          injection hR with e1 hR
          injection hR with e2 e3
          subst e1 e2 e3
          go_enter Tryz.func15, Tryz.ntmps15
          go_wp2_with (first | (go_at_call 29; refine (tok_All.calls k a0 _ _ _ _ HG.out HA.out).mono ?_; rintro ev W1 ⟨v0, rfl, ho, hb⟩; obtain ⟨A1, c1, eo⟩ := Kd.R_slice ho; subst eo; have HO := Aside0.mk ho; have HB := Aside0.mk hb; clear ho hb; obtain ⟨ad1, ea1, hx0, hx1, hx2, hx3⟩ := at_T65 (Kd.R_reads' HO.out).2.2 0 (by omega) (by rw [List.length_cons]; omega); subst ea1; rw [rd_zero] at hx0 hx1 hx2 hx3; simp only [Int.toNat_zero, Nat.zero_mul, Addr.add_zero'] at hx0 hx1 hx2 hx3; have hlp : ((0 : Int) < (((x :: l).length : Nat) : Int)) = True := eq_true (by rw [List.length_cons]; omega); obtain ⟨i0_, hi0_, _, hsz0_, _⟩ := info_parts info65; have hroom_ := (Kd.R_reads' HO.out).2.1; have hcut := cut_from (P := Tryz.prog) 61 65 .i64 Tryz.underlying61 hi0_ 4 hsz0_ (some ad1) (x :: l).length c1 1 (by omega) (by rw [List.length_cons]; omega); have hF_ := Kd.F_cut (m := (1 : Int).toNat) (c := c1) (Kd.R_F HO.out) (by rw [List.length_cons]; simp) hroom_; obtain ⟨A2, hA2⟩ : ∃ A2, A2 = (if c1 = (1 : Int).toNat then (some ad1) else ((some ad1) : Option Addr).map (·.add ((1 : Int).toNat * 4))) := ⟨_, rfl⟩; obtain ⟨c2, hc2⟩ : ∃ c2, c2 = c1 - (1 : Int).toNat := ⟨_, rfl⟩; have hy_ : l.length = (x :: l).length - (1 : Int).toNat := (by rw [List.length_cons]; simp); rw [← hy_, ← hA2, ← hc2] at hcut; have HV := Aside0.mk (show Kd.V k65 65 W1 W1.heap.size (fun _ => True) (.slice A2 l.length c2) l from Kd.V_mk (by rw [hy_, hc2]; exact Nat.sub_le_sub_right hroom_ _) (by rw [hA2]; exact hF_)); clear hF_ hroom_ hi0_ hsz0_ hc2 hA2 hy_; (try rw [List.length_cons] at hcut)) | (go_at_call 30; refine (diff_entries.calls k (fun _ => True) A2 c2 l _ _ _ HV.out HE.out).mono ?_; rintro ev W2 ⟨v2, v3, rfl, ho2, hv3, hb2⟩; obtain ⟨A3, c3, eo3⟩ := Kd.V_slice hv3; subst eo3; have HB2 := Aside0.mk (below_step HB.out hb2); have HO2 := Aside0.mk (Kd.R_mono (ok' := fun _ => True) (Kd.R_lower ho2 (below_size HB.out)) (fun _ _ => trivial)); have HV3 := Aside0.mk hv3; clear ho2 hv3 hb2; obtain ⟨ad3, ea3, hy0, hy1, hy2, hy3⟩ := at_T65 (Kd.V_reads' HV3.out).2.2 0 (by omega) (by rw [List.length_cons]; omega); subst ea3; rw [rd_zero] at hy0 hy1 hy2 hy3; simp only [Int.toNat_zero, Nat.zero_mul, Addr.add_zero'] at hy0 hy1 hy2 hy3; obtain ⟨ad4, ea4, hu0, hu1, hu2, hu3⟩ := at_T65 (Kd.V_reads' HV3.out).2.2 1 (by omega) (by rw [List.length_cons, List.length_cons]; omega); obtain rfl : ad3 = ad4 := (by injection ea4); rw [rd_one] at hu0 hu1 hu2 hu3; simp only [show ((1 : Int)).toNat = 1 from rfl, Nat.one_mul] at hu0 hu1 hu2 hu3; have hv1 : W2.cell? ⟨ad3.block, ad3.off + 4 + 1, none⟩ = some (.int .i64 u.f1) := (by first | exact hu1 | simpa [Addr.add] using hu1)))
          repeat (go_quiet (fail); try go_wp2)
          go_ret3
          exact ⟨_, rfl, Kd.R_nil _ _ _ _ _, (by repeat (first | exact HB2.out | apply pw_below_drewN))⟩
      · rw [if_neg h7] at hR
        have h7b : (y.f0 != 7) = true := bne_iff_ne.2 h7
        injection hR with e1 hR
        injection hR with e2 e3
        subst e1 e2 e3
        go_enter Tryz.func15, Tryz.ntmps15
        go_wp2_with (first | (go_at_call 29; refine (tok_All.calls k a0 _ _ _ _ HG.out HA.out).mono ?_; rintro ev W1 ⟨v0, rfl, ho, hb⟩; obtain ⟨A1, c1, eo⟩ := Kd.R_slice ho; subst eo; have HO := Aside0.mk ho; have HB := Aside0.mk hb; clear ho hb; obtain ⟨ad1, ea1, hx0, hx1, hx2, hx3⟩ := at_T65 (Kd.R_reads' HO.out).2.2 0 (by omega) (by rw [List.length_cons]; omega); subst ea1; rw [rd_zero] at hx0 hx1 hx2 hx3; simp only [Int.toNat_zero, Nat.zero_mul, Addr.add_zero'] at hx0 hx1 hx2 hx3; have hlp : ((0 : Int) < (((x :: l).length : Nat) : Int)) = True := eq_true (by rw [List.length_cons]; omega); obtain ⟨i0_, hi0_, _, hsz0_, _⟩ := info_parts info65; have hroom_ := (Kd.R_reads' HO.out).2.1; have hcut := cut_from (P := Tryz.prog) 61 65 .i64 Tryz.underlying61 hi0_ 4 hsz0_ (some ad1) (x :: l).length c1 1 (by omega) (by rw [List.length_cons]; omega); have hF_ := Kd.F_cut (m := (1 : Int).toNat) (c := c1) (Kd.R_F HO.out) (by rw [List.length_cons]; simp) hroom_; obtain ⟨A2, hA2⟩ : ∃ A2, A2 = (if c1 = (1 : Int).toNat then (some ad1) else ((some ad1) : Option Addr).map (·.add ((1 : Int).toNat * 4))) := ⟨_, rfl⟩; obtain ⟨c2, hc2⟩ : ∃ c2, c2 = c1 - (1 : Int).toNat := ⟨_, rfl⟩; have hy_ : l.length = (x :: l).length - (1 : Int).toNat := (by rw [List.length_cons]; simp); rw [← hy_, ← hA2, ← hc2] at hcut; have HV := Aside0.mk (show Kd.V k65 65 W1 W1.heap.size (fun _ => True) (.slice A2 l.length c2) l from Kd.V_mk (by rw [hy_, hc2]; exact Nat.sub_le_sub_right hroom_ _) (by rw [hA2]; exact hF_)); clear hF_ hroom_ hi0_ hsz0_ hc2 hA2 hy_; (try rw [List.length_cons] at hcut)) | (go_at_call 30; refine (diff_entries.calls k (fun _ => True) A2 c2 l _ _ _ HV.out HE.out).mono ?_; rintro ev W2 ⟨v2, v3, rfl, ho2, hv3, hb2⟩; obtain ⟨A3, c3, eo3⟩ := Kd.V_slice hv3; subst eo3; have HB2 := Aside0.mk (below_step HB.out hb2); have HO2 := Aside0.mk (Kd.R_mono (ok' := fun _ => True) (Kd.R_lower ho2 (below_size HB.out)) (fun _ _ => trivial)); have HV3 := Aside0.mk hv3; clear ho2 hv3 hb2; obtain ⟨ad3, ea3, hy0, hy1, hy2, hy3⟩ := at_T65 (Kd.V_reads' HV3.out).2.2 0 (by omega) (by rw [List.length_cons]; omega); subst ea3; rw [rd_zero] at hy0 hy1 hy2 hy3; simp only [Int.toNat_zero, Nat.zero_mul, Addr.add_zero'] at hy0 hy1 hy2 hy3))
        repeat (go_quiet (fail); try go_wp2)
        go_ret3
        exact ⟨_, rfl, Kd.R_nil _ _ _ _ _, (by repeat (first | exact HB2.out | apply pw_below_drewN))⟩
    · dsimp only at h
      rw [if_neg h6] at h
      have hR := Option.some.inj h
      clear h
      injection hR with e1 hR
      injection hR with e2 e3
      subst e1 e2 e3
      have h6b : (x.f0 != 6) = true := bne_iff_ne.2 h6
      have h6c : (x.f0 == 6) = false := beq_eq_false_iff_ne.2 h6
      go_enter Tryz.func15, Tryz.ntmps15
      go_wp2_with (go_at_call 29; refine (tok_All.calls k a0 _ _ _ _ HG.out HA.out).mono ?_; rintro ev W1 ⟨v0, rfl, ho, hb⟩; obtain ⟨A1, c1, eo⟩ := Kd.R_slice ho; subst eo; have HO := Aside0.mk ho; have HB := Aside0.mk hb; clear ho hb; obtain ⟨ad1, ea1, hx0, hx1, hx2, hx3⟩ := at_T65 (Kd.R_reads' HO.out).2.2 0 (by omega) (by rw [List.length_cons]; omega); subst ea1; rw [rd_zero] at hx0 hx1 hx2 hx3; simp only [Int.toNat_zero, Nat.zero_mul, Addr.add_zero'] at hx0 hx1 hx2 hx3; have hlp : ((0 : Int) < (((x :: l).length : Nat) : Int)) = True := eq_true (by rw [List.length_cons]; omega))
      repeat (go_quiet (fail); try go_wp2)
      go_ret3
      exact ⟨_, rfl, Kd.R_nil _ _ _ _ _, (by repeat (first | exact HB.out | apply pw_below_drewN))⟩
  · rw [if_neg he] at h
    have hR := Option.some.inj h
    clear h
    injection hR with e1 hR
    injection hR with e2 e3
    subst e1 e2 e3
    have heb : (e != 0) = true := bne_iff_ne.2 he
    have hec : (e == 0) = false := beq_eq_false_iff_ne.2 he
    go_enter Tryz.func15, Tryz.ntmps15
    go_wp2_with (go_at_call 29; refine (tok_All.calls k a0 _ _ _ _ HG.out HA.out).mono ?_; rintro ev W1 ⟨v0, rfl, ho, hb⟩; obtain ⟨A1, c1, eo⟩ := Kd.R_slice ho; subst eo; have HO := Aside0.mk ho; have HB := Aside0.mk hb; clear ho hb)
    go_ret3
    exact ⟨_, rfl, Kd.R_nil _ _ _ _ _, HB.out⟩
end Go.Proofs.YtdcldaknmenklaaGreatDoor.M
end
section
namespace Go.Proofs.YtdcldaknmenklaaGreatDoor.M
open Go.RowKit Go.Proofs.YtdcldaknmenklaaGreatDoorW.PrintWords
set_option linter.unusedVariables false
def strconv_Itoa.f (a0 : Int) : Option ByteArray := if -9223372036854775808 ≤ a0 ∧ a0 ≤ 9223372036854775807 then some ⟨(Lib.itoa a0).toArray⟩ else none
theorem strconv_Itoa.calls (a0 : Int) (r : ByteArray) (w : World) (hG : GW w) (h : strconv_Itoa.f a0 = some r) :
    Calls Tryz.prog 35 #[.int .i64 a0] w fun e w' => e = .returned (.string r) ∧ Below w.heap.size w w' := by
  unfold strconv_Itoa.f at h
  split at h
  case isFalse => cases h
  rename_i hb
  obtain rfl := Option.some.inj h
  refine (Tryz.strconv_Itoa a0 hb.1 hb.2 w hG.pow).mono ?_
  rintro e w' ⟨rfl, k, os, rfl⟩
  exact ⟨rfl, Lib.below_grow _ w (Nat.le_refl _) k os⟩
end Go.Proofs.YtdcldaknmenklaaGreatDoor.M
end
section
namespace Go.Proofs.YtdcldaknmenklaaGreatDoor.M
open Go.RowKit Go.Proofs.YtdcldaknmenklaaGreatDoorW.PrintWords
set_option linter.unusedVariables false
/-- A digit of a number below 16. -/
def hexDig (n : Nat) : UInt8 := if n < 10 then (48 + n).toUInt8 else (55 + n).toUInt8
def hexOf (c : Int) : List UInt8 := [hexDig (c.toNat / 16), hexDig (c.toNat % 16)]
def hexBytes (l : List Int) : List UInt8 := l.flatMap hexOf
def isByte (c : Int) : Bool := decide (0 ≤ c) && decide (c ≤ 255)
def hex_Hex.f (l0 : List Int) : Option ByteArray := if l0.all isByte = true then (if l0.length * 2 ≤ 140737488355328 then some ⟨(hexBytes l0).toArray⟩ else none) else none
theorem hexBytes_length (l : List Int) : (hexBytes l).length = 2 * l.length := by
  induction l with
  | nil => rfl
  | cons c l ih => simp only [hexBytes, List.flatMap_cons, List.length_append] at ih ⊢; rw [ih]; simp [hexOf]; omega
theorem hexBytes_snoc (l : List Int) (i : Nat) (h : i < l.length) : hexBytes (l.take (i + 1)) = hexBytes (l.take i) ++ hexOf (l.getD i 0) := by
  unfold hexBytes
  rw [List.take_succ_eq_append_getElem h, List.flatMap_append]
  simp [List.getD_eq_getElem?_getD, h]
theorem hexAt (n : Nat) (h : n < 16) : (⟨#[48, 49, 50, 51, 52, 53, 54, 55, 56, 57, 65, 66, 67, 68, 69, 70]⟩ : ByteArray)[n]'h = hexDig n := by
  have : ∀ m : Fin 16, (⟨#[48, 49, 50, 51, 52, 53, 54, 55, 56, 57, 65, 66, 67, 68, 69, 70]⟩ : ByteArray)[m.val]'m.isLt = hexDig m.val := by decide
  exact this ⟨n, h⟩
theorem hexCells (l : List Int) (k : Nat) (hk : k < l.length) (c : Int) (hc : rd l k = c) (h0 : 0 ≤ c) (h1 : c ≤ 255) (ha : (c / 16).toNat < 16) (hb : (c % 16).toNat < 16) :
    Lib.byteCells (hexBytes (l.take k)) ++ [.int .u8 ↑((⟨#[48, 49, 50, 51, 52, 53, 54, 55, 56, 57, 65, 66, 67, 68, 69, 70]⟩ : ByteArray)[(c / 16).toNat]'ha).toNat] ++ [.int .u8 ↑((⟨#[48, 49, 50, 51, 52, 53, 54, 55, 56, 57, 65, 66, 67, 68, 69, 70]⟩ : ByteArray)[(c % 16).toNat]'hb).toNat] = Lib.byteCells (hexBytes (l.take (k + 1))) := by
  rw [hexBytes_snoc l k hk, Lib.byteCells_append, hexAt _ ha, hexAt _ hb, List.append_assoc]
  have e : l.getD k 0 = c := by simpa [rd] using hc
  rw [e]
  have e1 : (c / 16).toNat = c.toNat / 16 := by omega
  have e2 : (c % 16).toNat = c.toNat % 16 := by omega
  simp [hexOf, Lib.byteCells, e1, e2]
set_option maxHeartbeats 4000000 in
set_option maxRecDepth 1000000 in
theorem hex_Hex.calls (A0 : Option Addr) (c0 : Nat) (l0 : List Int) (r : ByteArray) (w : World) (hr0 : Kd.C (Kd.int .u8) w A0 l0.length l0) (hc0 : l0.length ≤ c0) (h : hex_Hex.f l0 = some r) :
    Calls Tryz.prog 189 #[.slice A0 l0.length c0] w fun e w' => e = .returned (.string r) ∧ Below w.heap.size w w' := by
  unfold hex_Hex.f at h
  split at h
  case isFalse => cases h
  rename_i hb
  split at h
  case isFalse => cases h
  rename_i hl
  obtain rfl := Option.some.inj h
  clear h
  have HR := Aside0.mk hr0
  have HB := Aside0.mk hb
  clear hr0 hb
  go_enter Tryz.func189, Tryz.ntmps189
  go_wp2
  go_loopw [8] (fun i wr => ∃ k : Nat, k ≤ l0.length ∧ i = .int .i64 k ∧ IsBd w.heap.size w.heap.size (hexBytes (l0.take k)) wr ∧ Below w.heap.size w wr) (fun i wr => l0.length - (intOf i).toNat)
  case atStart => 
    refine ⟨0, Nat.zero_le _, rfl, (Lib.IsBuilderF.of (Lib.fresh_isBuilder _ _ w)), (Below.refl _ w).alloc (Nat.le_refl _) _⟩
  case round =>
    obtain ⟨k, hk, rfl, hI, hbw⟩ := hrel
    by_cases hlt : k < l0.length
    · obtain ⟨ad, e101, hx101⟩ := Kd.at_int HR.out (k : Int) (by omega) (by omega)
      subst e101
      have hx : wr.cell? (ad.add k) = some (.int .u8 (rd l0 k)) := by simpa using pw_cell_below hbw hx101
      obtain ⟨c, hc, h0, h1⟩ : ∃ c, rd l0 k = c ∧ 0 ≤ c ∧ c ≤ 255 := by
        have hm : rd l0 k ∈ l0 := by simp [rd, List.getD_eq_getElem?_getD, hlt]
        have := List.all_eq_true.1 HB.out _ hm
        simp only [isByte, Bool.and_eq_true, decide_eq_true_eq] at this
        exact ⟨_, rfl, this.1, this.2⟩
      have HC := Aside0.mk hc
      rw [hc] at hx
      clear hc hx101
      have hand : Go.bits .and .u8 c 15 = c % 16 := u8_and15 c h0 (by omega)
      go_wp2_with (go_at_call 88; refine (WriteByte_k w.heap.size w.heap.size _ _ _ hI ?_ ?_).mono ?_)
      · rw [Lib.byteCells_length, hexBytes_length, List.length_take]; omega
      · exact hbw.size
      rintro e W1 ⟨rfl, h1, b1, k1⟩
      clear hI
      go_wp2_with (go_at_call 88; refine (WriteByte_k w.heap.size w.heap.size _ _ _ (.inr h1) ?_ ?_).mono ?_)
      · simp only [List.length_append, Lib.byteCells_length, hexBytes_length, List.length_take, List.length_cons, List.length_nil]; omega
      · exact (hbw.trans b1).size
      rintro e W2 ⟨rfl, h2, b2, k2⟩
      rw [hexCells l0 k hlt c HC.out h0 (by omega)] at h2
      go_wp2
      go_roundw
      case rel => exact ⟨k + 1, by omega, by go_num, .inr h2, (hbw.trans b1).trans b2⟩
      case measure => simp [intOf]; omega
    · go_wp2_with (go_at_call 43; refine (Tryz.Builder_String_any_k w.heap.size w.heap.size _ _ hI hbw.size).mono ?_)
      rintro e W1 ⟨rfl, _, b1, _⟩
      go_wp2
      go_ret
      rw [List.take_of_length_le (by omega)]
      exact ⟨rfl, hbw.trans b1⟩
end Go.Proofs.YtdcldaknmenklaaGreatDoor.M
end
section
namespace Go.Proofs.YtdcldaknmenklaaGreatDoor.M
open Go.RowKit Go.Proofs.YtdcldaknmenklaaGreatDoorW.PrintWords
set_option linter.unusedVariables false
/-- A byte of a name, written. -/
def writeOf (c : UInt8) : List UInt8 := if isPlainB c.toNat then [c] else 35 :: hexOf c.toNat
def writeBytes (l : List UInt8) : List UInt8 := l.flatMap writeOf
def lex_Write.f (a0 : ByteArray) : Option ByteArray := if a0.size * 3 ≤ 140737488355328 then some ⟨(writeBytes a0.data.toList).toArray⟩ else none
theorem writeOf_length (c : UInt8) : 1 ≤ (writeOf c).length ∧ (writeOf c).length ≤ 3 := by
  unfold writeOf; split <;> simp [hexOf]
theorem writeBytes_length (l : List UInt8) : l.length ≤ (writeBytes l).length ∧ (writeBytes l).length ≤ 3 * l.length := by
  induction l with
  | nil => simp [writeBytes]
  | cons c l ih =>
    have := writeOf_length c
    simp only [writeBytes, List.flatMap_cons, List.length_append, List.length_cons] at ih ⊢
    omega
theorem writeBytes_snoc (s : ByteArray) (i : Nat) (h : i < s.size) : writeBytes (s.data.toList.take (i + 1)) = writeBytes (s.data.toList.take i) ++ writeOf s[i] := by
  unfold writeBytes
  rw [List.take_succ_eq_append_getElem (by simpa using h), List.flatMap_append]
  simp
  rfl
set_option maxHeartbeats 4000000 in
set_option maxRecDepth 1000000 in
theorem lex_Write.calls (a0 : ByteArray) (r : ByteArray) (w : World) (h : lex_Write.f a0 = some r) :
    Calls Tryz.prog 187 #[.string a0] w fun e w' => e = .returned (.string r) ∧ Below w.heap.size w w' := by
  unfold lex_Write.f at h
  split at h
  case isFalse => cases h
  rename_i hl
  obtain rfl := Option.some.inj h
  clear h
  go_enter Tryz.func187, Tryz.ntmps187
  go_wp2
  go_loopw [7] (fun i wr => ∃ k : Nat, k ≤ a0.size ∧ i = .int .i64 k ∧ IsBd w.heap.size w.heap.size (writeBytes (a0.data.toList.take k)) wr ∧ Below w.heap.size w wr) (fun i wr => a0.size - (intOf i).toNat)
  case atStart => 
    refine ⟨0, Nat.zero_le _, rfl, (Lib.IsBuilderF.of (Lib.fresh_isBuilder _ _ w)), (Below.refl _ w).alloc (Nat.le_refl _) _⟩
  case round =>
    obtain ⟨k, hk, rfl, hI, hbw⟩ := hrel
    by_cases hlt : k < a0.size
    · have hlen := writeBytes_length (a0.data.toList.take k)
      rw [List.length_take, Array.length_toList] at hlen
      have hsz : min k a0.data.size = k := by have : a0.data.size = a0.size := rfl; omega
      rw [hsz] at hlen
      clear hsz
      have HS := Aside0.mk (writeBytes_snoc a0 k hlt)
      have h256 := (a0[k]).toNat_lt
      have hc := plain_eq (Nat.le_refl 2) (a0[k].toNat : Int) (by omega) (by omega)
      by_cases hp : isPlainB (a0[k].toNat : Int) = true
      · rw [hp] at hc
        have HP := Aside0.mk hp
        have HC := Aside0.mk hc
        clear hp hc
        go_wp2_with (go_at_call 188; refine (lex_plain.calls 2 _ true _ HC.out).mono ?_)
        rintro e W1 ⟨rfl, b1⟩
        replace hI := hI.below b1
        replace hbw := below_then hbw hbw.size b1
        clear b1
        go_wp2_with (go_at_call 88; refine (WriteByte_k w.heap.size w.heap.size _ _ _ hI ?_ ?_).mono ?_)
        · rw [Lib.byteCells_length]; omega
        · exact hbw.size
        rintro e W2 ⟨rfl, h2, b2, k2⟩
        go_wp2
        go_roundw
        case rel =>
          refine ⟨k + 1, by omega, by go_num, ?_, hbw.trans b2⟩
          rw [HS.out, IsBd, Lib.byteCells_append]
          have e : writeOf a0[k] = [a0[k]] := by unfold writeOf; rw [if_pos HP.out]
          rw [e]
          exact .inr h2
        case measure => simp [intOf]; omega
      · have hp' : isPlainB (a0[k].toNat : Int) = false := by simpa using hp
        rw [hp'] at hc
        have HP := Aside0.mk hp'
        have HC := Aside0.mk hc
        clear hp hp' hc
        have hx : hex_Hex.f [(a0[k].toNat : Int)] = some ⟨(hexBytes [(a0[k].toNat : Int)]).toArray⟩ := by
          unfold hex_Hex.f
          rw [if_pos (by simp [isByte]; omega), if_pos (by simp)]
        have HX := Aside0.mk hx
        clear hx
        go_wp2_with (go_at_call 188; refine (lex_plain.calls 2 _ false _ HC.out).mono ?_)
        rintro e W1 ⟨rfl, b1⟩
        replace hI := hI.below b1
        replace hbw := below_then hbw hbw.size b1
        clear b1
        go_wp2_with (go_at_call 88; refine (WriteByte_k w.heap.size w.heap.size _ _ _ hI ?_ ?_).mono ?_)
        · rw [Lib.byteCells_length]; omega
        · exact hbw.size
        rintro e W2 ⟨rfl, h2, b2, k2⟩
        replace hbw := hbw.trans b2
        have hI2 : IsBd w.heap.size w.heap.size (writeBytes (List.take k a0.data.toList) ++ [35]) W2 := by
          rw [IsBd, Lib.byteCells_append]; exact .inr h2
        have hr : Kd.C (Kd.int .u8) (W2.alloc (.cells #[.int .u8 (a0[k].toNat : Int)] 5)) (some ⟨W2.heap.size, 0, none⟩) 1 [(a0[k].toNat : Int)] := reads_one _ _ _ _
        clear hI b2 k2 h2
        go_wp2_with (go_at_call 189; refine (hex_Hex.calls _ 1 [(a0[k].toNat : Int)] _ _ hr (Nat.le_refl 1) HX.out).mono ?_)
        clear hr
        rintro e W3 ⟨rfl, b3⟩
        have hI3 := (IsBd.alloc hI2 (.cells #[.int .u8 (a0[k].toNat : Int)] 5)).below b3
        have hb3 : Below w.heap.size w W3 := below_then (below_alloc hbw _) (below_alloc hbw _).size b3
        clear hI2 b3 hbw
        have hxs : (ByteArray.mk (hexBytes [(a0[k].toNat : Int)]).toArray).size = 2 := by
          show (hexBytes [(a0[k].toNat : Int)]).toArray.size = 2
          rw [List.size_toArray, hexBytes_length]; rfl
        have HXS := Aside0.mk hxs
        clear hxs
        go_wp2_with (go_at_call 42; refine (WriteString_k w.heap.size w.heap.size _ _ _ hI3 ?_ ?_).mono ?_)
        · rw [Lib.byteCells_length, HXS.out, List.length_append, List.length_singleton]; omega
        · exact hb3.size
        rintro e W4 ⟨rfl, h4, b4, k4⟩
        go_wp2
        go_roundw
        case rel =>
          refine ⟨k + 1, by omega, by go_num, ?_, hb3.trans b4⟩
          rw [HS.out, IsBd]
          have e : writeOf a0[k] = 35 :: hexOf a0[k].toNat := by unfold writeOf; rw [HP.out]; rfl
          have e2 : Lib.byteCells (writeBytes (List.take k a0.data.toList) ++ writeOf a0[k]) = Lib.byteCells (writeBytes (List.take k a0.data.toList) ++ [35]) ++ Lib.strCells ⟨(hexBytes [(a0[k].toNat : Int)]).toArray⟩ := by
            rw [e, Lib.byteCells_append, Lib.byteCells_append, List.append_assoc]
            simp [Lib.byteCells, Lib.strCells, hexBytes]
          rw [e2]
          exact .inr h4
        case measure => simp [intOf]; omega
    · go_wp2_with (go_at_call 43; refine (Tryz.Builder_String_any_k w.heap.size w.heap.size _ _ hI hbw.size).mono ?_)
      rintro e W1 ⟨rfl, _, b1, _⟩
      go_wp2
      go_ret
      rw [List.take_of_length_le (by simp; omega)]
      exact ⟨rfl, hbw.trans b1⟩
end Go.Proofs.YtdcldaknmenklaaGreatDoor.M
end
section
namespace Go.Proofs.YtdcldaknmenklaaGreatDoor.M
open Go.RowKit Go.Proofs.YtdcldaknmenklaaGreatDoorW.PrintWords Go.Proofs.YtdcldaknmenklaaGreatDoorW.PrintLast Go.Proofs.YtdcldaknmenklaaGreatDoorW.PrintMore
set_option linter.unusedVariables false
set_option linter.unusedSimpArgs false
def shownL (x : S32) : List UInt8 := if x.f0 = true then Lib.itoa x.f1 else 47 :: writeBytes x.f2.data.toList
def shownB (x : S32) : ByteArray := ⟨(shownL x).toArray⟩
def okShown (x : S32) : Prop := -9223372036854775808 ≤ x.f1 ∧ x.f1 ≤ 9223372036854775807 ∧ x.f2.size * 3 ≤ 140737488355000
instance (x : S32) : Decidable (okShown x) := by unfold okShown; exact inferInstance
def wordsOf (l : List S32) : List ByteArray := (⟨#[91]⟩ : ByteArray) :: (l.map shownB ++ [(⟨#[93]⟩ : ByteArray)])
def diff_Text.f (l0 : List S32) : Option ByteArray := if l0.length ≤ 1000000 ∧ ∀ x ∈ l0, okShown x then strings_Join.f (wordsOf l0) (⟨#[32]⟩ : ByteArray) else none
set_option maxRecDepth 100000 in
theorem shown_int (n : Int) (h0 : -9223372036854775808 ≤ n) (h1 : n ≤ 9223372036854775807) (w : World) (hG : GW w) : Calls Tryz.prog 185 #[.int .i64 n] w fun e w' => e = .returned (.string ⟨(Lib.itoa n).toArray⟩) ∧ Below w.heap.size w w' := by
  go_enter Tryz.func185, Tryz.ntmps185
  go_wp2_with (go_at_call 35; refine (strconv_Itoa.calls n ⟨(Lib.itoa n).toArray⟩ _ hG (by unfold strconv_Itoa.f; rw [if_pos ⟨h0, h1⟩])).mono ?_; rintro e W2 ⟨rfl, hb2⟩)
  go_ret
  exact ⟨rfl, hb2⟩
set_option maxRecDepth 100000 in
theorem shown_name (s : ByteArray) (hs : s.size * 3 ≤ 140737488355000) (w : World) : Calls Tryz.prog 186 #[.string s] w fun e w' => e = .returned (.string ⟨(47 :: writeBytes s.data.toList).toArray⟩) ∧ Below w.heap.size w w' := by
  have hl := writeBytes_length s.data.toList
  have hz : (⟨(writeBytes s.data.toList).toArray⟩ : ByteArray).size ≤ 140737488355000 := by
    show (List.toArray _).size ≤ _
    have : s.data.toList.length = s.size := rfl
    simp only [List.size_toArray]
    omega
  have ha : (⟨#[47]⟩ : ByteArray) ++ ⟨(writeBytes s.data.toList).toArray⟩ = ⟨(47 :: writeBytes s.data.toList).toArray⟩ := by
    apply ByteArray.ext
    simp
  have hx : (9223372036854775807 < 1 + (writeBytes s.data.toList).length) = False := eq_false (by have : s.data.toList.length = s.size := rfl; omega)
  go_enter Tryz.func186, Tryz.ntmps186
  go_wp2_with (go_at_call 187; refine (lex_Write.calls s ⟨(writeBytes s.data.toList).toArray⟩ _ (by unfold lex_Write.f; rw [if_pos (by omega)])).mono ?_; rintro e W2 ⟨rfl, hb2⟩)
  go_ret
  exact ⟨rfl, hb2⟩
theorem method_int (v : Value) (w : World) : (Go.method 352 59 v "hornbook/diff.shown").run Tryz.prog w = .ok (185, v) w := by kernel_rfl
theorem method_name (v : Value) (w : World) : (Go.method 352 60 v "hornbook/diff.shown").run Tryz.prog w = .ok (186, v) w := by kernel_rfl
theorem shownL_int (n : Int) (s : ByteArray) : shownB ⟨true, n, s⟩ = ⟨(Lib.itoa n).toArray⟩ := by unfold shownB shownL; rw [if_pos rfl]
theorem shownL_name (n : Int) (s : ByteArray) : shownB ⟨false, n, s⟩ = ⟨(47 :: writeBytes s.data.toList).toArray⟩ := by unfold shownB shownL; rw [if_neg (by simp)]
set_option maxHeartbeats 4000000 in
set_option maxRecDepth 1000000 in
theorem diff_Text.calls (A0 : Option Addr) (c0 : Nat) (l0 : List S32) (r : ByteArray) (w : World) (hG : GW w) (hr0 : Kd.C k32 w A0 l0.length l0) (hc0 : l0.length ≤ c0) (h : diff_Text.f l0 = some r) :
    Calls Tryz.prog 23 #[.slice A0 l0.length c0] w fun e w' => e = .returned (.string r) ∧ Below w.heap.size w w' := by
  have hu := Tryz.underlying32
  have hm1 := method_int
  have hm2 := method_name
  unfold diff_Text.f at h
  split at h
  case isFalse => cases h
  rename_i hb
  obtain ⟨hlen, hok⟩ := hb
  have HR0 := Aside0.mk hr0
  have HG := Aside0.mk hG
  have HJ := Aside0.mk h
  have HOK := Aside0.mk hok
  clear hr0 hG h hok
  go_enter Tryz.func23, Tryz.ntmps23
  go_wp2
  go_loopw [3, 9] (fun v3 v9 wr => ∃ (k : Nat), k ≤ l0.length ∧ v9 = .int .i64 k ∧ Aside0 (Kd.R Kd.string 9 wr w.heap.size (fun _ => True) v3 ((⟨#[91]⟩ : ByteArray) :: (l0.take k).map shownB)) ∧ Aside0 (Below w.heap.size w wr)) (fun v3 v9 wr => l0.length - (intOf v9).toNat)
  case atStart =>
    refine ⟨0, Nat.zero_le _, rfl, ⟨?_⟩, ⟨below_alloc (Below.refl _ _) _⟩⟩
    exact strings_fresh w [(⟨#[91]⟩ : ByteArray)] _ 1 1 rfl (Nat.le_refl _) (by unfold maxLen; omega) rfl rfl
  case round =>
    obtain ⟨k, hk, rfl, HO, HB⟩ := hrel
    by_cases hlt : k < l0.length
    · have hrd : rd_T32 l0 (k : Int) = l0[k] := by
        unfold rd_T32
        rw [Int.toNat_natCast, List.getD_eq_getElem?_getD, List.getElem?_eq_getElem hlt]
        rfl
      obtain ⟨ad1, e1, hx0, hx1, hx2⟩ := at_T32 (Kd.C_below HR0.out HB.out) (k : Int) (by omega) (by omega)
      subst e1
      rw [hrd, Int.toNat_natCast] at hx0 hx1 hx2
      have hokx := HOK.out _ (List.getElem_mem hlt)
      have HT := Aside0.mk (show (l0.take (k + 1)).map shownB = (l0.take k).map shownB ++ [shownB l0[k]] by rw [List.take_succ_eq_append_getElem hlt, List.map_append]; rfl)
      clear hrd
      generalize l0[k] = x at hx0 hx1 hx2 hokx HT
      obtain ⟨xb, xn, xs0⟩ := x
      dsimp only at hx0 hx1 hx2
      obtain ⟨o1, o2, o3⟩ := hokx
      dsimp only at o1 o2 o3
      have hlt2 : decide ((k : Int) < (l0.length : Int)) = true := decide_eq_true (by omega)
      have hlk : ((⟨#[91]⟩ : ByteArray) :: (l0.take k).map shownB).length = k + 1 := by rw [List.length_cons, List.length_map, List.length_take]; omega
      cases xb with
      | true =>
        rw [shownL_int] at HT
        go_wp2_with (first | (go_at_call 28; refine (says_int xn xs0 _).mono ?_; rintro e W2 ⟨rfl, hb2⟩; have n1_ := Aside0.mk (below_step (below_alloc HB.out _) hb2); have n0_ := Aside0.mk (Kd.R_below (Kd.R_alloc HO.out _) hb2); clear hb2 HO HB; have HO := n0_; have HB := n1_; clear n0_ n1_; clear hx0 hx1 hx2) | (go_at_call 185; refine (shown_int xn o1 o2 _ (GW.below HB.out HG.out)).mono ?_; rintro e W3 ⟨rfl, hb3⟩; have n1_ := Aside0.mk (below_step HB.out hb3); have n0_ := Aside0.mk (Kd.R_below HO.out hb3); clear hb3 HO HB; have HO := n0_; have HB := n1_; clear n0_ n1_) | ((with_reducible refine gate_builtin (b := .append) (xs := #[.tmp 13, .tmp 17]) rfl ?_); at_builtin; refine Kd.R_append Kd.string (w0 := w) w.heap.size rfl (.tmp 13) (.tmp 17) 25 9 (.string ⟨#[]⟩) 16 rfl Tryz.underlying25 info9 rfl (by decide) (by omega) _ ((⟨#[91]⟩ : ByteArray) :: (l0.take k).map shownB) ⟨(Lib.itoa xn).toArray⟩ [.string ⟨(Lib.itoa xn).toArray⟩] (fun _ => True) (fun _ => False) rfl rfl ?aP (fun _ hk => hk.elim) ?aF ?aO ?aB ?aS ?aL ?_; (case aP => exact rfl); (case aB => exact HB.out); (case aF => exact (fun _ _ => trivial)); (case aO => exact HO.out); (case aS => exact below_size HB.out); (case aL => omega); intro v4 w4 ho hb hg hat; have n1_ := Aside0.mk (hb); have n0_ := Aside0.mk (ho); clear ho hb HO HB; have HO := n0_; have HB := n1_; clear n0_ n1_; clear hg hat))
        refine ⟨⟨k + 1, by omega, by go_num, ⟨by rw [HT.out]; exact HO.out⟩, HB⟩, ?_⟩
        simp [intOf]
        omega
      | false =>
        rw [shownL_name] at HT
        go_wp2_with (first | (go_at_call 28; refine (says_name xn xs0 _).mono ?_; rintro e W2 ⟨rfl, hb2⟩; have n1_ := Aside0.mk (below_step (below_alloc HB.out _) hb2); have n0_ := Aside0.mk (Kd.R_below (Kd.R_alloc HO.out _) hb2); clear hb2 HO HB; have HO := n0_; have HB := n1_; clear n0_ n1_; clear hx0 hx1 hx2) | (go_at_call 186; refine (shown_name xs0 o3 _).mono ?_; rintro e W3 ⟨rfl, hb3⟩; have n1_ := Aside0.mk (below_step HB.out hb3); have n0_ := Aside0.mk (Kd.R_below HO.out hb3); clear hb3 HO HB; have HO := n0_; have HB := n1_; clear n0_ n1_) | ((with_reducible refine gate_builtin (b := .append) (xs := #[.tmp 13, .tmp 17]) rfl ?_); at_builtin; refine Kd.R_append Kd.string (w0 := w) w.heap.size rfl (.tmp 13) (.tmp 17) 25 9 (.string ⟨#[]⟩) 16 rfl Tryz.underlying25 info9 rfl (by decide) (by omega) _ ((⟨#[91]⟩ : ByteArray) :: (l0.take k).map shownB) ⟨(47 :: writeBytes xs0.data.toList).toArray⟩ [.string ⟨(47 :: writeBytes xs0.data.toList).toArray⟩] (fun _ => True) (fun _ => False) rfl rfl ?aP (fun _ hk => hk.elim) ?aF ?aO ?aB ?aS ?aL ?_; (case aP => exact rfl); (case aB => exact HB.out); (case aF => exact (fun _ _ => trivial)); (case aO => exact HO.out); (case aS => exact below_size HB.out); (case aL => omega); intro v4 w4 ho hb hg hat; have n1_ := Aside0.mk (hb); have n0_ := Aside0.mk (ho); clear ho hb HO HB; have HO := n0_; have HB := n1_; clear n0_ n1_; clear hg hat))
        refine ⟨⟨k + 1, by omega, by go_num, ⟨by rw [HT.out]; exact HO.out⟩, HB⟩, ?_⟩
        simp [intOf]
        omega
    · have hkl : k = l0.length := by omega
      subst hkl
      have HW := Aside0.mk (show ((⟨#[91]⟩ : ByteArray) :: (l0.take l0.length).map shownB) ++ [(⟨#[93]⟩ : ByteArray)] = wordsOf l0 by rw [List.take_length]; rfl)
      have hlk : ((⟨#[91]⟩ : ByteArray) :: (l0.take l0.length).map shownB).length = l0.length + 1 := by rw [List.length_cons, List.length_map, List.length_take]; omega
      obtain ⟨NW, hNW⟩ : ∃ NW : Nat, (wordsOf l0).length = NW := ⟨_, rfl⟩
      have HNW := Aside0.mk hNW
      clear hNW
      go_wp2_with (first | ((with_reducible refine gate_builtin (b := .append) (xs := #[.tmp 20, .tmp 21]) rfl ?_); at_builtin; refine Kd.R_append Kd.string (w0 := w) w.heap.size rfl (.tmp 20) (.tmp 21) 25 9 (.string ⟨#[]⟩) 16 rfl Tryz.underlying25 info9 rfl (by decide) (by omega) _ ((⟨#[91]⟩ : ByteArray) :: (l0.take l0.length).map shownB) (⟨#[93]⟩ : ByteArray) [.string (⟨#[93]⟩ : ByteArray)] (fun _ => True) (fun _ => False) rfl rfl ?aP (fun _ hk => hk.elim) ?aF ?aO ?aB ?aS ?aL ?_; (case aP => exact rfl); (case aB => exact (by repeat (first | exact HB.out | apply below_alloc))); (case aF => exact (fun _ _ => trivial)); (case aO => exact (by (with_reducible repeat (first | apply Kd.R_alloc)); exact HO.out)); (case aS => exact (below_size (by repeat (first | exact HB.out | apply below_alloc)))); (case aL => omega); intro v4 w4 ho hb hg hat; rw [HW.out] at ho; obtain ⟨Ao, co, eo⟩ := Kd.R_slice ho; rw [HNW.out] at eo; subst eo; have HJC := Aside0.mk (strings_Join.calls Ao co (wordsOf l0) (⟨#[32]⟩ : ByteArray) r w4 (Kd.R_reads' ho).2.2 (by rw [HNW.out]; exact (Kd.R_reads' ho).2.1) HJ.out); have HB4 := Aside0.mk hb; clear ho hb hg hat) | (go_at_call 34; have hj_ := HJC.out; rw [HNW.out] at hj_; refine hj_.mono ?_; rintro e W5 ⟨rfl, hb5⟩; have HB5 := Aside0.mk (below_step HB4.out hb5); clear hj_ hb5))
      go_ret
      exact ⟨rfl, HB5.out⟩
end Go.Proofs.YtdcldaknmenklaaGreatDoor.M
end
