/- Packed by this session's program hbpack.py out of this claim's own texts (Q85, Q51, Q52, Bd, Q87, Q188, Q136, Q114, Pl, Q53, Q89, Q54, Q113, Q90, Q91, Q55, Is, Q92, Q56, Q38, Q29, Q30, Q15, Q72, Q45, Q93, Q57, Q58, Q59, Q60, Q94): the same declarations, without those that the claim does not use. -/
import Derived.Test.YtdcldaknmenklaaGreatDoorPkDiffIs2
import Derived.Laws.Rows
import Derived.Laws.Tables
import Derived.Laws.CopyOwn
import Derived.Lib.FrozenHead2
import Derived.Lib.OthersKept
import Derived.Lib.Builder
import Derived.Lib.AppendStr
import Derived.Lib.UnsafeStr
import Derived.Laws.Externs
import Derived.Laws.IdiomCopy
import Derived.Shelf.Strings.SlTrimAscii
import Derived.WalkMore
import Derived.ScopeJumps
import Derived.LaidEql
import Derived.Stop.Asserts
import Derived.RowKitTokens
section
namespace Go.Proofs.YtdcldaknmenklaaGreatDoor.M
open Go.RowKit Go.Proofs.YtdcldaknmenklaaGreatDoorW.PrintWords Go.Proofs.YtdcldaknmenklaaGreatDoorW.PrintLast Go.Proofs.YtdcldaknmenklaaGreatDoorW.PrintMore
attribute [local go_sem] max2_int min2_int max_two min_two max_three min_three max_four min_four
set_option linter.unusedVariables false
set_option linter.unusedSimpArgs false
def strings_HasPrefix.f (a0 : ByteArray) (a1 : ByteArray) : Option (Bool) := (stringslite_HasPrefix.f a0 a1).bind fun t176 => (some t176)
set_option maxHeartbeats 8000000 in
set_option maxRecDepth 100000 in
theorem strings_HasPrefix.calls (a0 : ByteArray) (a1 : ByteArray) (r : Bool) (w : World) (h : strings_HasPrefix.f a0 a1 = some r) :
  Calls Tryz.prog 85 #[.string a0, .string a1] w fun e w' => e = .returned (.bool r) ∧ Drawn0 w w' := by
 have H : ((stringslite_HasPrefix.f a0 a1).bind fun t176 => (some t176)) = some r := h
 clear h
 replace H := bS H
 obtain ⟨t176, A3, H⟩ := H
 try dsimp only at H
 obtain rfl := Option.some.inj H
 go_enter Tryz.func85, Tryz.ntmps85
 go_wp2_with (first | ((with_reducible refine gC 112 ?_); refine gL (some 7) Tryz.func112 #[.string a0, .string a1] ?_; (with_reducible refine (stringslite_HasPrefix.calls a0 a1 t176 _ A3.out).mono ?_); rintro e w' ⟨rfl, ⟨nd, rfl⟩⟩; refine ⟨_, rfl, ?_⟩))
 go_ret
 exact ⟨by first | rfl | (simp; done) | (simp [*]; done), by repeat (first | exact Drawn0.refl _ | apply Drawn0.step)⟩
end Go.Proofs.YtdcldaknmenklaaGreatDoor.M
end
section
namespace Go.Proofs.YtdcldaknmenklaaGreatDoor.M
open Go.RowKit Go.Maps Go.Proofs.YtdcldaknmenklaaGreatDoorW.PrintWords Go.Proofs.YtdcldaknmenklaaGreatDoorW.PrintLast
set_option linter.unusedVariables false
set_option linter.unusedSimpArgs false
/-- The six signs. -/
def isSign (x : Int) (s : List UInt8) : Prop := (x = 6 ∧ s = [91]) ∨ (x = 7 ∧ s = [93]) ∨ (x = 8 ∧ s = [60, 60]) ∨ (x = 9 ∧ s = [62, 62]) ∨ (x = 10 ∧ s = [123]) ∨ (x = 11 ∧ s = [125])
def signOf (l : List UInt8) : Option (Int × Nat) :=
 if [91].isPrefixOf l then some (6, 1) else if [93].isPrefixOf l then some (7, 1) else if [60, 60].isPrefixOf l then some (8, 2) else
 if [62, 62].isPrefixOf l then some (9, 2) else if [123].isPrefixOf l then some (10, 1) else if [125].isPrefixOf l then some (11, 1) else none
theorem signOf_hit {x : Int} {s l : List UInt8} (h : isSign x s) (hp : s.isPrefixOf l = true) : signOf l = some (x, s.length) := by
 rcases l with _ | ⟨a, _ | ⟨b, r⟩⟩
 ·rcases h with ⟨rfl, rfl⟩ | ⟨rfl, rfl⟩ | ⟨rfl, rfl⟩ | ⟨rfl, rfl⟩ | ⟨rfl, rfl⟩ | ⟨rfl, rfl⟩ <;> simp [List.isPrefixOf] at hp
 ·rcases h with ⟨rfl, rfl⟩ | ⟨rfl, rfl⟩ | ⟨rfl, rfl⟩ | ⟨rfl, rfl⟩ | ⟨rfl, rfl⟩ | ⟨rfl, rfl⟩ <;> simp only [List.isPrefixOf, Bool.and_eq_true, beq_iff_eq, Bool.and_true, Bool.and_false] at hp
  all_goals first | (subst hp; rfl) | (cases hp)
 ·rcases h with ⟨rfl, rfl⟩ | ⟨rfl, rfl⟩ | ⟨rfl, rfl⟩ | ⟨rfl, rfl⟩ | ⟨rfl, rfl⟩ | ⟨rfl, rfl⟩ <;> simp only [List.isPrefixOf, Bool.and_eq_true, beq_iff_eq, Bool.and_true] at hp
  all_goals first | (subst hp; rfl) | (obtain ⟨rfl, rfl⟩ := hp; rfl)
theorem signOf_none {l : List UInt8} (h : ∀ x s, isSign x s → s.isPrefixOf l = false) : signOf l = none := by
 unfold signOf
 rw [h 6 [91] (by simp [isSign]), h 7 [93] (by simp [isSign]), h 8 [60, 60] (by simp [isSign]), h 9 [62, 62] (by simp [isSign]), h 10 [123] (by simp [isSign]), h 11 [125] (by simp [isSign])]
 rfl
def tok_source_sign.f (a0 : ByteArray) (a1 : Int) : Option (Int × Int × Int × ByteArray × Int × Bool) :=
 if 0 ≤ a1 ∧ a1 ≤ a0.size ∧ a0.size ≤ 140737488351232 then
  match signOf (a0.data.toList.drop a1.toNat) with
  | some (x, n) => some (x, a1, 0, ⟨#[]⟩, a1 + n, true)
  | none => some (0, 0, 0, ⟨#[]⟩, a1, false)
 else none
theorem sign_at {x : Int} {c : ByteArray} (hl : Maps.has signMap (.int .i64 x) = true) (hat : ∀ zd, signMap.atKey (.int .i64 x) zd = .lit (.string c.data.toList)) : isSign x c.data.toList := by
 have h0 := hat (.lit (.string []))
 simp [signMap, Maps.has, signRow, Lit.sameKey] at hl
 have hs : ∀ (y : Int) (s : List UInt8), signMap.atKey (.int .i64 y) (.lit (.string [])) = .lit (.string s) → x = y → c.data.toList = s := by
  rintro y s hy rfl
  rw [hy] at h0
  injection h0 with h0
  injection h0 with h0
  exact h0.symm
 rcases hl with e | e | e | e | e | e
 ·exact .inl ⟨e.symm, hs 6 _ rfl e.symm⟩
 ·exact .inr (.inl ⟨e.symm, hs 7 _ rfl e.symm⟩)
 ·exact .inr (.inr (.inl ⟨e.symm, hs 8 _ rfl e.symm⟩))
 ·exact .inr (.inr (.inr (.inl ⟨e.symm, hs 9 _ rfl e.symm⟩)))
 ·exact .inr (.inr (.inr (.inr (.inl ⟨e.symm, hs 10 _ rfl e.symm⟩))))
 ·exact .inr (.inr (.inr (.inr (.inr ⟨e.symm, hs 11 _ rfl e.symm⟩))))
theorem has_sign {x : Int} {s : List UInt8} (h : isSign x s) : Maps.has signMap (.int .i64 x) = true ∧ ∀ zd, signMap.atKey (.int .i64 x) zd = .lit (.string s) := by
 rcases h with ⟨rfl, rfl⟩ | ⟨rfl, rfl⟩ | ⟨rfl, rfl⟩ | ⟨rfl, rfl⟩ | ⟨rfl, rfl⟩ | ⟨rfl, rfl⟩ <;> exact ⟨rfl, fun _ => rfl⟩
theorem tok_one (a b c : Int) (s : ByteArray) : (#[Value.int .i64 a, .int .i64 b, .int .i64 c, .string s] : Array Value).all (·.oneCell') = true := by simp [Value.oneCell']
theorem tok_info {a b c : Int} {s : ByteArray} : (Tryz.prog.info? 65).map (·.size) = some (#[Value.int .i64 a, .int .i64 b, .int .i64 c, .string s] : Array Value).size := by
 show _ = some 4
 kernel_rfl
theorem sign_same {x : Int} {s s' : List UInt8} (h : isSign x s) (h' : isSign x s') : s = s' := by
 have a := (has_sign h).2 (.lit (.string []))
 have b := (has_sign h').2 (.lit (.string []))
 rw [a] at b
 injection b with b
 injection b with b
theorem ranges_below {w w' : World} {b r n cnt : Nat} {left : Lit → Bool} (h : w.ranges (H := Unit) Tryz.prog 3 (plainElem Tryz.prog 9) b r n signMap left cnt) (hb : Below w.heap.size w w') : w'.ranges (H := Unit) Tryz.prog 3 (plainElem Tryz.prog 9) b r n signMap left cnt := by
 obtain ⟨es, clock, since, seen, c0, h1, F, hs, hD, h2, rest⟩ := h
 exact ⟨es, clock, since, seen, c0, (hb.block b (Array.getElem?_eq_some_iff.1 h1).1).trans h1, F, hs, hD, (hb.block r (Array.getElem?_eq_some_iff.1 h2).1).trans h2, rest⟩
theorem hasPrefix_eq (a b : ByteArray) : strings_HasPrefix.f a b = some (b.data.toList.isPrefixOf a.data.toList) := by
 unfold strings_HasPrefix.f stringslite_HasPrefix.f
 by_cases h : (a.size : Int) ≥ (b.size : Int)
 ·rw [if_pos h, if_pos (by omega), if_pos (by omega), Option.bind_some]
  congr 1
  rw [Int.toNat_natCast, ext_mid, ba_toList, toList_data, Nat.sub_zero, List.drop_zero, Bool.eq_iff_iff, beq_iff_eq, List.isPrefixOf_iff_prefix, List.prefix_iff_eq_take]
  exact ⟨fun e => e.symm, fun e => e.symm⟩
 ·rw [if_neg h, Option.bind_some]
  congr 1
  symm
  rw [Bool.eq_false_iff]
  intro hp
  have := (List.isPrefixOf_iff_prefix.1 hp).length_le
  rw [← size_list, ← size_list] at this
  omega
set_option maxHeartbeats 1000000 in
set_option maxRecDepth 1000000 in
theorem tok_source_sign.calls (a0 : ByteArray) (a1 : Int) (r1 : Int) (r2 : Int) (r3 : Int) (r4 : ByteArray) (r5 : Int) (r6 : Bool) (w : World) (h : tok_source_sign.f a0 a1 = some (r1, r2, r3, r4, r5, r6)) :
  Calls Tryz.prog 51 #[.string a0, .int .i64 a1] w fun e w' => e = .returned (.tuple #[.agg #[.int .i64 r1, .int .i64 r2, .int .i64 r3, .string r4], .int .i64 r5, .bool r6]) ∧ Below w.heap.size w w' := by
 unfold tok_source_sign.f at h
 split at h
 case isFalse => cases h
 rename_i hb
 obtain ⟨hb0, hb1, hb2⟩ := hb
 obtain ⟨p, rfl⟩ := Int.eq_ofNat_of_zero_le hb0
 rw [Int.toNat_natCast] at h
 have hp : p ≤ a0.size := by omega
 obtain ⟨rest, hrest⟩ : ∃ rest : ByteArray, rest = ⟨(a0.data.toList.drop p).toArray⟩ := ⟨_, rfl⟩
 have hf : tok_source_from.f a0 (p : Int) = some rest := by
  have hmn : mn (p : Int) (a0.size : Int) = (p : Int) := by unfold mn; rw [if_neg (by omega)]
  unfold tok_source_from.f
  rw [hmn, if_pos (by omega), if_pos (by omega), Int.toNat_natCast, ext_from, hrest]
 have hrd : rest.data.toList = a0.data.toList.drop p := by rw [hrest]
 rw [← hrd] at h
 have HF := Aside0.mk hf
 have HH := Aside0.mk h
 clear hf h hrd hrest hb0
 go_enter Tryz.func51, Tryz.ntmps51
 go_wp2_with fail
 generalize hZ : (#[Value.int IntKind.i64 0, Value.int IntKind.i64 0, Value.int IntKind.i64 0, Value.string ⟨#[]⟩] : Array Value) = Z
 have hzs : Z.size = 4 := by rw [← hZ]; rfl
 have HZ := Aside0.mk hZ
 clear hZ
 refine (signs_calls _).mono ?_
 rintro e W1 ⟨b, rfl, hbb, hown, hb1⟩
 have hs1 : w.heap.size + 1 ≤ W1.heap.size := by have := hb1.size; simpa using this
 have hbb' : w.heap.size + 1 ≤ b := by simpa using hbb
 have HZ1 : Aside0 (W1.heap[w.heap.size]? = some (.cells Z 65 (0, 0))) := ⟨(hb1.block w.heap.size (by simp)).trans (by show (w.heap.push _)[w.heap.size]? = _; rw [Array.getElem?_push_size])⟩
 have HB1 : Aside0 (Below w.heap.size w W1) := ⟨below_step (below_alloc (Below.refl _ w) _) hb1⟩
 have HOWN := Aside0.mk hown
 clear hb1 hown hbb
 go_wp2_with (at_range; refine wpList_range_own _ rfl _ 106 rfl 3 9 key3 Tryz.underlying106 _ b 6 _ rfl HOWN.out ?_)
 intro w0 hrg0 hg0 hs0
 have HRG0 := Aside0.mk hrg0
 have HZ0 : Aside0 (w0.heap[w.heap.size]? = some (.cells Z 65 (0, 0))) := ⟨(hg0.block w.heap.size (by omega) (by simp)).trans HZ1.out⟩
 have HB0 : Aside0 (Below w.heap.size w w0) := ⟨HB1.out.grown hg0 HB1.out.size (fun k e => by cases e)⟩
 clear hrg0 hg0 HZ1 HB1 HOWN
 go_wp2_with fail
 go_loopw [7, 8] (fun _ _ wr => ∃ (left : Lit → Bool) (cnt : Nat), Aside0 (wr.ranges (H := Unit) Tryz.prog 3 (plainElem Tryz.prog 9) b W1.heap.size 6 signMap left cnt) ∧ Aside0 (Below w.heap.size w wr) ∧ Aside0 (wr.heap[w.heap.size]? = some (.cells Z 65 (0, 0))) ∧ w.heap.size + 1 ≤ wr.heap.size ∧ Aside0 (∀ kl, left kl = true → Maps.has signMap kl = true) ∧ Aside0 (∀ x s, isSign x s → left (.int .i64 x) = false → s.isPrefixOf rest.data.toList = false))
  (fun _ _ wr => wr.rangeLeft b W1.heap.size)
 case atStart => exact ⟨_, _, HRG0, HB0, HZ0, by omega, ⟨fun _ h => h⟩, ⟨fun x s hs hl => by rw [(has_sign hs).1] at hl; cases hl⟩⟩
 case round =>
  clear HRG0 HB0 HZ0
  obtain ⟨left, cnt, HRG, HB, HZR, hsr, HLE, HNO⟩ := hrel
  go_wp2_with (at_next; refine wpList_next_ranges_is _ rfl _ rfl 3 9 .i64 key3 Tryz.underlying3 Tryz.underlying9 b W1.heap.size 6 _ _ _ rfl HRG.out ?_ ?_)
  ·intro _ hl0
   have hno : signOf rest.data.toList = none := signOf_none (fun x s hs => HNO.out x s hs (hl0 _))
   have hh := HH.out
   rw [hno] at hh
   simp only [Option.some.injEq, Prod.mk.injEq] at hh
   obtain ⟨rfl, rfl, rfl, rfl, rfl, rfl⟩ := hh
   go_wp2_with (refine wpList_store_row rfl 65 (.tmp 4) (.tmp 28) rfl w.heap.size #[.int .i64 0, .int .i64 0, .int .i64 0, .string ⟨#[]⟩] rfl rfl 65 _ HZR.out tok_info (by rw [hzs]; rfl) (tok_one _ _ _ _) ?_)
   refine bodyPost_ret (v := .tuple #[.agg #[.int .i64 0, .int .i64 0, .int .i64 0, .string ⟨#[]⟩], .int .i64 p, .bool false]) ?_ rfl ⟨rfl, below_setRow HB.out (Nat.le_refl _) _⟩
   exact results_ctt (fn := Tryz.f51) (p := 4) (u := 5) (v := 6) (ty := 65) rfl _ _ w.heap.size 65 _ (0, 0) _ rfl (setRow_heap wr w.heap.size _ _ 65 (0, 0) HZR.out) Tryz.underlying65 rfl tok_info
  ·intro x c w1 cnt1 hwx hwc hlx hat hrg1 hlt hg1 hs1' hen
   have hsg := sign_at (HLE.out _ hlx) hat
   have hR : w.heap.size + 1 ≤ W1.heap.size := hs1
   have HZ1 : Aside0 (w1.heap[w.heap.size]? = some (.cells Z 65 (0, 0))) := ⟨(hg1.block w.heap.size (by omega) (by intro e; injection e with e; omega)).trans HZR.out⟩
   have HB1 : Aside0 (Below w.heap.size w w1) := ⟨HB.out.grown hg1 HB.out.size (fun k e => by cases e; omega)⟩
   have HRG1 := Aside0.mk hrg1
   have HSG := Aside0.mk hsg
   have HLX := Aside0.mk hlx
   have hcs : c.size ≤ 2 := by
    rcases hsg with ⟨-, e⟩ | ⟨-, e⟩ | ⟨-, e⟩ | ⟨-, e⟩ | ⟨-, e⟩ | ⟨-, e⟩ <;> rw [size_list, e] <;> decide
   have hpre := hasPrefix_eq rest c
   have hlt2 : wr.rangeLeft b W1.heap.size = cnt := HRG.out.left_eq
   have HLT2 := Aside0.mk hlt2
   have HLT := Aside0.mk hlt
   clear hrg1 hg1 hsg hlx hat hlt2 hlt HZR HB
   by_cases hq : c.data.toList.isPrefixOf rest.data.toList = true
   ·rw [hq] at hpre
    have HPRE := Aside0.mk hpre
    have hh := HH.out
    rw [signOf_hit HSG.out hq] at hh
    simp only [Option.some.injEq, Prod.mk.injEq] at hh
    obtain ⟨rfl, rfl, rfl, rfl, rfl, rfl⟩ := hh
    clear hpre hq
    go_wp2_with fail
    with_reducible refine (tok_source_from.calls a0 (p : Int) rest _ HF.out).mono ?_
    rintro e W2 ⟨rfl, hb⟩
    have HZ2 : Aside0 (W2.heap[w.heap.size]? = some (.cells Z 65 (0, 0))) := ⟨(hb.block w.heap.size (by omega)).trans HZ1.out⟩
    have HB2 : Aside0 (Below w.heap.size w W2) := ⟨below_step HB1.out hb⟩
    clear hb
    go_wp2_with fail
    with_reducible refine (strings_HasPrefix.calls rest c true _ HPRE.out).mono ?_
    rintro e W3 ⟨rfl, ⟨nd, rfl⟩⟩
    have HZ3 : Aside0 ((W2.drewN nd).heap[w.heap.size]? = some (.cells Z 65 (0, 0))) := HZ2
    have HB3 : Aside0 (Below w.heap.size w (W2.drewN nd)) := ⟨pw_below_drewN HB2.out nd⟩
    generalize W2.drewN nd = W3 at HZ3 HB3 ⊢
    have hcz : (p : Int) + (c.size : Int) < 9223372036854775808 := by omega
    go_wp2_with (refine wpList_store_row rfl 65 (.tmp 4) (.tmp 23) rfl w.heap.size #[.int .i64 x, .int .i64 p, .int .i64 0, .string ⟨#[]⟩] rfl rfl 65 _ HZ3.out tok_info (by rw [hzs]; rfl) (tok_one _ _ _ _) ?_)
    refine bodyPost_ret (v := .tuple #[.agg #[.int .i64 x, .int .i64 p, .int .i64 0, .string ⟨#[]⟩], .int .i64 (p + c.size), .bool true]) ?_ rfl ⟨rfl, below_setRow HB3.out (Nat.le_refl _) _⟩
    exact results_ctt (fn := Tryz.f51) (p := 4) (u := 5) (v := 6) (ty := 65) rfl _ _ w.heap.size 65 _ (0, 0) _ rfl (setRow_heap W3 w.heap.size _ _ 65 (0, 0) HZ3.out) Tryz.underlying65 rfl tok_info
   ·have hq' : c.data.toList.isPrefixOf rest.data.toList = false := Bool.eq_false_iff.2 hq
    rw [hq'] at hpre
    have HPRE := Aside0.mk hpre
    have HQ := Aside0.mk hq'
    clear hpre hq hq'
    have hsz1 : w1.heap.size = wr.heap.size := hs1'
    have HHEN := Aside0.mk hen
    go_wp2_with fail
    with_reducible refine (tok_source_from.calls a0 (p : Int) rest _ HF.out).mono ?_
    rintro e W2 ⟨rfl, hb⟩
    have HZ2 : Aside0 (W2.heap[w.heap.size]? = some (.cells Z 65 (0, 0))) := ⟨(hb.block w.heap.size (by omega)).trans HZ1.out⟩
    have HB2 : Aside0 (Below w.heap.size w W2) := ⟨below_step HB1.out hb⟩
    have HRG2 := Aside0.mk (ranges_below HRG1.out hb)
    have hs2 : w.heap.size + 1 ≤ W2.heap.size := by have := hb.size; omega
    clear hb
    go_wp2_with fail
    with_reducible refine (strings_HasPrefix.calls rest c false _ HPRE.out).mono ?_
    rintro e W3 ⟨rfl, ⟨nd, rfl⟩⟩
    have HZ3 : Aside0 ((W2.drewN nd).heap[w.heap.size]? = some (.cells Z 65 (0, 0))) := HZ2
    have HB3 : Aside0 (Below w.heap.size w (W2.drewN nd)) := ⟨pw_below_drewN HB2.out nd⟩
    have HRG3 : Aside0 ((W2.drewN nd).ranges (H := Unit) Tryz.prog 3 (plainElem Tryz.prog 9) b W1.heap.size 6 signMap (fun z => left z && !z.sameKey (.int .i64 x)) cnt1) := HRG2
    have hs3 : w.heap.size + 1 ≤ (W2.drewN nd).heap.size := hs2
    generalize W2.drewN nd = W3 at HZ3 HB3 HRG3 hs3 ⊢
    go_wp2
    go_roundw
    case rel =>
     refine ⟨_, cnt1, HRG3, HB3, HZ3, hs3, ⟨fun kl hk => HLE.out kl (by simp only [Bool.and_eq_true] at hk; exact hk.1)⟩, ⟨fun x' s' hs' hl' => ?_⟩⟩
     simp only [Bool.and_eq_false_iff, Bool.not_eq_false'] at hl'
     rcases hl' with hl' | hl'
     ·exact HNO.out x' s' hs' hl'
     ·have hx : x' = x := by simpa [Lit.sameKey] using hl'
      subst hx
      have e1 := sign_same hs' HSG.out
      rw [e1]
      exact HQ.out
    case measure => rw [HRG3.out.left_eq, HLT2.out]; exact HLT.out
end Go.Proofs.YtdcldaknmenklaaGreatDoor.M
end
section
namespace Go.Proofs.YtdcldaknmenklaaGreatDoor.M
open Go.RowKit Go.Proofs.YtdcldaknmenklaaGreatDoorW.PrintWords Go.Proofs.YtdcldaknmenklaaGreatDoorW.PrintLast Go.Proofs.YtdcldaknmenklaaGreatDoorW.PrintMore
attribute [local go_sem] max2_int min2_int max_two min_two max_three min_three max_four min_four
set_option linter.unusedVariables false
set_option linter.unusedSimpArgs false
def lex_Word.l0 : Nat → ByteArray → Int → Int → Option (ByteArray × Int)
 | 0, _, _, _ => none
 | k + 1, x0, x6, x7 => if x7 < (x0.size : Int) then (if 0 ≤ x7 then ((lex_Class.f k (wrap64 (bt x0 x7))).bind fun t178 => (if t178 = 0 then (lex_Word.l0 k x0 x6 (wrap64 (x7 + 1))) else (if 0 ≤ x6 then (if x6 ≤ x7 then (if x7 ≤ (x0.size : Int) then (some (x0.extract (x6 : Int).toNat (x7 : Int).toNat, x7)) else (none)) else (none)) else (none)))) else (none)) else (if 0 ≤ x6 then (if x6 ≤ x7 then (if x7 ≤ (x0.size : Int) then (some (x0.extract (x6 : Int).toNat (x7 : Int).toNat, x7)) else (none)) else (none)) else (none))
def lex_Word.f (k : Nat) (a0 : ByteArray) (a1 : Int) : Option (ByteArray × Int) := (lex_place.f a0 a1).bind fun t177 => (lex_Word.l0 k a0 t177 t177)
theorem lex_Word.mono_l : ∀ k, (∀ y0 y1 y2, LeO (lex_Word.l0 k y0 y1 y2) (lex_Word.l0 (k + 1) y0 y1 y2))
 | 0 => fun _ _ _ r h => by simp [lex_Word.l0] at h
 | k + 1 => by
  have ih0 := lex_Word.mono_l k
  ·intro y0 y1 y2
   unfold lex_Word.l0
   repeat' first
   | (with_reducible exact ih0 _ _ _)
   | (with_reducible exact lex_Class.mono _ _)
   | (with_reducible exact LeO.refl _)
   | (with_reducible exact LeO.none _)
   | (with_reducible refine LeO.ite ?_ ?_)
   | (with_reducible refine LeO.bind ?_ (fun _ => ?_))
   | exact ih0 _ _ _
   | exact lex_Class.mono _ _
   | exact LeO.none _
   | refine LeO.ite ?_ ?_
   | refine LeO.bind ?_ (fun _ => ?_)
theorem lex_Word.mono : ∀ a0 a1 k, LeO (lex_Word.f k a0 a1) (lex_Word.f (k + 1) a0 a1) := by
 intro a0 a1 k
 have ih0 := lex_Word.mono_l k
 unfold lex_Word.f
 repeat' first
   | (with_reducible exact ih0 _ _ _)
   | (with_reducible exact lex_Class.mono _ _)
   | (with_reducible exact LeO.refl _)
   | (with_reducible exact LeO.none _)
   | (with_reducible refine LeO.ite ?_ ?_)
   | (with_reducible refine LeO.bind ?_ (fun _ => ?_))
   | exact ih0 _ _ _
   | exact lex_Class.mono _ _
   | exact LeO.none _
   | refine LeO.ite ?_ ?_
   | refine LeO.bind ?_ (fun _ => ?_)
set_option maxHeartbeats 8000000 in
set_option maxRecDepth 100000 in
theorem lex_Word.calls (k : Nat) (a0 : ByteArray) (a1 : Int) (r1 : ByteArray) (r2 : Int) (w : World) (h : lex_Word.f k a0 a1 = some (r1, r2)) :
  Calls Tryz.prog 52 #[.string a0, .int .i64 a1] w fun e w' => e = .returned (.tuple #[.string r1, .int .i64 r2]) ∧ Below w.heap.size w w' := by
 have HB := aM (Below.refl w.heap.size w)
 have H : ((lex_place.f a0 a1).bind fun t177 => (lex_Word.l0 k a0 t177 t177)) = some (r1, r2) := h
 clear h
 replace H := bS H
 obtain ⟨t177, A3, H⟩ := H
 try dsimp only at H
 have H' := aM H
 clear H
 go_enter Tryz.func52, Tryz.ntmps52
 go_wp2_with (first | ((with_reducible refine gC 81 ?_); refine gL (some 10) Tryz.func81 #[.string a0, .int .i64 a1] ?_; (with_reducible refine cB (lex_place.calls a0 a1 t177 _ A3.out) ?_); intro w4 hb; replace HB := sB hb; clear hb))
 go_loopg [7] k (fun kq v7 w' => ∃ (x7_1 : Int), v7 = .int .i64 x7_1 ∧ Aside0 (lex_Word.l0 kq a0 t177 x7_1 = some (r1, r2)) ∧ Aside0 (kq ≤ k) ∧ Aside0 (Below w.heap.size w w'))
 case atStart => exact ⟨(t177), vQ, H', ⟨Nat.le_refl _⟩, ⟨bQ⟩⟩
 case round =>
  clear H'
  try clear p2
  obtain ⟨x7_1, rfl, HA, HK1, HB⟩ := hrel
  cases gk with
  | zero => exact absurd HA.out (by simp [lex_Word.l0])
  | succ k1 =>
   have H := HA.out
   clear HA
   simp only [lex_Word.l0] at H
   refine iD H ?_ ?_<;>clear H<;>intro H c5b0
   rotate_left
   ·refine iNc H ?_ ?_<;>clear H<;>intro H c15
    rotate_left
    ·exact absurd H (by simp)
    have c15b0 := eq_true c15
    have c15b1 : decide (0 ≤ t177) = true := decide_eq_true c15
    clear c15
    refine iNc H ?_ ?_<;>clear H<;>intro H c16
    rotate_left
    ·exact absurd H (by simp)
    have c16b0 := eq_true c16
    have c16b1 : decide (t177 ≤ x7_1) = true := decide_eq_true c16
    clear c16
    refine iNc H ?_ ?_<;>clear H<;>intro H c17
    rotate_left
    ·exact absurd H (by simp)
    have c17b0 := eq_true c17
    have c17b1 : decide (x7_1 ≤ (a0.size : Int)) = true := decide_eq_true c17
    clear c17
    simp only [Option.some.injEq, Prod.mk.injEq] at H
    obtain ⟨rfl, rfl⟩ := H
    go_wp2
    go_ret2
    exact ⟨eQ, bQ⟩
   refine iD H ?_ ?_<;>clear H<;>intro H c6b0
   rotate_left
   ·exact absurd H (by simp)
   replace H := bS H
   obtain ⟨t178, A8, H⟩ := H
   try dsimp only at H
   refine iEc H ?_ ?_<;>clear H<;>intro H c9b0 c9b1 c9
   ·clear c9
    have H' := aM H
    clear H
    have p7 : 0 ≤ (x7_1 : Int) := of_decide_eq_true hQ
    have q7 : x7_1 < (a0.size : Int) := of_decide_eq_true hQ
    have hx7 := bt_at a0 x7_1
    replace p7 := eq_true p7
    replace q7 := eq_true q7
    go_wp2_with (first | (go_at_call 83; (with_reducible refine (lex_Class.calls k1 (wrap64 (bt a0 x7_1)) t178 _ A8.out).mono ?_); rintro e w10 ⟨rfl, hb⟩; replace HB := sB hb; clear hb))
    go_roundg k1
    case measure => have := HK1.out; omega
    case rel => exact ⟨(wrap64 (x7_1 + 1)), vQ, H', ⟨by have := HK1.out; omega⟩, ⟨bQ⟩⟩
   refine iNc H ?_ ?_<;>clear H<;>intro H c11
   rotate_left
   ·exact absurd H (by simp)
   have c11b0 := eq_true c11
   have c11b1 : decide (0 ≤ t177) = true := decide_eq_true c11
   clear c11
   refine iNc H ?_ ?_<;>clear H<;>intro H c12
   rotate_left
   ·exact absurd H (by simp)
   have c12b0 := eq_true c12
   have c12b1 : decide (t177 ≤ x7_1) = true := decide_eq_true c12
   clear c12
   refine iNc H ?_ ?_<;>clear H<;>intro H c13
   rotate_left
   ·exact absurd H (by simp)
   have c13b0 := eq_true c13
   have c13b1 : decide (x7_1 ≤ (a0.size : Int)) = true := decide_eq_true c13
   clear c13
   simp only [Option.some.injEq, Prod.mk.injEq] at H
   obtain ⟨rfl, rfl⟩ := H
   have p7 : 0 ≤ (x7_1 : Int) := of_decide_eq_true hQ
   have q7 : x7_1 < (a0.size : Int) := of_decide_eq_true hQ
   have hx7 := bt_at a0 x7_1
   replace p7 := eq_true p7
   replace q7 := eq_true q7
   go_wp2_with (first | (go_at_call 83; (with_reducible refine (lex_Class.calls k1 (wrap64 (bt a0 x7_1)) t178 _ A8.out).mono ?_); rintro e w14 ⟨rfl, hb⟩; replace HB := sB hb; clear hb))
   go_ret2
   exact ⟨eQ, bQ⟩
end Go.Proofs.YtdcldaknmenklaaGreatDoor.M
end
section
namespace Go.Proofs.YtdcldaknmenklaaGreatDoor.M
open Go.RowKit Go.Proofs.YtdcldaknmenklaaGreatDoorW.PrintWords
set_option linter.unusedVariables false
theorem bd_size : (Tryz.prog.info? 80).map (·.size) = some 2 := by kernel_rfl
theorem bd_lies : liesAt Tryz.prog Tryz.prog.depth 80 (2 / Tryz.prog.cellsOf 80) 0 80 1 = true := by kernel_rfl
theorem bd_byte : (Tryz.prog.info? 5).map (fun i => (i.zero, i.size, i.bytes)) = some (some (.int .u8 0), 1, 1) := by kernel_rfl
/-- A builder of the call's own, in block b, that holds the bytes l. -/
abbrev IsBd (B b : Nat) (l : List UInt8) (w : World) : Prop := Lib.IsBuilderF 80 5 B b (Lib.byteCells l) w
set_option maxHeartbeats 1000000 in
set_option maxRecDepth 100000 in
theorem copyCheck_used (b : Nat) (w : World) (h0 : w.cell? ⟨b, 0, none⟩ = some (.pointer (some ⟨b, 0, none⟩))) :
  Calls Tryz.prog 69 #[.pointer (some ⟨b, 0, none⟩)] w fun e w' => e = .returned (.tuple #[]) ∧ w' = w := by
 obtain ⟨j, hj, _⟩ := Option.map_eq_some_iff.1 bd_size
 go_enter Tryz.func69, Tryz.ntmps69
 go_wp2
 rw [Lib.run_neq_ptr_same w _ Tryz.underlying77 hj]
 go_wp2
 go_end0
 exact ⟨rfl, rfl⟩
set_option maxHeartbeats 1000000 in
set_option maxRecDepth 100000 in
theorem copyCheck_fresh (b : Nat) (w : World) (h0 : w.cell? ⟨b, 0, none⟩ = some (.pointer none)) (hsh : w.shape? b = some (80, 2)) (hfz : w.frozen? ⟨b, 0, none⟩ = false) :
  Calls Tryz.prog 69 #[.pointer (some ⟨b, 0, none⟩)] w fun e w' => e = .returned (.tuple #[]) ∧ w' = w.setCell ⟨b, 0, none⟩ (.pointer (some ⟨b, 0, none⟩)) := by
 obtain ⟨j, hj, hjs⟩ := Option.map_eq_some_iff.1 bd_size
 go_enter Tryz.func69, Tryz.ntmps69
 go_wp2
 rw [Lib.run_to_unsafe w ⟨b, 0, none⟩ Tryz.underlying77 Tryz.underlying121 hj (by rw [hjs]; decide) hsh (Nat.zero_lt_succ 1)]
 simp only [Result.andThen]
 rw [Oper.upon_value]
 go_wp2
 rw [run_callFunc_extern Tryz.func98 (by kernel_rfl) (by kernel_rfl) (by kernel_rfl) (e := Extern.AbiNoEscape.same) (by kernel_rfl)]
 rw [Lib.run_noEscape]
 simp only [Result.andThen]
 rw [Oper.upon_value]
 go_wp2
 rw [Lib.run_from_unsafe w ⟨b, 0, none⟩ Tryz.underlying121 Tryz.underlying77 hj hsh bd_lies]
 simp only [Result.andThen]
 rw [Oper.upon_value]
 go_wp2
 go_end0
 exact ⟨rfl, rfl⟩
theorem copyCheck_k (B b : Nat) (bs : List Value) (w : World) (h : Lib.IsBuilderF 80 5 B b bs w) :
  Calls Tryz.prog 69 #[.pointer (some ⟨b, 0, none⟩)] w fun e w' => e = .returned (.tuple #[]) ∧ (Lib.BuilderAtF 80 5 B b (.pointer (some ⟨b, 0, none⟩)) bs w' ∧ Below B w w' ∧ Lib.OthersKept 5 (some b) w w') := by
 rcases h with h | h
 ·refine (copyCheck_fresh b w h.cell0 h.shape h.frozen0).mono ?_
  rintro e w' ⟨rfl, rfl⟩
  exact ⟨rfl, h.used _, (Below.refl B w).setCell (p := ⟨b, 0, none⟩) h.1 _, (Lib.OthersKept.refl _ _ w).setCell ⟨b, 0, none⟩ rfl _⟩
 ·refine (copyCheck_used b w h.cell0).mono ?_
  rintro e w' ⟨rfl, rfl⟩
  exact ⟨rfl, h, Below.refl B _, Lib.OthersKept.refl _ _ _⟩
set_option maxHeartbeats 2000000 in
set_option maxRecDepth 100000 in
theorem WriteByte_k (B b : Nat) (bs : List Value) (c : Int) (w : World) (h : Lib.IsBuilderF 80 5 B b bs w) (hlen : bs.length + 1 ≤ 140737488355328) (hBw : B ≤ w.heap.size) :
  Calls Tryz.prog 88 #[.pointer (some ⟨b, 0, none⟩), .int .u8 c] w fun e w' => e = .returned .nilIface ∧ (Lib.BuilderAtF 80 5 B b (.pointer (some ⟨b, 0, none⟩)) (bs ++ [.int .u8 c]) w' ∧ Below B w w' ∧ Lib.OthersKept 5 (some b) w w') := by
 obtain ⟨i0, hi, hz0, hz1, hz2⟩ := info_parts bd_byte
 go_enter Tryz.func88, Tryz.ntmps88
 go_wp2_with (go_at_call 69; refine (copyCheck_k B b bs _ h).mono ?_)
 rintro e w1 ⟨rfl, h1, hb1, hk1⟩
 obtain ⟨hB, v, hbk, hown, hne⟩ := h1
 have c0 : w1.cell? ⟨b, 0, none⟩ = some (.pointer (some ⟨b, 0, none⟩)) := by rw [Lib.cell_of_heap hbk]; rfl
 have c1 : w1.cell? ⟨b, 1, none⟩ = some v := by rw [Lib.cell_of_heap hbk]; rfl
 go_wp2_with (at_builtin; refine wpList_append_ownF _ rfl _ _ 78 rfl B 5 i0 (.int .u8 0) 1 1 Tryz.underlying78 hi hz0 hz1 hz2 rfl (by decide) _ _ _ rfl (hown.alloc _) ⟨w1.heap.size, 0, none⟩ 1 1 [.int .u8 c] rfl rfl ?c1 ?c2 ?c3 ?c4 ?c5 ?_)
 case c1 =>
  intro j u hj
  match j, hj with
  | 0, hj => simp at hj; subst hj; simp [Addr.add]
 case c2 => intro u hu; simp at hu; subst hu; rfl
 case c3 => unfold maxLen; omega
 case c4 => omega
 case c5 => have := hb1.size; simp; omega
 intro v' w2 hown' hgrow _
 have hlt : b < w1.heap.size := by
  rcases Nat.lt_or_ge b w1.heap.size with h' | h'
  ·exact h'
  ·simp [Array.getElem?_eq_none h'] at hbk
 have hb2 : w2.heap[b]? = some (.cells #[.pointer (some ⟨b, 0, none⟩), v] 80 (0, 0)) := by
  rw [hgrow.block b (by simp; omega) (fun e => hne e.symm), Lib.alloc_old w1 _ b hlt]
  exact hbk
 have d0 : w2.cell? ⟨b, 0, none⟩ = some (.pointer (some ⟨b, 0, none⟩)) := by rw [Lib.cell_of_heap hb2]; rfl
 have d1 : w2.cell? ⟨b, 1, none⟩ = some v := by rw [Lib.cell_of_heap hb2]; rfl
 have f1 : w2.frozen? ⟨b, 1, none⟩ = false := Lib.frozen_of_heap hb2 1
 obtain ⟨g, cap, rfl⟩ : ∃ g cap, v' = .slice (some ⟨g, 0, none⟩) (bs.length + 1) cap := by
  rcases hown'.2 with ⟨_, h0⟩ | ⟨g, cap, cur, fz, hv, _⟩
  ·omega
  ·exact ⟨g, cap, hv⟩
 go_wp2
 go_ret
 refine ⟨rfl, ?_, ?_, ((hk1.alloc _).grown hgrow (Lib.ownsRowF_kind (hown.alloc _))).setCell ⟨b, 1, none⟩ rfl _⟩
 ·exact Lib.BuilderAtF.put (T := 80) (e := 5) hB hb2 (bs' := bs ++ [.int .u8 c]) (by simpa using hown') (by decide)
 ·exact ((hb1.alloc (by have := hb1.size; omega) _).grown hgrow (by have := hb1.size; simp; omega) (fun k hk => (hown.lt k hk).1)).setCell (p := ⟨b, 1, none⟩) hB _
set_option maxHeartbeats 2000000 in
set_option maxRecDepth 100000 in
theorem WriteString_k (B b : Nat) (bs : List Value) (s : ByteArray) (w : World) (h : Lib.IsBuilderF 80 5 B b bs w) (hlen : bs.length + s.size ≤ 140737488355328) (hBw : B ≤ w.heap.size) :
  Calls Tryz.prog 42 #[.pointer (some ⟨b, 0, none⟩), .string s] w fun e w' => e = .returned (.tuple #[.int .i64 s.size, .nilIface]) ∧ (Lib.BuilderAtF 80 5 B b (.pointer (some ⟨b, 0, none⟩)) (bs ++ Lib.strCells s) w' ∧ Below B w w' ∧ Lib.OthersKept 5 (some b) w w') := by
 obtain ⟨i0, hi, hz0, hz1, hz2⟩ := info_parts bd_byte
 go_enter Tryz.func42, Tryz.ntmps42
 go_wp2_with (go_at_call 69; refine (copyCheck_k B b bs _ h).mono ?_)
 rintro e w1 ⟨rfl, h1, hb1, hk1⟩
 obtain ⟨hB, v, hbk, hown, hne⟩ := h1
 have c0 : w1.cell? ⟨b, 0, none⟩ = some (.pointer (some ⟨b, 0, none⟩)) := by rw [Lib.cell_of_heap hbk]; rfl
 have c1 : w1.cell? ⟨b, 1, none⟩ = some v := by rw [Lib.cell_of_heap hbk]; rfl
 go_wp2_with (at_builtin; refine Lib.wpList_append_own_stringF _ rfl _ _ 78 9 rfl B 5 i0 Tryz.underlying78 Tryz.underlying9 hi hz0 hz1 hz2 _ _ _ rfl hown s rfl ?c3 ?c4 ?c5 ?_)
 case c3 => unfold maxLen; omega
 case c4 => omega
 case c5 => have := hb1.size; omega
 intro v' w2 hown' hgrow _
 have hlt : b < w1.heap.size := by
  rcases Nat.lt_or_ge b w1.heap.size with h' | h'
  ·exact h'
  ·simp [Array.getElem?_eq_none h'] at hbk
 have hb2 : w2.heap[b]? = some (.cells #[.pointer (some ⟨b, 0, none⟩), v] 80 (0, 0)) := by
  rw [hgrow.block b hlt (fun e => hne e.symm)]
  exact hbk
 have d0 : w2.cell? ⟨b, 0, none⟩ = some (.pointer (some ⟨b, 0, none⟩)) := by rw [Lib.cell_of_heap hb2]; rfl
 have d1 : w2.cell? ⟨b, 1, none⟩ = some v := by rw [Lib.cell_of_heap hb2]; rfl
 have f1 : w2.frozen? ⟨b, 1, none⟩ = false := Lib.frozen_of_heap hb2 1
 obtain ⟨ao, n', cap, rfl⟩ : ∃ ao n' cap, v' = .slice ao n' cap := by
  rcases hown'.2 with ⟨hv, _⟩ | ⟨g, cap, cur, fz, hv, _⟩
  ·exact ⟨_, _, _, hv⟩
  ·exact ⟨_, _, _, hv⟩
 go_wp2
 go_ret2
 refine ⟨rfl, ?_, ?_, (hk1.grown hgrow (Lib.ownsRowF_kind hown)).setCell ⟨b, 1, none⟩ rfl _⟩
 ·exact Lib.BuilderAtF.put (T := 80) (e := 5) hB hb2 (bs' := bs ++ Lib.strCells s) (by simpa [Lib.strCells_length] using hown') (by decide)
 ·exact (hb1.grown hgrow (by have := hb1.size; omega) (fun k hk => (hown.lt k hk).1)).setCell (p := ⟨b, 1, none⟩) hB _
theorem IsBd.below {B b : Nat} {l : List UInt8} {w w' : World} (h : IsBd B b l w) (hb : Below w.heap.size w w') : IsBd B b l w' := by
 have key : ∀ p, Lib.BuilderAtF 80 5 B b p (Lib.byteCells l) w → Lib.BuilderAtF 80 5 B b p (Lib.byteCells l) w' := by
  rintro p ⟨hB, v, hbk, hown, hne⟩
  have hlt : b < w.heap.size := (Array.getElem?_eq_some_iff.1 hbk).1
  refine ⟨hB, v, (hb.block b hlt).trans hbk, hown.kept (row := none) (grown_of_below hb none) (by cases v.ownBlock <;> simp), hne⟩
 rcases h with h | h
 ·exact .inl (key _ h)
 ·exact .inr (key _ h)
theorem IsBd.alloc {B b : Nat} {l : List UInt8} {w : World} (h : IsBd B b l w) (o : Obj) : IsBd B b l (w.alloc o) := h.below (below_alloc (Below.refl _ _) o)
theorem reads_one (W : World) (k : IntKind) (t : TypeId) (c : Int) : Kd.C (Kd.int k) (W.alloc (.cells #[.int k c] t)) (some ⟨W.heap.size, 0, none⟩) 1 [c] := by
 refine Kd.C_of_reads (d := (0 : Int)) (h1 := fun _ => rfl) (show ReadsInt _ k _ 1 [c] from ⟨rfl, by decide, fun _ => ⟨_, rfl, ?_⟩⟩)
 intro j hj
 obtain rfl : j = 0 := by omega
 simp [Addr.add]
end Go.Proofs.YtdcldaknmenklaaGreatDoor.M
end
section
namespace Go.Proofs.YtdcldaknmenklaaGreatDoor.M
open Go.RowKit Go.Proofs.YtdcldaknmenklaaGreatDoorW.PrintWords Go.Proofs.YtdcldaknmenklaaGreatDoorW.PrintLast Go.Proofs.YtdcldaknmenklaaGreatDoorW.PrintMore
attribute [local go_sem] max2_int min2_int max_two min_two max_three min_three max_four min_four
set_option linter.unusedVariables false
set_option linter.unusedSimpArgs false
def hex_Digit.j0 : Nat → Int → Bool → Option (Int × Bool)
 | 0, _, _ => none
 | k + 1, x0, x10 => if x10 = true then (if (wrap64 (x0 - 32)) < 48 then (some (0, false)) else (if (wrap64 (x0 - 32)) > 70 then (some (0, false)) else ((strings_IndexByte.f (⟨#[48, 49, 50, 51, 52, 53, 54, 55, 56, 57, 65, 66, 67, 68, 69, 70]⟩ : ByteArray) ((wrap64 (x0 - 32)) % 256)).bind fun t179 => (some (mx t179 0, decide (t179 ≥ 0)))))) else (if x0 < 48 then (some (0, false)) else (if x0 > 70 then (some (0, false)) else ((strings_IndexByte.f (⟨#[48, 49, 50, 51, 52, 53, 54, 55, 56, 57, 65, 66, 67, 68, 69, 70]⟩ : ByteArray) ((x0) % 256)).bind fun t180 => (some (mx t180 0, decide (t180 ≥ 0))))))
def hex_Digit.f (k : Nat) (a0 : Int) : Option (Int × Bool) := if a0 ≥ 97 then (hex_Digit.j0 k a0 (decide (a0 ≤ 102))) else (hex_Digit.j0 k a0 false)
theorem hex_Digit.mono_l : ∀ k, (∀ y0 y1, LeO (hex_Digit.j0 k y0 y1) (hex_Digit.j0 (k + 1) y0 y1))
 | 0 => fun _ _ r h => by simp [hex_Digit.j0] at h
 | k + 1 => by
  have ih0 := hex_Digit.mono_l k
  ·intro y0 y1
   unfold hex_Digit.j0
   repeat' first
   | (with_reducible exact ih0 _ _)
   | (with_reducible exact LeO.refl _)
   | (with_reducible exact LeO.none _)
   | (with_reducible refine LeO.ite ?_ ?_)
   | (with_reducible refine LeO.bind ?_ (fun _ => ?_))
   | exact ih0 _ _
   | exact LeO.none _
   | refine LeO.ite ?_ ?_
   | refine LeO.bind ?_ (fun _ => ?_)
theorem hex_Digit.mono : ∀ a0 k, LeO (hex_Digit.f k a0) (hex_Digit.f (k + 1) a0) := by
 intro a0 k
 have ih0 := hex_Digit.mono_l k
 unfold hex_Digit.f
 repeat' first
   | (with_reducible exact ih0 _ _)
   | (with_reducible exact LeO.refl _)
   | (with_reducible exact LeO.none _)
   | (with_reducible refine LeO.ite ?_ ?_)
   | (with_reducible refine LeO.bind ?_ (fun _ => ?_))
   | exact ih0 _ _
   | exact LeO.none _
   | refine LeO.ite ?_ ?_
   | refine LeO.bind ?_ (fun _ => ?_)
set_option maxHeartbeats 8000000 in
set_option maxRecDepth 100000 in
theorem hex_Digit.calls (k : Nat) (a0 : Int) (r1 : Int) (r2 : Bool) (w : World) (h : hex_Digit.f k a0 = some (r1, r2)) :
  Calls Tryz.prog 87 #[.int .i64 a0] w fun e w' => e = .returned (.tuple #[.int .i64 r1, .bool r2]) ∧ Below w.heap.size w w' := by
 have HB := aM (Below.refl w.heap.size w)
 have H : (if a0 ≥ 97 then (hex_Digit.j0 k a0 (decide (a0 ≤ 102))) else (hex_Digit.j0 k a0 false)) = some (r1, r2) := h
 clear h
 have HC2 := aM H
 clear H
 go_enter Tryz.func87, Tryz.ntmps87
 go_upto_region 1 with (fail)
 go_cut [10] (fun v10 wc => ∃ (kq : Nat) (x10_1 : Bool), v10 = .bool x10_1 ∧ Aside0 (hex_Digit.j0 kq a0 x10_1 = some (r1, r2)) ∧ Aside0 (kq ≤ k) ∧ Aside0 (Below w.heap.size w wc))
 case first =>
  have H := HC2.out
  clear HC2
  refine iNc H ?_ ?_<;>clear H<;>intro H c3
  ·have c3b0 : decide (97 ≤ a0) = true := decide_eq_true c3
   clear c3
   (first | rw [c3b0] | (simp only [i64_w, i32_w]; rw [c3b0]) | skip)
   have H' := aM H
   clear H
   go_wp2
   go_meet
   case rel => exact ⟨_, (decide (a0 ≤ 102)), vQ, H', ⟨by first | omega | exact Nat.le_refl _⟩, ⟨bQ⟩⟩
  have c3b0 : decide (97 ≤ a0) = false := decide_eq_false c3
  clear c3
  (first | rw [c3b0] | (simp only [i64_w, i32_w]; rw [c3b0]) | skip)
  have H' := aM H
  clear H
  go_wp2
  go_meet
  case rel => exact ⟨_, (false), vQ, H', ⟨by first | omega | exact Nat.le_refl _⟩, ⟨bQ⟩⟩
 case rest =>
  clear HC2
  try clear p2
  try clear c3
  try clear c3b0
  obtain ⟨kq, x10_1, rfl, HA, HJ1, HB⟩ := hcut
  cases kq with
  | zero => exact absurd HA.out (by simp [hex_Digit.j0])
  | succ kj1 =>
   have H := HA.out
   clear HA
   simp only [hex_Digit.j0] at H
   by_cases c4 : x10_1 = true
   ·subst c4
    rw [if_pos rfl] at H
    refine iD H ?_ ?_<;>clear H<;>intro H c5b0
    ·simp only [Option.some.injEq, Prod.mk.injEq] at H
     obtain ⟨rfl, rfl⟩ := H
     go_wp2
     go_ret2
     exact ⟨eQ, bQ⟩
    refine iNc H ?_ ?_<;>clear H<;>intro H c6
    ·have c6b0 : decide (70 < (wrap64 (a0 - 32))) = true := decide_eq_true c6
     clear c6
     simp only [Option.some.injEq, Prod.mk.injEq] at H
     obtain ⟨rfl, rfl⟩ := H
     go_wp2
     go_ret2
     exact ⟨eQ, bQ⟩
    have c6b0 : decide (70 < (wrap64 (a0 - 32))) = false := decide_eq_false c6
    clear c6
    replace H := bS H
    obtain ⟨t179, A7, H⟩ := H
    try dsimp only at H
    obtain ⟨ji8, hji8⟩ : ∃ j_ : Int, (mx t179 0) = j_ := ⟨_, rfl⟩
    replace H : (some (ji8, decide (t179 ≥ 0))) = some (r1, r2) := by first | (rw [hji8] at H; exact H) | (simp only [hji8] at H ⊢; exact H)
    (try rw [hji8] at A7)
    (try (have hji8l : 0 ≤ ji8 := by (rw [← hji8]; unfold mx; (repeat' split) <;> omega)))
    (try (have hji8m : 0 ≤ ji8 := by omega))
    have hji8_ : (if t179 < 0 then 0 else t179) = ji8 := hji8
    simp only [Option.some.injEq, Prod.mk.injEq] at H
    obtain ⟨rfl, rfl⟩ := H
    go_wp2_with (first | ((with_reducible refine gC 82 ?_); refine gL (some 21) Tryz.func82 #[.string (⟨#[48, 49, 50, 51, 52, 53, 54, 55, 56, 57, 65, 66, 67, 68, 69, 70]⟩ : ByteArray), .int .u8 ((wrap64 (a0 - 32)) % 256)] ?_; (with_reducible refine (strings_IndexByte.calls (⟨#[48, 49, 50, 51, 52, 53, 54, 55, 56, 57, 65, 66, 67, 68, 69, 70]⟩ : ByteArray) ((wrap64 (a0 - 32)) % 256) t179 _ A7.out).mono ?_); rintro e w' ⟨rfl, ⟨nd, rfl⟩⟩; refine ⟨_, rfl, ?_⟩))
    go_ret2
    exact ⟨by first | rfl | (simp [errW_none, errW_some] <;> rfl) | (simp only [← hji8]; first | rfl | (simp [errW_none, errW_some] <;> rfl)) | (simp [*, errW_none, errW_some] <;> rfl), bQ⟩
   replace c4 := Bool.eq_false_iff.mpr c4
   subst c4
   rw [if_neg (show ¬ (false = true) by decide)] at H
   refine iD H ?_ ?_<;>clear H<;>intro H c9b0
   ·simp only [Option.some.injEq, Prod.mk.injEq] at H
    obtain ⟨rfl, rfl⟩ := H
    go_wp2
    go_ret2
    exact ⟨eQ, bQ⟩
   refine iNc H ?_ ?_<;>clear H<;>intro H c10
   ·have c10b0 : decide (70 < a0) = true := decide_eq_true c10
    clear c10
    simp only [Option.some.injEq, Prod.mk.injEq] at H
    obtain ⟨rfl, rfl⟩ := H
    go_wp2
    go_ret2
    exact ⟨eQ, bQ⟩
   have c10b0 : decide (70 < a0) = false := decide_eq_false c10
   clear c10
   replace H := bS H
   obtain ⟨t180, A11, H⟩ := H
   try dsimp only at H
   obtain ⟨ji12, hji12⟩ : ∃ j_ : Int, (mx t180 0) = j_ := ⟨_, rfl⟩
   replace H : (some (ji12, decide (t180 ≥ 0))) = some (r1, r2) := by first | (rw [hji12] at H; exact H) | (simp only [hji12] at H ⊢; exact H)
   (try rw [hji12] at A11)
   (try (have hji12l : 0 ≤ ji12 := by (rw [← hji12]; unfold mx; (repeat' split) <;> omega)))
   (try (have hji12m : 0 ≤ ji12 := by omega))
   have hji12_ : (if t180 < 0 then 0 else t180) = ji12 := hji12
   simp only [Option.some.injEq, Prod.mk.injEq] at H
   obtain ⟨rfl, rfl⟩ := H
   go_wp2_with (first | ((with_reducible refine gC 82 ?_); refine gL (some 21) Tryz.func82 #[.string (⟨#[48, 49, 50, 51, 52, 53, 54, 55, 56, 57, 65, 66, 67, 68, 69, 70]⟩ : ByteArray), .int .u8 ((a0) % 256)] ?_; (with_reducible refine (strings_IndexByte.calls (⟨#[48, 49, 50, 51, 52, 53, 54, 55, 56, 57, 65, 66, 67, 68, 69, 70]⟩ : ByteArray) ((a0) % 256) t180 _ A11.out).mono ?_); rintro e w' ⟨rfl, ⟨nd, rfl⟩⟩; refine ⟨_, rfl, ?_⟩))
   go_ret2
   exact ⟨by first | rfl | (simp [errW_none, errW_some] <;> rfl) | (simp only [← hji12]; first | rfl | (simp [errW_none, errW_some] <;> rfl)) | (simp [*, errW_none, errW_some] <;> rfl), bQ⟩
def lex_plain.f (k : Nat) (a0 : Int) : Option (Bool) := (lex_Class.f k (wrap64 (a0))).bind fun t274 => (if t274 = 0 then (if a0 = 35 then (some false) else (if a0 ≥ 33 then (some (decide (a0 ≤ 126))) else (some false))) else (some false))
set_option maxHeartbeats 8000000 in
set_option maxRecDepth 100000 in
theorem lex_plain.calls (k : Nat) (a0 : Int) (r : Bool) (w : World) (h : lex_plain.f k a0 = some r) :
  Calls Tryz.prog 188 #[.int .u8 a0] w fun e w' => e = .returned (.bool r) ∧ Below w.heap.size w w' := by
 have HB := aM (Below.refl w.heap.size w)
 have H : ((lex_Class.f k (wrap64 (a0))).bind fun t274 => (if t274 = 0 then (if a0 = 35 then (some false) else (if a0 ≥ 33 then (some (decide (a0 ≤ 126))) else (some false))) else (some false))) = some r := h
 clear h
 replace H := bS H
 obtain ⟨t274, A2, H⟩ := H
 try dsimp only at H
 refine iEc H ?_ ?_<;>clear H<;>intro H c3b0 c3b1 c3
 rotate_left
 ·obtain rfl := Option.some.inj H
  go_enter Tryz.func188, Tryz.ntmps188
  go_wp2_with (first | ((with_reducible refine gC 83 ?_); refine gL (some 5) Tryz.func83 #[.int .i64 (wrap64 (a0))] ?_; (with_reducible refine cB (lex_Class.calls k (wrap64 (a0)) t274 _ A2.out) ?_); intro w9 hb; replace HB := sB hb; clear hb))
  go_ret
  exact ⟨eQ, bQ⟩
 clear c3
 refine iEc H ?_ ?_<;>clear H<;>intro H c4b0 c4b1 c4
 ·clear c4
  obtain rfl := Option.some.inj H
  go_enter Tryz.func188, Tryz.ntmps188
  go_wp2_with (first | ((with_reducible refine gC 83 ?_); refine gL (some 5) Tryz.func83 #[.int .i64 (wrap64 (a0))] ?_; (with_reducible refine cB (lex_Class.calls k (wrap64 (a0)) t274 _ A2.out) ?_); intro w5 hb; replace HB := sB hb; clear hb))
  go_ret
  exact ⟨eQ, bQ⟩
 refine iNc H ?_ ?_<;>clear H<;>intro H c6
 ·have c6b0 : decide (33 ≤ a0) = true := decide_eq_true c6
  clear c6
  obtain rfl := Option.some.inj H
  go_enter Tryz.func188, Tryz.ntmps188
  go_wp2_with (first | ((with_reducible refine gC 83 ?_); refine gL (some 5) Tryz.func83 #[.int .i64 (wrap64 (a0))] ?_; (with_reducible refine cB (lex_Class.calls k (wrap64 (a0)) t274 _ A2.out) ?_); intro w7 hb; replace HB := sB hb; clear hb))
  go_ret
  exact ⟨eQ, bQ⟩
 have c6b0 : decide (33 ≤ a0) = false := decide_eq_false c6
 clear c6
 obtain rfl := Option.some.inj H
 go_enter Tryz.func188, Tryz.ntmps188
 go_wp2_with (first | ((with_reducible refine gC 83 ?_); refine gL (some 5) Tryz.func83 #[.int .i64 (wrap64 (a0))] ?_; (with_reducible refine cB (lex_Class.calls k (wrap64 (a0)) t274 _ A2.out) ?_); intro w8 hb; replace HB := sB hb; clear hb))
 go_ret
 exact ⟨eQ, bQ⟩
end Go.Proofs.YtdcldaknmenklaaGreatDoor.M
end
section
namespace Go.Proofs.YtdcldaknmenklaaGreatDoor.M
open Go.RowKit Go.Proofs.YtdcldaknmenklaaGreatDoorW.PrintWords
set_option linter.unusedVariables false
def isDigB (c : UInt8) : Bool := decide (48 ≤ c.toNat) && decide (c.toNat ≤ 57)
def tenDigits : List UInt8 := [48, 49, 50, 51, 52, 53, 54, 55, 56, 57]
theorem ten_contains (c : UInt8) : tenDigits.contains c = isDigB c := by
 have : ∀ n : Fin 256, tenDigits.contains n.val.toUInt8 = isDigB n.val.toUInt8 := by decide +kernel
 have h := this ⟨c.toNat, c.toNat_lt⟩
 simpa using h
theorem dropWhile_nil (p : UInt8 → Bool) : ∀ l : List UInt8, l.dropWhile p = [] ↔ ∀ c ∈ l, p c = true
 | [] => by simp
 | x :: l => by
  rw [List.dropWhile_cons]
  split
  ·rename_i hx
   rw [dropWhile_nil p l]
   simp [hx]
  ·rename_i hx
   simp [hx]
theorem trim_nil (l : List UInt8) : (Lib.trimS l tenDigits = []) ↔ l.all isDigB = true := by
 unfold Lib.trimS Lib.trimLeftS Lib.trimRightS
 have e : (fun x => tenDigits.contains x) = isDigB := funext ten_contains
 rw [e]
 constructor
 ·intro h
  rw [dropWhile_nil] at h
  rw [List.all_eq_true]
  intro c hc
  by_cases hd : isDigB c = true
  ·exact hd
  ·have key : ∀ m : List UInt8, c ∈ m → c ∈ m.dropWhile isDigB := by
    intro m
    induction m with
    | nil => intro h; exact h
    | cons x m ih =>
     intro hm
     rw [List.dropWhile_cons]
     split
     ·rename_i hx
      rcases List.mem_cons.1 hm with rfl | hm
      ·exact absurd hx hd
      ·exact ih hm
     ·exact hm
   exact h c (by rw [List.mem_reverse]; exact key _ (List.mem_reverse.2 hc))
 ·intro h
  rw [List.all_eq_true] at h
  have : l.reverse.dropWhile isDigB = [] := by
   rw [dropWhile_nil]
   intro c hc
   exact h c (List.mem_reverse.1 hc)
  rw [this]; rfl
def strings_Trim.f (a0 a1 : ByteArray) : Option ByteArray := if a0.size ≤ 9223372036854775807 then (if a1.size < 4294967281 then (if a1.data.toList.all (fun b => decide (b.toNat < 128)) = true then some ⟨(Lib.trimS a0.data.toList a1.data.toList).toArray⟩ else none) else none) else none
theorem strings_Trim.calls (a0 a1 : ByteArray) (r : ByteArray) (w : World) (h : strings_Trim.f a0 a1 = some r) :
  Calls Tryz.prog 136 #[.string a0, .string a1] w fun e w' => e = .returned (.string r) ∧ Below w.heap.size w w' := by
 unfold strings_Trim.f at h
 split at h
 case isFalse => cases h
 rename_i h1
 split at h
 case isFalse => cases h
 rename_i h2
 split at h
 case isFalse => cases h
 rename_i h3
 obtain rfl := Option.some.inj h
 exact Any.strings_Trim_laid Tryz.lays160 (by kernel_rfl) a0 a1 w h1 h2 (ascii_of_all h3)
end Go.Proofs.YtdcldaknmenklaaGreatDoor.M
end
section
namespace Go.Proofs.YtdcldaknmenklaaGreatDoor.M
open Go.RowKit Go.Proofs.YtdcldaknmenklaaGreatDoorW.PrintWords Go.Proofs.YtdcldaknmenklaaGreatDoorW.PrintLast Go.Proofs.YtdcldaknmenklaaGreatDoorW.PrintMore
attribute [local go_sem] max2_int min2_int max_two min_two max_three min_three max_four min_four
set_option linter.unusedVariables false
set_option linter.unusedSimpArgs false
def lex_whole.f (a0 : ByteArray) : Option (Bool) := if a0.toList = ([] : List UInt8) then (some false) else (if 0 < (a0.size : Int) then (if (bt a0 0) = 43 then (if 1 ≤ (a0.size : Int) then (if (a0.extract 1 a0.size).toList = ([] : List UInt8) then (some false) else ((strings_Trim.f (a0.extract 1 a0.size) (⟨#[48, 49, 50, 51, 52, 53, 54, 55, 56, 57]⟩ : ByteArray)).bind fun t208 => (some (t208.toList == ([] : List UInt8))))) else (none)) else (if (bt a0 0) = 45 then (if 1 ≤ (a0.size : Int) then (if (a0.extract 1 a0.size).toList = ([] : List UInt8) then (some false) else ((strings_Trim.f (a0.extract 1 a0.size) (⟨#[48, 49, 50, 51, 52, 53, 54, 55, 56, 57]⟩ : ByteArray)).bind fun t209 => (some (t209.toList == ([] : List UInt8))))) else (none)) else ((strings_Trim.f a0 (⟨#[48, 49, 50, 51, 52, 53, 54, 55, 56, 57]⟩ : ByteArray)).bind fun t210 => (some (t210.toList == ([] : List UInt8)))))) else (none))
set_option maxHeartbeats 8000000 in
set_option maxRecDepth 100000 in
theorem lex_whole.calls (a0 : ByteArray) (r : Bool) (w : World) (h : lex_whole.f a0 = some r) :
  Calls Tryz.prog 114 #[.string a0] w fun e w' => e = .returned (.bool r) ∧ Below w.heap.size w w' := by
 have HB := aM (Below.refl w.heap.size w)
 have H : (if a0.toList = ([] : List UInt8) then (some false) else (if 0 < (a0.size : Int) then (if (bt a0 0) = 43 then (if 1 ≤ (a0.size : Int) then (if (a0.extract 1 a0.size).toList = ([] : List UInt8) then (some false) else ((strings_Trim.f (a0.extract 1 a0.size) (⟨#[48, 49, 50, 51, 52, 53, 54, 55, 56, 57]⟩ : ByteArray)).bind fun t208 => (some (t208.toList == ([] : List UInt8))))) else (none)) else (if (bt a0 0) = 45 then (if 1 ≤ (a0.size : Int) then (if (a0.extract 1 a0.size).toList = ([] : List UInt8) then (some false) else ((strings_Trim.f (a0.extract 1 a0.size) (⟨#[48, 49, 50, 51, 52, 53, 54, 55, 56, 57]⟩ : ByteArray)).bind fun t209 => (some (t209.toList == ([] : List UInt8))))) else (none)) else ((strings_Trim.f a0 (⟨#[48, 49, 50, 51, 52, 53, 54, 55, 56, 57]⟩ : ByteArray)).bind fun t210 => (some (t210.toList == ([] : List UInt8)))))) else (none))) = some r := h
 clear h
 refine iEc H ?_ ?_<;>clear H<;>intro H c2b0 c2b1 c2
 ·clear c2
  obtain rfl := Option.some.inj H
  go_enter Tryz.func114, Tryz.ntmps114
  go_wp2
  go_ret
  exact ⟨eQ, bQ⟩
 refine iDc H ?_ ?_<;>clear H<;>intro H c3b0 c3
 rotate_left
 ·exact absurd H (by simp)
 have c3b1 : decide (0 < a0.size) = true := decide_eq_true (by omega)
 clear c3
 refine iEc H ?_ ?_<;>clear H<;>intro H c5b0 c5b1 c5
 ·clear c5
  refine iNc H ?_ ?_<;>clear H<;>intro H c6
  rotate_left
  ·exact absurd H (by simp)
  have c6b0 := eq_true c6
  have c6b1 : decide (1 ≤ (a0.size : Int)) = true := decide_eq_true c6
  clear c6
  refine iEc H ?_ ?_<;>clear H<;>intro H c7b0 c7b1 c7
  ·clear c7
   obtain rfl := Option.some.inj H
   have p4 : 0 ≤ (0 : Int) := (by omega)
   have q4 : 0 < a0.size := (by have : (0 : Int) < (a0.size : Int) := of_decide_eq_true hQ; omega)
   have hx4 : ∀ h : 0 < a0.size, ((a0[0]'h).toNat : Int) = bt a0 0 := bt_at a0 0
   clear p4
   have qi4 : (0 < (a0.size : Int)) = True := eq_true (of_decide_eq_true hQ)
   replace q4 := eq_true q4
   go_enter Tryz.func114, Tryz.ntmps114
   go_wp2
   go_ret
   exact ⟨eQ, bQ⟩
  replace H := bS H
  obtain ⟨t208, A8, H⟩ := H
  try dsimp only at H
  obtain rfl := Option.some.inj H
  have p4 : 0 ≤ (0 : Int) := (by omega)
  have q4 : 0 < a0.size := (by have : (0 : Int) < (a0.size : Int) := of_decide_eq_true hQ; omega)
  have hx4 : ∀ h : 0 < a0.size, ((a0[0]'h).toNat : Int) = bt a0 0 := bt_at a0 0
  clear p4
  have qi4 : (0 < (a0.size : Int)) = True := eq_true (of_decide_eq_true hQ)
  replace q4 := eq_true q4
  go_enter Tryz.func114, Tryz.ntmps114
  go_wp2_with (first | (go_at_call 136; (with_reducible refine (strings_Trim.calls (a0.extract 1 a0.size) (⟨#[48, 49, 50, 51, 52, 53, 54, 55, 56, 57]⟩ : ByteArray) t208 _ A8.out).mono ?_); rintro e w9 ⟨rfl, hb⟩; replace HB := sB hb; clear hb))
  go_ret
  exact ⟨eQ, bQ⟩
 refine iEc H ?_ ?_<;>clear H<;>intro H c11b0 c11b1 c11
 rotate_left
 ·replace H := bS H
  obtain ⟨t210, A16, H⟩ := H
  try dsimp only at H
  obtain rfl := Option.some.inj H
  have p4 : 0 ≤ (0 : Int) := (by omega)
  have q4 : 0 < a0.size := (by have : (0 : Int) < (a0.size : Int) := of_decide_eq_true hQ; omega)
  have hx4 : ∀ h : 0 < a0.size, ((a0[0]'h).toNat : Int) = bt a0 0 := bt_at a0 0
  clear p4
  have qi4 : (0 < (a0.size : Int)) = True := eq_true (of_decide_eq_true hQ)
  replace q4 := eq_true q4
  have p10 : 0 ≤ (0 : Int) := (by omega)
  have q10 : 0 < a0.size := (by have : (0 : Int) < (a0.size : Int) := of_decide_eq_true hQ; omega)
  have hx10 : ∀ h : 0 < a0.size, ((a0[0]'h).toNat : Int) = bt a0 0 := bt_at a0 0
  clear p10
  have qi10 : (0 < (a0.size : Int)) = True := eq_true (of_decide_eq_true hQ)
  replace q10 := eq_true q10
  go_enter Tryz.func114, Tryz.ntmps114
  go_wp2_with (first | (go_at_call 136; (with_reducible refine (strings_Trim.calls a0 (⟨#[48, 49, 50, 51, 52, 53, 54, 55, 56, 57]⟩ : ByteArray) t210 _ A16.out).mono ?_); rintro e w17 ⟨rfl, hb⟩; replace HB := sB hb; clear hb))
  go_ret
  exact ⟨eQ, bQ⟩
 clear c11
 refine iNc H ?_ ?_<;>clear H<;>intro H c12
 rotate_left
 ·exact absurd H (by simp)
 have c12b0 := eq_true c12
 have c12b1 : decide (1 ≤ (a0.size : Int)) = true := decide_eq_true c12
 clear c12
 refine iEc H ?_ ?_<;>clear H<;>intro H c13b0 c13b1 c13
 ·clear c13
  obtain rfl := Option.some.inj H
  have p4 : 0 ≤ (0 : Int) := (by omega)
  have q4 : 0 < a0.size := (by have : (0 : Int) < (a0.size : Int) := of_decide_eq_true hQ; omega)
  have hx4 : ∀ h : 0 < a0.size, ((a0[0]'h).toNat : Int) = bt a0 0 := bt_at a0 0
  clear p4
  have qi4 : (0 < (a0.size : Int)) = True := eq_true (of_decide_eq_true hQ)
  replace q4 := eq_true q4
  have p10 : 0 ≤ (0 : Int) := (by omega)
  have q10 : 0 < a0.size := (by have : (0 : Int) < (a0.size : Int) := of_decide_eq_true hQ; omega)
  have hx10 : ∀ h : 0 < a0.size, ((a0[0]'h).toNat : Int) = bt a0 0 := bt_at a0 0
  clear p10
  have qi10 : (0 < (a0.size : Int)) = True := eq_true (of_decide_eq_true hQ)
  replace q10 := eq_true q10
  go_enter Tryz.func114, Tryz.ntmps114
  go_wp2
  go_ret
  exact ⟨eQ, bQ⟩
 replace H := bS H
 obtain ⟨t209, A14, H⟩ := H
 try dsimp only at H
 obtain rfl := Option.some.inj H
 have p4 : 0 ≤ (0 : Int) := (by omega)
 have q4 : 0 < a0.size := (by have : (0 : Int) < (a0.size : Int) := of_decide_eq_true hQ; omega)
 have hx4 : ∀ h : 0 < a0.size, ((a0[0]'h).toNat : Int) = bt a0 0 := bt_at a0 0
 clear p4
 have qi4 : (0 < (a0.size : Int)) = True := eq_true (of_decide_eq_true hQ)
 replace q4 := eq_true q4
 have p10 : 0 ≤ (0 : Int) := (by omega)
 have q10 : 0 < a0.size := (by have : (0 : Int) < (a0.size : Int) := of_decide_eq_true hQ; omega)
 have hx10 : ∀ h : 0 < a0.size, ((a0[0]'h).toNat : Int) = bt a0 0 := bt_at a0 0
 clear p10
 have qi10 : (0 < (a0.size : Int)) = True := eq_true (of_decide_eq_true hQ)
 replace q10 := eq_true q10
 go_enter Tryz.func114, Tryz.ntmps114
 go_wp2_with (first | (go_at_call 136; (with_reducible refine (strings_Trim.calls (a0.extract 1 a0.size) (⟨#[48, 49, 50, 51, 52, 53, 54, 55, 56, 57]⟩ : ByteArray) t209 _ A14.out).mono ?_); rintro e w15 ⟨rfl, hb⟩; replace HB := sB hb; clear hb))
 go_ret
 exact ⟨eQ, bQ⟩
end Go.Proofs.YtdcldaknmenklaaGreatDoor.M
end
section
namespace Go.Proofs.YtdcldaknmenklaaGreatDoor.M
open Go.RowKit Go.Proofs.YtdcldaknmenklaaGreatDoorW.PrintWords
set_option linter.unusedVariables false
/-- A byte's class: 0 regular, 1 blank, 2 delimiter. -/
def isDelim (c : Int) : Bool := c == 40 || c == 41 || c == 60 || c == 62 || c == 91 || c == 93 || c == 123 || c == 125 || c == 47 || c == 37
def clsOf (c : Int) : Int := if isDelim c then 2 else if isWhite c then 1 else 0
theorem class_eq {k : Nat} (hk : 2 ≤ k) (c : Int) : lex_Class.f k c = some (clsOf c) := by
 obtain ⟨k, rfl⟩ : ∃ m, k = m + 2 := ⟨k - 2, by omega⟩
 by_cases hd : isDelim c = true
 ·have e : clsOf c = 2 := by simp [clsOf, hd]
  rw [e]
  simp only [isDelim, Bool.or_eq_true, beq_iff_eq] at hd
  rcases hd with ((((((((rfl | rfl) | rfl) | rfl) | rfl) | rfl) | rfl) | rfl) | rfl) | rfl <;> simp [lex_Class.f, lex_Class.j0, lex_Class.j1]
 ·have e : clsOf c = if isWhite c then 1 else 0 := by simp [clsOf, hd]
  rw [e]
  simp only [isDelim, Bool.or_eq_true, beq_iff_eq, not_or] at hd
  obtain ⟨⟨⟨⟨⟨⟨⟨⟨⟨h1, h2⟩, h3⟩, h4⟩, h5⟩, h6⟩, h7⟩, h8⟩, h9⟩, h10⟩ := hd
  simp only [lex_Class.f, lex_Class.j0, lex_Class.j1, hex_White.f, Option.bind_some, if_neg h1, if_neg h2, if_neg h3, if_neg h4, if_neg h5, if_neg h7, if_neg h8, if_neg h9]
  have e6 : (c == 93) = false := by simpa using h6
  have e10 : (c == 37) = false := by simpa using h10
  rw [e6, e10]
  cases isWhite c <;> simp
def isPlainB (c : Int) : Bool := clsOf c == 0 && c != 35 && decide (33 ≤ c) && decide (c ≤ 126)
theorem plain_eq {k : Nat} (hk : 2 ≤ k) (c : Int) (h0 : 0 ≤ c) (h1 : c ≤ 255) : lex_plain.f k c = some (isPlainB c) := by
 unfold lex_plain.f
 have e : wrap64 c = c := by unfold wrap64; omega
 rw [e, class_eq hk]
 simp only [Option.bind_some, isPlainB]
 by_cases h2 : clsOf c = 0
 ·by_cases h3 : c = 35
  ·subst h3; simp [h2]
  ·by_cases h4 : 33 ≤ c
   ·have h4' : c ≥ 33 := h4
    simp [h2, h3, h4']
   ·simp [h2, h3, h4]
 ·simp [h2]
/-- A hex digit's value. -/
def hexVal (c : Int) : Option Int := if 48 ≤ c ∧ c ≤ 57 then some (c - 48) else if 65 ≤ c ∧ c ≤ 70 then some (c - 55) else if 97 ≤ c ∧ c ≤ 102 then some (c - 87) else none
theorem digit_eq {k : Nat} (hk : 1 ≤ k) (c : Int) (h0 : 0 ≤ c) (h1 : c ≤ 255) : hex_Digit.f k c = some ((hexVal c).getD 0, (hexVal c).isSome) := by
 have : ∀ n : Fin 256, hex_Digit.f 1 (n.val : Int) = some ((hexVal n.val).getD 0, (hexVal n.val).isSome) := by decide +kernel
 have h := this ⟨c.toNat, by omega⟩
 have e : ((c.toNat : Nat) : Int) = c := by omega
 simp only [e] at h
 exact le_rounds (g := fun k => hex_Digit.f k c) (fun k => hex_Digit.mono c k) h hk
/-- A text is a sign or none, and digits. -/
def unsign (l : List UInt8) : List UInt8 := match l with
 | [] => []
 | c :: r => if c == 43 || c == 45 then r else c :: r
def wholeB (l : List UInt8) : Bool := !(unsign l).isEmpty && (unsign l).all isDigB
theorem trim_ten (a : ByteArray) (ha : a.size ≤ 9223372036854775807) : strings_Trim.f a ⟨#[48, 49, 50, 51, 52, 53, 54, 55, 56, 57]⟩ = some ⟨(Lib.trimS a.data.toList tenDigits).toArray⟩ := by
 unfold strings_Trim.f
 rw [if_pos ha, if_pos (by decide), if_pos (by decide)]
 rfl
theorem trim_test (a : ByteArray) : ((⟨(Lib.trimS a.data.toList tenDigits).toArray⟩ : ByteArray).toList == ([] : List UInt8)) = a.data.toList.all isDigB := by
 rw [toList_data]
 rw [Bool.eq_iff_iff, beq_iff_eq]
 exact trim_nil _
theorem whole_eq (a : ByteArray) (ha : a.size ≤ 9223372036854775807) : lex_whole.f a = some (wholeB a.data.toList) := by
 unfold lex_whole.f wholeB
 have hs : a.size = a.data.toList.length := rfl
 rw [toList_data]
 match hl : a.data.toList with
 | [] => simp [unsign]
 | c :: r =>
  rw [if_neg (by simp), if_pos (by rw [hs, hl]; simp)]
  have hb : bt a 0 = (c.toNat : Int) := by
   have := bt_get a 0 (by rw [hs, hl]; simp)
   simpa [hl] using this
  have hx : a.extract 1 a.size = ⟨r.toArray⟩ := by rw [ext_from, hl]; rfl
  have hxs : (⟨r.toArray⟩ : ByteArray).size ≤ 9223372036854775807 := by
   show r.toArray.size ≤ _
   rw [hs, hl] at ha
   simp at ha ⊢; omega
  have hxl : (⟨r.toArray⟩ : ByteArray).data.toList = r := by simp
  have h1 : (1 : Int) ≤ (a.size : Int) := by rw [hs, hl]; simp; omega
  rw [hb, hx, toList_data, hxl]
  have t1 := trim_ten ⟨r.toArray⟩ hxs
  have t2 := trim_ten a ha
  have u1 := trim_test ⟨r.toArray⟩
  have u2 := trim_test a
  rw [hxl] at u1
  rw [t1, t2]
  simp only [Option.bind_some]
  by_cases e1 : c = 43
  ·subst e1
   rw [if_pos (by rfl), if_pos h1]
   cases r with
   | nil => rfl
   | cons x y => rw [if_neg (by simp), u1]; simp [unsign]
  ·have n1 : ¬ (c.toNat : Int) = 43 := by
    intro h; apply e1; exact UInt8.toNat_inj.1 (by simpa using (show c.toNat = 43 by omega))
   rw [if_neg n1]
   by_cases e2 : c = 45
   ·subst e2
    rw [if_pos (by rfl), if_pos h1]
    cases r with
    | nil => rfl
    | cons x y => rw [if_neg (by simp), u1]; simp [unsign]
   ·have n2 : ¬ (c.toNat : Int) = 45 := by
     intro h; apply e2; exact UInt8.toNat_inj.1 (by simpa using (show c.toNat = 45 by omega))
    rw [if_neg n2, u2, hl]
    simp [unsign, e1, e2]
/-- A written name's bytes. -/
def nameGo : List UInt8 → List UInt8
 | [] => []
 | c :: [] => [c]
 | c :: a :: [] => [c, a]
 | c :: a :: b :: r => if c == 35 && (hexVal a.toNat).isSome && (hexVal b.toNat).isSome then (((hexVal a.toNat).getD 0 * 16 + (hexVal b.toNat).getD 0).toNat.toUInt8) :: nameGo r else c :: nameGo (a :: b :: r)
def lex_Name.f (a0 : ByteArray) : Option ByteArray := if a0.size ≤ 140737488355328 then some ⟨(nameGo a0.data.toList).toArray⟩ else none
theorem nameGo_plain (c : UInt8) (l : List UInt8) (h : (c == 35) = false) : nameGo (c :: l) = c :: nameGo l := by
 match l with
 | [] => rfl
 | [a] => rfl
 | a :: b :: r => rw [nameGo, h]; rfl
theorem nameGo_short (c : UInt8) (l : List UInt8) (h : l.length < 2) : nameGo (c :: l) = c :: nameGo l := by
 match l, h with
 | [], _ => rfl
 | [a], _ => rfl
theorem nameGo_no (c a b : UInt8) (l : List UInt8) (h : ((hexVal a.toNat).isSome && (hexVal b.toNat).isSome) = false) : nameGo (c :: a :: b :: l) = c :: nameGo (a :: b :: l) := by
 rw [nameGo, Bool.and_assoc, h, Bool.and_false]; rfl
theorem nameGo_yes (a b : UInt8) (l : List UInt8) (x y : Int) (ha : hexVal a.toNat = some x) (hb : hexVal b.toNat = some y) : nameGo (35 :: a :: b :: l) = (x * 16 + y).toNat.toUInt8 :: nameGo l := by
 rw [nameGo, ha, hb]; rfl
theorem drop_cons (s : ByteArray) (i : Nat) (h : i < s.size) : s.data.toList.drop i = s[i] :: s.data.toList.drop (i + 1) := by
 rw [List.drop_eq_getElem_cons (by simpa using h)]; rfl
theorem hexVal_range (c : Int) (x : Int) (h : hexVal c = some x) : 0 ≤ x ∧ x ≤ 15 := by
 unfold hexVal at h
 split at h
 ·simp at h; omega
 ·split at h
  ·simp at h; omega
  ·split at h
   ·simp at h; omega
   ·cases h
theorem or_digits (x y : Int) (hx : 0 ≤ x ∧ x ≤ 15) (hy : 0 ≤ y ∧ y ≤ 15) : Go.bits .or .i64 (x * 16) y = x * 16 + y := by
 have : ∀ a b : Fin 16, Go.bits .or .i64 ((a.val : Int) * 16) (b.val : Int) = (a.val : Int) * 16 + (b.val : Int) := by decide +kernel
 have h := this ⟨x.toNat, by omega⟩ ⟨y.toNat, by omega⟩
 have e1 : ((x.toNat : Nat) : Int) = x := by omega
 have e2 : ((y.toNat : Nat) : Int) = y := by omega
 simpa [e1, e2] using h
set_option maxHeartbeats 1000000 in
set_option maxRecDepth 1000000 in
theorem lex_Name.calls (a0 : ByteArray) (r : ByteArray) (w : World) (h : lex_Name.f a0 = some r) :
  Calls Tryz.prog 53 #[.string a0] w fun e w' => e = .returned (.string r) ∧ Below w.heap.size w w' := by
 unfold lex_Name.f at h
 split at h
 case isFalse => cases h
 rename_i hl
 obtain rfl := Option.some.inj h
 clear h
 go_enter Tryz.func53, Tryz.ntmps53
 go_wp2
 go_loopw [4] (fun i wr => ∃ (k : Nat) (acc : List UInt8), k ≤ a0.size ∧ acc.length ≤ k ∧ i = .int .i64 k ∧ Aside0 (acc ++ nameGo (a0.data.toList.drop k) = nameGo a0.data.toList) ∧ IsBd w.heap.size w.heap.size acc wr ∧ Below w.heap.size w wr) (fun i wr => a0.size - (intOf i).toNat)
 case atStart =>
  refine ⟨0, [], Nat.zero_le _, Nat.le_refl _, rfl, ⟨rfl⟩, (Lib.IsBuilderF.of (Lib.fresh_isBuilder _ _ w)), (Below.refl _ w).alloc (Nat.le_refl _) _⟩
 case round =>
  obtain ⟨k, acc, hk, hal, rfl, HA, hI, hbw⟩ := hrel
  by_cases hlt : k < a0.size
  ·have HD := Aside0.mk (drop_cons a0 k hlt)
   by_cases hc : (a0[k].toNat : Int) = 35
   ·have t1 : ((a0[k].toNat : Int) == 35) = true := by simpa using hc
    have hc' : a0[k] = 35 := by
     have : a0[k].toNat = 35 := by omega
     exact UInt8.toNat_inj.1 (by simpa using this)
    have HC := Aside0.mk hc'
    clear hc hc'
    by_cases hi2 : k + 2 < a0.size
    ·have hlt1 : k + 1 < a0.size := by omega
     have d1 := a0[k + 1].toNat_lt
     have d2 := a0[k + 2].toNat_lt
     have HD1 := Aside0.mk (drop_cons a0 (k + 1) hlt1)
     have HD2 := Aside0.mk (drop_cons a0 (k + 2) hi2)
     have c1 := digit_eq (Nat.le_refl 1) (a0[k + 1].toNat : Int) (by omega) (by omega)
     have c2 := digit_eq (Nat.le_refl 1) (a0[k + 2].toNat : Int) (by omega) (by omega)
     cases hv1 : hexVal (a0[k + 1].toNat : Int) with
     | none =>
      have hn := nameGo_no a0[k] a0[k + 1] a0[k + 2] (a0.data.toList.drop (k + 2 + 1)) (by rw [hv1]; rfl)
      rw [← HD2.out, ← HD1.out, ← HD.out] at hn
      have HN := Aside0.mk hn
      rw [hv1] at c1
      simp only [Option.getD_none, Option.isSome_none] at c1
      have C1 := Aside0.mk c1
      have C2 := Aside0.mk c2
      clear c1 c2 hn hv1
      go_wp2_with (go_at_call 87; with_reducible refine (hex_Digit.calls 1 _ _ _ _ C1.out).mono ?_)
      rintro e w1 ⟨rfl, hd⟩
      replace hI := hI.below hd
      replace hbw := below_then hbw hbw.size hd
      clear hd
      go_wp2_with (go_at_call 87; with_reducible refine (hex_Digit.calls 1 _ _ _ _ C2.out).mono ?_)
      rintro e w1 ⟨rfl, hd⟩
      replace hI := hI.below hd
      replace hbw := below_then hbw hbw.size hd
      clear hd
      go_wp2_with (go_at_call 88; with_reducible refine (WriteByte_k w.heap.size w.heap.size _ _ _ hI ?_ ?_).mono ?_)
      ·rw [Lib.byteCells_length]; omega
      ·exact hbw.size
      rintro e W2 ⟨rfl, h2, b2, k2⟩
      go_wp2
      go_roundw
      case rel => exact ⟨k + 1, acc ++ [a0[k]], by omega, by simp; omega, by go_num, ⟨by rw [← HA.out, HN.out]; simp⟩, by rw [IsBd, Lib.byteCells_append]; exact .inr h2, hbw.trans b2⟩
      case measure => simp [intOf]; omega
     | some x =>
      cases hv2 : hexVal (a0[k + 2].toNat : Int) with
      | none =>
       have hn := nameGo_no a0[k] a0[k + 1] a0[k + 2] (a0.data.toList.drop (k + 2 + 1)) (by rw [hv2]; exact Bool.and_false _)
       rw [← HD2.out, ← HD1.out, ← HD.out] at hn
       have HN := Aside0.mk hn
       rw [hv1] at c1
       rw [hv2] at c2
       simp only [Option.getD_none, Option.isSome_none] at c2
       simp only [Option.getD_some, Option.isSome_some] at c1
       have C1 := Aside0.mk c1
       have C2 := Aside0.mk c2
       clear c1 c2 hn hv1 hv2
       go_wp2_with (go_at_call 87; with_reducible refine (hex_Digit.calls 1 _ _ _ _ C1.out).mono ?_)
       rintro e w1 ⟨rfl, hd⟩
       replace hI := hI.below hd
       replace hbw := below_then hbw hbw.size hd
       clear hd
       go_wp2_with (go_at_call 87; with_reducible refine (hex_Digit.calls 1 _ _ _ _ C2.out).mono ?_)
       rintro e w1 ⟨rfl, hd⟩
       replace hI := hI.below hd
       replace hbw := below_then hbw hbw.size hd
       clear hd
       go_wp2_with (go_at_call 88; with_reducible refine (WriteByte_k w.heap.size w.heap.size _ _ _ hI ?_ ?_).mono ?_)
       ·rw [Lib.byteCells_length]; omega
       ·exact hbw.size
       rintro e W2 ⟨rfl, h2, b2, k2⟩
       go_wp2
       go_roundw
       case rel => exact ⟨k + 1, acc ++ [a0[k]], by omega, by simp; omega, by go_num, ⟨by rw [← HA.out, HN.out]; simp⟩, by rw [IsBd, Lib.byteCells_append]; exact .inr h2, hbw.trans b2⟩
       case measure => simp [intOf]; omega
      | some y =>
       have hn := nameGo_yes a0[k + 1] a0[k + 2] (a0.data.toList.drop (k + 2 + 1)) x y hv1 hv2
       rw [← HD2.out, ← HD1.out, ← HC.out, ← HD.out] at hn
       have HN := Aside0.mk hn
       have rx := hexVal_range _ _ hv1
       have ry := hexVal_range _ _ hv2
       have ho := or_digits x y rx ry
       rw [hv1] at c1
       rw [hv2] at c2
       simp only [Option.getD_some, Option.isSome_some] at c1 c2
       have C1 := Aside0.mk c1
       have C2 := Aside0.mk c2
       clear c1 c2 hn hv1 hv2
       go_wp2_with (go_at_call 87; with_reducible refine (hex_Digit.calls 1 _ _ _ _ C1.out).mono ?_)
       rintro e w1 ⟨rfl, hd⟩
       replace hI := hI.below hd
       replace hbw := below_then hbw hbw.size hd
       clear hd
       go_wp2_with (go_at_call 87; with_reducible refine (hex_Digit.calls 1 _ _ _ _ C2.out).mono ?_)
       rintro e w1 ⟨rfl, hd⟩
       replace hI := hI.below hd
       replace hbw := below_then hbw hbw.size hd
       clear hd
       go_wp2_with (go_at_call 88; with_reducible refine (WriteByte_k w.heap.size w.heap.size _ _ _ hI ?_ ?_).mono ?_)
       ·rw [Lib.byteCells_length]; omega
       ·exact hbw.size
       rintro e W2 ⟨rfl, h2, b2, k2⟩
       go_wp2
       go_roundw
       case rel =>
        refine ⟨k + 3, acc ++ [(x * 16 + y).toNat.toUInt8], by omega, by simp; omega, by go_num, ⟨by rw [← HA.out, HN.out]; simp⟩, ?_, hbw.trans b2⟩
        rw [IsBd, Lib.byteCells_append]
        have e8 : Lib.byteCells [(x * 16 + y).toNat.toUInt8] = [.int .u8 (x * 16 + y)] := by
         simp [Lib.byteCells]; omega
        rw [e8]
        exact .inr h2
       case measure => simp [intOf]; omega
    ·have hn := nameGo_short a0[k] (a0.data.toList.drop (k + 1)) (by rw [List.length_drop, Array.length_toList]; have : a0.data.size = a0.size := rfl; omega)
     rw [← HD.out] at hn
     have HN := Aside0.mk hn
     clear hn
     go_wp2_with (go_at_call 88; with_reducible refine (WriteByte_k w.heap.size w.heap.size _ _ _ hI ?_ ?_).mono ?_)
     ·rw [Lib.byteCells_length]; omega
     ·exact hbw.size
     rintro e W2 ⟨rfl, h2, b2, k2⟩
     go_wp2
     go_roundw
     case rel => exact ⟨k + 1, acc ++ [a0[k]], by omega, by simp; omega, by go_num, ⟨by rw [← HA.out, HN.out]; simp⟩, by rw [IsBd, Lib.byteCells_append]; exact .inr h2, hbw.trans b2⟩
     case measure => simp [intOf]; omega
   ·have t1 : ((a0[k].toNat : Int) == 35) = false := by simpa using hc
    have hn := nameGo_plain a0[k] (a0.data.toList.drop (k + 1)) (by
     rw [beq_eq_false_iff_ne]; intro e; apply hc; rw [e]; rfl)
    rw [← HD.out] at hn
    have HN := Aside0.mk hn
    clear hn hc
    go_wp2_with (go_at_call 88; with_reducible refine (WriteByte_k w.heap.size w.heap.size _ _ _ hI ?_ ?_).mono ?_)
    ·rw [Lib.byteCells_length]; omega
    ·exact hbw.size
    rintro e W2 ⟨rfl, h2, b2, k2⟩
    go_wp2
    go_roundw
    case rel => exact ⟨k + 1, acc ++ [a0[k]], by omega, by simp; omega, by go_num, ⟨by rw [← HA.out, HN.out]; simp⟩, by rw [IsBd, Lib.byteCells_append]; exact .inr h2, hbw.trans b2⟩
    case measure => simp [intOf]; omega
  ·go_wp2_with (go_at_call 43; refine (Tryz.Builder_String_any_k w.heap.size w.heap.size _ _ hI hbw.size).mono ?_)
   rintro e W1 ⟨rfl, _, b1, _⟩
   go_wp2
   go_ret
   have ha := HA.out
   rw [List.drop_of_length_le (by simp; omega)] at ha
   rw [← ha]
   simp only [nameGo, List.append_nil]
   exact ⟨rfl, hbw.trans b1⟩
end Go.Proofs.YtdcldaknmenklaaGreatDoor.M
end
section
/- Laid by this session's program hbprint.py out of the translation: the function hornbook/hex.UnHex and its contract. -/
namespace Go.Proofs.YtdcldaknmenklaaGreatDoor.M
open Go.RowKit Go.Proofs.YtdcldaknmenklaaGreatDoorW.PrintWords Go.Proofs.YtdcldaknmenklaaGreatDoorW.PrintLast Go.Proofs.YtdcldaknmenklaaGreatDoorW.PrintMore
attribute [local go_sem] max2_int min2_int max_two min_two max_three min_three max_four min_four
set_option linter.unusedVariables false
set_option linter.unusedSimpArgs false
mutual
def hex_UnHex.l0 : Nat → ByteArray → List Int → Bool → Int → Int → Option (List Int × Int × Int)
 | 0, _, _, _, _, _ => none
 | k + 1, x0, x5, x6, x11, x12 => if x12 < x11 then (if 0 ≤ x12 then (if x12 < (x0.size : Int) then ((hex_Digit.f k (wrap64 (bt x0 x12))).bind fun bt181 => (if bt181.2 = true then (hex_UnHex.j1 k x0 x5 x6 x12 bt181.1 bt181.2 x11 x12 false) else ((hex_White.f (wrap64 (bt x0 x12))).bind fun t183 => (hex_UnHex.j1 k x0 x5 x6 x12 bt181.1 bt181.2 x11 x12 t183)))) else (none)) else (none)) else (some (x5, (x0.size : Int), 0))
def hex_UnHex.j1 : Nat → ByteArray → List Int → Bool → Int → Int → Bool → Int → Int → Bool → Option (List Int × Int × Int)
 | 0, _, _, _, _, _, _, _, _, _ => none
 | k + 1, x0, x5, x6, x7, x8, x9, x11, x12, x33 => if x33 = true then (hex_UnHex.l0 k x0 x5 x6 x11 (wrap64 (x12 + 1))) else (if x9 = true then (if x6 = true then (if x5.length < 140737488355328 then (hex_UnHex.l0 k x0 (x5 ++ [(wrap64 (x8 * 16)) % 256]) (!x6) x11 (wrap64 (x12 + 1))) else (none)) else (if 0 ≤ (wrap64 ((x5.length : Int) - 1)) then (if (wrap64 ((x5.length : Int) - 1)) < (x5.length : Int) then (hex_UnHex.l0 k x0 (x5.set ((wrap64 ((x5.length : Int) - 1)) : Int).toNat (Go.bits .or .u8 (rd x5 (wrap64 ((x5.length : Int) - 1))) ((x8) % 256))) (!x6) x11 (wrap64 (x12 + 1))) else (none)) else (none))) else (some (([] : List Int), x7, 1)))
end
def hex_UnHex.f (k : Nat) (a0 : ByteArray) : Option (List Int × Int × Int) := hex_UnHex.l0 k a0 ([] : List Int) true (a0.size : Int) 0
theorem hex_UnHex.mono_l : ∀ k, (∀ y0 y1 y2 y3 y4, LeO (hex_UnHex.l0 k y0 y1 y2 y3 y4) (hex_UnHex.l0 (k + 1) y0 y1 y2 y3 y4)) ∧ (∀ y0 y1 y2 y3 y4 y5 y6 y7 y8, LeO (hex_UnHex.j1 k y0 y1 y2 y3 y4 y5 y6 y7 y8) (hex_UnHex.j1 (k + 1) y0 y1 y2 y3 y4 y5 y6 y7 y8))
 | 0 => ⟨fun _ _ _ _ _ r h => by simp [hex_UnHex.l0] at h, fun _ _ _ _ _ _ _ _ _ r h => by simp [hex_UnHex.j1] at h⟩
 | k + 1 => by
  obtain ⟨ih0, ih1⟩ := hex_UnHex.mono_l k
  refine ⟨?_, ?_⟩
  ·intro y0 y1 y2 y3 y4
   unfold hex_UnHex.l0
   repeat' first
   | (with_reducible exact ih0 _ _ _ _ _)
   | (with_reducible exact ih1 _ _ _ _ _ _ _ _ _)
   | (with_reducible exact hex_Digit.mono _ _)
   | (with_reducible exact LeO.refl _)
   | (with_reducible exact LeO.none _)
   | (with_reducible refine LeO.ite ?_ ?_)
   | (with_reducible refine LeO.bind ?_ (fun _ => ?_))
   | exact ih0 _ _ _ _ _
   | exact ih1 _ _ _ _ _ _ _ _ _
   | exact hex_Digit.mono _ _
   | exact LeO.none _
   | refine LeO.ite ?_ ?_
   | refine LeO.bind ?_ (fun _ => ?_)
  ·intro y0 y1 y2 y3 y4 y5 y6 y7 y8
   unfold hex_UnHex.j1
   repeat' first
   | (with_reducible exact ih0 _ _ _ _ _)
   | (with_reducible exact ih1 _ _ _ _ _ _ _ _ _)
   | (with_reducible exact hex_Digit.mono _ _)
   | (with_reducible exact LeO.refl _)
   | (with_reducible exact LeO.none _)
   | (with_reducible refine LeO.ite ?_ ?_)
   | (with_reducible refine LeO.bind ?_ (fun _ => ?_))
   | exact ih0 _ _ _ _ _
   | exact ih1 _ _ _ _ _ _ _ _ _
   | exact hex_Digit.mono _ _
   | exact LeO.none _
   | refine LeO.ite ?_ ?_
   | refine LeO.bind ?_ (fun _ => ?_)
theorem hex_UnHex.mono : ∀ a0 k, LeO (hex_UnHex.f k a0) (hex_UnHex.f (k + 1) a0) := by
 intro a0 k
 obtain ⟨ih0, ih1⟩ := hex_UnHex.mono_l k
 unfold hex_UnHex.f
 repeat' first
   | (with_reducible exact ih0 _ _ _ _ _)
   | (with_reducible exact ih1 _ _ _ _ _ _ _ _ _)
   | (with_reducible exact hex_Digit.mono _ _)
   | (with_reducible exact LeO.refl _)
   | (with_reducible exact LeO.none _)
   | (with_reducible refine LeO.ite ?_ ?_)
   | (with_reducible refine LeO.bind ?_ (fun _ => ?_))
   | exact ih0 _ _ _ _ _
   | exact ih1 _ _ _ _ _ _ _ _ _
   | exact hex_Digit.mono _ _
   | exact LeO.none _
   | refine LeO.ite ?_ ?_
   | refine LeO.bind ?_ (fun _ => ?_)
set_option maxHeartbeats 8000000 in
set_option maxRecDepth 100000 in
theorem hex_UnHex.calls (k : Nat) (a0 : ByteArray) (r1 : List Int) (r2 : Int) (r3 : Int) (w : World) (h : hex_UnHex.f k a0 = some (r1, r2, r3)) :
  Calls Tryz.prog 89 #[.string a0] w fun e w' => ∃ v0_ : Value, e = .returned (.tuple #[v0_, .int .i64 r2, .int .i64 r3]) ∧ Kd.R (Kd.int .u8) 5 w' w.heap.size (fun _ => True) v0_ r1 ∧ Below w.heap.size w w' := by
 have HB := aM (Below.refl w.heap.size w)
 have H : (hex_UnHex.l0 k a0 ([] : List Int) true (a0.size : Int) 0) = some (r1, r2, r3) := h
 clear h
 have H' := aM H
 clear H
 go_enter Tryz.func89, Tryz.ntmps89
 go_wp2
 go_loopg [5, 6, 12] k (fun kq v5 v6 v12 w' => ∃ (x5_1 : List Int) (x6_1 : Bool) (x12_1 : Int), v6 = .bool x6_1 ∧ v12 = .int .i64 x12_1 ∧ Aside0 (hex_UnHex.l0 kq a0 x5_1 x6_1 (a0.size : Int) x12_1 = some (r1, r2, r3)) ∧ Aside0 (kq ≤ k) ∧ Aside0 (Kd.R (Kd.int .u8) 5 w' w.heap.size (fun _ => True) v5 x5_1) ∧ Aside0 (Below w.heap.size w w'))
 case atStart => exact ⟨(([] : List Int)), (true), (0), vQ, vQ, H', ⟨Nat.le_refl _⟩, ⟨by first | exact Kd.R_nil _ _ _ _ _ | exact Kd.N_nil _ _ _ _ _ | exact Kd.V_nil _ _ _ _ _ | exact Kd.Q_nil _ _ _ _ _ | exact Kd.S_nil _ _ _ _ _⟩, ⟨bQ⟩⟩
 case round =>
  clear H'
  obtain ⟨x5_1, x6_1, x12_1, rfl, rfl, HA, HK1, HO_5, HB⟩ := hrel
  cases gk with
  | zero => exact absurd HA.out (by simp [hex_UnHex.l0])
  | succ k1 =>
   have H := HA.out
   clear HA
   simp only [hex_UnHex.l0] at H
   refine iD H ?_ ?_<;>clear H<;>intro H c2b0
   rotate_left
   ·simp only [Option.some.injEq, Prod.mk.injEq] at H
    obtain ⟨rfl, rfl, rfl⟩ := H
    go_wp2
    go_ret3
    exact ⟨_, eQ, mQ HO_5, bQ⟩
   refine iD H ?_ ?_<;>clear H<;>intro H c3b0
   rotate_left
   ·exact absurd H (by simp)
   refine iD H ?_ ?_<;>clear H<;>intro H c4b0
   rotate_left
   ·exact absurd H (by simp)
   replace H := bS H
   obtain ⟨⟨t181, t182⟩, A6, H⟩ := H
   try dsimp only at H
   have HC7 := aM H
   clear H
   have p5 : 0 ≤ (x12_1 : Int) := of_decide_eq_true hQ
   have q5 : x12_1 < (a0.size : Int) := of_decide_eq_true hQ
   have hx5 := bt_at a0 x12_1
   replace p5 := eq_true p5
   replace q5 := eq_true q5
   go_upto_region 8 with (first | ((with_reducible refine gC 87 ?_); refine gL (some 20) Tryz.func87 #[.int .i64 (wrap64 (bt a0 x12_1))] ?_; (with_reducible refine cB (hex_Digit.calls k1 (wrap64 (bt a0 x12_1)) t181 t182 _ A6.out) ?_); intro w8 hb; replace HO_5 := rK HO_5 hb; replace HB := sB hb; clear hb))
   (try simp only [Act.put, List.setIfInBounds_toArray, List.set_cons_zero, List.set_cons_succ])
   go_cut [33] (fun v33 wc => ∃ (kq : Nat) (x33_6 : Bool), v33 = .bool x33_6 ∧ Aside0 (hex_UnHex.j1 kq a0 x5_1 x6_1 x12_1 t181 t182 (a0.size : Int) x12_1 x33_6 = some (r1, r2, r3)) ∧ Aside0 (kq ≤ k1) ∧ Aside0 (Kd.R (Kd.int .u8) 5 wc w.heap.size (fun _ => True) u5 x5_1) ∧ Aside0 (Below w.heap.size w wc))
   case first =>
    have H := HC7.out
    clear HC7
    by_cases c9 : t182 = true
    ·subst c9
     rw [if_pos rfl] at H
     have H' := aM H
     clear H
     go_wp2
     go_meet
     case rel => exact ⟨_, (false), vQ, H', ⟨by have := HK1.out; first | omega | exact Nat.le_refl _⟩, ⟨mQ HO_5⟩, ⟨bQ⟩⟩
    replace c9 := Bool.eq_false_iff.mpr c9
    subst c9
    rw [if_neg (show ¬ (false = true) by decide)] at H
    replace H := bS H
    obtain ⟨t183, A11, H⟩ := H
    try dsimp only at H
    have H' := aM H
    clear H
    have p10 : 0 ≤ (x12_1 : Int) := of_decide_eq_true hQ
    have q10 : x12_1 < (a0.size : Int) := of_decide_eq_true hQ
    have hx10 := bt_at a0 x12_1
    replace p10 := eq_true p10
    replace q10 := eq_true q10
    go_wp2_with (first | (go_at_call 111; (with_reducible refine (hex_White.calls (wrap64 (bt a0 x12_1)) t183 _ A11.out).mono ?_); rintro e w12 ⟨rfl, hb⟩; replace HO_5 := rK HO_5 hb; replace HB := sB hb; clear hb))
    go_meet
    case rel => exact ⟨_, (t183), vQ, H', ⟨by have := HK1.out; first | omega | exact Nat.le_refl _⟩, ⟨mQ HO_5⟩, ⟨bQ⟩⟩
   case rest =>
    clear HC7
    try clear p1
    try clear q1
    try clear hx1
    try clear c2
    try clear c2b0
    try clear p2
    try clear c3
    try clear c3b0
    try clear c4
    try clear c4b0
    try clear p5
    try clear q5
    try clear hx5
    try clear p6
    try clear c8
    try clear c9
    try clear p10
    try clear q10
    try clear hx10
    try clear p10
    try clear p5
    try clear q10
    try clear q5
    obtain ⟨kq, x33_6, rfl, HA, HJ6, HO_5, HB⟩ := hcut
    cases kq with
    | zero => exact absurd HA.out (by simp [hex_UnHex.j1])
    | succ kj6 =>
     have H := HA.out
     clear HA
     simp only [hex_UnHex.j1] at H
     by_cases c13 : x33_6 = true
     ·subst c13
      rw [if_pos rfl] at H
      have H' := aM H
      clear H
      go_wp2
      go_roundg kj6
      case measure => have := HK1.out; have := HJ6.out; omega
      case rel => exact ⟨(x5_1), (x6_1), (wrap64 (x12_1 + 1)), vQ, vQ, H', ⟨by have := HK1.out; have := HJ6.out; omega⟩, ⟨mQ HO_5⟩, ⟨bQ⟩⟩
     replace c13 := Bool.eq_false_iff.mpr c13
     subst c13
     rw [if_neg (show ¬ (false = true) by decide)] at H
     by_cases c14 : t182 = true
     rotate_left
     ·replace c14 := Bool.eq_false_iff.mpr c14
      subst c14
      rw [if_neg (show ¬ (false = true) by decide)] at H
      simp only [Option.some.injEq, Prod.mk.injEq] at H
      obtain ⟨rfl, rfl, rfl⟩ := H
      go_wp2
      go_ret3
      exact ⟨_, eQ, by first | exact Kd.R_nil _ _ _ _ _ | exact Kd.N_nil _ _ _ _ _ | exact Kd.V_nil _ _ _ _ _ | exact Kd.Q_nil _ _ _ _ _ | exact Kd.S_nil _ _ _ _ _, bQ⟩
     subst c14
     rw [if_pos rfl] at H
     by_cases c15 : x6_1 = true
     ·subst c15
      rw [if_pos rfl] at H
      refine iNc H ?_ ?_<;>clear H<;>intro H c16
      rotate_left
      ·exact absurd H (by simp)
      have LMc16 := aM c16
      clear c16
      obtain ⟨y184, hy184⟩ : ∃ y_ : List Int, y_ = (x5_1 ++ [(wrap64 (t181 * 16)) % 256]) := ⟨_, rfl⟩
      replace H : (hex_UnHex.l0 kj6 a0 y184 (!true) (a0.size : Int) (wrap64 (x12_1 + 1))) = some (r1, r2, r3) := by first | (rw [hy184]; with_reducible exact H) | (have H2_ := (Option.bind_some _ _).symm.trans H; rw [hy184]; with_reducible exact H2_) | (have H2_ := (Option.bind_some _ _).symm.trans H; with_reducible exact H2_) | with_reducible exact H | (rw [hy184]; exact H) | exact H
      have Ny184 := aM hy184
      clear hy184
      have H' := aM H
      clear H
      go_wp2_with (first | ((with_reducible refine gate_builtin (b := .append) (xs := #[.tmp 49, .tmp 53]) rfl ?_); at_builtin; refine Kd.R_append (Kd.int .u8) (w0 := w) w.heap.size rfl (.tmp 49) (.tmp 53) 78 5 (.int .u8 0) 1 rfl Tryz.underlying78 info5 rfl (by decide) (by omega) u5 x5_1 ((wrap64 (t181 * 16)) % 256) [.int .u8 ((wrap64 (t181 * 16)) % 256)] (fun _ => True) (fun _ => False) rfl rfl ?aP (fun _ hk => hk.elim) ?aF ?aO ?aB ?aS ?aL ?_; (case aP => exact rfl); (case aB => exact bQ); (case aF => exact (fun _ _ => trivial)); (case aO => exact (mQ HO_5)); (case aS => exact (below_size bQ)); (case aL => have := LMc16.out; omega); intro v185 w17 ho hb hg hat; rw [← Ny184.out] at ho; have n0_ := aM hb; have n1_ := aM ho; clear HB; clear HO_5; have HB := n0_; have HO186 := n1_; clear n0_ n1_; clear ho hb hg hat))
      go_roundg kj6
      case measure => have := HK1.out; have := HJ6.out; omega
      case rel => exact ⟨(y184), (!true), (wrap64 (x12_1 + 1)), vQ, vQ, H', ⟨by have := HK1.out; have := HJ6.out; omega⟩, ⟨mQ HO186⟩, ⟨bQ⟩⟩
     replace c15 := Bool.eq_false_iff.mpr c15
     subst c15
     rw [if_neg (show ¬ (false = true) by decide)] at H
     obtain ⟨ji18, hji18⟩ : ∃ j_ : Int, (wrap64 ((x5_1.length : Int) - 1)) = j_ := ⟨_, rfl⟩
     replace H : (if 0 ≤ (ji18) then (if (ji18) < (x5_1.length : Int) then (hex_UnHex.l0 kj6 a0 (x5_1.set ((ji18) : Int).toNat (Go.bits .or .u8 (rd x5_1 (ji18)) ((t181) % 256))) (!false) (a0.size : Int) (wrap64 (x12_1 + 1))) else (none)) else (none)) = some (r1, r2, r3) := by first | (rw [hji18] at H; exact H) | (simp only [hji18] at H ⊢; exact H)
     have hji18w : (IntKind.i64.wrap ((x5_1.length : Int) - 1)) = ji18 := (i64_w _).trans hji18
     refine iD H ?_ ?_<;>clear H<;>intro H c19b0
     rotate_left
     ·exact absurd H (by simp)
     refine iD H ?_ ?_<;>clear H<;>intro H c20b0
     rotate_left
     ·exact absurd H (by simp)
     obtain ⟨y188, hy188⟩ : ∃ y_ : List Int, y_ = (x5_1.set ((ji18) : Int).toNat (Go.bits .or .u8 (rd x5_1 (ji18)) ((t181) % 256))) := ⟨_, rfl⟩
     replace H : (hex_UnHex.l0 kj6 a0 y188 (!false) (a0.size : Int) (wrap64 (x12_1 + 1))) = some (r1, r2, r3) := by first | (rw [hy188]; with_reducible exact H) | (have H2_ := (Option.bind_some _ _).symm.trans H; rw [hy188]; with_reducible exact H2_) | (have H2_ := (Option.bind_some _ _).symm.trans H; with_reducible exact H2_) | with_reducible exact H | (rw [hy188]; exact H) | exact H
     have Ny188 := aM hy188
     clear hy188
     have H' := aM H
     clear H
     obtain ⟨Ao22, co22, eo22⟩ := Kd.R_slice HO_5.out
     subst eo22
     have p187 : 0 ≤ ((ji18) : Int) := of_decide_eq_true hQ
     have q187 : (ji18) < (x5_1.length : Int) := of_decide_eq_true hQ
     obtain ⟨ad187, e187, hx187_0⟩ := Kd.at_int (Kd.R_reads' HO_5.out).2.2 (ji18) p187 q187
     cases e187
     replace p187 := eq_true p187
     replace q187 := eq_true q187
     have p21 : 0 ≤ ((ji18) : Int) := of_decide_eq_true hQ
     have q21 : ((ji18) : Int) < ((x5_1.length : Int) : Int) := of_decide_eq_true hQ
     obtain ⟨go21, co21, eo21, gb21, gl21, cl21, HG21⟩ := Kd.R_form HO_5.out (by omega)
     (first | cases eo21 | (injection eo21 with ea_ en_ ec_; (first | subst ea_ | (injection ea_ with ea_; subst ea_)); subst ec_; clear en_))
     have GB21 := aM gb21
     have GG21 := aM HG21
     clear gb21 gl21 HG21
     (first | simp only [add_plain] at hx187_0 | skip)
     obtain ⟨hx21_0, hf21_0⟩ := Kd.R_celln 0 HO_5.out ((ji18) : Int) p21 q21
     replace p21 := eq_true p21
     replace q21 := eq_true q21
     have HP23 := Kd.R_putg HO_5.out ((ji18) : Int) (Go.bits .or .u8 (rd x5_1 (ji18)) ((t181) % 256))
     go_wp2_with (first | ((with_reducible refine gate_store (t := 5) (p := 32) rfl ?_); refine store_event (t := 5) (p := 32) (v := ?vo_w24) (w1 := (wc.setCell ⟨go21, ((ji18) : Int).toNat, none⟩ (.int .u8 (Go.bits .or .u8 (rd x5_1 (ji18)) ((t181) % 256))))) ?hg ?ho ?hn ?hr ?_; (case ho => rfl); (case hg => rfl); (case hn => rfl); (case hr => first | (go_simp; done) | (go_simp; rfl)); intro w24 hw; have hg : wc.grownBy w24 (some go21) := (by rw [hw]; exact HP23.2); have hp_ : Kd.R (Kd.int .u8) 5 w24 w.heap.size (fun _ => True) (.slice (some ⟨go21, 0, none⟩) x5_1.length co22) y188 := (by rw [hw, Ny188.out]; exact HP23.1); clear HP23; replace HO_5 := aM (hp_); replace HB := aM ((by rw [hw]; exact below_set (HB.out) GB21.out : Below w.heap.size w w24)); clear hg hw hp_))
     go_roundg kj6
     case measure => have := HK1.out; have := HJ6.out; omega
     case rel => exact ⟨(y188), (!false), (wrap64 (x12_1 + 1)), vQ, vQ, H', ⟨by have := HK1.out; have := HJ6.out; omega⟩, ⟨mQ HO_5⟩, ⟨bQ⟩⟩
end Go.Proofs.YtdcldaknmenklaaGreatDoor.M
end
section
namespace Go.Proofs.YtdcldaknmenklaaGreatDoor.M
open Go.RowKit Go.Proofs.YtdcldaknmenklaaGreatDoorW.PrintWords Go.Proofs.YtdcldaknmenklaaGreatDoorW.PrintLast Go.Proofs.YtdcldaknmenklaaGreatDoorW.PrintMore
attribute [local go_sem] max2_int min2_int max_two min_two max_three min_three max_four min_four
set_option linter.unusedVariables false
set_option linter.unusedSimpArgs false
def tok_source_hexed.f (k : Nat) (a0 : ByteArray) (a1 : Int) : Option (Int × Int × Int × ByteArray × Int × Int) := (tok_source_from.f a0 (wrap64 (a1 + 1))).bind fun t190 => ((strings_Cut.f t190 (⟨#[62]⟩ : ByteArray)).bind fun bt191 => (if bt191.2.2 = true then ((hex_UnHex.f k bt191.1).bind fun bt194 => (if bt194.2.2 = 0 then (some (4, a1, 0, strOfNums bt194.1, wrap64 ((wrap64 (a1 + (bt191.1.size : Int))) + 2), 0)) else (some (0, 0, 0, (⟨#[]⟩ : ByteArray), wrap64 ((wrap64 (a1 + 1)) + bt194.2.1), bt194.2.2)))) else (some (0, 0, 0, (⟨#[]⟩ : ByteArray), (a0.size : Int), 2))))
theorem tok_source_hexed.mono : ∀ a0 a1 k, LeO (tok_source_hexed.f k a0 a1) (tok_source_hexed.f (k + 1) a0 a1) := by
 intro a0 a1 k
 unfold tok_source_hexed.f
 repeat' first
   | (with_reducible exact hex_UnHex.mono _ _)
   | (with_reducible exact LeO.refl _)
   | (with_reducible exact LeO.none _)
   | (with_reducible refine LeO.ite ?_ ?_)
   | (with_reducible refine LeO.bind ?_ (fun _ => ?_))
   | exact hex_UnHex.mono _ _
   | exact LeO.none _
   | refine LeO.ite ?_ ?_
   | refine LeO.bind ?_ (fun _ => ?_)
set_option maxHeartbeats 8000000 in
set_option maxRecDepth 100000 in
theorem tok_source_hexed.calls (k : Nat) (a0 : ByteArray) (a1 : Int) (r1 : Int) (r2 : Int) (r3 : Int) (r4 : ByteArray) (r5 : Int) (r6 : Int) (w : World) (hG : GW w) (h : tok_source_hexed.f k a0 a1 = some (r1, r2, r3, r4, r5, r6)) :
  Calls Tryz.prog 54 #[.string a0, .int .i64 a1] w fun e w' => e = .returned (.tuple #[.agg #[.int .i64 r1, .int .i64 r2, .int .i64 r3, .string r4], .int .i64 r5, .int .i64 r6]) ∧ Below w.heap.size w w' := by
 have hu65 := Tryz.underlying65
 have HG := aM hG
 clear hG
 have HB := aM (Below.refl w.heap.size w)
 have H : ((tok_source_from.f a0 (wrap64 (a1 + 1))).bind fun t190 => ((strings_Cut.f t190 (⟨#[62]⟩ : ByteArray)).bind fun bt191 => (if bt191.2.2 = true then ((hex_UnHex.f k bt191.1).bind fun bt194 => (if bt194.2.2 = 0 then (some (4, a1, 0, strOfNums bt194.1, wrap64 ((wrap64 (a1 + (bt191.1.size : Int))) + 2), 0)) else (some (0, 0, 0, (⟨#[]⟩ : ByteArray), wrap64 ((wrap64 (a1 + 1)) + bt194.2.1), bt194.2.2)))) else (some (0, 0, 0, (⟨#[]⟩ : ByteArray), (a0.size : Int), 2))))) = some (r1, r2, r3, r4, r5, r6) := h
 clear h
 replace H := bS H
 obtain ⟨t190, A3, H⟩ := H
 try dsimp only at H
 replace H := bS H
 obtain ⟨⟨t191, t192, t193⟩, A4, H⟩ := H
 try dsimp only at H
 by_cases c5 : t193 = true
 rotate_left
 ·replace c5 := Bool.eq_false_iff.mpr c5
  subst c5
  rw [if_neg (show ¬ (false = true) by decide)] at H
  simp only [Option.some.injEq, Prod.mk.injEq] at H
  obtain ⟨rfl, rfl, rfl, rfl, rfl, rfl⟩ := H
  go_enter Tryz.func54, Tryz.ntmps54
  go_wp2_with (first | ((with_reducible refine gD 4 ?_); refine bE 4 (cs := #[.int .i64 0, .int .i64 0, .int .i64 0, .string (⟨#[]⟩ : ByteArray)]) (t := 65) ?_; intro gb189 hg w19 hbox hb; have BK189 := aM hbox; have GW189 := sG w hg; have GE189 := sG w hg; replace HB := sB hb; clear hb hbox hg) | ((with_reducible refine gC 86 ?_); refine gL (some 17) Tryz.func86 #[.string a0, .int .i64 (wrap64 (a1 + 1))] ?_; (with_reducible refine cB (tok_source_from.calls a0 (wrap64 (a1 + 1)) t190 _ A3.out) ?_); intro w20 hb; replace BK189 := kK BK189 hb; replace HB := sB hb; clear hb) | ((with_reducible refine gC 75 ?_); refine gL (some 18) Tryz.func75 #[.string t190, .string (⟨#[62]⟩ : ByteArray)] ?_; (with_reducible refine cB (strings_Cut.calls t190 (⟨#[62]⟩ : ByteArray) t191 t192 false _ ?side1 A4.out) ?_); (case side1 => exact gQ HG.out); intro w21 hb; replace BK189 := kK BK189 hb; replace HB := sB hb; clear hb; obtain ⟨hcz22_0, hcz22_1, hcz22_2, hcz22_3, hfz22_0, hfz22_1, hfz22_2, hfz22_3⟩ := b4 BK189))
  refine bodyPost_ret (results_ctt rfl _ _ gb189 65 #[.int .i64 0, .int .i64 0, .int .i64 0, .string (⟨#[]⟩ : ByteArray)] (0, 0) _ rfl kQ Tryz.underlying65 rfl (by kernel_rfl)) rfl ?_
  exact ⟨eQ, bQ⟩
 subst c5
 rw [if_pos rfl] at H
 replace H := bS H
 obtain ⟨⟨t194, t195, t196⟩, A6, H⟩ := H
 try dsimp only at H
 refine iEc H ?_ ?_<;>clear H<;>intro H c7b0 c7b1 c7
 rotate_left
 ·simp only [Option.some.injEq, Prod.mk.injEq] at H
  obtain ⟨rfl, rfl, rfl, rfl, rfl, rfl⟩ := H
  go_enter Tryz.func54, Tryz.ntmps54
  go_wp2_with (first | ((with_reducible refine gD 4 ?_); refine bE 4 (cs := #[.int .i64 0, .int .i64 0, .int .i64 0, .string (⟨#[]⟩ : ByteArray)]) (t := 65) ?_; intro gb189 hg w14 hbox hb; have BK189 := aM hbox; have GW189 := sG w hg; have GE189 := sG w hg; replace HB := sB hb; clear hb hbox hg) | ((with_reducible refine gC 86 ?_); refine gL (some 17) Tryz.func86 #[.string a0, .int .i64 (wrap64 (a1 + 1))] ?_; (with_reducible refine cB (tok_source_from.calls a0 (wrap64 (a1 + 1)) t190 _ A3.out) ?_); intro w15 hb; replace BK189 := kK BK189 hb; replace HB := sB hb; clear hb) | ((with_reducible refine gC 75 ?_); refine gL (some 18) Tryz.func75 #[.string t190, .string (⟨#[62]⟩ : ByteArray)] ?_; (with_reducible refine cB (strings_Cut.calls t190 (⟨#[62]⟩ : ByteArray) t191 t192 true _ ?side1 A4.out) ?_); (case side1 => exact gQ HG.out); intro w16 hb; replace BK189 := kK BK189 hb; replace HB := sB hb; clear hb) | ((with_reducible refine gC 89 ?_); refine gL (some 29) Tryz.func89 #[.string t191] ?_; (with_reducible refine (hex_UnHex.calls k t191 t194 t195 t196 _ A6.out).mono ?_); rintro e w17 ⟨v197, rfl, ho0, hb⟩; refine ⟨_, rfl, ?_⟩; have HO198 := lK ho0; replace BK189 := kK BK189 hb; replace HB := sB hb; clear hb ho0; obtain ⟨hcz18_0, hcz18_1, hcz18_2, hcz18_3, hfz18_0, hfz18_1, hfz18_2, hfz18_3⟩ := b4 BK189))
  refine bodyPost_ret (results_ctt rfl _ _ gb189 65 #[.int .i64 0, .int .i64 0, .int .i64 0, .string (⟨#[]⟩ : ByteArray)] (0, 0) _ rfl kQ Tryz.underlying65 rfl (by kernel_rfl)) rfl ?_
  exact ⟨eQ, bQ⟩
 clear c7
 simp only [Option.some.injEq, Prod.mk.injEq] at H
 obtain ⟨rfl, rfl, rfl, rfl, rfl, rfl⟩ := H
 go_enter Tryz.func54, Tryz.ntmps54
 go_wp2_with (first | ((with_reducible refine gD 4 ?_); refine bE 4 (cs := #[.int .i64 0, .int .i64 0, .int .i64 0, .string (⟨#[]⟩ : ByteArray)]) (t := 65) ?_; intro gb189 hg w8 hbox hb; have BK189 := aM hbox; have GW189 := sG w hg; have GE189 := sG w hg; replace HB := sB hb; clear hb hbox hg) | ((with_reducible refine gC 86 ?_); refine gL (some 17) Tryz.func86 #[.string a0, .int .i64 (wrap64 (a1 + 1))] ?_; (with_reducible refine cB (tok_source_from.calls a0 (wrap64 (a1 + 1)) t190 _ A3.out) ?_); intro w9 hb; replace BK189 := kK BK189 hb; replace HB := sB hb; clear hb) | ((with_reducible refine gC 75 ?_); refine gL (some 18) Tryz.func75 #[.string t190, .string (⟨#[62]⟩ : ByteArray)] ?_; (with_reducible refine cB (strings_Cut.calls t190 (⟨#[62]⟩ : ByteArray) t191 t192 true _ ?side1 A4.out) ?_); (case side1 => exact gQ HG.out); intro w10 hb; replace BK189 := kK BK189 hb; replace HB := sB hb; clear hb) | ((with_reducible refine gC 89 ?_); refine gL (some 29) Tryz.func89 #[.string t191] ?_; (with_reducible refine (hex_UnHex.calls k t191 t194 t195 t196 _ A6.out).mono ?_); rintro e w11 ⟨v197, rfl, ho0, hb⟩; refine ⟨_, rfl, ?_⟩; have HO198 := lK ho0; replace BK189 := kK BK189 hb; replace HB := sB hb; clear hb ho0; have hcv12 := own_string (P := Tryz.prog) Tryz.underlying78 Tryz.underlying5 Tryz.underlying9 (Kd.own_of_R HO198.out); obtain ⟨hcz13_0, hcz13_1, hcz13_2, hcz13_3, hfz13_0, hfz13_1, hfz13_2, hfz13_3⟩ := b4 BK189))
 refine bodyPost_ret (results_ctt rfl _ _ gb189 65 #[.int .i64 4, .int .i64 a1, .int .i64 0, .string (strOfNums t194)] (0, 0) _ rfl kQ Tryz.underlying65 rfl (by kernel_rfl)) rfl ?_
 exact ⟨eQ, bQ⟩
def tok_number.l0 : Nat → ByteArray → Int → Int → Option (Int × Int)
 | 0, _, _, _ => none
 | k + 1, x0, x4, x5 => if x5 < 3 then (if x5 < (x0.size : Int) then (if 0 ≤ x5 then (if (bt x0 x5) ≥ 48 then (if (bt x0 x5) < 56 then (tok_number.l0 k x0 (wrap64 ((wrap64 (x4 * 8)) + (((bt x0 x5) - 48) % 256))) (wrap64 (x5 + 1))) else (some ((x4) % 256, x5))) else (some ((x4) % 256, x5))) else (none)) else (some ((x4) % 256, x5))) else (some ((x4) % 256, x5))
def tok_number.f (k : Nat) (a0 : ByteArray) : Option (Int × Int) := tok_number.l0 k a0 0 0
theorem tok_number.mono_l : ∀ k, (∀ y0 y1 y2, LeO (tok_number.l0 k y0 y1 y2) (tok_number.l0 (k + 1) y0 y1 y2))
 | 0 => fun _ _ _ r h => by simp [tok_number.l0] at h
 | k + 1 => by
  have ih0 := tok_number.mono_l k
  ·intro y0 y1 y2
   unfold tok_number.l0
   repeat' first
   | (with_reducible exact ih0 _ _ _)
   | (with_reducible exact LeO.refl _)
   | (with_reducible exact LeO.none _)
   | (with_reducible refine LeO.ite ?_ ?_)
   | (with_reducible refine LeO.bind ?_ (fun _ => ?_))
   | exact ih0 _ _ _
   | exact LeO.none _
   | refine LeO.ite ?_ ?_
   | refine LeO.bind ?_ (fun _ => ?_)
theorem tok_number.mono : ∀ a0 k, LeO (tok_number.f k a0) (tok_number.f (k + 1) a0) := by
 intro a0 k
 have ih0 := tok_number.mono_l k
 unfold tok_number.f
 repeat' first
   | (with_reducible exact ih0 _ _ _)
   | (with_reducible exact LeO.refl _)
   | (with_reducible exact LeO.none _)
   | (with_reducible refine LeO.ite ?_ ?_)
   | (with_reducible refine LeO.bind ?_ (fun _ => ?_))
   | exact ih0 _ _ _
   | exact LeO.none _
   | refine LeO.ite ?_ ?_
   | refine LeO.bind ?_ (fun _ => ?_)
set_option maxHeartbeats 8000000 in
set_option maxRecDepth 100000 in
theorem tok_number.calls (k : Nat) (a0 : ByteArray) (r1 : Int) (r2 : Int) (w : World) (h : tok_number.f k a0 = some (r1, r2)) :
  Calls Tryz.prog 113 #[.string a0] w fun e w' => e = .returned (.tuple #[.int .u8 r1, .int .i64 r2]) ∧ Drawn0 w w' := by
 have H : (tok_number.l0 k a0 0 0) = some (r1, r2) := h
 clear h
 have H' := aM H
 clear H
 go_enter Tryz.func113, Tryz.ntmps113
 go_wp2
 go_loopg [4, 5] k (fun kq v4 v5 w' => ∃ (x4_1 : Int) (x5_1 : Int), v4 = .int .i64 x4_1 ∧ v5 = .int .i64 x5_1 ∧ Aside0 (tok_number.l0 kq a0 x4_1 x5_1 = some (r1, r2)) ∧ Aside0 (kq ≤ k) ∧ Drawn0 w w')
 case atStart => exact ⟨(0), (0), vQ, vQ, H', ⟨Nat.le_refl _⟩, by repeat (first | exact Drawn0.refl _ | apply Drawn0.step)⟩
 case round =>
  clear H'
  try clear c1
  obtain ⟨x4_1, x5_1, rfl, rfl, HA, HK1, ⟨m1, rfl⟩⟩ := hrel
  cases gk with
  | zero => exact absurd HA.out (by simp [tok_number.l0])
  | succ k1 =>
   have H := HA.out
   clear HA
   simp only [tok_number.l0] at H
   refine iD H ?_ ?_<;>clear H<;>intro H c2b0
   rotate_left
   ·simp only [Option.some.injEq, Prod.mk.injEq] at H
    obtain ⟨rfl, rfl⟩ := H
    go_wp2
    go_ret2
    exact ⟨by first | rfl | (simp; done) | (simp [*]; done), by repeat (first | exact Drawn0.refl _ | apply Drawn0.step)⟩
   refine iD H ?_ ?_<;>clear H<;>intro H c3b0
   rotate_left
   ·simp only [Option.some.injEq, Prod.mk.injEq] at H
    obtain ⟨rfl, rfl⟩ := H
    go_wp2
    go_ret2
    exact ⟨by first | rfl | (simp; done) | (simp [*]; done), by repeat (first | exact Drawn0.refl _ | apply Drawn0.step)⟩
   refine iD H ?_ ?_<;>clear H<;>intro H c4b0
   rotate_left
   ·exact absurd H (by simp)
   refine iNc H ?_ ?_<;>clear H<;>intro H c6
   rotate_left
   ·have c6b0 : decide (48 ≤ (bt a0 x5_1)) = false := decide_eq_false c6
    clear c6
    simp only [Option.some.injEq, Prod.mk.injEq] at H
    obtain ⟨rfl, rfl⟩ := H
    have p5 : 0 ≤ (x5_1 : Int) := of_decide_eq_true hQ
    have q5 : x5_1 < (a0.size : Int) := of_decide_eq_true hQ
    have hx5 := bt_at a0 x5_1
    replace p5 := eq_true p5
    replace q5 := eq_true q5
    go_wp2
    go_ret2
    exact ⟨by first | rfl | (simp; done) | (simp [*]; done), by repeat (first | exact Drawn0.refl _ | apply Drawn0.step)⟩
   have c6b0 : decide (48 ≤ (bt a0 x5_1)) = true := decide_eq_true c6
   clear c6
   refine iD H ?_ ?_<;>clear H<;>intro H c8b0
   rotate_left
   ·simp only [Option.some.injEq, Prod.mk.injEq] at H
    obtain ⟨rfl, rfl⟩ := H
    have p5 : 0 ≤ (x5_1 : Int) := of_decide_eq_true hQ
    have q5 : x5_1 < (a0.size : Int) := of_decide_eq_true hQ
    have hx5 := bt_at a0 x5_1
    replace p5 := eq_true p5
    replace q5 := eq_true q5
    have p7 : 0 ≤ (x5_1 : Int) := of_decide_eq_true hQ
    have q7 : x5_1 < (a0.size : Int) := of_decide_eq_true hQ
    have hx7 := bt_at a0 x5_1
    replace p7 := eq_true p7
    replace q7 := eq_true q7
    go_wp2
    go_ret2
    exact ⟨by first | rfl | (simp; done) | (simp [*]; done), by repeat (first | exact Drawn0.refl _ | apply Drawn0.step)⟩
   have H' := aM H
   clear H
   have p5 : 0 ≤ (x5_1 : Int) := of_decide_eq_true hQ
   have q5 : x5_1 < (a0.size : Int) := of_decide_eq_true hQ
   have hx5 := bt_at a0 x5_1
   replace p5 := eq_true p5
   replace q5 := eq_true q5
   have p7 : 0 ≤ (x5_1 : Int) := of_decide_eq_true hQ
   have q7 : x5_1 < (a0.size : Int) := of_decide_eq_true hQ
   have hx7 := bt_at a0 x5_1
   replace p7 := eq_true p7
   replace q7 := eq_true q7
   have p9 : 0 ≤ (x5_1 : Int) := of_decide_eq_true hQ
   have q9 : x5_1 < (a0.size : Int) := of_decide_eq_true hQ
   have hx9 := bt_at a0 x5_1
   replace p9 := eq_true p9
   replace q9 := eq_true q9
   go_wp2
   go_roundg k1
   case measure => have := HK1.out; omega
   case rel => exact ⟨(wrap64 ((wrap64 (x4_1 * 8)) + (((bt a0 x5_1) - 48) % 256))), (wrap64 (x5_1 + 1)), vQ, vQ, H', ⟨by have := HK1.out; omega⟩, by repeat (first | exact Drawn0.refl _ | apply Drawn0.step)⟩
def tok_escaped.j0 : Nat → ByteArray → Bool → Option (ByteArray × Int)
 | 0, _, _ => none
 | k + 1, x0, x24 => if x24 = true then (some ((⟨#[]⟩ : ByteArray), 1)) else (if 0 < (x0.size : Int) then ((strings_IndexByte.f (⟨#[110, 114, 116, 98, 102]⟩ : ByteArray) (bt x0 0)).bind fun t205 => (if t205 ≥ 0 then (if 0 ≤ t205 then (if t205 ≤ (wrap64 (t205 + 1)) then (if (wrap64 (t205 + 1)) ≤ 5 then (some ((⟨#[10, 13, 9, 8, 12]⟩ : ByteArray).extract (t205 : Int).toNat ((wrap64 (t205 + 1)) : Int).toNat, 1)) else (none)) else (none)) else (none)) else (if 0 ≤ 1 then (if 1 ≤ (x0.size : Int) then (some (x0.extract 0 1, 1)) else (none)) else (none)))) else (none))
def tok_escaped.f (k : Nat) (a0 : ByteArray) : Option (ByteArray × Int) := (tok_number.f k a0).bind fun bt199 => (if bt199.2 > 0 then (some (strOfNums (([bt199.1] : List Int)), bt199.2)) else (if a0.toList = ([] : List UInt8) then (some ((⟨#[]⟩ : ByteArray), 0)) else ((strings_HasPrefix.f a0 (⟨#[13, 10]⟩ : ByteArray)).bind fun t204 => (if t204 = true then (some ((⟨#[]⟩ : ByteArray), 2)) else (if 0 < (a0.size : Int) then (if (bt a0 0) = 10 then (tok_escaped.j0 k a0 true) else (tok_escaped.j0 k a0 ((bt a0 0) == 13))) else (none))))))
theorem tok_escaped.mono_l : ∀ k, (∀ y0 y1, LeO (tok_escaped.j0 k y0 y1) (tok_escaped.j0 (k + 1) y0 y1))
 | 0 => fun _ _ r h => by simp [tok_escaped.j0] at h
 | k + 1 => by
  have ih0 := tok_escaped.mono_l k
  ·intro y0 y1
   unfold tok_escaped.j0
   repeat' first
   | (with_reducible exact ih0 _ _)
   | (with_reducible exact tok_number.mono _ _)
   | (with_reducible exact LeO.refl _)
   | (with_reducible exact LeO.none _)
   | (with_reducible refine LeO.ite ?_ ?_)
   | (with_reducible refine LeO.bind ?_ (fun _ => ?_))
   | exact ih0 _ _
   | exact tok_number.mono _ _
   | exact LeO.none _
   | refine LeO.ite ?_ ?_
   | refine LeO.bind ?_ (fun _ => ?_)
theorem tok_escaped.mono : ∀ a0 k, LeO (tok_escaped.f k a0) (tok_escaped.f (k + 1) a0) := by
 intro a0 k
 have ih0 := tok_escaped.mono_l k
 unfold tok_escaped.f
 repeat' first
   | (with_reducible exact ih0 _ _)
   | (with_reducible exact tok_number.mono _ _)
   | (with_reducible exact LeO.refl _)
   | (with_reducible exact LeO.none _)
   | (with_reducible refine LeO.ite ?_ ?_)
   | (with_reducible refine LeO.bind ?_ (fun _ => ?_))
   | exact ih0 _ _
   | exact tok_number.mono _ _
   | exact LeO.none _
   | refine LeO.ite ?_ ?_
   | refine LeO.bind ?_ (fun _ => ?_)
set_option maxHeartbeats 8000000 in
set_option maxRecDepth 100000 in
theorem tok_escaped.calls (k : Nat) (a0 : ByteArray) (r1 : ByteArray) (r2 : Int) (w : World) (h : tok_escaped.f k a0 = some (r1, r2)) :
  Calls Tryz.prog 90 #[.string a0] w fun e w' => e = .returned (.tuple #[.string r1, .int .i64 r2]) ∧ Below w.heap.size w w' := by
 have HB := aM (Below.refl w.heap.size w)
 have H : ((tok_number.f k a0).bind fun bt199 => (if bt199.2 > 0 then (some (strOfNums (([bt199.1] : List Int)), bt199.2)) else (if a0.toList = ([] : List UInt8) then (some ((⟨#[]⟩ : ByteArray), 0)) else ((strings_HasPrefix.f a0 (⟨#[13, 10]⟩ : ByteArray)).bind fun t204 => (if t204 = true then (some ((⟨#[]⟩ : ByteArray), 2)) else (if 0 < (a0.size : Int) then (if (bt a0 0) = 10 then (tok_escaped.j0 k a0 true) else (tok_escaped.j0 k a0 ((bt a0 0) == 13))) else (none))))))) = some (r1, r2) := h
 clear h
 replace H := bS H
 obtain ⟨⟨t199, t200⟩, A2, H⟩ := H
 try dsimp only at H
 refine iNc H ?_ ?_<;>clear H<;>intro H c3
 ·have c3b0 : decide (0 < t200) = true := decide_eq_true c3
  clear c3
  obtain ⟨y201, hy201⟩ : ∃ y_ : List Int, y_ = (([t199] : List Int)) := ⟨_, rfl⟩
  replace H : (some (strOfNums y201, t200)) = some (r1, r2) := by first | (rw [hy201]; with_reducible exact H) | (have H2_ := (Option.bind_some _ _).symm.trans H; rw [hy201]; with_reducible exact H2_) | (have H2_ := (Option.bind_some _ _).symm.trans H; with_reducible exact H2_) | with_reducible exact H | (rw [hy201]; exact H) | exact H
  have Ny201 := aM hy201
  clear hy201
  simp only [Option.some.injEq, Prod.mk.injEq] at H
  obtain ⟨rfl, rfl⟩ := H
  go_enter Tryz.func90, Tryz.ntmps90
  go_wp2_with (first | ((with_reducible refine gC 113 ?_); refine gL (some 9) Tryz.func113 #[.string a0] ?_; (with_reducible refine (tok_number.calls k a0 t199 t200 _ A2.out).mono ?_); rintro e w' ⟨rfl, ⟨nd, rfl⟩⟩; refine ⟨_, rfl, ?_⟩) | ((with_reducible refine gD 15 ?_); refine Kd.R_lit (Kd.int .u8) _ 5 ?hg (N := 15) ?hd (xs := ([t199] : List Int)) (inner := [.int .u8 t199]) (ok := fun _ => True) (okp := fun _ => True) ?hr ?hp (fun _ hk => hk) trivial (Below.refl _ _) (Nat.le_refl _) (by simp) ?_; (case hd => rfl); (case hg => rfl); (case hr => first | (go_simp; done) | (go_simp; rfl)); (case hp => exact (Reps.one (show Kd.M (Kd.int .u8) _ _ _ t199 [.int .u8 t199] from rfl) (Reps.none _ _))); intro v202 w4 ho5 hb hg_ hnew_; clear hg_ hnew_; (first | rw [← Ny201.out] at ho5 | (simp only [Int.reduceToNat] at ho5; rw [← Ny201.out] at ho5)); have HO203 := lK ho5; replace HB := sB hb; clear hb ho5; have hcv6 := own_string (P := Tryz.prog) Tryz.underlying78 Tryz.underlying5 Tryz.underlying9 (Kd.own_of_R HO203.out)))
  go_ret2
  exact ⟨eQ, bQ⟩
 have c3b0 : decide (0 < t200) = false := decide_eq_false c3
 clear c3
 refine iEc H ?_ ?_<;>clear H<;>intro H c7b0 c7b1 c7
 ·clear c7
  simp only [Option.some.injEq, Prod.mk.injEq] at H
  obtain ⟨rfl, rfl⟩ := H
  go_enter Tryz.func90, Tryz.ntmps90
  go_wp2_with (first | ((with_reducible refine gC 113 ?_); refine gL (some 9) Tryz.func113 #[.string a0] ?_; (with_reducible refine (tok_number.calls k a0 t199 t200 _ A2.out).mono ?_); rintro e w' ⟨rfl, ⟨nd, rfl⟩⟩; refine ⟨_, rfl, ?_⟩))
  go_ret2
  exact ⟨eQ, bQ⟩
 replace H := bS H
 obtain ⟨t204, A8, H⟩ := H
 try dsimp only at H
 by_cases c9 : t204 = true
 ·subst c9
  rw [if_pos rfl] at H
  simp only [Option.some.injEq, Prod.mk.injEq] at H
  obtain ⟨rfl, rfl⟩ := H
  go_enter Tryz.func90, Tryz.ntmps90
  go_wp2_with (first | ((with_reducible refine gC 113 ?_); refine gL (some 9) Tryz.func113 #[.string a0] ?_; (with_reducible refine (tok_number.calls k a0 t199 t200 _ A2.out).mono ?_); rintro e w' ⟨rfl, ⟨nd, rfl⟩⟩; refine ⟨_, rfl, ?_⟩) | ((with_reducible refine gC 85 ?_); refine gL (some 23) Tryz.func85 #[.string a0, .string (⟨#[13, 10]⟩ : ByteArray)] ?_; (with_reducible refine (strings_HasPrefix.calls a0 (⟨#[13, 10]⟩ : ByteArray) true _ A8.out).mono ?_); rintro e w' ⟨rfl, ⟨nd, rfl⟩⟩; refine ⟨_, rfl, ?_⟩))
  go_ret2
  exact ⟨eQ, bQ⟩
 replace c9 := Bool.eq_false_iff.mpr c9
 subst c9
 rw [if_neg (show ¬ (false = true) by decide)] at H
 have HC10 := aM H
 clear H
 go_enter Tryz.func90, Tryz.ntmps90
 go_upto_region 8 with (first | ((with_reducible refine gC 113 ?_); refine gL (some 9) Tryz.func113 #[.string a0] ?_; (with_reducible refine (tok_number.calls k a0 t199 t200 _ A2.out).mono ?_); rintro e w' ⟨rfl, ⟨nd, rfl⟩⟩; refine ⟨_, rfl, ?_⟩) | ((with_reducible refine gC 85 ?_); refine gL (some 23) Tryz.func85 #[.string a0, .string (⟨#[13, 10]⟩ : ByteArray)] ?_; (with_reducible refine (strings_HasPrefix.calls a0 (⟨#[13, 10]⟩ : ByteArray) false _ A8.out).mono ?_); rintro e w' ⟨rfl, ⟨nd, rfl⟩⟩; refine ⟨_, rfl, ?_⟩))
 (try simp only [Act.put, List.setIfInBounds_toArray, List.set_cons_zero, List.set_cons_succ])
 go_cut [24] (fun v24 wc => ∃ (kq : Nat) (x24_9 : Bool), v24 = .bool x24_9 ∧ Aside0 (tok_escaped.j0 kq a0 x24_9 = some (r1, r2)) ∧ Aside0 (kq ≤ k) ∧ Aside0 (Below w.heap.size w wc))
 case first =>
  have H := HC10.out
  clear HC10
  refine iDc H ?_ ?_<;>clear H<;>intro H c11b0 c11
  rotate_left
  ·exact absurd H (by simp)
  have c11b1 : decide (0 < a0.size) = true := decide_eq_true (by omega)
  clear c11
  (first | rw [c11b0] | (simp only [i64_w, i32_w]; rw [c11b0]) | skip)
  refine iEc H ?_ ?_<;>clear H<;>intro H c13b0 c13b1 c13
  ·clear c13
   have H' := aM H
   clear H
   have p12 : 0 ≤ (0 : Int) := (by omega)
   have q12 : 0 < a0.size := (by have : (0 : Int) < (a0.size : Int) := of_decide_eq_true hQ; omega)
   have hx12 : ∀ h : 0 < a0.size, ((a0[0]'h).toNat : Int) = bt a0 0 := bt_at a0 0
   clear p12
   have qi12 : (0 < (a0.size : Int)) = True := eq_true (of_decide_eq_true hQ)
   replace q12 := eq_true q12
   go_wp2
   go_meet
   case rel => exact ⟨_, (true), vQ, H', ⟨by first | omega | exact Nat.le_refl _⟩, ⟨bQ⟩⟩
  have H' := aM H
  clear H
  have p12 : 0 ≤ (0 : Int) := (by omega)
  have q12 : 0 < a0.size := (by have : (0 : Int) < (a0.size : Int) := of_decide_eq_true hQ; omega)
  have hx12 : ∀ h : 0 < a0.size, ((a0[0]'h).toNat : Int) = bt a0 0 := bt_at a0 0
  clear p12
  have qi12 : (0 < (a0.size : Int)) = True := eq_true (of_decide_eq_true hQ)
  replace q12 := eq_true q12
  have p14 : 0 ≤ (0 : Int) := (by omega)
  have q14 : 0 < a0.size := (by have : (0 : Int) < (a0.size : Int) := of_decide_eq_true hQ; omega)
  have hx14 : ∀ h : 0 < a0.size, ((a0[0]'h).toNat : Int) = bt a0 0 := bt_at a0 0
  clear p14
  have qi14 : (0 < (a0.size : Int)) = True := eq_true (of_decide_eq_true hQ)
  replace q14 := eq_true q14
  go_wp2
  go_meet
  case rel => exact ⟨_, (((bt a0 0) == 13)), vQ, H', ⟨by first | omega | exact Nat.le_refl _⟩, ⟨bQ⟩⟩
 case rest =>
  clear HC10
  try clear c1
  try clear p1
  try clear q1
  try clear hx1
  try clear qi1
  try clear p2
  try clear c3
  try clear c3b0
  try clear hcv6
  try clear c7
  try clear c7b0
  try clear c7b1
  try clear c8
  try clear c9
  try clear c11
  try clear c11b0
  try clear c11b1
  try clear p12
  try clear q12
  try clear hx12
  try clear qi12
  try clear c13
  try clear c13b0
  try clear c13b1
  try clear p14
  try clear q14
  try clear hx14
  try clear qi14
  try clear p12
  try clear p14
  try clear q12
  try clear q14
  obtain ⟨kq, x24_9, rfl, HA, HJ9, HB⟩ := hcut
  cases kq with
  | zero => exact absurd HA.out (by simp [tok_escaped.j0])
  | succ kj9 =>
   have H := HA.out
   clear HA
   simp only [tok_escaped.j0] at H
   by_cases c15 : x24_9 = true
   ·subst c15
    rw [if_pos rfl] at H
    simp only [Option.some.injEq, Prod.mk.injEq] at H
    obtain ⟨rfl, rfl⟩ := H
    go_wp2
    go_ret2
    exact ⟨eQ, bQ⟩
   replace c15 := Bool.eq_false_iff.mpr c15
   subst c15
   rw [if_neg (show ¬ (false = true) by decide)] at H
   refine iDc H ?_ ?_<;>clear H<;>intro H c16b0 c16
   rotate_left
   ·exact absurd H (by simp)
   have c16b1 : decide (0 < a0.size) = true := decide_eq_true (by omega)
   clear c16
   replace H := bS H
   obtain ⟨t205, A18, H⟩ := H
   try dsimp only at H
   refine iNc H ?_ ?_<;>clear H<;>intro H c19
   rotate_left
   ·have c19b0 : decide (0 ≤ t205) = false := decide_eq_false c19
    clear c19
    refine iNc H ?_ ?_<;>clear H<;>intro H c23
    rotate_left
    ·exact absurd H (by simp)
    have c23b0 := eq_true c23
    have c23b1 : decide (0 ≤ 1) = true := decide_eq_true c23
    clear c23
    refine iNc H ?_ ?_<;>clear H<;>intro H c24
    rotate_left
    ·exact absurd H (by simp)
    have c24b0 := eq_true c24
    have c24b1 : decide (1 ≤ (a0.size : Int)) = true := decide_eq_true c24
    clear c24
    simp only [Option.some.injEq, Prod.mk.injEq] at H
    obtain ⟨rfl, rfl⟩ := H
    have p17 : 0 ≤ (0 : Int) := (by omega)
    have q17 : 0 < a0.size := (by have : (0 : Int) < (a0.size : Int) := of_decide_eq_true hQ; omega)
    have hx17 : ∀ h : 0 < a0.size, ((a0[0]'h).toNat : Int) = bt a0 0 := bt_at a0 0
    clear p17
    have qi17 : (0 < (a0.size : Int)) = True := eq_true (of_decide_eq_true hQ)
    replace q17 := eq_true q17
    go_wp2_with (first | ((with_reducible refine gC 82 ?_); refine gL (some 35) Tryz.func82 #[.string (⟨#[110, 114, 116, 98, 102]⟩ : ByteArray), .int .u8 (bt a0 0)] ?_; (with_reducible refine (strings_IndexByte.calls (⟨#[110, 114, 116, 98, 102]⟩ : ByteArray) (bt a0 0) t205 _ A18.out).mono ?_); rintro e w' ⟨rfl, ⟨nd, rfl⟩⟩; refine ⟨_, rfl, ?_⟩))
    go_ret2
    exact ⟨eQ, bQ⟩
   have c19b0 : decide (0 ≤ t205) = true := decide_eq_true c19
   clear c19
   refine iNc H ?_ ?_<;>clear H<;>intro H c20
   rotate_left
   ·exact absurd H (by simp)
   have c20b0 := eq_true c20
   have c20b1 : decide (0 ≤ t205) = true := decide_eq_true c20
   clear c20
   refine iNc H ?_ ?_<;>clear H<;>intro H c21
   rotate_left
   ·exact absurd H (by simp)
   have c21b0 := eq_true c21
   have c21b1 : decide (t205 ≤ (wrap64 (t205 + 1))) = true := decide_eq_true c21
   refine iNc H ?_ ?_<;>clear H<;>intro H c22
   rotate_left
   ·exact absurd H (by simp)
   have c22b0 := eq_true c22
   have c22b1 : decide ((wrap64 (t205 + 1)) ≤ 5) = true := decide_eq_true c22
   simp only [Option.some.injEq, Prod.mk.injEq] at H
   obtain ⟨rfl, rfl⟩ := H
   have p17 : 0 ≤ (0 : Int) := (by omega)
   have q17 : 0 < a0.size := (by have : (0 : Int) < (a0.size : Int) := of_decide_eq_true hQ; omega)
   have hx17 : ∀ h : 0 < a0.size, ((a0[0]'h).toNat : Int) = bt a0 0 := bt_at a0 0
   clear p17
   have qi17 : (0 < (a0.size : Int)) = True := eq_true (of_decide_eq_true hQ)
   replace q17 := eq_true q17
   go_wp2_with (first | ((with_reducible refine gC 82 ?_); refine gL (some 35) Tryz.func82 #[.string (⟨#[110, 114, 116, 98, 102]⟩ : ByteArray), .int .u8 (bt a0 0)] ?_; (with_reducible refine (strings_IndexByte.calls (⟨#[110, 114, 116, 98, 102]⟩ : ByteArray) (bt a0 0) t205 _ A18.out).mono ?_); rintro e w' ⟨rfl, ⟨nd, rfl⟩⟩; refine ⟨_, rfl, ?_⟩))
   go_ret2
   exact ⟨eQ, bQ⟩
def tok_line.f (a0 : ByteArray) : Option (Int) := (strings_HasPrefix.f a0 (⟨#[13, 10]⟩ : ByteArray)).bind fun t206 => (if t206 = true then (some 2) else ((strings_HasPrefix.f a0 (⟨#[13]⟩ : ByteArray)).bind fun t207 => (if t207 = true then (some 1) else (some 0))))
set_option maxHeartbeats 8000000 in
set_option maxRecDepth 100000 in
theorem tok_line.calls (a0 : ByteArray) (r : Int) (w : World) (h : tok_line.f a0 = some r) :
  Calls Tryz.prog 91 #[.string a0] w fun e w' => e = .returned (.int .i64 r) ∧ Drawn0 w w' := by
 have H : ((strings_HasPrefix.f a0 (⟨#[13, 10]⟩ : ByteArray)).bind fun t206 => (if t206 = true then (some 2) else ((strings_HasPrefix.f a0 (⟨#[13]⟩ : ByteArray)).bind fun t207 => (if t207 = true then (some 1) else (some 0))))) = some r := h
 clear h
 replace H := bS H
 obtain ⟨t206, A2, H⟩ := H
 try dsimp only at H
 by_cases c3 : t206 = true
 ·subst c3
  rw [if_pos rfl] at H
  obtain rfl := Option.some.inj H
  go_enter Tryz.func91, Tryz.ntmps91
  go_wp2_with (first | ((with_reducible refine gC 85 ?_); refine gL (some 5) Tryz.func85 #[.string a0, .string (⟨#[13, 10]⟩ : ByteArray)] ?_; (with_reducible refine (strings_HasPrefix.calls a0 (⟨#[13, 10]⟩ : ByteArray) true _ A2.out).mono ?_); rintro e w' ⟨rfl, ⟨nd, rfl⟩⟩; refine ⟨_, rfl, ?_⟩))
  go_ret
  exact ⟨by first | rfl | (simp; done) | (simp [*]; done), by repeat (first | exact Drawn0.refl _ | apply Drawn0.step)⟩
 replace c3 := Bool.eq_false_iff.mpr c3
 subst c3
 rw [if_neg (show ¬ (false = true) by decide)] at H
 replace H := bS H
 obtain ⟨t207, A4, H⟩ := H
 try dsimp only at H
 by_cases c5 : t207 = true
 ·subst c5
  rw [if_pos rfl] at H
  obtain rfl := Option.some.inj H
  go_enter Tryz.func91, Tryz.ntmps91
  go_wp2_with (first | ((with_reducible refine gC 85 ?_); refine gL (some 5) Tryz.func85 #[.string a0, .string (⟨#[13, 10]⟩ : ByteArray)] ?_; (with_reducible refine (strings_HasPrefix.calls a0 (⟨#[13, 10]⟩ : ByteArray) false _ A2.out).mono ?_); rintro e w' ⟨rfl, ⟨nd, rfl⟩⟩; refine ⟨_, rfl, ?_⟩) | ((with_reducible refine gC 85 ?_); refine gL (some 8) Tryz.func85 #[.string a0, .string (⟨#[13]⟩ : ByteArray)] ?_; (with_reducible refine (strings_HasPrefix.calls a0 (⟨#[13]⟩ : ByteArray) true _ A4.out).mono ?_); rintro e w' ⟨rfl, ⟨nd, rfl⟩⟩; refine ⟨_, rfl, ?_⟩))
  go_ret
  exact ⟨by first | rfl | (simp; done) | (simp [*]; done), by repeat (first | exact Drawn0.refl _ | apply Drawn0.step)⟩
 replace c5 := Bool.eq_false_iff.mpr c5
 subst c5
 rw [if_neg (show ¬ (false = true) by decide)] at H
 obtain rfl := Option.some.inj H
 go_enter Tryz.func91, Tryz.ntmps91
 go_wp2_with (first | ((with_reducible refine gC 85 ?_); refine gL (some 5) Tryz.func85 #[.string a0, .string (⟨#[13, 10]⟩ : ByteArray)] ?_; (with_reducible refine (strings_HasPrefix.calls a0 (⟨#[13, 10]⟩ : ByteArray) false _ A2.out).mono ?_); rintro e w' ⟨rfl, ⟨nd, rfl⟩⟩; refine ⟨_, rfl, ?_⟩) | ((with_reducible refine gC 85 ?_); refine gL (some 8) Tryz.func85 #[.string a0, .string (⟨#[13]⟩ : ByteArray)] ?_; (with_reducible refine (strings_HasPrefix.calls a0 (⟨#[13]⟩ : ByteArray) false _ A4.out).mono ?_); rintro e w' ⟨rfl, ⟨nd, rfl⟩⟩; refine ⟨_, rfl, ?_⟩))
 go_ret
 exact ⟨by first | rfl | (simp; done) | (simp [*]; done), by repeat (first | exact Drawn0.refl _ | apply Drawn0.step)⟩
end Go.Proofs.YtdcldaknmenklaaGreatDoor.M
end
section
namespace Go.Proofs.YtdcldaknmenklaaGreatDoor.M
open Go.RowKit Go.Proofs.YtdcldaknmenklaaGreatDoorW.PrintWords Go.Proofs.YtdcldaknmenklaaGreatDoorW.PrintLast
set_option linter.unusedVariables false
set_option linter.unusedSimpArgs false
abbrev TokR := Int × Int × Int × ByteArray × Int × Int
def deepOf (c deep : Int) : Int := if c = 41 then deep - 1 else if c = 40 then deep + 1 else deep
def tok_source_strung.g (K : Nat) (a0 : ByteArray) (a1 : Int) : Nat → List UInt8 → Int → Int → Option TokR
 | 0, _, _, _ => none
 | n + 1, out, deep, p =>
  if out.length ≤ 140737488351232 ∧ 0 ≤ p ∧ p ≤ 4611686018427387904 ∧ 1 ≤ deep ∧ deep ≤ 32 ∧ a0.size ≤ 140737488351232 then
   (tok_source_from.f a0 p).bind fun rest =>
   if rest.size = 0 then some (0, 0, 0, ⟨#[]⟩, a0.size, 2)
   else if bt rest 0 = 92 then
    (tok_escaped.f K (rest.extract 1 rest.size)).bind fun bn =>
    if bn.2 = 0 then some (0, 0, 0, ⟨#[]⟩, a0.size, 2)
    else if 0 < bn.2 ∧ bn.2 ≤ 4611686018427387900 ∧ out.length + bn.1.size ≤ 140737488351232 then tok_source_strung.g K a0 a1 n (out ++ bn.1.data.toList) deep (p + (1 + bn.2)) else none
   else if bt rest 0 = 41 ∧ deep = 1 then some (5, a1, 0, ⟨out.toArray⟩, p + 1, 0)
   else if bt rest 0 = 40 ∧ deep = 32 then some (0, 0, 0, ⟨#[]⟩, p, 5)
   else
    (tok_line.f rest).bind fun m =>
    if 0 < m ∧ m ≤ 2 then tok_source_strung.g K a0 a1 n (out ++ [10]) (deepOf (bt rest 0) deep) (p + m)
    else if m = 0 then tok_source_strung.g K a0 a1 n (out ++ [(bt rest 0).toNat.toUInt8]) (deepOf (bt rest 0) deep) (p + 1)
    else none
  else none
def tok_source_strung.f (K : Nat) (a0 : ByteArray) (a1 : Int) : Option TokR := if 0 ≤ a1 ∧ a1 ≤ 140737488351232 then tok_source_strung.g K a0 a1 K [] 1 (a1 + 1) else none
theorem tok_source_strung.mono_g (K : Nat) (a0 : ByteArray) (a1 : Int) : ∀ n out deep p, LeO (tok_source_strung.g K a0 a1 n out deep p) (tok_source_strung.g (K + 1) a0 a1 (n + 1) out deep p)
 | 0, _, _, _ => fun r h => by simp [tok_source_strung.g] at h
 | n + 1, out, deep, p => by
  have ih := tok_source_strung.mono_g K a0 a1 n
  unfold tok_source_strung.g
  repeat' first
   | (with_reducible exact ih _ _ _)
   | (with_reducible exact tok_escaped.mono _ _)
   | (with_reducible exact LeO.refl _)
   | (with_reducible exact LeO.none _)
   | (with_reducible refine LeO.ite ?_ ?_)
   | (with_reducible refine LeO.bind ?_ (fun _ => ?_))
theorem tok_source_strung.mono : ∀ a0 a1 k, LeO (tok_source_strung.f k a0 a1) (tok_source_strung.f (k + 1) a0 a1) := by
 intro a0 a1 k
 unfold tok_source_strung.f
 refine LeO.ite ?_ (LeO.none _)
 exact tok_source_strung.mono_g k a0 a1 k [] 1 (a1 + 1)
theorem from_lt {a0 rest : ByteArray} {p : Int} (h : tok_source_from.f a0 p = some rest) (hp : 0 ≤ p) (h0 : rest.size ≠ 0) : p < a0.size ∧ rest.size ≤ a0.size := by
 unfold tok_source_from.f at h
 split at h
 case isFalse => cases h
 split at h
 case isFalse => cases h
 obtain rfl := Option.some.inj h
 rw [ByteArray.size_extract] at h0 ⊢
 unfold mn at *
 split at h0 <;> omega
/-- A pass from the label holds at the first one too. -/
theorem wp_scope_once {P : Program} {a : Act} {w : World} {Q : Exit → Act → World → Prop} {c rest : Code} (l : Nat) (J : Act → World → Prop) (μ : Act → World → Nat) (hf : findLabel c l = some (Code.skip.seq rest))
  (pass : ∀ a w, J a w → rest.wp P (Exit.jump l (fun a' w' => J a' w' ∧ μ a' w' < μ a w) Q) a w)
  (first : Aside0 (∀ a w, J a w → rest.wp P (Exit.jump l J Q) a w) → c.wp P (Exit.jump l J Q) a w) : (Code.scope c).wp P Q a w := by
 refine wp_scope_jumps l J μ hf (first ⟨?_⟩) (fun a w hJ => wp_seq (wp_skip (pass a w hJ)))
 intro a w hJ b k cs
 obtain ⟨e, a', w', hq, ha⟩ := pass a w hJ b k cs
 refine ⟨e, a', w', ?_, ha⟩
 cases e <;> first | exact hq | exact ⟨hq.1, hq.2.1⟩
theorem strung_bt (rest : ByteArray) (h : rest.size ≠ 0) : ∃ c : UInt8, bt rest 0 = (c.toNat : Int) ∧ ∀ h : 0 < rest.size, rest[0]'h = c := by
 refine ⟨rest[0]'(by omega), ?_, fun _ => rfl⟩
 exact (bt_at rest 0 (by omega)).symm
def StrJ (K : Nat) (a0 : ByteArray) (a1 : Int) (R : TokR) (Z : Array Value) (w : World) (a' : Act) (w' : World) : Prop :=
 ∃ (n : Nat) (out : List UInt8) (deep p : Int) (u2 u3 u10 u11 u12 u13 u14 u15 u16 u17 u18 u19 u20 u21 u22 u23 u24 u25 u26 u27 u28 u29 u30 u31 u32 u33 u34 u35 u36 u37 u38 u39 u40 u41 u42 u43 u44 u45 u46 u47 u48 u49 u50 u51 u52 u53 u54 u55 u56 u57 u58 u59 u60 u61 u62 u63 u64 u65 u66 u67 u68 u69 u70 u71 u72 u73 u74 u75 u76 u77 u78 u79 u80 u81 u82 u83 u84 u85 u86 u87 u88 u89 u90 u91 u92 u93 : Value), a' = { tmps := #[.string a0, .int .i64 a1, u2, u3, .pointer (some ⟨w.heap.size, 0, none⟩), .int .i64 0, .int .i64 0, .pointer (some ⟨w.heap.size + 1, 0, none⟩), .int .i64 deep, .int .i64 p, u10, u11, u12, u13, u14, u15, u16, u17, u18, u19, u20, u21, u22, u23, u24, u25, u26, u27, u28, u29, u30, u31, u32, u33, u34, u35, u36, u37, u38, u39, u40, u41, u42, u43, u44, u45, u46, u47, u48, u49, u50, u51, u52, u53, u54, u55, u56, u57, u58, u59, u60, u61, u62, u63, u64, u65, u66, u67, u68, u69, u70, u71, u72, u73, u74, u75, u76, u77, u78, u79, u80, u81, u82, u83, u84, u85, u86, u87, u88, u89, u90, u91, u92, u93], defers := [] } ∧ Aside0 (tok_source_strung.g K a0 a1 n out deep p = some R) ∧ 0 ≤ p ∧ Aside0 (IsBd (w.heap.size + 1) (w.heap.size + 1) out w') ∧ Aside0 (Below w.heap.size w w') ∧ Aside0 (w'.heap[w.heap.size]? = some (.cells Z 65 (0, 0))) ∧ w.heap.size + 2 ≤ w'.heap.size
set_option maxHeartbeats 4000000 in
set_option maxRecDepth 1000000 in
theorem tok_source_strung.calls (k : Nat) (a0 : ByteArray) (a1 : Int) (r1 : Int) (r2 : Int) (r3 : Int) (r4 : ByteArray) (r5 : Int) (r6 : Int) (w : World) (h : tok_source_strung.f k a0 a1 = some (r1, r2, r3, r4, r5, r6)) :
  Calls Tryz.prog 55 #[.string a0, .int .i64 a1] w fun e w' => e = .returned (.tuple #[.agg #[.int .i64 r1, .int .i64 r2, .int .i64 r3, .string r4], .int .i64 r5, .int .i64 r6]) ∧ Below w.heap.size w w' := by
 unfold tok_source_strung.f at h
 split at h
 case isFalse => cases h
 rename_i hb
 obtain ⟨hb0, hb1⟩ := hb
 have H := Aside0.mk h
 clear h
 generalize hZ : (#[Value.int IntKind.i64 0, Value.int IntKind.i64 0, Value.int IntKind.i64 0, Value.string ⟨#[]⟩] : Array Value) = Z
 have hzs : Z.size = 4 := by rw [← hZ]; rfl
 have HZ := Aside0.mk hZ
 clear hZ
 go_enter Tryz.func55, Tryz.ntmps55
 go_wp2
 refine wp_scope_once 0 (StrJ k a0 a1 (r1, r2, r3, r4, r5, r6) Z w) (fun a' _ => a0.size + 1 - (intOf (a'.tmps.getD 9 undef)).toNat) rfl ?pass ?first
 case first =>
  intro hp
  go_wp2
  go_step3
  rename_i hK
  refine hK _ _ (hp.out _ _ ⟨k, [], 1, a1 + 1, _, _, _, _, _, _, _, _, _, _, _, _, _, _, _, _, _, _, _, _, _, _, _, _, _, _, _, _, _, _, _, _, _, _, _, _, _, _, _, _, _, _, _, _, _, _, _, _, _, _, _, _, _, _, _, _, _, _, _, _, _, _, _, _, _, _, _, _, _, _, _, _, _, _, _, _, _, _, _, _, _, _, _, _, _, _, rfl, H, by omega, ⟨?_⟩, ⟨?_⟩, ⟨?_⟩, ?_⟩)
  ·have h := Lib.IsBuilderF.of (Lib.fresh_isBuilder 80 5 (w.alloc (.cells #[.int .i64 0, .int .i64 0, .int .i64 0, .string ⟨#[]⟩] 65)))
   rw [show (w.alloc (.cells #[.int .i64 0, .int .i64 0, .int .i64 0, .string ⟨#[]⟩] 65)).heap.size = w.heap.size + 1 from Array.size_push ..] at h
   exact h
  ·exact below_alloc (below_alloc (Below.refl _ w) _) _
  ·rw [← HZ.out]
   show ((w.heap.push _).push _)[w.heap.size]? = _
   rw [Array.getElem?_push, if_neg (by rw [Array.size_push]; omega), Array.getElem?_push_size]
  ·simp
 case pass =>
  rintro a' w' ⟨n, out, deep, p, u2, u3, u10, u11, u12, u13, u14, u15, u16, u17, u18, u19, u20, u21, u22, u23, u24, u25, u26, u27, u28, u29, u30, u31, u32, u33, u34, u35, u36, u37, u38, u39, u40, u41, u42, u43, u44, u45, u46, u47, u48, u49, u50, u51, u52, u53, u54, u55, u56, u57, u58, u59, u60, u61, u62, u63, u64, u65, u66, u67, u68, u69, u70, u71, u72, u73, u74, u75, u76, u77, u78, u79, u80, u81, u82, u83, u84, u85, u86, u87, u88, u89, u90, u91, u92, u93, rfl, HG, hp0, HI, HB, HZ1, hs⟩
  cases n with
  | zero => exact absurd HG.out (by simp [tok_source_strung.g])
  | succ n =>
  have hg := HG.out
  clear HG
  rw [tok_source_strung.g] at hg
  split at hg
  case isFalse => cases hg
  rename_i hc
  obtain ⟨ho, -, hp2, hd1, hd2, ha0⟩ := hc
  obtain ⟨rest, hfrom, hg⟩ := Option.bind_eq_some_iff.1 hg
  have HF := Aside0.mk hfrom
  have HG := Aside0.mk hg
  have HLT := Aside0.mk (fun h => from_lt hfrom hp0 h)
  clear hfrom hg
  go_wp2_with fail
  with_reducible refine (tok_source_from.calls a0 p rest _ HF.out).mono ?_
  rintro e W1 ⟨rfl, hb⟩
  have HI1 := Aside0.mk (IsBd.below HI.out hb)
  have HZ2 : Aside0 (W1.heap[w.heap.size]? = some (.cells Z 65 (0, 0))) := ⟨(hb.block w.heap.size (by omega)).trans HZ1.out⟩
  have HB1 : Aside0 (Below w.heap.size w W1) := ⟨below_step HB.out hb⟩
  have hs1 : w.heap.size + 2 ≤ W1.heap.size := by have := hb.size; omega
  clear hb HZ1 HB HI
  have hg := HG.out
  clear HG
  by_cases h0 : rest.size = 0
  ·rw [if_pos h0] at hg
   have hr : rest = ⟨#[]⟩ := by
    apply ByteArray.ext
    exact Array.size_eq_zero_iff.1 h0
   subst hr
   simp only [Option.some.injEq, Prod.mk.injEq] at hg
   obtain ⟨rfl, rfl, rfl, rfl, rfl, rfl⟩ := hg
   clear h0 HLT HF
   go_wp2_with (refine wpList_store_row rfl 65 (.tmp 4) (.tmp 22) rfl w.heap.size #[.int .i64 0, .int .i64 0, .int .i64 0, .string ⟨#[]⟩] rfl rfl 65 _ HZ2.out tok_info (by rw [hzs]; rfl) (tok_one _ _ _ _) ?_)
   simp only [Exit.jump]
   refine bodyPost_ret (v := .tuple #[.agg #[.int .i64 0, .int .i64 0, .int .i64 0, .string ⟨#[]⟩], .int .i64 a0.size, .int .i64 2]) ?_ rfl ⟨rfl, below_setRow HB1.out (Nat.le_refl _) _⟩
   exact results_ctt (fn := Tryz.f55) (p := 4) (u := 5) (v := 6) (ty := 65) rfl _ _ w.heap.size 65 _ (0, 0) _ rfl (setRow_heap W1 w.heap.size _ _ 65 (0, 0) HZ2.out) Tryz.underlying65 rfl tok_info
  rw [if_neg h0] at hg
  obtain ⟨hlt, hrs⟩ := HLT.out h0
  obtain ⟨c, hbt, hc0⟩ := strung_bt rest h0
  rw [hbt] at hg
  have h00 : 0 < rest.size := by omega
  have hne : (rest.toList == ([] : List UInt8)) = false := by
   rw [beq_eq_false_iff_ne]
   intro e
   rw [toList_data] at e
   apply h0
   rw [size_list, e]
   rfl
  clear HLT HF hbt h0
  by_cases e92 : c = 92
  ·subst e92
   rw [if_pos (show (((92 : UInt8).toNat : Nat) : Int) = 92 from rfl)] at hg
   obtain ⟨⟨eb, en⟩, hesc, hg⟩ := Option.bind_eq_some_iff.1 hg
   dsimp only at hg
   have HE := Aside0.mk hesc
   have HG := Aside0.mk hg
   have h01 : 1 ≤ rest.size := by omega
   clear hesc hg
   go_wp2_with fail
   with_reducible refine (tok_escaped.calls k _ eb en _ HE.out).mono ?_
   rintro e W2 ⟨rfl, hb⟩
   have HI3 := Aside0.mk (IsBd.below HI1.out hb)
   have HZ3 : Aside0 (W2.heap[w.heap.size]? = some (.cells Z 65 (0, 0))) := ⟨(hb.block w.heap.size (by omega)).trans HZ2.out⟩
   have HB3 : Aside0 (Below w.heap.size w W2) := ⟨below_step HB1.out hb⟩
   have hs2 : w.heap.size + 2 ≤ W2.heap.size := by have := hb.size; omega
   clear hb HZ2 HB1 HI1 HE
   have hg := HG.out
   clear HG
   by_cases hn : en = 0
   ·subst hn
    rw [if_pos rfl] at hg
    simp only [Option.some.injEq, Prod.mk.injEq] at hg
    obtain ⟨rfl, rfl, rfl, rfl, rfl, rfl⟩ := hg
    go_wp2_with (refine wpList_store_row rfl 65 (.tmp 4) (.tmp 37) rfl w.heap.size #[.int .i64 0, .int .i64 0, .int .i64 0, .string ⟨#[]⟩] rfl rfl 65 _ HZ3.out tok_info (by rw [hzs]; rfl) (tok_one _ _ _ _) ?_)
    simp only [Exit.jump]
    refine bodyPost_ret (v := .tuple #[.agg #[.int .i64 0, .int .i64 0, .int .i64 0, .string ⟨#[]⟩], .int .i64 a0.size, .int .i64 2]) ?_ rfl ⟨rfl, below_setRow HB3.out (Nat.le_refl _) _⟩
    exact results_ctt (fn := Tryz.f55) (p := 4) (u := 5) (v := 6) (ty := 65) rfl _ _ w.heap.size 65 _ (0, 0) _ rfl (setRow_heap W2 w.heap.size _ _ 65 (0, 0) HZ3.out) Tryz.underlying65 rfl tok_info
   ·rw [if_neg hn] at hg
    split at hg
    case isFalse => cases hg
    rename_i hcn
    obtain ⟨hn0, hn1, hol⟩ := hcn
    have hen : (en == 0) = false := beq_eq_false_iff_ne.2 hn
    have HG := Aside0.mk hg
    have HOL := Aside0.mk hol
    clear hg hol
    go_wp2_with (go_at_call 42; refine (WriteString_k (w.heap.size + 1) (w.heap.size + 1) _ eb _ HI3.out ?c1 ?c2).mono ?_)
    case c1 => rw [Lib.byteCells_length]; have := HOL.out; omega
    case c2 => omega
    rintro e W3 ⟨rfl, h3, b3, -⟩
    have HI4 : Aside0 (IsBd (w.heap.size + 1) (w.heap.size + 1) (out ++ eb.data.toList) W3) := ⟨by rw [IsBd, Lib.byteCells_append]; exact .inr h3⟩
    have HZ4 : Aside0 (W3.heap[w.heap.size]? = some (.cells Z 65 (0, 0))) := ⟨(b3.block w.heap.size (by omega)).trans HZ3.out⟩
    have HB4 : Aside0 (Below w.heap.size w W3) := ⟨HB3.out.trans (b3.mono (by omega))⟩
    have hs3 : w.heap.size + 2 ≤ W3.heap.size := by have := b3.size; omega
    clear h3 b3 HZ3 HB3 HI3
    go_wp2
    go_step3
    refine ⟨rfl, ⟨n, _, deep, p + (1 + en), _, _, _, _, _, _, _, _, _, _, _, _, _, _, _, _, _, _, _, _, _, _, _, _, _, _, _, _, _, _, _, _, _, _, _, _, _, _, _, _, _, _, _, _, _, _, _, _, _, _, _, _, _, _, _, _, _, _, _, _, _, _, _, _, _, _, _, _, _, _, _, _, _, _, _, _, _, _, _, _, _, _, _, _, _, _, rfl, HG, by omega, HI4, HB4, HZ4, hs3⟩, ?_⟩
    simp [intOf]
    omega
  rw [if_neg (show ¬ (c.toNat : Int) = 92 from fun e => e92 (UInt8.toNat_inj.1 (by show c.toNat = 92; omega)))] at hg
  by_cases e41 : c = 41
  ·subst e41
   by_cases d1 : deep = 1
   ·subst d1
    rw [if_pos (show (((41 : UInt8).toNat : Nat) : Int) = 41 ∧ (1 : Int) = 1 from ⟨rfl, rfl⟩)] at hg
    simp only [Option.some.injEq, Prod.mk.injEq] at hg
    obtain ⟨rfl, rfl, rfl, rfl, rfl, rfl⟩ := hg
    go_wp2_with (go_at_call 43; refine (Tryz.Builder_String_any_k (w.heap.size + 1) (w.heap.size + 1) _ _ HI1.out ?c1).mono ?_)
    case c1 => omega
    rintro e W2 ⟨rfl, -, b2, -⟩
    have HZ3 : Aside0 (W2.heap[w.heap.size]? = some (.cells Z 65 (0, 0))) := ⟨(b2.block w.heap.size (by omega)).trans HZ2.out⟩
    have HB3 : Aside0 (Below w.heap.size w W2) := ⟨HB1.out.trans (b2.mono (by omega))⟩
    clear b2 HZ2 HB1 HI1
    go_wp2_with (refine wpList_store_row rfl 65 (.tmp 4) (.tmp 56) rfl w.heap.size #[.int .i64 5, .int .i64 a1, .int .i64 0, .string ⟨out.toArray⟩] rfl rfl 65 _ HZ3.out tok_info (by rw [hzs]; rfl) (tok_one _ _ _ _) ?_)
    simp only [Exit.jump]
    refine bodyPost_ret (v := .tuple #[.agg #[.int .i64 5, .int .i64 a1, .int .i64 0, .string ⟨out.toArray⟩], .int .i64 (p + 1), .int .i64 0]) ?_ rfl ⟨rfl, below_setRow HB3.out (Nat.le_refl _) _⟩
    exact results_ctt (fn := Tryz.f55) (p := 4) (u := 5) (v := 6) (ty := 65) rfl _ _ w.heap.size 65 _ (0, 0) _ rfl (setRow_heap W2 w.heap.size _ _ 65 (0, 0) HZ3.out) Tryz.underlying65 rfl tok_info
   ·rw [if_neg (fun e => d1 e.2), if_neg (show ¬ ((((41 : UInt8).toNat : Nat) : Int) = 40 ∧ deep = 32) from fun e => absurd e.1 (by decide)), show deepOf (((41 : UInt8).toNat : Nat) : Int) deep = deep - 1 from rfl, show (((41 : UInt8).toNat : Nat) : Int).toNat.toUInt8 = 41 from rfl] at hg
    have dd1 : (deep == 1) = false := beq_eq_false_iff_ne.2 d1
    obtain ⟨m, hln, hg⟩ := Option.bind_eq_some_iff.1 hg
    have HL := Aside0.mk hln
    have HG := Aside0.mk hg
    clear hln hg
    go_wp2_with fail
    with_reducible refine (tok_line.calls rest m _ HL.out).mono ?_
    rintro e W2 ⟨rfl, ⟨nd, rfl⟩⟩
    have HI3 : Aside0 (IsBd (w.heap.size + 1) (w.heap.size + 1) out (W1.drewN nd)) := HI1
    have HZ3 : Aside0 ((W1.drewN nd).heap[w.heap.size]? = some (.cells Z 65 (0, 0))) := HZ2
    have HB3 : Aside0 (Below w.heap.size w (W1.drewN nd)) := ⟨pw_below_drewN HB1.out nd⟩
    have hs2 : w.heap.size + 2 ≤ (W1.drewN nd).heap.size := hs1
    clear HZ2 HB1 HI1 hs1
    generalize W1.drewN nd = W2 at HI3 HZ3 HB3 hs2 ⊢
    have hg := HG.out
    clear HG
    split at hg
    ·rename_i hm
     have HG := Aside0.mk hg
     have hm2 : decide (0 < m) = true := decide_eq_true hm.1
     have hm0 := hm.1
     have hm1 := hm.2
     clear hg hm
     go_wp2_with (go_at_call 88; refine (WriteByte_k (w.heap.size + 1) (w.heap.size + 1) _ 10 _ HI3.out ?c1 ?c2).mono ?_)
     case c1 => rw [Lib.byteCells_length]; omega
     case c2 => omega
     rintro e W3 ⟨rfl, h3, b3, -⟩
     have HI4 : Aside0 (IsBd (w.heap.size + 1) (w.heap.size + 1) (out ++ [10]) W3) := ⟨by rw [IsBd, Lib.byteCells_append]; exact .inr h3⟩
     have HZ4 : Aside0 (W3.heap[w.heap.size]? = some (.cells Z 65 (0, 0))) := ⟨(b3.block w.heap.size (by omega)).trans HZ3.out⟩
     have HB4 : Aside0 (Below w.heap.size w W3) := ⟨HB3.out.trans (b3.mono (by omega))⟩
     have hs3 : w.heap.size + 2 ≤ W3.heap.size := by have := b3.size; omega
     clear h3 b3 HZ3 HB3 HI3
     go_wp2
     go_step3
     refine ⟨rfl, ⟨n, _, deep - 1, p + m, _, _, _, _, _, _, _, _, _, _, _, _, _, _, _, _, _, _, _, _, _, _, _, _, _, _, _, _, _, _, _, _, _, _, _, _, _, _, _, _, _, _, _, _, _, _, _, _, _, _, _, _, _, _, _, _, _, _, _, _, _, _, _, _, _, _, _, _, _, _, _, _, _, _, _, _, _, _, _, _, _, _, _, _, _, _, rfl, HG, by omega, HI4, HB4, HZ4, hs3⟩, ?_⟩
     simp [intOf]
     omega
    ·split at hg
     case isFalse => cases hg
     rename_i hm
     subst hm
     have HG := Aside0.mk hg
     clear hg
     go_wp2_with (go_at_call 88; refine (WriteByte_k (w.heap.size + 1) (w.heap.size + 1) _ 41 _ HI3.out ?c1 ?c2).mono ?_)
     case c1 => rw [Lib.byteCells_length]; omega
     case c2 => omega
     rintro e W3 ⟨rfl, h3, b3, -⟩
     have HI4 : Aside0 (IsBd (w.heap.size + 1) (w.heap.size + 1) (out ++ [41]) W3) := ⟨by rw [IsBd, Lib.byteCells_append]; exact .inr h3⟩
     have HZ4 : Aside0 (W3.heap[w.heap.size]? = some (.cells Z 65 (0, 0))) := ⟨(b3.block w.heap.size (by omega)).trans HZ3.out⟩
     have HB4 : Aside0 (Below w.heap.size w W3) := ⟨HB3.out.trans (b3.mono (by omega))⟩
     have hs3 : w.heap.size + 2 ≤ W3.heap.size := by have := b3.size; omega
     clear h3 b3 HZ3 HB3 HI3
     go_wp2
     go_step3
     refine ⟨rfl, ⟨n, _, deep - 1, p + 1, _, _, _, _, _, _, _, _, _, _, _, _, _, _, _, _, _, _, _, _, _, _, _, _, _, _, _, _, _, _, _, _, _, _, _, _, _, _, _, _, _, _, _, _, _, _, _, _, _, _, _, _, _, _, _, _, _, _, _, _, _, _, _, _, _, _, _, _, _, _, _, _, _, _, _, _, _, _, _, _, _, _, _, _, _, _, rfl, HG, by omega, HI4, HB4, HZ4, hs3⟩, ?_⟩
     simp [intOf]
     omega
  rw [if_neg (show ¬ ((c.toNat : Int) = 41 ∧ deep = 1) from fun e => e41 (UInt8.toNat_inj.1 (by show c.toNat = 41; omega)))] at hg
  by_cases e40 : c = 40
  ·subst e40
   by_cases d32 : deep = 32
   ·subst d32
    rw [if_pos (show (((40 : UInt8).toNat : Nat) : Int) = 40 ∧ (32 : Int) = 32 from ⟨rfl, rfl⟩)] at hg
    simp only [Option.some.injEq, Prod.mk.injEq] at hg
    obtain ⟨rfl, rfl, rfl, rfl, rfl, rfl⟩ := hg
    go_wp2_with (refine wpList_store_row rfl 65 (.tmp 4) (.tmp 73) rfl w.heap.size #[.int .i64 0, .int .i64 0, .int .i64 0, .string ⟨#[]⟩] rfl rfl 65 _ HZ2.out tok_info (by rw [hzs]; rfl) (tok_one _ _ _ _) ?_)
    simp only [Exit.jump]
    refine bodyPost_ret (v := .tuple #[.agg #[.int .i64 0, .int .i64 0, .int .i64 0, .string ⟨#[]⟩], .int .i64 p, .int .i64 5]) ?_ rfl ⟨rfl, below_setRow HB1.out (Nat.le_refl _) _⟩
    exact results_ctt (fn := Tryz.f55) (p := 4) (u := 5) (v := 6) (ty := 65) rfl _ _ w.heap.size 65 _ (0, 0) _ rfl (setRow_heap W1 w.heap.size _ _ 65 (0, 0) HZ2.out) Tryz.underlying65 rfl tok_info
   ·rw [if_neg (fun e => d32 e.2), show deepOf (((40 : UInt8).toNat : Nat) : Int) deep = deep + 1 from rfl, show (((40 : UInt8).toNat : Nat) : Int).toNat.toUInt8 = 40 from rfl] at hg
    have dd32 : (deep == 32) = false := beq_eq_false_iff_ne.2 d32
    obtain ⟨m, hln, hg⟩ := Option.bind_eq_some_iff.1 hg
    have HL := Aside0.mk hln
    have HG := Aside0.mk hg
    clear hln hg
    go_wp2_with fail
    with_reducible refine (tok_line.calls rest m _ HL.out).mono ?_
    rintro e W2 ⟨rfl, ⟨nd, rfl⟩⟩
    have HI3 : Aside0 (IsBd (w.heap.size + 1) (w.heap.size + 1) out (W1.drewN nd)) := HI1
    have HZ3 : Aside0 ((W1.drewN nd).heap[w.heap.size]? = some (.cells Z 65 (0, 0))) := HZ2
    have HB3 : Aside0 (Below w.heap.size w (W1.drewN nd)) := ⟨pw_below_drewN HB1.out nd⟩
    have hs2 : w.heap.size + 2 ≤ (W1.drewN nd).heap.size := hs1
    clear HZ2 HB1 HI1 hs1
    generalize W1.drewN nd = W2 at HI3 HZ3 HB3 hs2 ⊢
    have hg := HG.out
    clear HG
    split at hg
    ·rename_i hm
     have HG := Aside0.mk hg
     have hm2 : decide (0 < m) = true := decide_eq_true hm.1
     have hm0 := hm.1
     have hm1 := hm.2
     clear hg hm
     go_wp2_with (go_at_call 88; refine (WriteByte_k (w.heap.size + 1) (w.heap.size + 1) _ 10 _ HI3.out ?c1 ?c2).mono ?_)
     case c1 => rw [Lib.byteCells_length]; omega
     case c2 => omega
     rintro e W3 ⟨rfl, h3, b3, -⟩
     have HI4 : Aside0 (IsBd (w.heap.size + 1) (w.heap.size + 1) (out ++ [10]) W3) := ⟨by rw [IsBd, Lib.byteCells_append]; exact .inr h3⟩
     have HZ4 : Aside0 (W3.heap[w.heap.size]? = some (.cells Z 65 (0, 0))) := ⟨(b3.block w.heap.size (by omega)).trans HZ3.out⟩
     have HB4 : Aside0 (Below w.heap.size w W3) := ⟨HB3.out.trans (b3.mono (by omega))⟩
     have hs3 : w.heap.size + 2 ≤ W3.heap.size := by have := b3.size; omega
     clear h3 b3 HZ3 HB3 HI3
     go_wp2
     go_step3
     refine ⟨rfl, ⟨n, _, deep + 1, p + m, _, _, _, _, _, _, _, _, _, _, _, _, _, _, _, _, _, _, _, _, _, _, _, _, _, _, _, _, _, _, _, _, _, _, _, _, _, _, _, _, _, _, _, _, _, _, _, _, _, _, _, _, _, _, _, _, _, _, _, _, _, _, _, _, _, _, _, _, _, _, _, _, _, _, _, _, _, _, _, _, _, _, _, _, _, _, rfl, HG, by omega, HI4, HB4, HZ4, hs3⟩, ?_⟩
     simp [intOf]
     omega
    ·split at hg
     case isFalse => cases hg
     rename_i hm
     subst hm
     have HG := Aside0.mk hg
     clear hg
     go_wp2_with (go_at_call 88; refine (WriteByte_k (w.heap.size + 1) (w.heap.size + 1) _ 40 _ HI3.out ?c1 ?c2).mono ?_)
     case c1 => rw [Lib.byteCells_length]; omega
     case c2 => omega
     rintro e W3 ⟨rfl, h3, b3, -⟩
     have HI4 : Aside0 (IsBd (w.heap.size + 1) (w.heap.size + 1) (out ++ [40]) W3) := ⟨by rw [IsBd, Lib.byteCells_append]; exact .inr h3⟩
     have HZ4 : Aside0 (W3.heap[w.heap.size]? = some (.cells Z 65 (0, 0))) := ⟨(b3.block w.heap.size (by omega)).trans HZ3.out⟩
     have HB4 : Aside0 (Below w.heap.size w W3) := ⟨HB3.out.trans (b3.mono (by omega))⟩
     have hs3 : w.heap.size + 2 ≤ W3.heap.size := by have := b3.size; omega
     clear h3 b3 HZ3 HB3 HI3
     go_wp2
     go_step3
     refine ⟨rfl, ⟨n, _, deep + 1, p + 1, _, _, _, _, _, _, _, _, _, _, _, _, _, _, _, _, _, _, _, _, _, _, _, _, _, _, _, _, _, _, _, _, _, _, _, _, _, _, _, _, _, _, _, _, _, _, _, _, _, _, _, _, _, _, _, _, _, _, _, _, _, _, _, _, _, _, _, _, _, _, _, _, _, _, _, _, _, _, _, _, _, _, _, _, _, _, rfl, HG, by omega, HI4, HB4, HZ4, hs3⟩, ?_⟩
     simp [intOf]
     omega
  rw [if_neg (show ¬ ((c.toNat : Int) = 40 ∧ deep = 32) from fun e => e40 (UInt8.toNat_inj.1 (by show c.toNat = 40; omega)))] at hg
  have n92 : (c.toNat : Int) ≠ 92 := fun e => e92 (UInt8.toNat_inj.1 (by show c.toNat = 92; omega))
  have n41 : (c.toNat : Int) ≠ 41 := fun e => e41 (UInt8.toNat_inj.1 (by show c.toNat = 41; omega))
  have n40 : (c.toNat : Int) ≠ 40 := fun e => e40 (UInt8.toNat_inj.1 (by show c.toNat = 40; omega))
  rw [show deepOf (c.toNat : Int) deep = deep from by unfold deepOf; rw [if_neg n41, if_neg n40], show (c.toNat : Int).toNat.toUInt8 = c from by rw [Int.toNat_natCast]; exact UInt8.ofNat_toNat] at hg
  replace n92 : ((c.toNat : Int) == 92) = false := beq_eq_false_iff_ne.2 n92
  replace n41 : ((c.toNat : Int) == 41) = false := beq_eq_false_iff_ne.2 n41
  replace n40 : ((c.toNat : Int) == 40) = false := beq_eq_false_iff_ne.2 n40
  have h256 := c.toNat_lt
  clear e92 e41 e40
  obtain ⟨m, hln, hg⟩ := Option.bind_eq_some_iff.1 hg
  have HL := Aside0.mk hln
  have HG := Aside0.mk hg
  clear hln hg
  go_wp2_with fail
  with_reducible refine (tok_line.calls rest m _ HL.out).mono ?_
  rintro e W2 ⟨rfl, ⟨nd, rfl⟩⟩
  have HI3 : Aside0 (IsBd (w.heap.size + 1) (w.heap.size + 1) out (W1.drewN nd)) := HI1
  have HZ3 : Aside0 ((W1.drewN nd).heap[w.heap.size]? = some (.cells Z 65 (0, 0))) := HZ2
  have HB3 : Aside0 (Below w.heap.size w (W1.drewN nd)) := ⟨pw_below_drewN HB1.out nd⟩
  have hs2 : w.heap.size + 2 ≤ (W1.drewN nd).heap.size := hs1
  clear HZ2 HB1 HI1 hs1
  generalize W1.drewN nd = W2 at HI3 HZ3 HB3 hs2 ⊢
  have hg := HG.out
  clear HG
  split at hg
  ·rename_i hm
   have HG := Aside0.mk hg
   have hm2 : decide (0 < m) = true := decide_eq_true hm.1
   have hm0 := hm.1
   have hm1 := hm.2
   clear hg hm
   go_wp2_with (go_at_call 88; refine (WriteByte_k (w.heap.size + 1) (w.heap.size + 1) _ 10 _ HI3.out ?c1 ?c2).mono ?_)
   case c1 => rw [Lib.byteCells_length]; omega
   case c2 => omega
   rintro e W3 ⟨rfl, h3, b3, -⟩
   have HI4 : Aside0 (IsBd (w.heap.size + 1) (w.heap.size + 1) (out ++ [10]) W3) := ⟨by rw [IsBd, Lib.byteCells_append]; exact .inr h3⟩
   have HZ4 : Aside0 (W3.heap[w.heap.size]? = some (.cells Z 65 (0, 0))) := ⟨(b3.block w.heap.size (by omega)).trans HZ3.out⟩
   have HB4 : Aside0 (Below w.heap.size w W3) := ⟨HB3.out.trans (b3.mono (by omega))⟩
   have hs3 : w.heap.size + 2 ≤ W3.heap.size := by have := b3.size; omega
   clear h3 b3 HZ3 HB3 HI3
   go_wp2
   go_step3
   refine ⟨rfl, ⟨n, _, deep, p + m, _, _, _, _, _, _, _, _, _, _, _, _, _, _, _, _, _, _, _, _, _, _, _, _, _, _, _, _, _, _, _, _, _, _, _, _, _, _, _, _, _, _, _, _, _, _, _, _, _, _, _, _, _, _, _, _, _, _, _, _, _, _, _, _, _, _, _, _, _, _, _, _, _, _, _, _, _, _, _, _, _, _, _, _, _, _, rfl, HG, by omega, HI4, HB4, HZ4, hs3⟩, ?_⟩
   simp [intOf]
   omega
  ·split at hg
   case isFalse => cases hg
   rename_i hm
   subst hm
   have HG := Aside0.mk hg
   clear hg
   go_wp2_with (go_at_call 88; refine (WriteByte_k (w.heap.size + 1) (w.heap.size + 1) _ (c.toNat : Int) _ HI3.out ?c1 ?c2).mono ?_)
   case c1 => rw [Lib.byteCells_length]; omega
   case c2 => omega
   rintro e W3 ⟨rfl, h3, b3, -⟩
   have HI4 : Aside0 (IsBd (w.heap.size + 1) (w.heap.size + 1) (out ++ [c]) W3) := ⟨by rw [IsBd, Lib.byteCells_append]; exact .inr h3⟩
   have HZ4 : Aside0 (W3.heap[w.heap.size]? = some (.cells Z 65 (0, 0))) := ⟨(b3.block w.heap.size (by omega)).trans HZ3.out⟩
   have HB4 : Aside0 (Below w.heap.size w W3) := ⟨HB3.out.trans (b3.mono (by omega))⟩
   have hs3 : w.heap.size + 2 ≤ W3.heap.size := by have := b3.size; omega
   clear h3 b3 HZ3 HB3 HI3
   go_wp2
   go_step3
   refine ⟨rfl, ⟨n, _, deep, p + 1, _, _, _, _, _, _, _, _, _, _, _, _, _, _, _, _, _, _, _, _, _, _, _, _, _, _, _, _, _, _, _, _, _, _, _, _, _, _, _, _, _, _, _, _, _, _, _, _, _, _, _, _, _, _, _, _, _, _, _, _, _, _, _, _, _, _, _, _, _, _, _, _, _, _, _, _, _, _, _, _, _, _, _, _, _, _, rfl, HG, by omega, HI4, HB4, HZ4, hs3⟩, ?_⟩
   simp [intOf]
   omega
end Go.Proofs.YtdcldaknmenklaaGreatDoor.M
end
section
namespace Go.Proofs.YtdcldaknmenklaaGreatDoor.M
open Go.RowKit Go.Extern.Stop Go.Stop Go.Extern Go.Extern.Rtype Go.Proofs.YtdcldaknmenklaaGreatDoorW.PrintWords
set_option linter.unusedVariables false
theorem isTypeOf (v : Value) (w : World) : (Extern.ReflectliteType.typeOf #[.iface 212 v]).run Tryz.prog w = .ok (.iface 195 (.agg #[.pointer (some ⟨11, 212, none⟩)])) w := by kernel_rfl
theorem isComparable (w : World) : ((Extern.ReflectliteType.method fun t => do noPackHeld "Comparable" t; (fun a => Value.bool a.comparable) <$> typeInfo t) #[.agg #[.pointer (some ⟨11, 212, none⟩)]]).run Tryz.prog w = .ok (.bool true) w := by kernel_rfl
theorem isMethodComparable (v : Value) (w : World) : (Go.method 352 195 v "Comparable").run Tryz.prog w = .ok (197, v) w := by kernel_rfl
theorem isComp : (Tryz.prog.info? 212).map (·.comparable) = some true := by kernel_rfl
theorem isSize : (Tryz.prog.info? 214).map (·.size) = some 1 := by kernel_rfl
theorem noIsE (v : Value) (xT : TypeId) (w : World) : (Instr.typeAssert (.iface 212 v) xT 197 true).run Tryz.prog w = .ok (.tuple #[.nilIface, .bool false]) w := run_typeAssert_lacksB Tryz.underlying197 (by kernel_rfl) (by kernel_rfl) v xT w
theorem noIsW (v : Value) (xT : TypeId) (w : World) : (Instr.typeAssert (.iface 156 v) xT 197 true).run Tryz.prog w = .ok (.tuple #[.nilIface, .bool false]) w := run_typeAssert_lacksB Tryz.underlying197 (by kernel_rfl) (by kernel_rfl) v xT w
theorem hasUnwrapW (v : Value) (xT : TypeId) (w : World) : (Instr.typeAssert (.iface 156 v) xT 200 true).run Tryz.prog w = .ok (.tuple #[.iface 156 v, .bool true]) w := run_typeAssert_hasB Tryz.underlying200 (by kernel_rfl) v xT w
theorem methodUnwrap (v : Value) (w : World) : (Go.method 352 156 v "Unwrap").run Tryz.prog w = .ok (193, v) w := by kernel_rfl
theorem is_nil (b : Addr) (w : World) :
  Calls Tryz.prog 116 #[.nilIface, .iface 212 (.pointer (some b))] w fun e w' => e = .returned (.bool false) ∧ w' = w := by
 have hn := run_eql_iface_nil_left (P := Tryz.prog) w 212 (.pointer (some b)) Tryz.underlying83
 go_enter Tryz.func116, Tryz.ntmps116
 go_wp2
 go_ret
 exact ⟨rfl, rfl⟩
set_option maxHeartbeats 1000000 in
set_option maxRecDepth 1000000 in
theorem is_wrap_same (pb : Nat) (b : Addr) (w : World) (h1 : w.cell? ⟨pb, 2, none⟩ = some (.iface 212 (.pointer (some b)))) :
  Calls Tryz.prog 116 #[.iface 156 (.pointer (some ⟨pb, 0, none⟩)), .iface 212 (.pointer (some b))] w fun e w' => e = .returned (.bool true) ∧ w' = w := by
 obtain ⟨i, hi, hcmp⟩ := Option.map_eq_some_iff.1 isComp
 obtain ⟨j, hj, hjs⟩ := Option.map_eq_some_iff.1 isSize
 have h8 := @run_callFunc_extern Tryz.prog 137 _ Extern.ReflectliteType.typeOf Tryz.func137 (by kernel_rfl) (by kernel_rfl) (by kernel_rfl) (by kernel_rfl)
 have h32 := @run_callFunc_extern Tryz.prog 197 _ (Extern.ReflectliteType.method fun t => do noPackHeld "Comparable" t; pure (.bool (← typeInfo t).comparable)) Tryz.func197 (by kernel_rfl) (by kernel_rfl) (by kernel_rfl) (by kernel_rfl)
 have tT := isTypeOf
 have cT := isComparable
 have mR := isMethodComparable
 have nE := noIsE
 have nW := noIsW
 have uW := hasUnwrapW
 have mU := methodUnwrap
 have heq := run_eql_iface_ptr_same (P := Tryz.prog) w b Tryz.underlying83 Tryz.underlying212 hi hcmp hj
 have hty := run_eql_iface_types (P := Tryz.prog) 156 212 (.pointer (some ⟨pb, 0, none⟩)) (.pointer (some b)) Tryz.underlying83 (by decide) w
 go_enter Tryz.func116, Tryz.ntmps116
 go_wp2
 refine wp_loop_rounds 2 ?_
 rw [rounds_succ]
 go_wp2
 rw [rounds_succ]
 go_wp2
 go_ret
 exact ⟨rfl, rfl⟩
end Go.Proofs.YtdcldaknmenklaaGreatDoor.M
end
section
namespace Go.Proofs.YtdcldaknmenklaaGreatDoor.M
open Go.RowKit Go.Proofs.YtdcldaknmenklaaGreatDoorW.PrintWords
set_option linter.unusedVariables false
/-- A text's number, and the error's number: 3 no number, 4 too great. -/
def lexInt (l : List UInt8) : Int × Int := if wholeB l then (match Lib.parseIntB 32 l with | .ok v => (v, 0) | _ => (0, 4)) else (0, 3)
def lex_Int.f (a0 : ByteArray) : Option (Int × Int) := if a0.size ≤ 281474976710656 then some (lexInt a0.data.toList) else none
/-- Neither a number nor one that is too great. -/
def badNum {α : Type} : Lib.NumEnd α → Bool
 | .ok _ => false
 | .range => false
 | _ => true
theorem parseUintM_digits (M : Nat) : ∀ (l : List UInt8) (acc : Nat), l.all isDigB = true → badNum (Lib.parseUintM M acc l) = false
 | [], acc, _ => by simp [Lib.parseUintM, badNum]
 | c :: r, acc, h => by
  simp only [List.all_cons, Bool.and_eq_true, isDigB, decide_eq_true_eq] at h
  unfold Lib.parseUintM
  rw [if_pos ⟨h.1.1, h.1.2⟩]
  split
  ·rfl
  ·split
   ·rfl
   ·exact parseUintM_digits M r _ h.2
theorem parse_whole (l : List UInt8) (h : wholeB l = true) : badNum (Lib.parseIntB 32 l) = false := by
 match l with
 | [] => simp [wholeB, unsign] at h
 | c :: r =>
  have key : ∀ ds : List UInt8, ds ≠ [] → ds.all isDigB = true → badNum (Lib.parseUintB 32 ds) = false := by
   intro ds h1 h2
   unfold Lib.parseUintB
   rw [if_neg h1]
   exact parseUintM_digits _ _ _ h2
  have hu : (if c.toNat = 43 ∨ c.toNat = 45 then r else c :: r) = unsign (c :: r) := by
   have e1 : (c == 43) = decide (c.toNat = 43) := by rw [Bool.eq_iff_iff, beq_iff_eq, decide_eq_true_eq, ← UInt8.toNat_inj]; rfl
   have e2 : (c == 45) = decide (c.toNat = 45) := by rw [Bool.eq_iff_iff, beq_iff_eq, decide_eq_true_eq, ← UInt8.toNat_inj]; rfl
   simp [unsign, e1, e2]
  simp only [wholeB, Bool.and_eq_true, Bool.not_eq_true', List.isEmpty_eq_false_iff] at h
  have hk := key _ h.1 h.2
  unfold Lib.parseIntB
  simp only
  rw [hu]
  cases hp : Lib.parseUintB 32 (unsign (c :: r)) with
  | ok u =>
   simp only
   split
   ·rfl
   ·split
    ·rfl
    ·split <;> rfl
  | range => rfl
  | _ => rw [hp] at hk; exact absurd hk (by decide)
set_option maxHeartbeats 1000000 in
set_option maxRecDepth 1000000 in
theorem lex_Int.calls (a0 : ByteArray) (r1 r2 : Int) (w : World) (hG : GW w) (h : lex_Int.f a0 = some (r1, r2)) :
  Calls Tryz.prog 92 #[.string a0] w fun e w' => e = .returned (.tuple #[.int .i64 r1, .int .i64 r2]) ∧ Below w.heap.size w w' := by
 unfold lex_Int.f at h
 split at h
 case isFalse => cases h
 rename_i hl
 have he := Option.some.inj h
 clear h
 have hwh := whole_eq a0 (by omega)
 have HG := Aside0.mk hG
 clear hG
 unfold lexInt at he
 cases hb : wholeB a0.data.toList with
 | false =>
  rw [hb] at he hwh
  obtain ⟨rfl, rfl⟩ : 0 = r1 ∧ 3 = r2 := by simpa using he
  have HW := Aside0.mk hwh
  clear hwh he hb
  go_enter Tryz.func92, Tryz.ntmps92
  go_wp2_with (go_at_call 114; with_reducible refine (lex_whole.calls _ _ _ HW.out).mono ?_)
  rintro e w1 ⟨rfl, b1⟩
  go_wp2
  go_ret2
  exact ⟨rfl, b1⟩
 | true =>
  rw [hb] at he hwh
  have hns := parse_whole _ hb
  have HW := Aside0.mk hwh
  simp only [if_true] at he
  cases hp : Lib.parseIntB 32 a0.data.toList with
  | ok v =>
   rw [hp] at he
   obtain ⟨rfl, rfl⟩ : v = r1 ∧ 0 = r2 := by simpa using he
   have HP := Aside0.mk hp
   clear hwh he hb hp hns
   go_enter Tryz.func92, Tryz.ntmps92
   go_wp2_with (go_at_call 114; with_reducible refine (lex_whole.calls _ _ _ HW.out).mono ?_)
   rintro e w1 ⟨rfl, b1⟩
   go_wp2_with (go_at_call 115; with_reducible refine (Tryz.strconv_ParseInt_10_at32_ok _ (by omega) _ HP.out _).mono ?_)
   rintro e w2 ⟨rfl, hw2⟩
   have b2 : Below w.heap.size w w2 := by
    rcases hw2 with rfl | ⟨t, rfl⟩
    ·exact b1
    ·exact below_then b1 b1.size (Lib.bytesWorld_below _ _ _)
   clear hw2
   obtain ⟨a, ha⟩ := (GW.below b2 HG.out).range
   go_wp2_with (go_at_call 116; with_reducible refine (is_nil _ _).mono ?_)
   rintro e w3 ⟨rfl, rfl⟩
   go_wp2
   go_ret2
   exact ⟨rfl, b2⟩
  | range =>
   rw [hp] at he
   obtain ⟨rfl, rfl⟩ : 0 = r1 ∧ 4 = r2 := by simpa using he
   have HP := Aside0.mk hp
   clear hwh he hb hp hns
   go_enter Tryz.func92, Tryz.ntmps92
   go_wp2_with (go_at_call 114; with_reducible refine (lex_whole.calls _ _ _ HW.out).mono ?_)
   rintro e w1 ⟨rfl, b1⟩
   obtain ⟨a, ha⟩ := (GW.below b1 HG.out).range
   have HA := Aside0.mk ha
   clear ha
   go_wp2_with (go_at_call 115; with_reducible refine (Tryz.strconv_ParseInt_10_at32_range _ (by omega) HP.out _ _ HA.out (.inr ⟨_, _, rfl⟩)).mono ?_)
   rintro e w2 ⟨N, rfl, hN, hN2, b2⟩
   have ha2 := pw_cell_below b2 HA.out
   have hc2 : w2.cell? ⟨N, 2, none⟩ = some (.iface 212 (.pointer (some a))) := by rw [Lib.cell_of_heap hN2]; rfl
   replace b1 := below_then b1 b1.size b2
   clear hN hN2 b2
   go_wp2_with (go_at_call 116; with_reducible refine (is_wrap_same _ _ _ hc2).mono ?_)
   rintro e w3 ⟨rfl, rfl⟩
   go_wp2
   go_ret2
   exact ⟨rfl, b1⟩
  | _ => rw [hp] at hns; exact absurd hns (by decide)
end Go.Proofs.YtdcldaknmenklaaGreatDoor.M
end
section
namespace Go.Proofs.YtdcldaknmenklaaGreatDoor.M
open Go.RowKit Go.Proofs.YtdcldaknmenklaaGreatDoorW.PrintWords Go.Proofs.YtdcldaknmenklaaGreatDoorW.PrintLast Go.Proofs.YtdcldaknmenklaaGreatDoorW.PrintMore
attribute [local go_sem] max2_int min2_int max_two min_two max_three min_three max_four min_four
set_option linter.unusedVariables false
set_option linter.unusedSimpArgs false
def tok_source_worded.f (k : Nat) (a0 : ByteArray) (a1 : Int) : Option (Int × Int × Int × ByteArray × Int × Int) := (lex_Word.f k a0 a1).bind fun bt212 => ((lex_Int.f bt212.1).bind fun bt214 => (if bt214.2 = 0 then (some (1, a1, bt214.1, (⟨#[]⟩ : ByteArray), bt212.2, 0)) else (if bt214.2 = 3 then (some (3, a1, 0, bt212.1, bt212.2, 0)) else (some (0, 0, 0, (⟨#[]⟩ : ByteArray), a1, bt214.2)))))
theorem tok_source_worded.mono : ∀ a0 a1 k, LeO (tok_source_worded.f k a0 a1) (tok_source_worded.f (k + 1) a0 a1) := by
 intro a0 a1 k
 unfold tok_source_worded.f
 repeat' first
   | (with_reducible exact lex_Word.mono _ _ _)
   | (with_reducible exact LeO.refl _)
   | (with_reducible exact LeO.none _)
   | (with_reducible refine LeO.ite ?_ ?_)
   | (with_reducible refine LeO.bind ?_ (fun _ => ?_))
   | exact lex_Word.mono _ _ _
   | exact LeO.none _
   | refine LeO.ite ?_ ?_
   | refine LeO.bind ?_ (fun _ => ?_)
set_option maxHeartbeats 8000000 in
set_option maxRecDepth 100000 in
theorem tok_source_worded.calls (k : Nat) (a0 : ByteArray) (a1 : Int) (r1 : Int) (r2 : Int) (r3 : Int) (r4 : ByteArray) (r5 : Int) (r6 : Int) (w : World) (hG : GW w) (h : tok_source_worded.f k a0 a1 = some (r1, r2, r3, r4, r5, r6)) :
  Calls Tryz.prog 56 #[.string a0, .int .i64 a1] w fun e w' => e = .returned (.tuple #[.agg #[.int .i64 r1, .int .i64 r2, .int .i64 r3, .string r4], .int .i64 r5, .int .i64 r6]) ∧ Below w.heap.size w w' := by
 have hu65 := Tryz.underlying65
 have HG := aM hG
 clear hG
 have HB := aM (Below.refl w.heap.size w)
 have H : ((lex_Word.f k a0 a1).bind fun bt212 => ((lex_Int.f bt212.1).bind fun bt214 => (if bt214.2 = 0 then (some (1, a1, bt214.1, (⟨#[]⟩ : ByteArray), bt212.2, 0)) else (if bt214.2 = 3 then (some (3, a1, 0, bt212.1, bt212.2, 0)) else (some (0, 0, 0, (⟨#[]⟩ : ByteArray), a1, bt214.2)))))) = some (r1, r2, r3, r4, r5, r6) := h
 clear h
 replace H := bS H
 obtain ⟨⟨t212, t213⟩, A3, H⟩ := H
 try dsimp only at H
 replace H := bS H
 obtain ⟨⟨t214, t215⟩, A4, H⟩ := H
 try dsimp only at H
 refine iEc H ?_ ?_<;>clear H<;>intro H c5b0 c5b1 c5
 ·clear c5
  simp only [Option.some.injEq, Prod.mk.injEq] at H
  obtain ⟨rfl, rfl, rfl, rfl, rfl, rfl⟩ := H
  go_enter Tryz.func56, Tryz.ntmps56
  go_wp2_with (first | ((with_reducible refine gD 4 ?_); refine bE 4 (cs := #[.int .i64 0, .int .i64 0, .int .i64 0, .string (⟨#[]⟩ : ByteArray)]) (t := 65) ?_; intro gb211 hg w6 hbox hb; have BK211 := aM hbox; have GW211 := sG w hg; have GE211 := sG w hg; replace HB := sB hb; clear hb hbox hg) | ((with_reducible refine gC 52 ?_); refine gL (some 14) Tryz.func52 #[.string a0, .int .i64 a1] ?_; (with_reducible refine cB (lex_Word.calls k a0 a1 t212 t213 _ A3.out) ?_); intro w7 hb; replace BK211 := kK BK211 hb; replace HB := sB hb; clear hb) | ((with_reducible refine gC 92 ?_); refine gL (some 19) Tryz.func92 #[.string t212] ?_; (with_reducible refine cB (lex_Int.calls t212 t214 t215 _ ?side1 A4.out) ?_); (case side1 => exact gQ HG.out); intro w8 hb; replace BK211 := kK BK211 hb; replace HB := sB hb; clear hb; obtain ⟨hcz9_0, hcz9_1, hcz9_2, hcz9_3, hfz9_0, hfz9_1, hfz9_2, hfz9_3⟩ := b4 BK211))
  refine bodyPost_ret (results_ctt rfl _ _ gb211 65 #[.int .i64 1, .int .i64 a1, .int .i64 t214, .string (⟨#[]⟩ : ByteArray)] (0, 0) _ rfl kQ Tryz.underlying65 rfl (by kernel_rfl)) rfl ?_
  exact ⟨eQ, bQ⟩
 refine iEc H ?_ ?_<;>clear H<;>intro H c10b0 c10b1 c10
 rotate_left
 ·simp only [Option.some.injEq, Prod.mk.injEq] at H
  obtain ⟨rfl, rfl, rfl, rfl, rfl, rfl⟩ := H
  go_enter Tryz.func56, Tryz.ntmps56
  go_wp2_with (first | ((with_reducible refine gD 4 ?_); refine bE 4 (cs := #[.int .i64 0, .int .i64 0, .int .i64 0, .string (⟨#[]⟩ : ByteArray)]) (t := 65) ?_; intro gb211 hg w15 hbox hb; have BK211 := aM hbox; have GW211 := sG w hg; have GE211 := sG w hg; replace HB := sB hb; clear hb hbox hg) | ((with_reducible refine gC 52 ?_); refine gL (some 14) Tryz.func52 #[.string a0, .int .i64 a1] ?_; (with_reducible refine cB (lex_Word.calls k a0 a1 t212 t213 _ A3.out) ?_); intro w16 hb; replace BK211 := kK BK211 hb; replace HB := sB hb; clear hb) | ((with_reducible refine gC 92 ?_); refine gL (some 19) Tryz.func92 #[.string t212] ?_; (with_reducible refine cB (lex_Int.calls t212 t214 t215 _ ?side1 A4.out) ?_); (case side1 => exact gQ HG.out); intro w17 hb; replace BK211 := kK BK211 hb; replace HB := sB hb; clear hb; obtain ⟨hcz18_0, hcz18_1, hcz18_2, hcz18_3, hfz18_0, hfz18_1, hfz18_2, hfz18_3⟩ := b4 BK211))
  refine bodyPost_ret (results_ctt rfl _ _ gb211 65 #[.int .i64 0, .int .i64 0, .int .i64 0, .string (⟨#[]⟩ : ByteArray)] (0, 0) _ rfl kQ Tryz.underlying65 rfl (by kernel_rfl)) rfl ?_
  exact ⟨eQ, bQ⟩
 clear c10
 simp only [Option.some.injEq, Prod.mk.injEq] at H
 obtain ⟨rfl, rfl, rfl, rfl, rfl, rfl⟩ := H
 go_enter Tryz.func56, Tryz.ntmps56
 go_wp2_with (first | ((with_reducible refine gD 4 ?_); refine bE 4 (cs := #[.int .i64 0, .int .i64 0, .int .i64 0, .string (⟨#[]⟩ : ByteArray)]) (t := 65) ?_; intro gb211 hg w11 hbox hb; have BK211 := aM hbox; have GW211 := sG w hg; have GE211 := sG w hg; replace HB := sB hb; clear hb hbox hg) | ((with_reducible refine gC 52 ?_); refine gL (some 14) Tryz.func52 #[.string a0, .int .i64 a1] ?_; (with_reducible refine cB (lex_Word.calls k a0 a1 t212 t213 _ A3.out) ?_); intro w12 hb; replace BK211 := kK BK211 hb; replace HB := sB hb; clear hb) | ((with_reducible refine gC 92 ?_); refine gL (some 19) Tryz.func92 #[.string t212] ?_; (with_reducible refine cB (lex_Int.calls t212 t214 t215 _ ?side1 A4.out) ?_); (case side1 => exact gQ HG.out); intro w13 hb; replace BK211 := kK BK211 hb; replace HB := sB hb; clear hb; obtain ⟨hcz14_0, hcz14_1, hcz14_2, hcz14_3, hfz14_0, hfz14_1, hfz14_2, hfz14_3⟩ := b4 BK211))
 refine bodyPost_ret (results_ctt rfl _ _ gb211 65 #[.int .i64 3, .int .i64 a1, .int .i64 0, .string t212] (0, 0) _ rfl kQ Tryz.underlying65 rfl (by kernel_rfl)) rfl ?_
 exact ⟨eQ, bQ⟩
def tok_Next.j0 : Nat → ByteArray → Int → ByteArray → Int → Bool → Option (Int × Int × Int × ByteArray × Int × Int)
 | 0, _, _, _, _, _ => none
 | k + 1, x0, x7, x8, x37, x38 => if x38 = true then (some (0, 0, 0, (⟨#[]⟩ : ByteArray), x7, 3)) else (if x37 = 47 then ((lex_Word.f k x0 (wrap64 (x7 + 1))).bind fun bt225 => ((lex_Name.f bt225.1).bind fun t227 => (some (2, x7, 0, t227, bt225.2, 0)))) else (if x37 = 60 then ((tok_source_hexed.f k x8 x7).bind fun bt228 => (some (bt228.1, bt228.2.1, bt228.2.2.1, bt228.2.2.2.1, bt228.2.2.2.2.1, bt228.2.2.2.2.2))) else (if x37 = 40 then ((tok_source_strung.f k x8 x7).bind fun bt234 => (some (bt234.1, bt234.2.1, bt234.2.2.1, bt234.2.2.2.1, bt234.2.2.2.2.1, bt234.2.2.2.2.2))) else ((tok_source_worded.f k x8 x7).bind fun bt240 => (some (bt240.1, bt240.2.1, bt240.2.2.1, bt240.2.2.2.1, bt240.2.2.2.2.1, bt240.2.2.2.2.2))))))
def tok_Next.f (k : Nat) (a0 : ByteArray) (a1 : Int) : Option (Int × Int × Int × ByteArray × Int × Int) := (lex_Skip.f k a0 a1).bind fun t217 => (if t217 = (a0.size : Int) then (some (0, t217, 0, (⟨#[]⟩ : ByteArray), t217, 0)) else ((tok_source_sign.f a0 t217).bind fun bt218 => (if bt218.2.2.2.2.2 = true then (some (bt218.1, bt218.2.1, bt218.2.2.1, bt218.2.2.2.1, bt218.2.2.2.2.1, 0)) else (if 0 ≤ t217 then (if t217 < (a0.size : Int) then (if (bt a0 t217) = 41 then (tok_Next.j0 k a0 t217 a0 (bt a0 t217) ((bt a0 t217) == 41)) else (tok_Next.j0 k a0 t217 a0 (bt a0 t217) ((bt a0 t217) == 62))) else (none)) else (none)))))
theorem tok_Next.mono_l : ∀ k, (∀ y0 y1 y2 y3 y4, LeO (tok_Next.j0 k y0 y1 y2 y3 y4) (tok_Next.j0 (k + 1) y0 y1 y2 y3 y4))
 | 0 => fun _ _ _ _ _ r h => by simp [tok_Next.j0] at h
 | k + 1 => by
  have ih0 := tok_Next.mono_l k
  ·intro y0 y1 y2 y3 y4
   unfold tok_Next.j0
   repeat' first
   | (with_reducible exact ih0 _ _ _ _ _)
   | (with_reducible exact lex_Skip.mono _ _ _)
   | (with_reducible exact lex_Word.mono _ _ _)
   | (with_reducible exact tok_source_hexed.mono _ _ _)
   | (with_reducible exact tok_source_strung.mono _ _ _)
   | (with_reducible exact tok_source_worded.mono _ _ _)
   | (with_reducible exact LeO.refl _)
   | (with_reducible exact LeO.none _)
   | (with_reducible refine LeO.ite ?_ ?_)
   | (with_reducible refine LeO.bind ?_ (fun _ => ?_))
   | exact ih0 _ _ _ _ _
   | exact lex_Skip.mono _ _ _
   | exact lex_Word.mono _ _ _
   | exact tok_source_hexed.mono _ _ _
   | exact tok_source_strung.mono _ _ _
   | exact tok_source_worded.mono _ _ _
   | exact LeO.none _
   | refine LeO.ite ?_ ?_
   | refine LeO.bind ?_ (fun _ => ?_)
theorem tok_Next.mono : ∀ a0 a1 k, LeO (tok_Next.f k a0 a1) (tok_Next.f (k + 1) a0 a1) := by
 intro a0 a1 k
 have ih0 := tok_Next.mono_l k
 unfold tok_Next.f
 repeat' first
   | (with_reducible exact ih0 _ _ _ _ _)
   | (with_reducible exact lex_Skip.mono _ _ _)
   | (with_reducible exact lex_Word.mono _ _ _)
   | (with_reducible exact tok_source_hexed.mono _ _ _)
   | (with_reducible exact tok_source_strung.mono _ _ _)
   | (with_reducible exact tok_source_worded.mono _ _ _)
   | (with_reducible exact LeO.refl _)
   | (with_reducible exact LeO.none _)
   | (with_reducible refine LeO.ite ?_ ?_)
   | (with_reducible refine LeO.bind ?_ (fun _ => ?_))
   | exact ih0 _ _ _ _ _
   | exact lex_Skip.mono _ _ _
   | exact lex_Word.mono _ _ _
   | exact tok_source_hexed.mono _ _ _
   | exact tok_source_strung.mono _ _ _
   | exact tok_source_worded.mono _ _ _
   | exact LeO.none _
   | refine LeO.ite ?_ ?_
   | refine LeO.bind ?_ (fun _ => ?_)
set_option maxHeartbeats 8000000 in
set_option maxRecDepth 100000 in
theorem tok_Next.calls (k : Nat) (a0 : ByteArray) (a1 : Int) (r1 : Int) (r2 : Int) (r3 : Int) (r4 : ByteArray) (r5 : Int) (r6 : Int) (w : World) (hG : GW w) (h : tok_Next.f k a0 a1 = some (r1, r2, r3, r4, r5, r6)) :
  Calls Tryz.prog 38 #[.string a0, .int .i64 a1] w fun e w' => e = .returned (.tuple #[.agg #[.int .i64 r1, .int .i64 r2, .int .i64 r3, .string r4], .int .i64 r5, .int .i64 r6]) ∧ Below w.heap.size w w' := by
 have hu65 := Tryz.underlying65
 have HG := aM hG
 clear hG
 have HB := aM (Below.refl w.heap.size w)
 have H : ((lex_Skip.f k a0 a1).bind fun t217 => (if t217 = (a0.size : Int) then (some (0, t217, 0, (⟨#[]⟩ : ByteArray), t217, 0)) else ((tok_source_sign.f a0 t217).bind fun bt218 => (if bt218.2.2.2.2.2 = true then (some (bt218.1, bt218.2.1, bt218.2.2.1, bt218.2.2.2.1, bt218.2.2.2.2.1, 0)) else (if 0 ≤ t217 then (if t217 < (a0.size : Int) then (if (bt a0 t217) = 41 then (tok_Next.j0 k a0 t217 a0 (bt a0 t217) ((bt a0 t217) == 41)) else (tok_Next.j0 k a0 t217 a0 (bt a0 t217) ((bt a0 t217) == 62))) else (none)) else (none)))))) = some (r1, r2, r3, r4, r5, r6) := h
 clear h
 replace H := bS H
 obtain ⟨t217, A3, H⟩ := H
 try dsimp only at H
 refine iEc H ?_ ?_<;>clear H<;>intro H c4b0 c4b1 c4
 ·clear c4
  simp only [Option.some.injEq, Prod.mk.injEq] at H
  obtain ⟨rfl, rfl, rfl, rfl, rfl, rfl⟩ := H
  go_enter Tryz.func38, Tryz.ntmps38
  go_wp2_with (first | ((with_reducible refine gD 4 ?_); refine bE 4 (cs := #[.int .i64 0, .int .i64 0, .int .i64 0, .string (⟨#[]⟩ : ByteArray)]) (t := 65) ?_; intro gb216 hg w5 hbox hb; have BK216 := aM hbox; have GW216 := sG w hg; have GE216 := sG w hg; replace HB := sB hb; clear hb hbox hg) | ((with_reducible refine gC 50 ?_); refine gL (some 16) Tryz.func50 #[.string a0, .int .i64 a1] ?_; (with_reducible refine cB (lex_Skip.calls k a0 a1 t217 _ A3.out) ?_); intro w6 hb; replace BK216 := kK BK216 hb; replace HB := sB hb; clear hb; obtain ⟨hcz7_0, hcz7_1, hcz7_2, hcz7_3, hfz7_0, hfz7_1, hfz7_2, hfz7_3⟩ := b4 BK216))
  refine bodyPost_ret (results_ctt rfl _ _ gb216 65 #[.int .i64 0, .int .i64 t217, .int .i64 0, .string (⟨#[]⟩ : ByteArray)] (0, 0) _ rfl kQ Tryz.underlying65 rfl (by kernel_rfl)) rfl ?_
  exact ⟨eQ, bQ⟩
 replace H := bS H
 obtain ⟨⟨t218, t219, t220, t221, t222, t223⟩, A8, H⟩ := H
 try dsimp only at H
 by_cases c9 : t223 = true
 ·subst c9
  rw [if_pos rfl] at H
  simp only [Option.some.injEq, Prod.mk.injEq] at H
  obtain ⟨rfl, rfl, rfl, rfl, rfl, rfl⟩ := H
  go_enter Tryz.func38, Tryz.ntmps38
  go_wp2_with (first | ((with_reducible refine gD 4 ?_); refine bE 4 (cs := #[.int .i64 0, .int .i64 0, .int .i64 0, .string (⟨#[]⟩ : ByteArray)]) (t := 65) ?_; intro gb216 hg w10 hbox hb; have BK216 := aM hbox; have GW216 := sG w hg; have GE216 := sG w hg; replace HB := sB hb; clear hb hbox hg) | ((with_reducible refine gC 50 ?_); refine gL (some 16) Tryz.func50 #[.string a0, .int .i64 a1] ?_; (with_reducible refine cB (lex_Skip.calls k a0 a1 t217 _ A3.out) ?_); intro w11 hb; replace BK216 := kK BK216 hb; replace HB := sB hb; clear hb) | ((with_reducible refine gC 51 ?_); refine gL (some 28) Tryz.func51 #[.string a0, .int .i64 t217] ?_; (with_reducible refine cB (tok_source_sign.calls a0 t217 t218 t219 t220 t221 t222 true _ A8.out) ?_); intro w12 hb; replace BK216 := kK BK216 hb; replace HB := sB hb; clear hb) | ((with_reducible refine gD 9 ?_); refine bE 9 (cs := #[.int .i64 0, .int .i64 0, .int .i64 0, .string (⟨#[]⟩ : ByteArray)]) (t := 65) ?_; intro gb224 hg w13 hbox hb; have BK224 := aM hbox; have GW224 := sG w hg; have GE224 := sG w hg; replace HB := sB hb; have NB216_224 := aM ((by rw [hg]; exact Nat.ne_of_lt (blk_lt (g := gb216) (o := .cells #[.int .i64 0, .int .i64 0, .int .i64 0, .string (⟨#[]⟩ : ByteArray)] 65 (0, 0)) kQ) : gb216 ≠ gb224)); have NB224_216 := aM ((by rw [hg]; exact Nat.ne_of_gt (blk_lt (g := gb216) (o := .cells #[.int .i64 0, .int .i64 0, .int .i64 0, .string (⟨#[]⟩ : ByteArray)] 65 (0, 0)) kQ) : gb224 ≠ gb216)); replace BK216 := kK BK216 hb; clear hb hbox hg; have hnb14 := NB224_216.out; have hnc14 := NB216_224.out; obtain ⟨hcz15_0, hcz15_1, hcz15_2, hcz15_3, hfz15_0, hfz15_1, hfz15_2, hfz15_3⟩ := b4 BK224; obtain ⟨hcz16_0, hcz16_1, hcz16_2, hcz16_3, hfz16_0, hfz16_1, hfz16_2, hfz16_3⟩ := b4 BK216))
  refine bodyPost_ret (results_ctt rfl _ _ gb216 65 #[.int .i64 t218, .int .i64 t219, .int .i64 t220, .string t221] (0, 0) _ rfl kQ Tryz.underlying65 rfl (by kernel_rfl)) rfl ?_
  exact ⟨eQ, bQ⟩
 replace c9 := Bool.eq_false_iff.mpr c9
 subst c9
 rw [if_neg (show ¬ (false = true) by decide)] at H
 refine iD H ?_ ?_<;>clear H<;>intro H c17b0
 rotate_left
 ·exact absurd H (by simp)
 refine iD H ?_ ?_<;>clear H<;>intro H c18b0
 rotate_left
 ·exact absurd H (by simp)
 have HC20 := aM H
 clear H
 go_enter Tryz.func38, Tryz.ntmps38
 go_upto_if 38 with (first | ((with_reducible refine gD 4 ?_); refine bE 4 (cs := #[.int .i64 0, .int .i64 0, .int .i64 0, .string (⟨#[]⟩ : ByteArray)]) (t := 65) ?_; intro gb216 hg w21 hbox hb; have BK216 := aM hbox; have GW216 := sG w hg; have GE216 := sG w hg; replace HB := sB hb; clear hb hbox hg) | ((with_reducible refine gC 50 ?_); refine gL (some 16) Tryz.func50 #[.string a0, .int .i64 a1] ?_; (with_reducible refine cB (lex_Skip.calls k a0 a1 t217 _ A3.out) ?_); intro w22 hb; replace BK216 := kK BK216 hb; replace HB := sB hb; clear hb) | ((with_reducible refine gC 51 ?_); refine gL (some 28) Tryz.func51 #[.string a0, .int .i64 t217] ?_; (with_reducible refine cB (tok_source_sign.calls a0 t217 t218 t219 t220 t221 t222 false _ A8.out) ?_); intro w23 hb; replace BK216 := kK BK216 hb; replace HB := sB hb; clear hb) | ((with_reducible refine gD 9 ?_); refine bE 9 (cs := #[.int .i64 0, .int .i64 0, .int .i64 0, .string (⟨#[]⟩ : ByteArray)]) (t := 65) ?_; intro gb224 hg w24 hbox hb; have BK224 := aM hbox; have GW224 := sG w hg; have GE224 := sG w hg; replace HB := sB hb; have NB216_224 := aM ((by rw [hg]; exact Nat.ne_of_lt (blk_lt (g := gb216) (o := .cells #[.int .i64 0, .int .i64 0, .int .i64 0, .string (⟨#[]⟩ : ByteArray)] 65 (0, 0)) kQ) : gb216 ≠ gb224)); have NB224_216 := aM ((by rw [hg]; exact Nat.ne_of_gt (blk_lt (g := gb216) (o := .cells #[.int .i64 0, .int .i64 0, .int .i64 0, .string (⟨#[]⟩ : ByteArray)] 65 (0, 0)) kQ) : gb224 ≠ gb216)); replace BK216 := kK BK216 hb; clear hb hbox hg; have hnb25 := NB224_216.out; have hnc25 := NB216_224.out; obtain ⟨hcz26_0, hcz26_1, hcz26_2, hcz26_3, hfz26_0, hfz26_1, hfz26_2, hfz26_3⟩ := b4 BK224; have p19 : 0 ≤ (t217 : Int) := of_decide_eq_true hQ; have q19 : t217 < (a0.size : Int) := of_decide_eq_true hQ; have hx19 := bt_at a0 t217; replace p19 := eq_true p19; replace q19 := eq_true q19))
 (try simp only [Act.put, List.setIfInBounds_toArray, List.set_cons_zero, List.set_cons_succ])
 go_cut [38] (fun v38 wc => ∃ (kq : Nat) (x38_19 : Bool), v38 = .bool x38_19 ∧ Aside0 (tok_Next.j0 kq a0 t217 a0 (bt a0 t217) x38_19 = some (r1, r2, r3, r4, r5, r6)) ∧ Aside0 (kq ≤ k) ∧ Aside0 (wc.heap[gb216]? = some (.cells #[.int .i64 0, .int .i64 0, .int .i64 0, .string (⟨#[]⟩ : ByteArray)] 65 (0, 0))) ∧ Aside0 (wc.heap[gb224]? = some (.cells #[.int .i64 t218, .int .i64 t219, .int .i64 t220, .string t221] 65 (0, 0))) ∧ Aside0 (Below w.heap.size w wc))
 case first =>
  have H := HC20.out
  clear HC20
  refine iEc H ?_ ?_<;>clear H<;>intro H c27b0 c27b1 c27
  rotate_left
  ·(first | rw [c27b0] | (simp only [i64_w, i32_w]; rw [c27b0]) | skip)
   have H' := aM H
   clear H
   go_wp2
   go_meet
   case rel => exact ⟨_, (((bt a0 t217) == 62)), vQ, H', ⟨by first | omega | exact Nat.le_refl _⟩, ⟨kQ⟩, ⟨kQ⟩, ⟨bQ⟩⟩
  clear c27
  (first | rw [c27b0] | (simp only [i64_w, i32_w]; rw [c27b0]) | skip)
  have H' := aM H
  clear H
  go_wp2
  go_meet
  case rel => exact ⟨_, (((bt a0 t217) == 41)), vQ, H', ⟨by first | omega | exact Nat.le_refl _⟩, ⟨kQ⟩, ⟨kQ⟩, ⟨bQ⟩⟩
 case rest =>
  clear HC20
  try clear c1
  try clear p1
  try clear q1
  try clear hx1
  try clear c2
  try clear p2
  try clear c3
  try clear c4
  try clear c4b0
  try clear c4b1
  try clear c5
  try clear c9
  try clear c14
  try clear c17
  try clear c17b0
  try clear c18
  try clear c18b0
  try clear p19
  try clear q19
  try clear hx19
  try clear c25
  try clear c27
  try clear c27b0
  try clear c27b1
  try clear hcz15_0
  try clear hcz15_1
  try clear hcz15_2
  try clear hcz15_3
  try clear hcz16_0
  try clear hcz16_1
  try clear hcz16_2
  try clear hcz16_3
  try clear hcz26_0
  try clear hcz26_1
  try clear hcz26_2
  try clear hcz26_3
  try clear hcz7_0
  try clear hcz7_1
  try clear hcz7_2
  try clear hcz7_3
  try clear hfz15_0
  try clear hfz15_1
  try clear hfz15_2
  try clear hfz15_3
  try clear hfz16_0
  try clear hfz16_1
  try clear hfz16_2
  try clear hfz16_3
  try clear hfz26_0
  try clear hfz26_1
  try clear hfz26_2
  try clear hfz26_3
  try clear hfz7_0
  try clear hfz7_1
  try clear hfz7_2
  try clear hfz7_3
  try clear p19
  try clear q19
  obtain ⟨kq, x38_19, rfl, HA, HJ19, BK216, BK224, HB⟩ := hcut
  cases kq with
  | zero => exact absurd HA.out (by simp [tok_Next.j0])
  | succ kj19 =>
   have H := HA.out
   clear HA
   simp only [tok_Next.j0] at H
   by_cases c28 : x38_19 = true
   ·subst c28
    rw [if_pos rfl] at H
    simp only [Option.some.injEq, Prod.mk.injEq] at H
    obtain ⟨rfl, rfl, rfl, rfl, rfl, rfl⟩ := H
    have hnb29 := NB216_224.out
    have hnc29 := NB224_216.out
    have hcz30_0 : wc.cell? ⟨gb216, 0, none⟩ = some (.int .i64 0) := (blk_cell BK216.out 0).trans rfl
    have hcz30_1 : wc.cell? ⟨gb216, 1, none⟩ = some (.int .i64 0) := (blk_cell BK216.out 1).trans rfl
    have hcz30_2 : wc.cell? ⟨gb216, 2, none⟩ = some (.int .i64 0) := (blk_cell BK216.out 2).trans rfl
    have hcz30_3 : wc.cell? ⟨gb216, 3, none⟩ = some (.string (⟨#[]⟩ : ByteArray)) := (blk_cell BK216.out 3).trans rfl
    have hfz30_0 := blk_frozen BK216.out 0
    have hfz30_1 := blk_frozen BK216.out 1
    have hfz30_2 := blk_frozen BK216.out 2
    have hfz30_3 := blk_frozen BK216.out 3
    go_wp2
    refine bodyPost_ret (results_ctt rfl _ _ gb216 65 #[.int .i64 0, .int .i64 0, .int .i64 0, .string (⟨#[]⟩ : ByteArray)] (0, 0) _ rfl kQ Tryz.underlying65 rfl (by kernel_rfl)) rfl ?_
    exact ⟨eQ, bQ⟩
   replace c28 := Bool.eq_false_iff.mpr c28
   subst c28
   rw [if_neg (show ¬ (false = true) by decide)] at H
   refine iEc H ?_ ?_<;>clear H<;>intro H c31b0 c31b1 c31
   ·clear c31
    replace H := bS H
    obtain ⟨⟨t225, t226⟩, A32, H⟩ := H
    try dsimp only at H
    replace H := bS H
    obtain ⟨t227, A33, H⟩ := H
    try dsimp only at H
    simp only [Option.some.injEq, Prod.mk.injEq] at H
    obtain ⟨rfl, rfl, rfl, rfl, rfl, rfl⟩ := H
    go_wp2_with (first | ((with_reducible refine gC 52 ?_); refine gL (some 49) Tryz.func52 #[.string a0, .int .i64 (wrap64 (t217 + 1))] ?_; (with_reducible refine cB (lex_Word.calls kj19 a0 (wrap64 (t217 + 1)) t225 t226 _ A32.out) ?_); intro w34 hb; replace BK216 := kK BK216 hb; replace BK224 := kK BK224 hb; replace HB := sB hb; clear hb) | ((with_reducible refine gC 53 ?_); refine gL (some 54) Tryz.func53 #[.string t225] ?_; (with_reducible refine cB (lex_Name.calls t225 t227 _ A33.out) ?_); intro w35 hb; replace BK216 := kK BK216 hb; replace BK224 := kK BK224 hb; replace HB := sB hb; clear hb; have hnb36 := NB216_224.out; have hnc36 := NB224_216.out; obtain ⟨hcz37_0, hcz37_1, hcz37_2, hcz37_3, hfz37_0, hfz37_1, hfz37_2, hfz37_3⟩ := b4 BK216))
    refine bodyPost_ret (results_ctt rfl _ _ gb216 65 #[.int .i64 2, .int .i64 t217, .int .i64 0, .string t227] (0, 0) _ rfl kQ Tryz.underlying65 rfl (by kernel_rfl)) rfl ?_
    exact ⟨eQ, bQ⟩
   refine iEc H ?_ ?_<;>clear H<;>intro H c38b0 c38b1 c38
   ·clear c38
    replace H := bS H
    obtain ⟨⟨t228, t229, t230, t231, t232, t233⟩, A39, H⟩ := H
    try dsimp only at H
    simp only [Option.some.injEq, Prod.mk.injEq] at H
    obtain ⟨rfl, rfl, rfl, rfl, rfl, rfl⟩ := H
    go_wp2_with (first | ((with_reducible refine gC 54 ?_); refine gL (some 61) Tryz.func54 #[.string a0, .int .i64 t217] ?_; (with_reducible refine cB (tok_source_hexed.calls kj19 a0 t217 t228 t229 t230 t231 t232 t233 _ ?side1 A39.out) ?_); (case side1 => exact gQ HG.out); intro w40 hb; replace BK216 := kK BK216 hb; replace BK224 := kK BK224 hb; replace HB := sB hb; clear hb; have hnb41 := NB216_224.out; have hnc41 := NB224_216.out; obtain ⟨hcz42_0, hcz42_1, hcz42_2, hcz42_3, hfz42_0, hfz42_1, hfz42_2, hfz42_3⟩ := b4 BK216))
    refine bodyPost_ret (results_ctt rfl _ _ gb216 65 #[.int .i64 t228, .int .i64 t229, .int .i64 t230, .string t231] (0, 0) _ rfl kQ Tryz.underlying65 rfl (by kernel_rfl)) rfl ?_
    exact ⟨eQ, bQ⟩
   refine iEc H ?_ ?_<;>clear H<;>intro H c43b0 c43b1 c43
   rotate_left
   ·replace H := bS H
    obtain ⟨⟨t240, t241, t242, t243, t244, t245⟩, A48, H⟩ := H
    try dsimp only at H
    simp only [Option.some.injEq, Prod.mk.injEq] at H
    obtain ⟨rfl, rfl, rfl, rfl, rfl, rfl⟩ := H
    go_wp2_with (first | ((with_reducible refine gC 56 ?_); refine gL (some 75) Tryz.func56 #[.string a0, .int .i64 t217] ?_; (with_reducible refine cB (tok_source_worded.calls kj19 a0 t217 t240 t241 t242 t243 t244 t245 _ ?side1 A48.out) ?_); (case side1 => exact gQ HG.out); intro w49 hb; replace BK216 := kK BK216 hb; replace BK224 := kK BK224 hb; replace HB := sB hb; clear hb; have hnb50 := NB216_224.out; have hnc50 := NB224_216.out; obtain ⟨hcz51_0, hcz51_1, hcz51_2, hcz51_3, hfz51_0, hfz51_1, hfz51_2, hfz51_3⟩ := b4 BK216))
    refine bodyPost_ret (results_ctt rfl _ _ gb216 65 #[.int .i64 t240, .int .i64 t241, .int .i64 t242, .string t243] (0, 0) _ rfl kQ Tryz.underlying65 rfl (by kernel_rfl)) rfl ?_
    exact ⟨eQ, bQ⟩
   clear c43
   replace H := bS H
   obtain ⟨⟨t234, t235, t236, t237, t238, t239⟩, A44, H⟩ := H
   try dsimp only at H
   simp only [Option.some.injEq, Prod.mk.injEq] at H
   obtain ⟨rfl, rfl, rfl, rfl, rfl, rfl⟩ := H
   go_wp2_with (first | ((with_reducible refine gC 55 ?_); refine gL (some 69) Tryz.func55 #[.string a0, .int .i64 t217] ?_; (with_reducible refine cB (tok_source_strung.calls kj19 a0 t217 t234 t235 t236 t237 t238 t239 _ A44.out) ?_); intro w45 hb; replace BK216 := kK BK216 hb; replace BK224 := kK BK224 hb; replace HB := sB hb; clear hb; have hnb46 := NB216_224.out; have hnc46 := NB224_216.out; obtain ⟨hcz47_0, hcz47_1, hcz47_2, hcz47_3, hfz47_0, hfz47_1, hfz47_2, hfz47_3⟩ := b4 BK216))
   refine bodyPost_ret (results_ctt rfl _ _ gb216 65 #[.int .i64 t234, .int .i64 t235, .int .i64 t236, .string t237] (0, 0) _ rfl kQ Tryz.underlying65 rfl (by kernel_rfl)) rfl ?_
   exact ⟨eQ, bQ⟩
def tok_All.l0 : Nat → ByteArray → List (S65) → Int → Option ((List (S65)) × Int × Int)
 | 0, _, _, _ => none
 | k + 1, x0, x5, x6 => (tok_Next.f k x0 x6).bind fun bt246 => (if bt246.2.2.2.2.2 = 0 then (if bt246.1 = 0 then (some (x5, (x0.size : Int), 0)) else (if (x5.length : Int) = 65536 then (some (([] : List (S65)), bt246.2.1, 10)) else (if x5.length < 3518437208883 then (tok_All.l0 k x0 (x5 ++ [(⟨bt246.1, bt246.2.1, bt246.2.2.1, bt246.2.2.2.1⟩ : S65)]) bt246.2.2.2.2.1) else (none)))) else (some (([] : List (S65)), bt246.2.2.2.2.1, bt246.2.2.2.2.2)))
def tok_All.f (k : Nat) (a0 : ByteArray) : Option ((List (S65)) × Int × Int) := tok_All.l0 k a0 ([] : List (S65)) 0
theorem tok_All.mono_l : ∀ k, (∀ y0 y1 y2, LeO (tok_All.l0 k y0 y1 y2) (tok_All.l0 (k + 1) y0 y1 y2))
 | 0 => fun _ _ _ r h => by simp [tok_All.l0] at h
 | k + 1 => by
  have ih0 := tok_All.mono_l k
  ·intro y0 y1 y2
   unfold tok_All.l0
   repeat' first
   | (with_reducible exact ih0 _ _ _)
   | (with_reducible exact tok_Next.mono _ _ _)
   | (with_reducible exact LeO.refl _)
   | (with_reducible exact LeO.none _)
   | (with_reducible refine LeO.ite ?_ ?_)
   | (with_reducible refine LeO.bind ?_ (fun _ => ?_))
   | exact ih0 _ _ _
   | exact tok_Next.mono _ _ _
   | exact LeO.none _
   | refine LeO.ite ?_ ?_
   | refine LeO.bind ?_ (fun _ => ?_)
theorem tok_All.mono : ∀ a0 k, LeO (tok_All.f k a0) (tok_All.f (k + 1) a0) := by
 intro a0 k
 have ih0 := tok_All.mono_l k
 unfold tok_All.f
 repeat' first
   | (with_reducible exact ih0 _ _ _)
   | (with_reducible exact tok_Next.mono _ _ _)
   | (with_reducible exact LeO.refl _)
   | (with_reducible exact LeO.none _)
   | (with_reducible refine LeO.ite ?_ ?_)
   | (with_reducible refine LeO.bind ?_ (fun _ => ?_))
   | exact ih0 _ _ _
   | exact tok_Next.mono _ _ _
   | exact LeO.none _
   | refine LeO.ite ?_ ?_
   | refine LeO.bind ?_ (fun _ => ?_)
set_option maxHeartbeats 8000000 in
set_option maxRecDepth 100000 in
theorem tok_All.calls (k : Nat) (a0 : ByteArray) (r1 : List (S65)) (r2 : Int) (r3 : Int) (w : World) (hG : GW w) (h : tok_All.f k a0 = some (r1, r2, r3)) :
  Calls Tryz.prog 29 #[.string a0] w fun e w' => ∃ v0_ : Value, e = .returned (.tuple #[v0_, .int .i64 r2, .int .i64 r3]) ∧ Kd.R k65 65 w' w.heap.size (fun _ => True) v0_ r1 ∧ Below w.heap.size w w' := by
 have hu65 := Tryz.underlying65
 have HG := aM hG
 clear hG
 have HB := aM (Below.refl w.heap.size w)
 have H : (tok_All.l0 k a0 ([] : List (S65)) 0) = some (r1, r2, r3) := h
 clear h
 have H' := aM H
 clear H
 go_enter Tryz.func29, Tryz.ntmps29
 go_wp2
 repeat (go_quiet (fail); try go_wp2)
 go_loopg [5, 6] k (fun kq v5 v6 w' => ∃ (x5_1 : List (S65)) (x6_1 : Int), v6 = .int .i64 x6_1 ∧ Aside0 (tok_All.l0 kq a0 x5_1 x6_1 = some (r1, r2, r3)) ∧ Aside0 (kq ≤ k) ∧ Aside0 (Kd.R k65 65 w' w.heap.size (fun _ => True) v5 x5_1) ∧ Aside0 (Below w.heap.size w w'))
 case atStart => exact ⟨(([] : List (S65))), (0), vQ, H', ⟨Nat.le_refl _⟩, ⟨by first | exact Kd.R_nil _ _ _ _ _ | exact Kd.N_nil _ _ _ _ _ | exact Kd.V_nil _ _ _ _ _ | exact Kd.Q_nil _ _ _ _ _ | exact Kd.S_nil _ _ _ _ _⟩, ⟨bQ⟩⟩
 case round =>
  clear H'
  obtain ⟨x5_1, x6_1, rfl, HA, HK1, HO_5, HB⟩ := hrel
  cases gk with
  | zero => exact absurd HA.out (by simp [tok_All.l0])
  | succ k1 =>
   have H := HA.out
   clear HA
   simp only [tok_All.l0] at H
   replace H := bS H
   obtain ⟨⟨t246, t247, t248, t249, t250, t251⟩, A2, H⟩ := H
   try dsimp only at H
   refine iEc H ?_ ?_<;>clear H<;>intro H c3b0 c3b1 c3
   rotate_left
   ·simp only [Option.some.injEq, Prod.mk.injEq] at H
    obtain ⟨rfl, rfl, rfl⟩ := H
    go_wp2_with (first | (go_at_call 38; (with_reducible refine (tok_Next.calls k1 a0 x6_1 t246 t247 t248 t249 t250 t251 _ ?side1 A2.out).mono ?_); (case side1 => exact gQ HG.out); rintro e w19 ⟨rfl, hb⟩; replace HO_5 := rK HO_5 hb; replace HB := sB hb; clear hb) | ((with_reducible refine gD 7 ?_); refine bE 7 (cs := #[.int .i64 0, .int .i64 0, .int .i64 0, .string (⟨#[]⟩ : ByteArray)]) (t := 65) ?_; intro gb252 hg w20 hbox hb; replace HO_5 := aM (Kd.R_below (Kd.R_elderB (mQ HO_5) gb252 (Nat.le_of_eq hg.symm)) hb); have BK252 := aM hbox; have GW252 := sG w hg; have GE252 := sG w hg; replace HB := sB hb; clear hb hbox hg; obtain ⟨hcz21_0, hcz21_1, hcz21_2, hcz21_3, hfz21_0, hfz21_1, hfz21_2, hfz21_3⟩ := b4 BK252))
    repeat (go_quiet (first | (go_at_call 38; (with_reducible refine (tok_Next.calls k1 a0 x6_1 t246 t247 t248 t249 t250 t251 _ ?side1 A2.out).mono ?_); (case side1 => exact gQ HG.out); rintro e w19 ⟨rfl, hb⟩; replace HO_5 := rK HO_5 hb; replace HB := sB hb; clear hb) | ((with_reducible refine gD 7 ?_); refine bE 7 (cs := #[.int .i64 0, .int .i64 0, .int .i64 0, .string (⟨#[]⟩ : ByteArray)]) (t := 65) ?_; intro gb252 hg w20 hbox hb; replace HO_5 := aM (Kd.R_below (Kd.R_elderB (mQ HO_5) gb252 (Nat.le_of_eq hg.symm)) hb); have BK252 := aM hbox; have GW252 := sG w hg; have GE252 := sG w hg; replace HB := sB hb; clear hb hbox hg; obtain ⟨hcz21_0, hcz21_1, hcz21_2, hcz21_3, hfz21_0, hfz21_1, hfz21_2, hfz21_3⟩ := b4 BK252)); try go_wp2_with (first | (go_at_call 38; (with_reducible refine (tok_Next.calls k1 a0 x6_1 t246 t247 t248 t249 t250 t251 _ ?side1 A2.out).mono ?_); (case side1 => exact gQ HG.out); rintro e w19 ⟨rfl, hb⟩; replace HO_5 := rK HO_5 hb; replace HB := sB hb; clear hb) | ((with_reducible refine gD 7 ?_); refine bE 7 (cs := #[.int .i64 0, .int .i64 0, .int .i64 0, .string (⟨#[]⟩ : ByteArray)]) (t := 65) ?_; intro gb252 hg w20 hbox hb; replace HO_5 := aM (Kd.R_below (Kd.R_elderB (mQ HO_5) gb252 (Nat.le_of_eq hg.symm)) hb); have BK252 := aM hbox; have GW252 := sG w hg; have GE252 := sG w hg; replace HB := sB hb; clear hb hbox hg; obtain ⟨hcz21_0, hcz21_1, hcz21_2, hcz21_3, hfz21_0, hfz21_1, hfz21_2, hfz21_3⟩ := b4 BK252)))
    go_ret3
    exact ⟨_, eQ, by first | exact Kd.R_nil _ _ _ _ _ | exact Kd.N_nil _ _ _ _ _ | exact Kd.V_nil _ _ _ _ _ | exact Kd.Q_nil _ _ _ _ _ | exact Kd.S_nil _ _ _ _ _, bQ⟩
   clear c3
   refine iEc H ?_ ?_<;>clear H<;>intro H c4b0 c4b1 c4
   ·clear c4
    simp only [Option.some.injEq, Prod.mk.injEq] at H
    obtain ⟨rfl, rfl, rfl⟩ := H
    go_wp2_with (first | (go_at_call 38; (with_reducible refine (tok_Next.calls k1 a0 x6_1 t246 t247 t248 t249 t250 t251 _ ?side1 A2.out).mono ?_); (case side1 => exact gQ HG.out); rintro e w5 ⟨rfl, hb⟩; replace HO_5 := rK HO_5 hb; replace HB := sB hb; clear hb) | ((with_reducible refine gD 7 ?_); refine bE 7 (cs := #[.int .i64 0, .int .i64 0, .int .i64 0, .string (⟨#[]⟩ : ByteArray)]) (t := 65) ?_; intro gb252 hg w6 hbox hb; replace HO_5 := aM (Kd.R_below (Kd.R_elderB (mQ HO_5) gb252 (Nat.le_of_eq hg.symm)) hb); have BK252 := aM hbox; have GW252 := sG w hg; have GE252 := sG w hg; replace HB := sB hb; clear hb hbox hg; obtain ⟨hcz7_0, hcz7_1, hcz7_2, hcz7_3, hfz7_0, hfz7_1, hfz7_2, hfz7_3⟩ := b4 BK252))
    repeat (go_quiet (first | (go_at_call 38; (with_reducible refine (tok_Next.calls k1 a0 x6_1 t246 t247 t248 t249 t250 t251 _ ?side1 A2.out).mono ?_); (case side1 => exact gQ HG.out); rintro e w5 ⟨rfl, hb⟩; replace HO_5 := rK HO_5 hb; replace HB := sB hb; clear hb) | ((with_reducible refine gD 7 ?_); refine bE 7 (cs := #[.int .i64 0, .int .i64 0, .int .i64 0, .string (⟨#[]⟩ : ByteArray)]) (t := 65) ?_; intro gb252 hg w6 hbox hb; replace HO_5 := aM (Kd.R_below (Kd.R_elderB (mQ HO_5) gb252 (Nat.le_of_eq hg.symm)) hb); have BK252 := aM hbox; have GW252 := sG w hg; have GE252 := sG w hg; replace HB := sB hb; clear hb hbox hg; obtain ⟨hcz7_0, hcz7_1, hcz7_2, hcz7_3, hfz7_0, hfz7_1, hfz7_2, hfz7_3⟩ := b4 BK252)); try go_wp2_with (first | (go_at_call 38; (with_reducible refine (tok_Next.calls k1 a0 x6_1 t246 t247 t248 t249 t250 t251 _ ?side1 A2.out).mono ?_); (case side1 => exact gQ HG.out); rintro e w5 ⟨rfl, hb⟩; replace HO_5 := rK HO_5 hb; replace HB := sB hb; clear hb) | ((with_reducible refine gD 7 ?_); refine bE 7 (cs := #[.int .i64 0, .int .i64 0, .int .i64 0, .string (⟨#[]⟩ : ByteArray)]) (t := 65) ?_; intro gb252 hg w6 hbox hb; replace HO_5 := aM (Kd.R_below (Kd.R_elderB (mQ HO_5) gb252 (Nat.le_of_eq hg.symm)) hb); have BK252 := aM hbox; have GW252 := sG w hg; have GE252 := sG w hg; replace HB := sB hb; clear hb hbox hg; obtain ⟨hcz7_0, hcz7_1, hcz7_2, hcz7_3, hfz7_0, hfz7_1, hfz7_2, hfz7_3⟩ := b4 BK252)))
    go_ret3
    exact ⟨_, eQ, by (with_reducible repeat first|apply rA|apply rD|apply r1); exact Kd.R_mono (Kd.R_far (p := ⟨gb252, 3, none⟩) (Kd.R_far (p := ⟨gb252, 2, none⟩) (Kd.R_far (p := ⟨gb252, 1, none⟩) (Kd.R_far (p := ⟨gb252, 0, none⟩) (Kd.R_mono HO_5.out (fun k_ hk => (⟨hk, hk.2⟩ : _ ∧ k_ ≠ gb252))) (fun _ hk => hk.2) (.int .i64 t246)) (fun _ hk => hk.2) (.int .i64 t247)) (fun _ hk => hk.2) (.int .i64 t248)) (fun _ hk => hk.2) (.string t249)) (fun _ hk => trivial), bQ⟩
   refine iEc H ?_ ?_<;>clear H<;>intro H c8b0 c8b1 c8
   ·clear c8
    simp only [Option.some.injEq, Prod.mk.injEq] at H
    obtain ⟨rfl, rfl, rfl⟩ := H
    go_wp2_with (first | (go_at_call 38; (with_reducible refine (tok_Next.calls k1 a0 x6_1 t246 t247 t248 t249 t250 t251 _ ?side1 A2.out).mono ?_); (case side1 => exact gQ HG.out); rintro e w9 ⟨rfl, hb⟩; replace HO_5 := rK HO_5 hb; replace HB := sB hb; clear hb) | ((with_reducible refine gD 7 ?_); refine bE 7 (cs := #[.int .i64 0, .int .i64 0, .int .i64 0, .string (⟨#[]⟩ : ByteArray)]) (t := 65) ?_; intro gb252 hg w10 hbox hb; replace HO_5 := aM (Kd.R_below (Kd.R_elderB (mQ HO_5) gb252 (Nat.le_of_eq hg.symm)) hb); have BK252 := aM hbox; have GW252 := sG w hg; have GE252 := sG w hg; replace HB := sB hb; clear hb hbox hg; obtain ⟨hcz11_0, hcz11_1, hcz11_2, hcz11_3, hfz11_0, hfz11_1, hfz11_2, hfz11_3⟩ := b4 BK252; obtain ⟨Ao12, co12, eo12⟩ := Kd.R_slice HO_5.out; subst eo12))
    repeat (go_quiet (first | (go_at_call 38; (with_reducible refine (tok_Next.calls k1 a0 x6_1 t246 t247 t248 t249 t250 t251 _ ?side1 A2.out).mono ?_); (case side1 => exact gQ HG.out); rintro e w9 ⟨rfl, hb⟩; replace HO_5 := rK HO_5 hb; replace HB := sB hb; clear hb) | ((with_reducible refine gD 7 ?_); refine bE 7 (cs := #[.int .i64 0, .int .i64 0, .int .i64 0, .string (⟨#[]⟩ : ByteArray)]) (t := 65) ?_; intro gb252 hg w10 hbox hb; replace HO_5 := aM (Kd.R_below (Kd.R_elderB (mQ HO_5) gb252 (Nat.le_of_eq hg.symm)) hb); have BK252 := aM hbox; have GW252 := sG w hg; have GE252 := sG w hg; replace HB := sB hb; clear hb hbox hg; obtain ⟨hcz11_0, hcz11_1, hcz11_2, hcz11_3, hfz11_0, hfz11_1, hfz11_2, hfz11_3⟩ := b4 BK252; obtain ⟨Ao12, co12, eo12⟩ := Kd.R_slice HO_5.out; subst eo12)); try go_wp2_with (first | (go_at_call 38; (with_reducible refine (tok_Next.calls k1 a0 x6_1 t246 t247 t248 t249 t250 t251 _ ?side1 A2.out).mono ?_); (case side1 => exact gQ HG.out); rintro e w9 ⟨rfl, hb⟩; replace HO_5 := rK HO_5 hb; replace HB := sB hb; clear hb) | ((with_reducible refine gD 7 ?_); refine bE 7 (cs := #[.int .i64 0, .int .i64 0, .int .i64 0, .string (⟨#[]⟩ : ByteArray)]) (t := 65) ?_; intro gb252 hg w10 hbox hb; replace HO_5 := aM (Kd.R_below (Kd.R_elderB (mQ HO_5) gb252 (Nat.le_of_eq hg.symm)) hb); have BK252 := aM hbox; have GW252 := sG w hg; have GE252 := sG w hg; replace HB := sB hb; clear hb hbox hg; obtain ⟨hcz11_0, hcz11_1, hcz11_2, hcz11_3, hfz11_0, hfz11_1, hfz11_2, hfz11_3⟩ := b4 BK252; obtain ⟨Ao12, co12, eo12⟩ := Kd.R_slice HO_5.out; subst eo12)))
    go_ret3
    exact ⟨_, eQ, by first | exact Kd.R_nil _ _ _ _ _ | exact Kd.N_nil _ _ _ _ _ | exact Kd.V_nil _ _ _ _ _ | exact Kd.Q_nil _ _ _ _ _ | exact Kd.S_nil _ _ _ _ _, bQ⟩
   refine iNc H ?_ ?_<;>clear H<;>intro H c13
   rotate_left
   ·exact absurd H (by simp)
   have LMc13 := aM c13
   clear c13
   obtain ⟨y253, hy253⟩ : ∃ y_ : List (S65), y_ = (x5_1 ++ [(⟨t246, t247, t248, t249⟩ : S65)]) := ⟨_, rfl⟩
   replace H : (tok_All.l0 k1 a0 y253 t250) = some (r1, r2, r3) := by first | (rw [hy253]; with_reducible exact H) | (have H2_ := (Option.bind_some _ _).symm.trans H; rw [hy253]; with_reducible exact H2_) | (have H2_ := (Option.bind_some _ _).symm.trans H; with_reducible exact H2_) | with_reducible exact H | (rw [hy253]; exact H) | exact H
   have Ny253 := aM hy253
   clear hy253
   have H' := aM H
   clear H
   go_wp2_with (first | (go_at_call 38; (with_reducible refine (tok_Next.calls k1 a0 x6_1 t246 t247 t248 t249 t250 t251 _ ?side1 A2.out).mono ?_); (case side1 => exact gQ HG.out); rintro e w14 ⟨rfl, hb⟩; replace HO_5 := rK HO_5 hb; replace HB := sB hb; clear hb) | ((with_reducible refine gD 7 ?_); refine bE 7 (cs := #[.int .i64 0, .int .i64 0, .int .i64 0, .string (⟨#[]⟩ : ByteArray)]) (t := 65) ?_; intro gb252 hg w15 hbox hb; replace HO_5 := aM (Kd.R_below (Kd.R_elderB (mQ HO_5) gb252 (Nat.le_of_eq hg.symm)) hb); have BK252 := aM hbox; have GW252 := sG w hg; have GE252 := sG w hg; replace HB := sB hb; clear hb hbox hg; obtain ⟨hcz16_0, hcz16_1, hcz16_2, hcz16_3, hfz16_0, hfz16_1, hfz16_2, hfz16_3⟩ := b4 BK252; obtain ⟨Ao17, co17, eo17⟩ := Kd.R_slice HO_5.out; subst eo17) | ((with_reducible refine gate_builtin (b := .append) (xs := #[.tmp 35, .tmp 37]) rfl ?_); at_builtin; refine Kd.R_append k65 (w0 := w) w.heap.size rfl (.tmp 35) (.tmp 37) 61 65 (.agg #[(.int .i64 0), (.int .i64 0), (.int .i64 0), (.string ⟨#[]⟩)]) 40 rfl Tryz.underlying61 info65 rfl (by decide) (by omega) (.slice Ao17 x5_1.length co17) x5_1 (⟨t246, t247, t248, t249⟩ : S65) [.int .i64 t246, .int .i64 t247, .int .i64 t248, .string t249] (fun k_ => k_ ≠ gb252) (fun _ => False) rfl (by first | (go_simp; done) | (go_simp; rfl)) ?aP (fun _ hk => hk.elim) ?aF ?aO ?aB ?aS ?aL ?_; (case aP => exact k65_mkM _ _ _ (⟨t246, t247, t248, t249⟩ : S65)); (case aB => exact bQ); (case aF => exact (fun k_ hk => Kd.freshB (g := gb252) (o := .cells #[.int .i64 t246, .int .i64 t247, .int .i64 t248, .string t249] 65 (0, 0)) kQ k_ hk)); (case aO => exact (by (with_reducible repeat first|apply rA|apply rD|apply r1); exact Kd.R_mono (Kd.R_far (p := ⟨gb252, 3, none⟩) (Kd.R_far (p := ⟨gb252, 2, none⟩) (Kd.R_far (p := ⟨gb252, 1, none⟩) (Kd.R_far (p := ⟨gb252, 0, none⟩) (Kd.R_mono HO_5.out (fun k_ hk => (⟨hk, hk.2⟩ : _ ∧ k_ ≠ gb252))) (fun _ hk => hk.2) (.int .i64 t246)) (fun _ hk => hk.2) (.int .i64 t247)) (fun _ hk => hk.2) (.int .i64 t248)) (fun _ hk => hk.2) (.string t249)) (fun _ hk => hk.1.2))); (case aS => exact (below_size bQ)); (case aL => have := LMc13.out; omega); intro v254 w18 ho hb hg hat; rw [← Ny253.out] at ho; have n0_ := aM (blk_grown (g := gb252) (o := .cells #[.int .i64 t246, .int .i64 t247, .int .i64 t248, .string t249] 65 (0, 0)) kQ hg (Kd.R_away HO_5.out (fun _ hk => hk.2))); have n1_ := aM hb; have n2_ := aM ho; clear BK252; clear HB; clear HO_5; have BK252 := n0_; have HB := n1_; have HO255 := n2_; clear n0_ n1_ n2_; clear ho hb hg hat))
   repeat (go_quiet (first | (go_at_call 38; (with_reducible refine (tok_Next.calls k1 a0 x6_1 t246 t247 t248 t249 t250 t251 _ ?side1 A2.out).mono ?_); (case side1 => exact gQ HG.out); rintro e w14 ⟨rfl, hb⟩; replace HO_5 := rK HO_5 hb; replace HB := sB hb; clear hb) | ((with_reducible refine gD 7 ?_); refine bE 7 (cs := #[.int .i64 0, .int .i64 0, .int .i64 0, .string (⟨#[]⟩ : ByteArray)]) (t := 65) ?_; intro gb252 hg w15 hbox hb; replace HO_5 := aM (Kd.R_below (Kd.R_elderB (mQ HO_5) gb252 (Nat.le_of_eq hg.symm)) hb); have BK252 := aM hbox; have GW252 := sG w hg; have GE252 := sG w hg; replace HB := sB hb; clear hb hbox hg; obtain ⟨hcz16_0, hcz16_1, hcz16_2, hcz16_3, hfz16_0, hfz16_1, hfz16_2, hfz16_3⟩ := b4 BK252; obtain ⟨Ao17, co17, eo17⟩ := Kd.R_slice HO_5.out; subst eo17) | ((with_reducible refine gate_builtin (b := .append) (xs := #[.tmp 35, .tmp 37]) rfl ?_); at_builtin; refine Kd.R_append k65 (w0 := w) w.heap.size rfl (.tmp 35) (.tmp 37) 61 65 (.agg #[(.int .i64 0), (.int .i64 0), (.int .i64 0), (.string ⟨#[]⟩)]) 40 rfl Tryz.underlying61 info65 rfl (by decide) (by omega) (.slice Ao17 x5_1.length co17) x5_1 (⟨t246, t247, t248, t249⟩ : S65) [.int .i64 t246, .int .i64 t247, .int .i64 t248, .string t249] (fun k_ => k_ ≠ gb252) (fun _ => False) rfl (by first | (go_simp; done) | (go_simp; rfl)) ?aP (fun _ hk => hk.elim) ?aF ?aO ?aB ?aS ?aL ?_; (case aP => exact k65_mkM _ _ _ (⟨t246, t247, t248, t249⟩ : S65)); (case aB => exact bQ); (case aF => exact (fun k_ hk => Kd.freshB (g := gb252) (o := .cells #[.int .i64 t246, .int .i64 t247, .int .i64 t248, .string t249] 65 (0, 0)) kQ k_ hk)); (case aO => exact (by (with_reducible repeat first|apply rA|apply rD|apply r1); exact Kd.R_mono (Kd.R_far (p := ⟨gb252, 3, none⟩) (Kd.R_far (p := ⟨gb252, 2, none⟩) (Kd.R_far (p := ⟨gb252, 1, none⟩) (Kd.R_far (p := ⟨gb252, 0, none⟩) (Kd.R_mono HO_5.out (fun k_ hk => (⟨hk, hk.2⟩ : _ ∧ k_ ≠ gb252))) (fun _ hk => hk.2) (.int .i64 t246)) (fun _ hk => hk.2) (.int .i64 t247)) (fun _ hk => hk.2) (.int .i64 t248)) (fun _ hk => hk.2) (.string t249)) (fun _ hk => hk.1.2))); (case aS => exact (below_size bQ)); (case aL => have := LMc13.out; omega); intro v254 w18 ho hb hg hat; rw [← Ny253.out] at ho; have n0_ := aM (blk_grown (g := gb252) (o := .cells #[.int .i64 t246, .int .i64 t247, .int .i64 t248, .string t249] 65 (0, 0)) kQ hg (Kd.R_away HO_5.out (fun _ hk => hk.2))); have n1_ := aM hb; have n2_ := aM ho; clear BK252; clear HB; clear HO_5; have BK252 := n0_; have HB := n1_; have HO255 := n2_; clear n0_ n1_ n2_; clear ho hb hg hat)); try go_wp2_with (first | (go_at_call 38; (with_reducible refine (tok_Next.calls k1 a0 x6_1 t246 t247 t248 t249 t250 t251 _ ?side1 A2.out).mono ?_); (case side1 => exact gQ HG.out); rintro e w14 ⟨rfl, hb⟩; replace HO_5 := rK HO_5 hb; replace HB := sB hb; clear hb) | ((with_reducible refine gD 7 ?_); refine bE 7 (cs := #[.int .i64 0, .int .i64 0, .int .i64 0, .string (⟨#[]⟩ : ByteArray)]) (t := 65) ?_; intro gb252 hg w15 hbox hb; replace HO_5 := aM (Kd.R_below (Kd.R_elderB (mQ HO_5) gb252 (Nat.le_of_eq hg.symm)) hb); have BK252 := aM hbox; have GW252 := sG w hg; have GE252 := sG w hg; replace HB := sB hb; clear hb hbox hg; obtain ⟨hcz16_0, hcz16_1, hcz16_2, hcz16_3, hfz16_0, hfz16_1, hfz16_2, hfz16_3⟩ := b4 BK252; obtain ⟨Ao17, co17, eo17⟩ := Kd.R_slice HO_5.out; subst eo17) | ((with_reducible refine gate_builtin (b := .append) (xs := #[.tmp 35, .tmp 37]) rfl ?_); at_builtin; refine Kd.R_append k65 (w0 := w) w.heap.size rfl (.tmp 35) (.tmp 37) 61 65 (.agg #[(.int .i64 0), (.int .i64 0), (.int .i64 0), (.string ⟨#[]⟩)]) 40 rfl Tryz.underlying61 info65 rfl (by decide) (by omega) (.slice Ao17 x5_1.length co17) x5_1 (⟨t246, t247, t248, t249⟩ : S65) [.int .i64 t246, .int .i64 t247, .int .i64 t248, .string t249] (fun k_ => k_ ≠ gb252) (fun _ => False) rfl (by first | (go_simp; done) | (go_simp; rfl)) ?aP (fun _ hk => hk.elim) ?aF ?aO ?aB ?aS ?aL ?_; (case aP => exact k65_mkM _ _ _ (⟨t246, t247, t248, t249⟩ : S65)); (case aB => exact bQ); (case aF => exact (fun k_ hk => Kd.freshB (g := gb252) (o := .cells #[.int .i64 t246, .int .i64 t247, .int .i64 t248, .string t249] 65 (0, 0)) kQ k_ hk)); (case aO => exact (by (with_reducible repeat first|apply rA|apply rD|apply r1); exact Kd.R_mono (Kd.R_far (p := ⟨gb252, 3, none⟩) (Kd.R_far (p := ⟨gb252, 2, none⟩) (Kd.R_far (p := ⟨gb252, 1, none⟩) (Kd.R_far (p := ⟨gb252, 0, none⟩) (Kd.R_mono HO_5.out (fun k_ hk => (⟨hk, hk.2⟩ : _ ∧ k_ ≠ gb252))) (fun _ hk => hk.2) (.int .i64 t246)) (fun _ hk => hk.2) (.int .i64 t247)) (fun _ hk => hk.2) (.int .i64 t248)) (fun _ hk => hk.2) (.string t249)) (fun _ hk => hk.1.2))); (case aS => exact (below_size bQ)); (case aL => have := LMc13.out; omega); intro v254 w18 ho hb hg hat; rw [← Ny253.out] at ho; have n0_ := aM (blk_grown (g := gb252) (o := .cells #[.int .i64 t246, .int .i64 t247, .int .i64 t248, .string t249] 65 (0, 0)) kQ hg (Kd.R_away HO_5.out (fun _ hk => hk.2))); have n1_ := aM hb; have n2_ := aM ho; clear BK252; clear HB; clear HO_5; have BK252 := n0_; have HB := n1_; have HO255 := n2_; clear n0_ n1_ n2_; clear ho hb hg hat)))
   go_roundg k1
   case measure => have := HK1.out; omega
   case rel => exact ⟨(y253), (t250), vQ, H', ⟨by have := HK1.out; omega⟩, ⟨by (with_reducible repeat first|apply rA|apply rD|apply r1); exact Kd.R_mono HO255.out (fun _ hk => trivial)⟩, ⟨bQ⟩⟩
def diff_entries.l0 : Nat → List (S65) → List (S32) → Option ((List (S32)) × (List (S65)))
 | 0, _, _ => none
 | k + 1, x0, x4 => if (x0.length : Int) > 0 then (if 0 < (x0.length : Int) then (if ((rd_T65 x0 0).f0) = 1 then (if x4.length < 4398046511104 then (if 1 ≤ (x0.length : Int) then (diff_entries.l0 k (x0.drop 1) (x4 ++ [(⟨true, (rd_T65 x0 0).f2, (⟨#[]⟩ : ByteArray)⟩ : S32)])) else (none)) else (none)) else (if ((rd_T65 x0 0).f0) = 2 then (if x4.length < 4398046511104 then (if 1 ≤ (x0.length : Int) then (diff_entries.l0 k (x0.drop 1) (x4 ++ [(⟨false, 0, (rd_T65 x0 0).f3⟩ : S32)])) else (none)) else (none)) else (some (x4, x0)))) else (none)) else (some (x4, x0))
def diff_entries.f (k : Nat) (l0 : List (S65)) : Option ((List (S32)) × (List (S65))) := diff_entries.l0 k l0 ([] : List (S32))
theorem diff_entries.mono_l : ∀ k, (∀ y0 y1, LeO (diff_entries.l0 k y0 y1) (diff_entries.l0 (k + 1) y0 y1))
 | 0 => fun _ _ r h => by simp [diff_entries.l0] at h
 | k + 1 => by
  have ih0 := diff_entries.mono_l k
  ·intro y0 y1
   unfold diff_entries.l0
   repeat' first
   | (with_reducible exact ih0 _ _)
   | (with_reducible exact LeO.refl _)
   | (with_reducible exact LeO.none _)
   | (with_reducible refine LeO.ite ?_ ?_)
   | (with_reducible refine LeO.bind ?_ (fun _ => ?_))
   | exact ih0 _ _
   | exact LeO.none _
   | refine LeO.ite ?_ ?_
   | refine LeO.bind ?_ (fun _ => ?_)
theorem diff_entries.mono : ∀ a0 k, LeO (diff_entries.f k a0) (diff_entries.f (k + 1) a0) := by
 intro a0 k
 have ih0 := diff_entries.mono_l k
 unfold diff_entries.f
 repeat' first
   | (with_reducible exact ih0 _ _)
   | (with_reducible exact LeO.refl _)
   | (with_reducible exact LeO.none _)
   | (with_reducible refine LeO.ite ?_ ?_)
   | (with_reducible refine LeO.bind ?_ (fun _ => ?_))
   | exact ih0 _ _
   | exact LeO.none _
   | refine LeO.ite ?_ ?_
   | refine LeO.bind ?_ (fun _ => ?_)
set_option maxHeartbeats 8000000 in
set_option maxRecDepth 100000 in
theorem diff_entries.calls (k : Nat) (P0_ : Nat → Prop) (A0 : Option Addr) (c0 : Nat) (l0 : List (S65)) (r1 : List (S32)) (r2 : List (S65)) (w : World) (hs0 : Kd.V k65 65 w w.heap.size (fun k_ => P0_ k_) (.slice A0 l0.length c0) l0) (h : diff_entries.f k l0 = some (r1, r2)) :
  Calls Tryz.prog 30 #[.slice A0 l0.length c0] w fun e w' => ∃ v0_ v1_ : Value, e = .returned (.tuple #[v0_, v1_]) ∧ Kd.R k32 32 w' w.heap.size (fun k_ => (w.heap.size ≤ k_)) v0_ r1 ∧ Kd.V k65 65 w' w.heap.size (fun k_ => (P0_ k_ ∨ w.heap.size ≤ k_) ∧ some k_ ≠ (v0_ : Value).ownBlock) v1_ r2 ∧ Below w.heap.size w w' := by
 have hu65 := Tryz.underlying65
 have hu32 := Tryz.underlying32
 have HO0 := aM (show Kd.V k65 65 w w.heap.size (fun k_ => (P0_ k_ ∨ w.heap.size ≤ k_)) (.slice A0 l0.length c0) l0 from Kd.V_mono hs0 (fun k_ hk => .inl hk))
 have HB := aM (Below.refl w.heap.size w)
 have H : (diff_entries.l0 k l0 ([] : List (S32))) = some (r1, r2) := h
 clear h
 have H' := aM H
 clear H
 go_enter Tryz.func30, Tryz.ntmps30
 go_wp2
 go_loopg [0, 4] k (fun kq v0 v4 w' => ∃ (x0_1 : List (S65)) (x4_1 : List (S32)), Aside0 (diff_entries.l0 kq x0_1 x4_1 = some (r1, r2)) ∧ Aside0 (kq ≤ k) ∧ Aside0 (Kd.V k65 65 w' w.heap.size (fun k_ => (P0_ k_ ∨ w.heap.size ≤ k_) ∧ some k_ ≠ (v4 : Value).ownBlock) v0 x0_1) ∧ Aside0 (Kd.R k32 32 w' w.heap.size (fun k_ => (w.heap.size ≤ k_)) v4 x4_1) ∧ Aside0 (Below w.heap.size w w'))
 case atStart => exact ⟨(l0), (([] : List (S32))), H', ⟨Nat.le_refl _⟩, ⟨by (with_reducible repeat (first | apply Kd.V_alloc | apply Kd.V_drewN | apply Kd.V_drew)); exact Kd.V_mono HO0.out (fun _ hk => ⟨hk, (by simp [Value.ownBlock])⟩)⟩, ⟨by first | exact Kd.R_nil _ _ _ _ _ | exact Kd.N_nil _ _ _ _ _ | exact Kd.V_nil _ _ _ _ _ | exact Kd.Q_nil _ _ _ _ _ | exact Kd.S_nil _ _ _ _ _⟩, ⟨bQ⟩⟩
 case round =>
  clear H'
  obtain ⟨x0_1, x4_1, HA, HK1, HO_0, HO_4, HB⟩ := hrel
  cases gk with
  | zero => exact absurd HA.out (by simp [diff_entries.l0])
  | succ k1 =>
   have H := HA.out
   clear HA
   simp only [diff_entries.l0] at H
   refine iNc H ?_ ?_<;>clear H<;>intro H c2
   rotate_left
   ·have c2b0 : decide (0 < (x0_1.length : Int)) = false := decide_eq_false c2
    have c2b1 : decide (0 < x0_1.length) = false := decide_eq_false (by omega)
    clear c2
    simp only [Option.some.injEq, Prod.mk.injEq] at H
    obtain ⟨rfl, rfl⟩ := H
    obtain ⟨Ao23, co23, eo23⟩ := Kd.V_slice HO_0.out
    subst eo23
    go_wp2
    go_ret2
    exact ⟨_, _, eQ, mQ HO_4, by (with_reducible repeat (first | apply Kd.V_alloc | apply Kd.V_drewN | apply Kd.V_drew)); exact HO_0.out, bQ⟩
   have c2b0 : decide (0 < (x0_1.length : Int)) = true := decide_eq_true c2
   have c2b1 : decide (0 < x0_1.length) = true := decide_eq_true (by omega)
   clear c2
   refine iDc H ?_ ?_<;>clear H<;>intro H c3b0 c3
   rotate_left
   ·exact absurd H (by simp)
   have c3b1 : decide (0 < x0_1.length) = true := decide_eq_true (by omega)
   clear c3
   refine iEc H ?_ ?_<;>clear H<;>intro H c4b0 c4b1 c4
   ·clear c4
    refine iNc H ?_ ?_<;>clear H<;>intro H c5
    rotate_left
    ·exact absurd H (by simp)
    have LMc5 := aM c5
    clear c5
    obtain ⟨y258, hy258⟩ : ∃ y_ : List (S32), y_ = (x4_1 ++ [(⟨true, (rd_T65 x0_1 0).f2, (⟨#[]⟩ : ByteArray)⟩ : S32)]) := ⟨_, rfl⟩
    replace H : (if 1 ≤ (x0_1.length : Int) then (diff_entries.l0 k1 (x0_1.drop 1) y258) else (none)) = some (r1, r2) := by first | (rw [hy258]; with_reducible exact H) | (have H2_ := (Option.bind_some _ _).symm.trans H; rw [hy258]; with_reducible exact H2_) | (have H2_ := (Option.bind_some _ _).symm.trans H; with_reducible exact H2_) | with_reducible exact H | (rw [hy258]; exact H) | exact H
    have Ny258 := aM hy258
    clear hy258
    refine iNc H ?_ ?_<;>clear H<;>intro H c6
    rotate_left
    ·exact absurd H (by simp)
    have c6b0 := eq_true c6
    have c6b1 : decide (1 ≤ (x0_1.length : Int)) = true := decide_eq_true c6
    clear c6
    obtain ⟨y261, hy261⟩ : ∃ y_ : List (S65), y_ = (x0_1.drop 1) := ⟨_, rfl⟩
    replace H : (diff_entries.l0 k1 y261 y258) = some (r1, r2) := by first | (rw [hy261]; with_reducible exact H) | (have H2_ := (Option.bind_some _ _).symm.trans H; rw [hy261]; with_reducible exact H2_) | (have H2_ := (Option.bind_some _ _).symm.trans H; with_reducible exact H2_) | with_reducible exact H | (rw [hy261]; exact H) | exact H
    have Ny261 := aM hy261
    clear hy261
    have H' := aM H
    clear H
    obtain ⟨Ao7, co7, eo7⟩ := Kd.V_slice HO_0.out
    subst eo7
    have p256 : 0 ≤ (0 : Int) := (by omega)
    have q256 : 0 < (x0_1.length : Int) := of_decide_eq_true hQ
    obtain ⟨ad256, e256, hx256_0, hx256_1, hx256_2, hx256_3⟩ := at_T65 (Kd.V_reads' HO_0.out).2.2 0 p256 q256
    cases e256
    have qi256 : (0 < x0_1.length) = True := eq_true (by omega)
    (try rw [show ((0 : Int)).toNat = 0 from rfl] at hx256_0)
    (try rw [show 0 * 4 = 0 from rfl] at hx256_0)
    (try rw [Addr.add_zero'] at hx256_0)
    (try rw [show ((0 : Int)).toNat = 0 from rfl] at hx256_1)
    (try rw [show 0 * 4 = 0 from rfl] at hx256_1)
    (try rw [Addr.add_zero'] at hx256_1)
    (try rw [show ((0 : Int)).toNat = 0 from rfl] at hx256_2)
    (try rw [show 0 * 4 = 0 from rfl] at hx256_2)
    (try rw [Addr.add_zero'] at hx256_2)
    (try rw [show ((0 : Int)).toNat = 0 from rfl] at hx256_3)
    (try rw [show 0 * 4 = 0 from rfl] at hx256_3)
    (try rw [Addr.add_zero'] at hx256_3)
    replace p256 := eq_true p256
    replace q256 := eq_true q256
    go_wp2_with (first | ((with_reducible refine gD 5 ?_); refine bE 5 (cs := #[.int .i64 0, .int .i64 0, .int .i64 0, .string (⟨#[]⟩ : ByteArray)]) (t := 65) ?_; intro gb257 hg w8 hbox hb; replace HO_0 := aM (Kd.V_below (Kd.V_elderB (by (with_reducible repeat (first | apply Kd.V_alloc | apply Kd.V_drewN | apply Kd.V_drew)); exact HO_0.out) gb257 (Nat.le_of_eq hg.symm)) hb); replace HO_4 := rK HO_4 hb; have BK257 := aM hbox; have GW257 := sG w hg; have GE257 := sG w hg; replace HB := sB hb; clear hb hbox hg; obtain ⟨hcz9_0, hcz9_1, hcz9_2, hcz9_3, hfz9_0, hfz9_1, hfz9_2, hfz9_3⟩ := b4 BK257) | ((with_reducible refine gate_builtin (b := .append) (xs := #[.tmp 18, .tmp 22]) rfl ?_); at_builtin; refine Kd.R_append k32 (w0 := w) w.heap.size rfl (.tmp 18) (.tmp 22) 29 32 (.agg #[(.bool false), (.int .i64 0), (.string ⟨#[]⟩)]) 32 rfl Tryz.underlying29 info32 rfl (by decide) (by omega) u4 x4_1 (⟨true, (rd_T65 x0_1 0).f2, (⟨#[]⟩ : ByteArray)⟩ : S32) [.bool true, .int .i64 ((rd_T65 x0_1 0).f2), .string (⟨#[]⟩ : ByteArray)] (fun k_ => (w.heap.size ≤ k_)) (fun _ => False) rfl (by first | (go_simp; done) | (go_simp; rfl)) ?aP (fun _ hk => hk.elim) ?aF ?aO ?aB ?aS ?aL ?_; (case aP => exact k32_mkM _ _ _ (⟨true, (rd_T65 x0_1 0).f2, (⟨#[]⟩ : ByteArray)⟩ : S32)); (case aB => exact bQ); (case aF => exact (fun k_ hk => (Nat.le_trans (below_size bQ) hk))); (case aO => exact (by (with_reducible repeat first|apply rA|apply rD|apply r1); exact Kd.R_mono (Kd.R_far (p := ⟨gb257, 3, none⟩) (Kd.R_far (p := ⟨gb257, 2, none⟩) (Kd.R_far (p := ⟨gb257, 1, none⟩) (Kd.R_far (p := ⟨gb257, 0, none⟩) (Kd.R_types HO_4.out BK257.out (by decide)) (fun _ hk => hk.2) (.int .i64 ((rd_T65 x0_1 0).f0))) (fun _ hk => hk.2) (.int .i64 ((rd_T65 x0_1 0).f1))) (fun _ hk => hk.2) (.int .i64 ((rd_T65 x0_1 0).f2))) (fun _ hk => hk.2) (.string ((rd_T65 x0_1 0).f3))) (fun _ hk => hk.1))); (case aS => exact (below_size bQ)); (case aL => have := LMc5.out; omega); intro v259 w10 ho hb hg hat; rw [← Ny258.out] at ho; have n0_ := aM (Kd.V_afterv (ok := (fun k_ => (P0_ k_ ∨ w.heap.size ≤ k_) ∧ k_ ≠ gb257)) (by (with_reducible repeat (first | apply Kd.V_alloc | apply Kd.V_drewN | apply Kd.V_drew)); exact Kd.V_mono (Kd.V_far (p := ⟨gb257, 3, none⟩) (Kd.V_far (p := ⟨gb257, 2, none⟩) (Kd.V_far (p := ⟨gb257, 1, none⟩) (Kd.V_far (p := ⟨gb257, 0, none⟩) (Kd.V_mono HO_0.out (fun k_ hk => (⟨hk, hk.2⟩ : _ ∧ k_ ≠ gb257))) (fun _ hk => hk.2) (.int .i64 ((rd_T65 x0_1 0).f0))) (fun _ hk => hk.2) (.int .i64 ((rd_T65 x0_1 0).f1))) (fun _ hk => hk.2) (.int .i64 ((rd_T65 x0_1 0).f2))) (fun _ hk => hk.2) (.string ((rd_T65 x0_1 0).f3))) (fun _ hk => ⟨⟨hk.1.1.1, hk.1.2⟩, hk.1.1.2⟩)) hg hat); have n1_ := aM (blk_grown (g := gb257) (o := .cells #[.int .i64 ((rd_T65 x0_1 0).f0), .int .i64 ((rd_T65 x0_1 0).f1), .int .i64 ((rd_T65 x0_1 0).f2), .string ((rd_T65 x0_1 0).f3)] 65 (0, 0)) kQ hg (Kd.R_ne HO_4.out BK257.out (by decide))); have n2_ := aM hb; have n3_ := aM ho; clear HO_0; clear BK257; clear HB; clear HO_4; have HO_0 := n0_; have BK257 := n1_; have HB := n2_; have HO260 := n3_; clear n0_ n1_ n2_ n3_; clear ho hb hg hat; have q11 : (1 : Int) ≤ ((x0_1.length : Int) : Int) := of_decide_eq_true hQ; obtain ⟨i011, hi011, _, hsz11, _⟩ := info_parts info65; have hroom11 : x0_1.length ≤ co7 := (Kd.V_reads' HO_0.out).2.1; have hC11 : Kd.F k65 _ _ (some ad256) x0_1.length x0_1 := (Kd.V_at (base := w.heap.size) HO_0.out).2.2; have hcut11 := cut_from (P := Tryz.prog) 61 65 .i64 Tryz.underlying61 hi011 4 hsz11 (some ad256) x0_1.length co7 1 (by omega) q11; have hr11 := Kd.F_cut (m := (1 : Int).toNat) (c := co7) hC11 (by omega) hroom11; obtain ⟨A11, hA11⟩ : ∃ A1, A1 = (if co7 = (1 : Int).toNat then (some ad256) else ((some ad256) : Option Addr).map (·.add ((1 : Int).toNat * 4))) := ⟨_, rfl⟩; obtain ⟨c11, hc11⟩ : ∃ c1, c1 = co7 - (1 : Int).toNat := ⟨_, rfl⟩; have hy11 : y261.length = x0_1.length - (1 : Int).toNat := (by rw [Ny261.out, List.length_drop] <;> omega); rw [show (x0_1).drop (1 : Int).toNat = y261 from Ny261.out.symm] at hr11; replace hr11 : Kd.F k65 _ _ A11 y261.length y261 := (by rw [hA11]; exact hr11); rw [← hy11, ← hA11, ← hc11] at hcut11; have HO265 := aM (show Kd.V k65 65 _ w.heap.size _ (.slice A11 y261.length c11) y261 from Kd.V_mk (by rw [hy11, hc11]; exact Nat.sub_le_sub_right hroom11 _) hr11); have HC265 := aM (show y261.length ≤ c11 from by rw [hy11, hc11]; exact Nat.sub_le_sub_right hroom11 _); clear hr11 hC11 hroom11 hi011 hsz11 hc11; have KY11 := aM hy11; have KA11 := aM hA11; clear hy11 hA11; replace q11 := eq_true q11))
    go_roundg k1
    case measure => have := HK1.out; omega
    case rel => exact ⟨(y261), (y258), H', ⟨by have := HK1.out; omega⟩, ⟨by (with_reducible repeat (first | apply Kd.V_alloc | apply Kd.V_drewN | apply Kd.V_drew)); exact Kd.V_mono HO265.out (fun _ hk => ⟨hk.1.1, hk.2⟩)⟩, ⟨mQ HO260⟩, ⟨bQ⟩⟩
   refine iEc H ?_ ?_<;>clear H<;>intro H c12b0 c12b1 c12
   rotate_left
   ·simp only [Option.some.injEq, Prod.mk.injEq] at H
    obtain ⟨rfl, rfl⟩ := H
    obtain ⟨Ao20, co20, eo20⟩ := Kd.V_slice HO_0.out
    subst eo20
    have p256 : 0 ≤ (0 : Int) := (by omega)
    have q256 : 0 < (x0_1.length : Int) := of_decide_eq_true hQ
    obtain ⟨ad256, e256, hx256_0, hx256_1, hx256_2, hx256_3⟩ := at_T65 (Kd.V_reads' HO_0.out).2.2 0 p256 q256
    cases e256
    have qi256 : (0 < x0_1.length) = True := eq_true (by omega)
    (try rw [show ((0 : Int)).toNat = 0 from rfl] at hx256_0)
    (try rw [show 0 * 4 = 0 from rfl] at hx256_0)
    (try rw [Addr.add_zero'] at hx256_0)
    (try rw [show ((0 : Int)).toNat = 0 from rfl] at hx256_1)
    (try rw [show 0 * 4 = 0 from rfl] at hx256_1)
    (try rw [Addr.add_zero'] at hx256_1)
    (try rw [show ((0 : Int)).toNat = 0 from rfl] at hx256_2)
    (try rw [show 0 * 4 = 0 from rfl] at hx256_2)
    (try rw [Addr.add_zero'] at hx256_2)
    (try rw [show ((0 : Int)).toNat = 0 from rfl] at hx256_3)
    (try rw [show 0 * 4 = 0 from rfl] at hx256_3)
    (try rw [Addr.add_zero'] at hx256_3)
    replace p256 := eq_true p256
    replace q256 := eq_true q256
    go_wp2_with (first | ((with_reducible refine gD 5 ?_); refine bE 5 (cs := #[.int .i64 0, .int .i64 0, .int .i64 0, .string (⟨#[]⟩ : ByteArray)]) (t := 65) ?_; intro gb257 hg w21 hbox hb; replace HO_0 := aM (Kd.V_below (Kd.V_elderB (by (with_reducible repeat (first | apply Kd.V_alloc | apply Kd.V_drewN | apply Kd.V_drew)); exact HO_0.out) gb257 (Nat.le_of_eq hg.symm)) hb); replace HO_4 := rK HO_4 hb; have BK257 := aM hbox; have GW257 := sG w hg; have GE257 := sG w hg; replace HB := sB hb; clear hb hbox hg; obtain ⟨hcz22_0, hcz22_1, hcz22_2, hcz22_3, hfz22_0, hfz22_1, hfz22_2, hfz22_3⟩ := b4 BK257))
    go_ret2
    exact ⟨_, _, eQ, by (with_reducible repeat first|apply rA|apply rD|apply r1); exact Kd.R_mono (Kd.R_far (p := ⟨gb257, 3, none⟩) (Kd.R_far (p := ⟨gb257, 2, none⟩) (Kd.R_far (p := ⟨gb257, 1, none⟩) (Kd.R_far (p := ⟨gb257, 0, none⟩) (Kd.R_types HO_4.out BK257.out (by decide)) (fun _ hk => hk.2) (.int .i64 ((rd_T65 x0_1 0).f0))) (fun _ hk => hk.2) (.int .i64 ((rd_T65 x0_1 0).f1))) (fun _ hk => hk.2) (.int .i64 ((rd_T65 x0_1 0).f2))) (fun _ hk => hk.2) (.string ((rd_T65 x0_1 0).f3))) (fun _ hk => hk.1), by (with_reducible repeat (first | apply Kd.V_alloc | apply Kd.V_drewN | apply Kd.V_drew)); exact Kd.V_mono (Kd.V_far (p := ⟨gb257, 3, none⟩) (Kd.V_far (p := ⟨gb257, 2, none⟩) (Kd.V_far (p := ⟨gb257, 1, none⟩) (Kd.V_far (p := ⟨gb257, 0, none⟩) (Kd.V_mono HO_0.out (fun k_ hk => (⟨hk, hk.2⟩ : _ ∧ k_ ≠ gb257))) (fun _ hk => hk.2) (.int .i64 ((rd_T65 x0_1 0).f0))) (fun _ hk => hk.2) (.int .i64 ((rd_T65 x0_1 0).f1))) (fun _ hk => hk.2) (.int .i64 ((rd_T65 x0_1 0).f2))) (fun _ hk => hk.2) (.string ((rd_T65 x0_1 0).f3))) (fun _ hk => ⟨hk.1.1.1, hk.1.1.2⟩), bQ⟩
   clear c12
   refine iNc H ?_ ?_<;>clear H<;>intro H c13
   rotate_left
   ·exact absurd H (by simp)
   have LMc13 := aM c13
   clear c13
   obtain ⟨y266, hy266⟩ : ∃ y_ : List (S32), y_ = (x4_1 ++ [(⟨false, 0, (rd_T65 x0_1 0).f3⟩ : S32)]) := ⟨_, rfl⟩
   replace H : (if 1 ≤ (x0_1.length : Int) then (diff_entries.l0 k1 (x0_1.drop 1) y266) else (none)) = some (r1, r2) := by first | (rw [hy266]; with_reducible exact H) | (have H2_ := (Option.bind_some _ _).symm.trans H; rw [hy266]; with_reducible exact H2_) | (have H2_ := (Option.bind_some _ _).symm.trans H; with_reducible exact H2_) | with_reducible exact H | (rw [hy266]; exact H) | exact H
   have Ny266 := aM hy266
   clear hy266
   refine iNc H ?_ ?_<;>clear H<;>intro H c14
   rotate_left
   ·exact absurd H (by simp)
   have c14b0 := eq_true c14
   have c14b1 : decide (1 ≤ (x0_1.length : Int)) = true := decide_eq_true c14
   clear c14
   obtain ⟨y269, hy269⟩ : ∃ y_ : List (S65), y_ = (x0_1.drop 1) := ⟨_, rfl⟩
   replace H : (diff_entries.l0 k1 y269 y266) = some (r1, r2) := by first | (rw [hy269]; with_reducible exact H) | (have H2_ := (Option.bind_some _ _).symm.trans H; rw [hy269]; with_reducible exact H2_) | (have H2_ := (Option.bind_some _ _).symm.trans H; with_reducible exact H2_) | with_reducible exact H | (rw [hy269]; exact H) | exact H
   have Ny269 := aM hy269
   clear hy269
   have H' := aM H
   clear H
   obtain ⟨Ao15, co15, eo15⟩ := Kd.V_slice HO_0.out
   subst eo15
   have p256 : 0 ≤ (0 : Int) := (by omega)
   have q256 : 0 < (x0_1.length : Int) := of_decide_eq_true hQ
   obtain ⟨ad256, e256, hx256_0, hx256_1, hx256_2, hx256_3⟩ := at_T65 (Kd.V_reads' HO_0.out).2.2 0 p256 q256
   cases e256
   have qi256 : (0 < x0_1.length) = True := eq_true (by omega)
   (try rw [show ((0 : Int)).toNat = 0 from rfl] at hx256_0)
   (try rw [show 0 * 4 = 0 from rfl] at hx256_0)
   (try rw [Addr.add_zero'] at hx256_0)
   (try rw [show ((0 : Int)).toNat = 0 from rfl] at hx256_1)
   (try rw [show 0 * 4 = 0 from rfl] at hx256_1)
   (try rw [Addr.add_zero'] at hx256_1)
   (try rw [show ((0 : Int)).toNat = 0 from rfl] at hx256_2)
   (try rw [show 0 * 4 = 0 from rfl] at hx256_2)
   (try rw [Addr.add_zero'] at hx256_2)
   (try rw [show ((0 : Int)).toNat = 0 from rfl] at hx256_3)
   (try rw [show 0 * 4 = 0 from rfl] at hx256_3)
   (try rw [Addr.add_zero'] at hx256_3)
   replace p256 := eq_true p256
   replace q256 := eq_true q256
   go_wp2_with (first | ((with_reducible refine gD 5 ?_); refine bE 5 (cs := #[.int .i64 0, .int .i64 0, .int .i64 0, .string (⟨#[]⟩ : ByteArray)]) (t := 65) ?_; intro gb257 hg w16 hbox hb; replace HO_0 := aM (Kd.V_below (Kd.V_elderB (by (with_reducible repeat (first | apply Kd.V_alloc | apply Kd.V_drewN | apply Kd.V_drew)); exact HO_0.out) gb257 (Nat.le_of_eq hg.symm)) hb); replace HO_4 := rK HO_4 hb; have BK257 := aM hbox; have GW257 := sG w hg; have GE257 := sG w hg; replace HB := sB hb; clear hb hbox hg; obtain ⟨hcz17_0, hcz17_1, hcz17_2, hcz17_3, hfz17_0, hfz17_1, hfz17_2, hfz17_3⟩ := b4 BK257) | ((with_reducible refine gate_builtin (b := .append) (xs := #[.tmp 26, .tmp 30]) rfl ?_); at_builtin; refine Kd.R_append k32 (w0 := w) w.heap.size rfl (.tmp 26) (.tmp 30) 29 32 (.agg #[(.bool false), (.int .i64 0), (.string ⟨#[]⟩)]) 32 rfl Tryz.underlying29 info32 rfl (by decide) (by omega) u4 x4_1 (⟨false, 0, (rd_T65 x0_1 0).f3⟩ : S32) [.bool false, .int .i64 0, .string ((rd_T65 x0_1 0).f3)] (fun k_ => (w.heap.size ≤ k_)) (fun _ => False) rfl (by first | (go_simp; done) | (go_simp; rfl)) ?aP (fun _ hk => hk.elim) ?aF ?aO ?aB ?aS ?aL ?_; (case aP => exact k32_mkM _ _ _ (⟨false, 0, (rd_T65 x0_1 0).f3⟩ : S32)); (case aB => exact bQ); (case aF => exact (fun k_ hk => (Nat.le_trans (below_size bQ) hk))); (case aO => exact (by (with_reducible repeat first|apply rA|apply rD|apply r1); exact Kd.R_mono (Kd.R_far (p := ⟨gb257, 3, none⟩) (Kd.R_far (p := ⟨gb257, 2, none⟩) (Kd.R_far (p := ⟨gb257, 1, none⟩) (Kd.R_far (p := ⟨gb257, 0, none⟩) (Kd.R_types HO_4.out BK257.out (by decide)) (fun _ hk => hk.2) (.int .i64 ((rd_T65 x0_1 0).f0))) (fun _ hk => hk.2) (.int .i64 ((rd_T65 x0_1 0).f1))) (fun _ hk => hk.2) (.int .i64 ((rd_T65 x0_1 0).f2))) (fun _ hk => hk.2) (.string ((rd_T65 x0_1 0).f3))) (fun _ hk => hk.1))); (case aS => exact (below_size bQ)); (case aL => have := LMc13.out; omega); intro v267 w18 ho hb hg hat; rw [← Ny266.out] at ho; have n0_ := aM (Kd.V_afterv (ok := (fun k_ => (P0_ k_ ∨ w.heap.size ≤ k_) ∧ k_ ≠ gb257)) (by (with_reducible repeat (first | apply Kd.V_alloc | apply Kd.V_drewN | apply Kd.V_drew)); exact Kd.V_mono (Kd.V_far (p := ⟨gb257, 3, none⟩) (Kd.V_far (p := ⟨gb257, 2, none⟩) (Kd.V_far (p := ⟨gb257, 1, none⟩) (Kd.V_far (p := ⟨gb257, 0, none⟩) (Kd.V_mono HO_0.out (fun k_ hk => (⟨hk, hk.2⟩ : _ ∧ k_ ≠ gb257))) (fun _ hk => hk.2) (.int .i64 ((rd_T65 x0_1 0).f0))) (fun _ hk => hk.2) (.int .i64 ((rd_T65 x0_1 0).f1))) (fun _ hk => hk.2) (.int .i64 ((rd_T65 x0_1 0).f2))) (fun _ hk => hk.2) (.string ((rd_T65 x0_1 0).f3))) (fun _ hk => ⟨⟨hk.1.1.1, hk.1.2⟩, hk.1.1.2⟩)) hg hat); have n1_ := aM (blk_grown (g := gb257) (o := .cells #[.int .i64 ((rd_T65 x0_1 0).f0), .int .i64 ((rd_T65 x0_1 0).f1), .int .i64 ((rd_T65 x0_1 0).f2), .string ((rd_T65 x0_1 0).f3)] 65 (0, 0)) kQ hg (Kd.R_ne HO_4.out BK257.out (by decide))); have n2_ := aM hb; have n3_ := aM ho; clear HO_0; clear BK257; clear HB; clear HO_4; have HO_0 := n0_; have BK257 := n1_; have HB := n2_; have HO268 := n3_; clear n0_ n1_ n2_ n3_; clear ho hb hg hat; have q19 : (1 : Int) ≤ ((x0_1.length : Int) : Int) := of_decide_eq_true hQ; obtain ⟨i019, hi019, _, hsz19, _⟩ := info_parts info65; have hroom19 : x0_1.length ≤ co15 := (Kd.V_reads' HO_0.out).2.1; have hC19 : Kd.F k65 _ _ (some ad256) x0_1.length x0_1 := (Kd.V_at (base := w.heap.size) HO_0.out).2.2; have hcut19 := cut_from (P := Tryz.prog) 61 65 .i64 Tryz.underlying61 hi019 4 hsz19 (some ad256) x0_1.length co15 1 (by omega) q19; have hr19 := Kd.F_cut (m := (1 : Int).toNat) (c := co15) hC19 (by omega) hroom19; obtain ⟨A19, hA19⟩ : ∃ A1, A1 = (if co15 = (1 : Int).toNat then (some ad256) else ((some ad256) : Option Addr).map (·.add ((1 : Int).toNat * 4))) := ⟨_, rfl⟩; obtain ⟨c19, hc19⟩ : ∃ c1, c1 = co15 - (1 : Int).toNat := ⟨_, rfl⟩; have hy19 : y269.length = x0_1.length - (1 : Int).toNat := (by rw [Ny269.out, List.length_drop] <;> omega); rw [show (x0_1).drop (1 : Int).toNat = y269 from Ny269.out.symm] at hr19; replace hr19 : Kd.F k65 _ _ A19 y269.length y269 := (by rw [hA19]; exact hr19); rw [← hy19, ← hA19, ← hc19] at hcut19; have HO273 := aM (show Kd.V k65 65 _ w.heap.size _ (.slice A19 y269.length c19) y269 from Kd.V_mk (by rw [hy19, hc19]; exact Nat.sub_le_sub_right hroom19 _) hr19); have HC273 := aM (show y269.length ≤ c19 from by rw [hy19, hc19]; exact Nat.sub_le_sub_right hroom19 _); clear hr19 hC19 hroom19 hi019 hsz19 hc19; have KY19 := aM hy19; have KA19 := aM hA19; clear hy19 hA19; replace q19 := eq_true q19))
   go_roundg k1
   case measure => have := HK1.out; omega
   case rel => exact ⟨(y269), (y266), H', ⟨by have := HK1.out; omega⟩, ⟨by (with_reducible repeat (first | apply Kd.V_alloc | apply Kd.V_drewN | apply Kd.V_drew)); exact Kd.V_mono HO273.out (fun _ hk => ⟨hk.1.1, hk.2⟩)⟩, ⟨mQ HO268⟩, ⟨bQ⟩⟩
end Go.Proofs.YtdcldaknmenklaaGreatDoor.M
end
section
namespace Go.Proofs.YtdcldaknmenklaaGreatDoor.M
open Go.RowKit Go.Proofs.YtdcldaknmenklaaGreatDoorW.PrintWords Go.Proofs.YtdcldaknmenklaaGreatDoorW.PrintLast Go.Proofs.YtdcldaknmenklaaGreatDoorW.PrintMore
set_option linter.unusedVariables false
set_option linter.unusedSimpArgs false
def parseRest (size : Int) (z : List S32 × List S65) : List S32 × Int × Int :=
 match z.2 with
 | [] => ([], size, 2)
 | y :: r => if y.f0 = 7 then (match r with | [] => (z.1, size, 0) | u :: _ => ([], u.f1, 3)) else ([], y.f1, 3)
def diff_Parse.f (k : Nat) (a0 : ByteArray) : Option (List S32 × Int × Int) :=
 (tok_All.f k a0).bind fun y => if y.2.2 = 0 then (match y.1 with
  | [] => some ([], (a0.size : Int), 2)
  | x :: l => if x.f0 = 6 then (diff_entries.f k l).bind fun z => some (parseRest (a0.size : Int) z) else some ([], x.f1, 3)) else some ([], y.2.1, y.2.2)
theorem diff_Parse.mono : ∀ a0 k, LeO (diff_Parse.f k a0) (diff_Parse.f (k + 1) a0) := by
 intro a0 k
 unfold diff_Parse.f
 refine LeO.bind (tok_All.mono _ _) (fun y => LeO.ite ?_ (LeO.refl _))
 cases y.1 with
 | nil => exact LeO.refl _
 | cons x l => exact LeO.ite (LeO.bind (diff_entries.mono _ _) (fun _ => LeO.refl _)) (LeO.refl _)
theorem rd_zero (x : S65) (l : List S65) : rd_T65 (x :: l) 0 = x := rfl
theorem rd_one (x y : S65) (l : List S65) : rd_T65 (x :: y :: l) 1 = y := rfl
set_option maxHeartbeats 4000000 in
set_option maxRecDepth 1000000 in
theorem diff_Parse.calls (k : Nat) (a0 : ByteArray) (r1 : List S32) (r2 r3 : Int) (w : World) (hG : GW w) (h : diff_Parse.f k a0 = some (r1, r2, r3)) :
  Calls Tryz.prog 15 #[.string a0] w fun e w' => ∃ v0_ : Value, e = .returned (.tuple #[v0_, .int .i64 r2, .int .i64 r3]) ∧ Kd.R k32 32 w' w.heap.size (fun _ => True) v0_ r1 ∧ Below w.heap.size w w' := by
 have huE := Tryz.underlying32
 have huT := Tryz.underlying65
 unfold diff_Parse.f at h
 obtain ⟨⟨l, p, e⟩, hA, h⟩ := Option.bind_eq_some_iff.1 h
 dsimp only at h
 have HA := Aside0.mk hA
 have HG := Aside0.mk hG
 clear hA hG
 by_cases he : e = 0
 ·subst he
  rw [if_pos rfl] at h
  rcases l with _ | ⟨x, l⟩
  ·have hR := Option.some.inj h
   clear h
   injection hR with e1 hR
   injection hR with e2 e3
   subst e1 e2 e3
   go_enter Tryz.func15, Tryz.ntmps15
   go_wp2_with (go_at_call 29; refine (tok_All.calls k a0 _ _ _ _ HG.out HA.out).mono ?_; rintro ev W1 ⟨v0, rfl, ho, hb⟩; obtain ⟨A1, c1, eo⟩ := Kd.R_slice ho; subst eo; have HO := Aside0.mk ho; have HB := Aside0.mk hb; clear ho hb)
   go_ret3
   exact ⟨_, rfl, Kd.R_nil _ _ _ _ _, HB.out⟩
  have hlen1 : ((((x :: l).length : Nat) : Int) == 0) = false := by rw [beq_eq_false_iff_ne, List.length_cons]; omega
  by_cases h6 : x.f0 = 6
  ·dsimp only at h
   rw [if_pos h6] at h
   obtain ⟨⟨z1, z2⟩, hE, h⟩ := Option.bind_eq_some_iff.1 h
   have hR := Option.some.inj h
   clear h
   have HE := Aside0.mk hE
   clear hE
   have h6b : (x.f0 != 6) = false := bne_eq_false_iff_eq.2 h6
   have h6c : (x.f0 == 6) = true := beq_iff_eq.2 h6
   unfold parseRest at hR
   dsimp only at hR
   rcases z2 with _ | ⟨y, z2⟩
   ·dsimp only at hR
    injection hR with e1 hR
    injection hR with e2 e3
    subst e1 e2 e3
    go_enter Tryz.func15, Tryz.ntmps15
    go_wp2_with (first | (go_at_call 29; refine (tok_All.calls k a0 _ _ _ _ HG.out HA.out).mono ?_; rintro ev W1 ⟨v0, rfl, ho, hb⟩; obtain ⟨A1, c1, eo⟩ := Kd.R_slice ho; subst eo; have HO := Aside0.mk ho; have HB := Aside0.mk hb; clear ho hb; obtain ⟨ad1, ea1, hx0, hx1, hx2, hx3⟩ := at_T65 (Kd.R_reads' HO.out).2.2 0 (by omega) (by rw [List.length_cons]; omega); subst ea1; rw [rd_zero] at hx0 hx1 hx2 hx3; simp only [Int.toNat_zero, Nat.zero_mul, Addr.add_zero'] at hx0 hx1 hx2 hx3; have hlp : ((0 : Int) < (((x :: l).length : Nat) : Int)) = True := eq_true (by rw [List.length_cons]; omega); obtain ⟨i0_, hi0_, _, hsz0_, _⟩ := info_parts info65; have hroom_ := (Kd.R_reads' HO.out).2.1; have hcut := cut_from (P := Tryz.prog) 61 65 .i64 Tryz.underlying61 hi0_ 4 hsz0_ (some ad1) (x :: l).length c1 1 (by omega) (by rw [List.length_cons]; omega); have hF_ := Kd.F_cut (m := (1 : Int).toNat) (c := c1) (Kd.R_F HO.out) (by rw [List.length_cons]; simp) hroom_; obtain ⟨A2, hA2⟩ : ∃ A2, A2 = (if c1 = (1 : Int).toNat then (some ad1) else ((some ad1) : Option Addr).map (·.add ((1 : Int).toNat * 4))) := ⟨_, rfl⟩; obtain ⟨c2, hc2⟩ : ∃ c2, c2 = c1 - (1 : Int).toNat := ⟨_, rfl⟩; have hy_ : l.length = (x :: l).length - (1 : Int).toNat := (by rw [List.length_cons]; simp); rw [← hy_, ← hA2, ← hc2] at hcut; have HV := Aside0.mk (show Kd.V k65 65 W1 W1.heap.size (fun _ => True) (.slice A2 l.length c2) l from Kd.V_mk (by rw [hy_, hc2]; exact Nat.sub_le_sub_right hroom_ _) (by rw [hA2]; exact hF_)); clear hF_ hroom_ hi0_ hsz0_ hc2 hA2 hy_; (try rw [List.length_cons] at hcut)) | (go_at_call 30; refine (diff_entries.calls k (fun _ => True) A2 c2 l _ _ _ HV.out HE.out).mono ?_; rintro ev W2 ⟨v2, v3, rfl, ho2, hv3, hb2⟩; obtain ⟨A3, c3, eo3⟩ := Kd.V_slice hv3; subst eo3; have HB2 := Aside0.mk (below_step HB.out hb2); have HO2 := Aside0.mk (Kd.R_mono (ok' := fun _ => True) (Kd.R_lower ho2 (below_size HB.out)) (fun _ _ => trivial)); have HV3 := Aside0.mk hv3; clear ho2 hv3 hb2))
    repeat (go_quiet (fail); try go_wp2)
    go_ret3
    exact ⟨_, rfl, Kd.R_nil _ _ _ _ _, (by repeat (first | exact HB2.out | apply pw_below_drewN))⟩
   dsimp only at hR
   have hlen2 : ((((y :: z2).length : Nat) : Int) == 0) = false := by rw [beq_eq_false_iff_ne, List.length_cons]; omega
   have hlp2 : ((0 : Int) < (((y :: z2).length : Nat) : Int)) = True := eq_true (by rw [List.length_cons]; omega)
   by_cases h7 : y.f0 = 7
   ·rw [if_pos h7] at hR
    have h7b : (y.f0 != 7) = false := bne_eq_false_iff_eq.2 h7
    rcases z2 with _ | ⟨u, z2⟩
    ·dsimp only at hR
     injection hR with e1 hR
     injection hR with e2 e3
     subst e1 e2 e3
     go_enter Tryz.func15, Tryz.ntmps15
     go_wp2_with (first | (go_at_call 29; refine (tok_All.calls k a0 _ _ _ _ HG.out HA.out).mono ?_; rintro ev W1 ⟨v0, rfl, ho, hb⟩; obtain ⟨A1, c1, eo⟩ := Kd.R_slice ho; subst eo; have HO := Aside0.mk ho; have HB := Aside0.mk hb; clear ho hb; obtain ⟨ad1, ea1, hx0, hx1, hx2, hx3⟩ := at_T65 (Kd.R_reads' HO.out).2.2 0 (by omega) (by rw [List.length_cons]; omega); subst ea1; rw [rd_zero] at hx0 hx1 hx2 hx3; simp only [Int.toNat_zero, Nat.zero_mul, Addr.add_zero'] at hx0 hx1 hx2 hx3; have hlp : ((0 : Int) < (((x :: l).length : Nat) : Int)) = True := eq_true (by rw [List.length_cons]; omega); obtain ⟨i0_, hi0_, _, hsz0_, _⟩ := info_parts info65; have hroom_ := (Kd.R_reads' HO.out).2.1; have hcut := cut_from (P := Tryz.prog) 61 65 .i64 Tryz.underlying61 hi0_ 4 hsz0_ (some ad1) (x :: l).length c1 1 (by omega) (by rw [List.length_cons]; omega); have hF_ := Kd.F_cut (m := (1 : Int).toNat) (c := c1) (Kd.R_F HO.out) (by rw [List.length_cons]; simp) hroom_; obtain ⟨A2, hA2⟩ : ∃ A2, A2 = (if c1 = (1 : Int).toNat then (some ad1) else ((some ad1) : Option Addr).map (·.add ((1 : Int).toNat * 4))) := ⟨_, rfl⟩; obtain ⟨c2, hc2⟩ : ∃ c2, c2 = c1 - (1 : Int).toNat := ⟨_, rfl⟩; have hy_ : l.length = (x :: l).length - (1 : Int).toNat := (by rw [List.length_cons]; simp); rw [← hy_, ← hA2, ← hc2] at hcut; have HV := Aside0.mk (show Kd.V k65 65 W1 W1.heap.size (fun _ => True) (.slice A2 l.length c2) l from Kd.V_mk (by rw [hy_, hc2]; exact Nat.sub_le_sub_right hroom_ _) (by rw [hA2]; exact hF_)); clear hF_ hroom_ hi0_ hsz0_ hc2 hA2 hy_; (try rw [List.length_cons] at hcut)) | (go_at_call 30; refine (diff_entries.calls k (fun _ => True) A2 c2 l _ _ _ HV.out HE.out).mono ?_; rintro ev W2 ⟨v2, v3, rfl, ho2, hv3, hb2⟩; obtain ⟨A3, c3, eo3⟩ := Kd.V_slice hv3; subst eo3; have HB2 := Aside0.mk (below_step HB.out hb2); have HO2 := Aside0.mk (Kd.R_mono (ok' := fun _ => True) (Kd.R_lower ho2 (below_size HB.out)) (fun _ _ => trivial)); have HV3 := Aside0.mk hv3; clear ho2 hv3 hb2; obtain ⟨ad3, ea3, hy0, hy1, hy2, hy3⟩ := at_T65 (Kd.V_reads' HV3.out).2.2 0 (by omega) (by rw [List.length_cons]; omega); subst ea3; rw [rd_zero] at hy0 hy1 hy2 hy3; simp only [Int.toNat_zero, Nat.zero_mul, Addr.add_zero'] at hy0 hy1 hy2 hy3))
     repeat (go_quiet (fail); try go_wp2)
     go_ret3
     exact ⟨_, rfl, HO2.out, (by repeat (first | exact HB2.out | apply pw_below_drewN))⟩
    ·dsimp only at hR
     have hlp4 : ((1 : Int) < (z2.length : Int) + 1 + 1) = True := eq_true (by omega)
     have hlp5 : ((1 : Int) < (((y :: u :: z2).length : Nat) : Int)) = True := eq_true (by rw [List.length_cons, List.length_cons]; omega)
     injection hR with e1 hR
     injection hR with e2 e3
     subst e1 e2 e3
     go_enter Tryz.func15, Tryz.ntmps15
     go_wp2_with (first | (go_at_call 29; refine (tok_All.calls k a0 _ _ _ _ HG.out HA.out).mono ?_; rintro ev W1 ⟨v0, rfl, ho, hb⟩; obtain ⟨A1, c1, eo⟩ := Kd.R_slice ho; subst eo; have HO := Aside0.mk ho; have HB := Aside0.mk hb; clear ho hb; obtain ⟨ad1, ea1, hx0, hx1, hx2, hx3⟩ := at_T65 (Kd.R_reads' HO.out).2.2 0 (by omega) (by rw [List.length_cons]; omega); subst ea1; rw [rd_zero] at hx0 hx1 hx2 hx3; simp only [Int.toNat_zero, Nat.zero_mul, Addr.add_zero'] at hx0 hx1 hx2 hx3; have hlp : ((0 : Int) < (((x :: l).length : Nat) : Int)) = True := eq_true (by rw [List.length_cons]; omega); obtain ⟨i0_, hi0_, _, hsz0_, _⟩ := info_parts info65; have hroom_ := (Kd.R_reads' HO.out).2.1; have hcut := cut_from (P := Tryz.prog) 61 65 .i64 Tryz.underlying61 hi0_ 4 hsz0_ (some ad1) (x :: l).length c1 1 (by omega) (by rw [List.length_cons]; omega); have hF_ := Kd.F_cut (m := (1 : Int).toNat) (c := c1) (Kd.R_F HO.out) (by rw [List.length_cons]; simp) hroom_; obtain ⟨A2, hA2⟩ : ∃ A2, A2 = (if c1 = (1 : Int).toNat then (some ad1) else ((some ad1) : Option Addr).map (·.add ((1 : Int).toNat * 4))) := ⟨_, rfl⟩; obtain ⟨c2, hc2⟩ : ∃ c2, c2 = c1 - (1 : Int).toNat := ⟨_, rfl⟩; have hy_ : l.length = (x :: l).length - (1 : Int).toNat := (by rw [List.length_cons]; simp); rw [← hy_, ← hA2, ← hc2] at hcut; have HV := Aside0.mk (show Kd.V k65 65 W1 W1.heap.size (fun _ => True) (.slice A2 l.length c2) l from Kd.V_mk (by rw [hy_, hc2]; exact Nat.sub_le_sub_right hroom_ _) (by rw [hA2]; exact hF_)); clear hF_ hroom_ hi0_ hsz0_ hc2 hA2 hy_; (try rw [List.length_cons] at hcut)) | (go_at_call 30; refine (diff_entries.calls k (fun _ => True) A2 c2 l _ _ _ HV.out HE.out).mono ?_; rintro ev W2 ⟨v2, v3, rfl, ho2, hv3, hb2⟩; obtain ⟨A3, c3, eo3⟩ := Kd.V_slice hv3; subst eo3; have HB2 := Aside0.mk (below_step HB.out hb2); have HO2 := Aside0.mk (Kd.R_mono (ok' := fun _ => True) (Kd.R_lower ho2 (below_size HB.out)) (fun _ _ => trivial)); have HV3 := Aside0.mk hv3; clear ho2 hv3 hb2; obtain ⟨ad3, ea3, hy0, hy1, hy2, hy3⟩ := at_T65 (Kd.V_reads' HV3.out).2.2 0 (by omega) (by rw [List.length_cons]; omega); subst ea3; rw [rd_zero] at hy0 hy1 hy2 hy3; simp only [Int.toNat_zero, Nat.zero_mul, Addr.add_zero'] at hy0 hy1 hy2 hy3; obtain ⟨ad4, ea4, hu0, hu1, hu2, hu3⟩ := at_T65 (Kd.V_reads' HV3.out).2.2 1 (by omega) (by rw [List.length_cons, List.length_cons]; omega); obtain rfl : ad3 = ad4 := (by injection ea4); rw [rd_one] at hu0 hu1 hu2 hu3; simp only [show ((1 : Int)).toNat = 1 from rfl, Nat.one_mul] at hu0 hu1 hu2 hu3; have hv1 : W2.cell? ⟨ad3.block, ad3.off + 4 + 1, none⟩ = some (.int .i64 u.f1) := (by first | exact hu1 | simpa [Addr.add] using hu1)))
     repeat (go_quiet (fail); try go_wp2)
     go_ret3
     exact ⟨_, rfl, Kd.R_nil _ _ _ _ _, (by repeat (first | exact HB2.out | apply pw_below_drewN))⟩
   ·rw [if_neg h7] at hR
    have h7b : (y.f0 != 7) = true := bne_iff_ne.2 h7
    injection hR with e1 hR
    injection hR with e2 e3
    subst e1 e2 e3
    go_enter Tryz.func15, Tryz.ntmps15
    go_wp2_with (first | (go_at_call 29; refine (tok_All.calls k a0 _ _ _ _ HG.out HA.out).mono ?_; rintro ev W1 ⟨v0, rfl, ho, hb⟩; obtain ⟨A1, c1, eo⟩ := Kd.R_slice ho; subst eo; have HO := Aside0.mk ho; have HB := Aside0.mk hb; clear ho hb; obtain ⟨ad1, ea1, hx0, hx1, hx2, hx3⟩ := at_T65 (Kd.R_reads' HO.out).2.2 0 (by omega) (by rw [List.length_cons]; omega); subst ea1; rw [rd_zero] at hx0 hx1 hx2 hx3; simp only [Int.toNat_zero, Nat.zero_mul, Addr.add_zero'] at hx0 hx1 hx2 hx3; have hlp : ((0 : Int) < (((x :: l).length : Nat) : Int)) = True := eq_true (by rw [List.length_cons]; omega); obtain ⟨i0_, hi0_, _, hsz0_, _⟩ := info_parts info65; have hroom_ := (Kd.R_reads' HO.out).2.1; have hcut := cut_from (P := Tryz.prog) 61 65 .i64 Tryz.underlying61 hi0_ 4 hsz0_ (some ad1) (x :: l).length c1 1 (by omega) (by rw [List.length_cons]; omega); have hF_ := Kd.F_cut (m := (1 : Int).toNat) (c := c1) (Kd.R_F HO.out) (by rw [List.length_cons]; simp) hroom_; obtain ⟨A2, hA2⟩ : ∃ A2, A2 = (if c1 = (1 : Int).toNat then (some ad1) else ((some ad1) : Option Addr).map (·.add ((1 : Int).toNat * 4))) := ⟨_, rfl⟩; obtain ⟨c2, hc2⟩ : ∃ c2, c2 = c1 - (1 : Int).toNat := ⟨_, rfl⟩; have hy_ : l.length = (x :: l).length - (1 : Int).toNat := (by rw [List.length_cons]; simp); rw [← hy_, ← hA2, ← hc2] at hcut; have HV := Aside0.mk (show Kd.V k65 65 W1 W1.heap.size (fun _ => True) (.slice A2 l.length c2) l from Kd.V_mk (by rw [hy_, hc2]; exact Nat.sub_le_sub_right hroom_ _) (by rw [hA2]; exact hF_)); clear hF_ hroom_ hi0_ hsz0_ hc2 hA2 hy_; (try rw [List.length_cons] at hcut)) | (go_at_call 30; refine (diff_entries.calls k (fun _ => True) A2 c2 l _ _ _ HV.out HE.out).mono ?_; rintro ev W2 ⟨v2, v3, rfl, ho2, hv3, hb2⟩; obtain ⟨A3, c3, eo3⟩ := Kd.V_slice hv3; subst eo3; have HB2 := Aside0.mk (below_step HB.out hb2); have HO2 := Aside0.mk (Kd.R_mono (ok' := fun _ => True) (Kd.R_lower ho2 (below_size HB.out)) (fun _ _ => trivial)); have HV3 := Aside0.mk hv3; clear ho2 hv3 hb2; obtain ⟨ad3, ea3, hy0, hy1, hy2, hy3⟩ := at_T65 (Kd.V_reads' HV3.out).2.2 0 (by omega) (by rw [List.length_cons]; omega); subst ea3; rw [rd_zero] at hy0 hy1 hy2 hy3; simp only [Int.toNat_zero, Nat.zero_mul, Addr.add_zero'] at hy0 hy1 hy2 hy3))
    repeat (go_quiet (fail); try go_wp2)
    go_ret3
    exact ⟨_, rfl, Kd.R_nil _ _ _ _ _, (by repeat (first | exact HB2.out | apply pw_below_drewN))⟩
  ·dsimp only at h
   rw [if_neg h6] at h
   have hR := Option.some.inj h
   clear h
   injection hR with e1 hR
   injection hR with e2 e3
   subst e1 e2 e3
   have h6b : (x.f0 != 6) = true := bne_iff_ne.2 h6
   have h6c : (x.f0 == 6) = false := beq_eq_false_iff_ne.2 h6
   go_enter Tryz.func15, Tryz.ntmps15
   go_wp2_with (go_at_call 29; refine (tok_All.calls k a0 _ _ _ _ HG.out HA.out).mono ?_; rintro ev W1 ⟨v0, rfl, ho, hb⟩; obtain ⟨A1, c1, eo⟩ := Kd.R_slice ho; subst eo; have HO := Aside0.mk ho; have HB := Aside0.mk hb; clear ho hb; obtain ⟨ad1, ea1, hx0, hx1, hx2, hx3⟩ := at_T65 (Kd.R_reads' HO.out).2.2 0 (by omega) (by rw [List.length_cons]; omega); subst ea1; rw [rd_zero] at hx0 hx1 hx2 hx3; simp only [Int.toNat_zero, Nat.zero_mul, Addr.add_zero'] at hx0 hx1 hx2 hx3; have hlp : ((0 : Int) < (((x :: l).length : Nat) : Int)) = True := eq_true (by rw [List.length_cons]; omega))
   repeat (go_quiet (fail); try go_wp2)
   go_ret3
   exact ⟨_, rfl, Kd.R_nil _ _ _ _ _, (by repeat (first | exact HB.out | apply pw_below_drewN))⟩
 ·rw [if_neg he] at h
  have hR := Option.some.inj h
  clear h
  injection hR with e1 hR
  injection hR with e2 e3
  subst e1 e2 e3
  have heb : (e != 0) = true := bne_iff_ne.2 he
  have hec : (e == 0) = false := beq_eq_false_iff_ne.2 he
  go_enter Tryz.func15, Tryz.ntmps15
  go_wp2_with (go_at_call 29; refine (tok_All.calls k a0 _ _ _ _ HG.out HA.out).mono ?_; rintro ev W1 ⟨v0, rfl, ho, hb⟩; obtain ⟨A1, c1, eo⟩ := Kd.R_slice ho; subst eo; have HO := Aside0.mk ho; have HB := Aside0.mk hb; clear ho hb)
  go_ret3
  exact ⟨_, rfl, Kd.R_nil _ _ _ _ _, HB.out⟩
end Go.Proofs.YtdcldaknmenklaaGreatDoor.M
end
section
namespace Go.Proofs.YtdcldaknmenklaaGreatDoor.M
open Go.RowKit Go.Proofs.YtdcldaknmenklaaGreatDoorW.PrintWords Go.Proofs.YtdcldaknmenklaaGreatDoorW.PrintLast Go.Proofs.YtdcldaknmenklaaGreatDoorW.PrintMore
attribute [local go_sem] max2_int min2_int max_two min_two max_three min_three max_four min_four
set_option linter.unusedVariables false
set_option linter.unusedSimpArgs false
def hornbookref01_White.f (a0 : Int) : Option (Bool) := if a0 = 0 then (some true) else (if a0 = 9 then (some true) else (if a0 = 10 then (some true) else (if a0 = 12 then (some true) else (if a0 = 13 then (some true) else (some (a0 == 32))))))
set_option maxHeartbeats 8000000 in
set_option maxRecDepth 100000 in
theorem hornbookref01_White.calls (a0 : Int) (r : Bool) (w : World) (h : hornbookref01_White.f a0 = some r) :
  Calls Tryz.prog 72 #[.int .i64 a0] w fun e w' => e = .returned (.bool r) ∧ Drawn0 w w' := by
 have H : (if a0 = 0 then (some true) else (if a0 = 9 then (some true) else (if a0 = 10 then (some true) else (if a0 = 12 then (some true) else (if a0 = 13 then (some true) else (some (a0 == 32))))))) = some r := h
 clear h
 refine iEc H ?_ ?_<;>clear H<;>intro H c2b0 c2b1 c2
 ·clear c2
  obtain rfl := Option.some.inj H
  go_enter Tryz.func72, Tryz.ntmps72
  go_wp2
  go_ret
  exact ⟨by first | rfl | (simp; done) | (simp [*]; done), by repeat (first | exact Drawn0.refl _ | apply Drawn0.step)⟩
 refine iEc H ?_ ?_<;>clear H<;>intro H c3b0 c3b1 c3
 ·clear c3
  obtain rfl := Option.some.inj H
  go_enter Tryz.func72, Tryz.ntmps72
  go_wp2
  go_ret
  exact ⟨by first | rfl | (simp; done) | (simp [*]; done), by repeat (first | exact Drawn0.refl _ | apply Drawn0.step)⟩
 refine iEc H ?_ ?_<;>clear H<;>intro H c4b0 c4b1 c4
 ·clear c4
  obtain rfl := Option.some.inj H
  go_enter Tryz.func72, Tryz.ntmps72
  go_wp2
  go_ret
  exact ⟨by first | rfl | (simp; done) | (simp [*]; done), by repeat (first | exact Drawn0.refl _ | apply Drawn0.step)⟩
 refine iEc H ?_ ?_<;>clear H<;>intro H c5b0 c5b1 c5
 ·clear c5
  obtain rfl := Option.some.inj H
  go_enter Tryz.func72, Tryz.ntmps72
  go_wp2
  go_ret
  exact ⟨by first | rfl | (simp; done) | (simp [*]; done), by repeat (first | exact Drawn0.refl _ | apply Drawn0.step)⟩
 refine iEc H ?_ ?_<;>clear H<;>intro H c6b0 c6b1 c6
 rotate_left
 ·obtain rfl := Option.some.inj H
  go_enter Tryz.func72, Tryz.ntmps72
  go_wp2
  go_ret
  exact ⟨by first | rfl | (simp; done) | (simp [*]; done), by repeat (first | exact Drawn0.refl _ | apply Drawn0.step)⟩
 clear c6
 obtain rfl := Option.some.inj H
 go_enter Tryz.func72, Tryz.ntmps72
 go_wp2
 go_ret
 exact ⟨by first | rfl | (simp; done) | (simp [*]; done), by repeat (first | exact Drawn0.refl _ | apply Drawn0.step)⟩
def hornbookref03_Class.l0 : Nat → Int → ByteArray → Int → Option (Int)
 | 0, _, _, _ => none
 | k + 1, x0, x3, x4 => if x4 < (x3.size : Int) then (if 0 ≤ x4 then (if (wrap64 (bt x3 x4)) = x0 then (some 2) else (hornbookref03_Class.l0 k x0 x3 (wrap64 (x4 + 1)))) else (none)) else (some 0)
def hornbookref03_Class.f (k : Nat) (a0 : Int) : Option (Int) := (hornbookref01_White.f a0).bind fun t410 => (if t410 = true then (some 1) else (hornbookref03_Class.l0 k a0 (⟨#[40, 41, 60, 62, 91, 93, 123, 125, 47, 37]⟩ : ByteArray) 0))
set_option maxHeartbeats 8000000 in
set_option maxRecDepth 100000 in
theorem hornbookref03_Class.calls (k : Nat) (a0 : Int) (r : Int) (w : World) (h : hornbookref03_Class.f k a0 = some r) :
  Calls Tryz.prog 45 #[.int .i64 a0] w fun e w' => e = .returned (.int .i64 r) ∧ Drawn0 w w' := by
 have H : ((hornbookref01_White.f a0).bind fun t410 => (if t410 = true then (some 1) else (hornbookref03_Class.l0 k a0 (⟨#[40, 41, 60, 62, 91, 93, 123, 125, 47, 37]⟩ : ByteArray) 0))) = some r := h
 clear h
 replace H := bS H
 obtain ⟨t410, A2, H⟩ := H
 try dsimp only at H
 by_cases c3 : t410 = true
 ·subst c3
  rw [if_pos rfl] at H
  obtain rfl := Option.some.inj H
  go_enter Tryz.func45, Tryz.ntmps45
  go_wp2_with (first | ((with_reducible refine gC 72 ?_); refine gL (some 6) Tryz.func72 #[.int .i64 a0] ?_; (with_reducible refine (hornbookref01_White.calls a0 true _ A2.out).mono ?_); rintro e w' ⟨rfl, ⟨nd, rfl⟩⟩; refine ⟨_, rfl, ?_⟩))
  go_ret
  exact ⟨by first | rfl | (simp; done) | (simp [*]; done), by repeat (first | exact Drawn0.refl _ | apply Drawn0.step)⟩
 replace c3 := Bool.eq_false_iff.mpr c3
 subst c3
 rw [if_neg (show ¬ (false = true) by decide)] at H
 have H' := aM H
 clear H
 go_enter Tryz.func45, Tryz.ntmps45
 go_wp2_with (first | ((with_reducible refine gC 72 ?_); refine gL (some 6) Tryz.func72 #[.int .i64 a0] ?_; (with_reducible refine (hornbookref01_White.calls a0 false _ A2.out).mono ?_); rintro e w' ⟨rfl, ⟨nd, rfl⟩⟩; refine ⟨_, rfl, ?_⟩))
 go_loopg [4] k (fun kq v4 w' => ∃ (x4_1 : Int), v4 = .int .i64 x4_1 ∧ Aside0 (hornbookref03_Class.l0 kq a0 (⟨#[40, 41, 60, 62, 91, 93, 123, 125, 47, 37]⟩ : ByteArray) x4_1 = some r) ∧ Aside0 (kq ≤ k) ∧ Drawn0 w w')
 case atStart => exact ⟨(0), vQ, H', ⟨Nat.le_refl _⟩, by repeat (first | exact Drawn0.refl _ | apply Drawn0.step)⟩
 case round =>
  clear H'
  try clear p2
  try clear c3
  obtain ⟨x4_1, rfl, HA, HK1, ⟨m1, rfl⟩⟩ := hrel
  cases gk with
  | zero => exact absurd HA.out (by simp [hornbookref03_Class.l0])
  | succ k1 =>
   have H := HA.out
   clear HA
   simp only [hornbookref03_Class.l0] at H
   refine iDc H ?_ ?_<;>clear H<;>intro H c4b0 c4
   rotate_left
   ·(try (have c4b1 : decide (x4_1 < 10) = false := decide_eq_false (show ¬ (x4_1 < 10) from c4)))
    (try (have c4b2 : ¬ (x4_1 < 10) := c4))
    clear c4
    obtain rfl := Option.some.inj H
    go_wp2
    go_ret
    exact ⟨by first | rfl | (simp; done) | (simp [*]; done), by repeat (first | exact Drawn0.refl _ | apply Drawn0.step)⟩
   (try (have c4b1 : decide (x4_1 < 10) = true := decide_eq_true (show x4_1 < 10 from c4)))
   (try (have c4b2 : x4_1 < 10 := c4))
   clear c4
   refine iD H ?_ ?_<;>clear H<;>intro H c5b0
   rotate_left
   ·exact absurd H (by simp)
   refine iEc H ?_ ?_<;>clear H<;>intro H c7b0 c7b1 c7
   ·clear c7
    obtain rfl := Option.some.inj H
    have p6 : 0 ≤ (x4_1 : Int) := of_decide_eq_true hQ
    have q6 : x4_1 < (10 : Int) := of_decide_eq_true hQ
    have hx6 := bt_at (⟨#[40, 41, 60, 62, 91, 93, 123, 125, 47, 37]⟩ : ByteArray) x4_1
    replace p6 := eq_true p6
    replace q6 := eq_true q6
    go_wp2
    go_ret
    exact ⟨by first | rfl | (simp; done) | (simp [*]; done), by repeat (first | exact Drawn0.refl _ | apply Drawn0.step)⟩
   have H' := aM H
   clear H
   have p6 : 0 ≤ (x4_1 : Int) := of_decide_eq_true hQ
   have q6 : x4_1 < (10 : Int) := of_decide_eq_true hQ
   have hx6 := bt_at (⟨#[40, 41, 60, 62, 91, 93, 123, 125, 47, 37]⟩ : ByteArray) x4_1
   replace p6 := eq_true p6
   replace q6 := eq_true q6
   go_wp2
   go_roundg k1
   case measure => have := HK1.out; omega
   case rel => exact ⟨(wrap64 (x4_1 + 1)), vQ, H', ⟨by have := HK1.out; omega⟩, by repeat (first | exact Drawn0.refl _ | apply Drawn0.step)⟩
def hornbookref03_place.f (a0 : ByteArray) (a1 : Int) : Option (Int) := some (mx 0 (mn a1 (a0.size : Int)))
set_option maxHeartbeats 8000000 in
set_option maxRecDepth 100000 in
theorem hornbookref03_place.calls (a0 : ByteArray) (a1 : Int) (r : Int) (w : World) (h : hornbookref03_place.f a0 a1 = some r) :
  Calls Tryz.prog 93 #[.string a0, .int .i64 a1] w fun e w' => e = .returned (.int .i64 r) ∧ Below w.heap.size w w' := by
 have HB := aM (Below.refl w.heap.size w)
 have H : (some (mx 0 (mn a1 (a0.size : Int)))) = some r := h
 clear h
 obtain ⟨ji3, hji3⟩ : ∃ j_ : Int, (mn a1 (a0.size : Int)) = j_ := ⟨_, rfl⟩
 replace H : (some (mx 0 (ji3))) = some r := by first | (rw [hji3] at H; exact H) | (simp only [hji3] at H ⊢; exact H)
 have hji3_ : (if (a0.size : Int) < a1 then (a0.size : Int) else a1) = ji3 := hji3
 obtain ⟨ji4, hji4⟩ : ∃ j_ : Int, (mx 0 (ji3)) = j_ := ⟨_, rfl⟩
 replace H : (some ji4) = some r := by first | (rw [hji4] at H; exact H) | (simp only [hji4] at H ⊢; exact H)
 have hji4_ : (if 0 < (ji3) then (ji3) else 0) = ji4 := hji4
 obtain rfl := Option.some.inj H
 go_enter Tryz.func93, Tryz.ntmps93
 go_wp2
 go_ret
 exact ⟨by first | rfl | (simp [errW_none, errW_some] <;> rfl) | (simp only [← hji3, ← hji4]; first | rfl | (simp [errW_none, errW_some] <;> rfl)) | (simp [*, errW_none, errW_some] <;> rfl), bQ⟩
def hornbookref03_Skip.l0 : Nat → ByteArray → Bool → Int → Option (Int)
 | 0, _, _, _ => none
 | k + 1, x0, x5, x6 => if x6 < (x0.size : Int) then (if 0 ≤ x6 then (if x5 = true then (if (bt x0 x6) = 10 then (hornbookref03_Skip.l0 k x0 false (wrap64 (x6 + 1))) else (hornbookref03_Skip.l0 k x0 ((bt x0 x6) != 13) (wrap64 (x6 + 1)))) else (if (bt x0 x6) = 37 then (hornbookref03_Skip.l0 k x0 true (wrap64 (x6 + 1))) else ((hornbookref03_Class.f k (wrap64 (bt x0 x6))).bind fun t412 => (if t412 = 1 then (hornbookref03_Skip.l0 k x0 x5 (wrap64 (x6 + 1))) else (some x6))))) else (none)) else (some (x0.size : Int))
def hornbookref03_Skip.f (k : Nat) (a0 : ByteArray) (a1 : Int) : Option (Int) := (hornbookref03_place.f a0 a1).bind fun t411 => (hornbookref03_Skip.l0 k a0 false t411)
set_option maxHeartbeats 8000000 in
set_option maxRecDepth 100000 in
theorem hornbookref03_Skip.calls (k : Nat) (a0 : ByteArray) (a1 : Int) (r : Int) (w : World) (h : hornbookref03_Skip.f k a0 a1 = some r) :
  Calls Tryz.prog 57 #[.string a0, .int .i64 a1] w fun e w' => e = .returned (.int .i64 r) ∧ Below w.heap.size w w' := by
 have HB := aM (Below.refl w.heap.size w)
 have H : ((hornbookref03_place.f a0 a1).bind fun t411 => (hornbookref03_Skip.l0 k a0 false t411)) = some r := h
 clear h
 replace H := bS H
 obtain ⟨t411, A3, H⟩ := H
 try dsimp only at H
 have H' := aM H
 clear H
 go_enter Tryz.func57, Tryz.ntmps57
 go_wp2_with (first | ((with_reducible refine gC 93 ?_); refine gL (some 10) Tryz.func93 #[.string a0, .int .i64 a1] ?_; (with_reducible refine cB (hornbookref03_place.calls a0 a1 t411 _ A3.out) ?_); intro w4 hb; replace HB := sB hb; clear hb))
 go_loopg [5, 6] k (fun kq v5 v6 w' => ∃ (x5_1 : Bool) (x6_1 : Int), v5 = .bool x5_1 ∧ v6 = .int .i64 x6_1 ∧ Aside0 (hornbookref03_Skip.l0 kq a0 x5_1 x6_1 = some r) ∧ Aside0 (kq ≤ k) ∧ Aside0 (Below w.heap.size w w'))
 case atStart => exact ⟨(false), (t411), vQ, vQ, H', ⟨Nat.le_refl _⟩, ⟨bQ⟩⟩
 case round =>
  clear H'
  try clear p2
  obtain ⟨x5_1, x6_1, rfl, rfl, HA, HK1, HB⟩ := hrel
  cases gk with
  | zero => exact absurd HA.out (by simp [hornbookref03_Skip.l0])
  | succ k1 =>
   have H := HA.out
   clear HA
   simp only [hornbookref03_Skip.l0] at H
   refine iD H ?_ ?_<;>clear H<;>intro H c5b0
   rotate_left
   ·obtain rfl := Option.some.inj H
    go_wp2
    go_ret
    exact ⟨eQ, bQ⟩
   refine iD H ?_ ?_<;>clear H<;>intro H c6b0
   rotate_left
   ·exact absurd H (by simp)
   by_cases c8 : x5_1 = true
   ·subst c8
    rw [if_pos rfl] at H
    refine iEc H ?_ ?_<;>clear H<;>intro H c9b0 c9b1 c9
    rotate_left
    ·have H' := aM H
     clear H
     have p7 : 0 ≤ (x6_1 : Int) := of_decide_eq_true hQ
     have q7 : x6_1 < (a0.size : Int) := of_decide_eq_true hQ
     have hx7 := bt_at a0 x6_1
     replace p7 := eq_true p7
     replace q7 := eq_true q7
     go_wp2
     go_roundg k1
     case measure => have := HK1.out; omega
     case rel => exact ⟨(((bt a0 x6_1) != 13)), (wrap64 (x6_1 + 1)), vQ, vQ, H', ⟨by have := HK1.out; omega⟩, ⟨bQ⟩⟩
    clear c9
    have H' := aM H
    clear H
    have p7 : 0 ≤ (x6_1 : Int) := of_decide_eq_true hQ
    have q7 : x6_1 < (a0.size : Int) := of_decide_eq_true hQ
    have hx7 := bt_at a0 x6_1
    replace p7 := eq_true p7
    replace q7 := eq_true q7
    go_wp2
    go_roundg k1
    case measure => have := HK1.out; omega
    case rel => exact ⟨(false), (wrap64 (x6_1 + 1)), vQ, vQ, H', ⟨by have := HK1.out; omega⟩, ⟨bQ⟩⟩
   replace c8 := Bool.eq_false_iff.mpr c8
   subst c8
   rw [if_neg (show ¬ (false = true) by decide)] at H
   refine iEc H ?_ ?_<;>clear H<;>intro H c10b0 c10b1 c10
   ·clear c10
    have H' := aM H
    clear H
    have p7 : 0 ≤ (x6_1 : Int) := of_decide_eq_true hQ
    have q7 : x6_1 < (a0.size : Int) := of_decide_eq_true hQ
    have hx7 := bt_at a0 x6_1
    replace p7 := eq_true p7
    replace q7 := eq_true q7
    go_wp2
    go_roundg k1
    case measure => have := HK1.out; omega
    case rel => exact ⟨(true), (wrap64 (x6_1 + 1)), vQ, vQ, H', ⟨by have := HK1.out; omega⟩, ⟨bQ⟩⟩
   replace H := bS H
   obtain ⟨t412, A11, H⟩ := H
   try dsimp only at H
   refine iEc H ?_ ?_<;>clear H<;>intro H c12b0 c12b1 c12
   rotate_left
   ·obtain rfl := Option.some.inj H
    have p7 : 0 ≤ (x6_1 : Int) := of_decide_eq_true hQ
    have q7 : x6_1 < (a0.size : Int) := of_decide_eq_true hQ
    have hx7 := bt_at a0 x6_1
    replace p7 := eq_true p7
    replace q7 := eq_true q7
    go_wp2_with (first | ((with_reducible refine gC 45 ?_); refine gL (some 31) Tryz.func45 #[.int .i64 (wrap64 (bt a0 x6_1))] ?_; (with_reducible refine (hornbookref03_Class.calls k1 (wrap64 (bt a0 x6_1)) t412 _ A11.out).mono ?_); rintro e w' ⟨rfl, ⟨nd, rfl⟩⟩; refine ⟨_, rfl, ?_⟩))
    go_ret
    exact ⟨eQ, bQ⟩
   clear c12
   have H' := aM H
   clear H
   have p7 : 0 ≤ (x6_1 : Int) := of_decide_eq_true hQ
   have q7 : x6_1 < (a0.size : Int) := of_decide_eq_true hQ
   have hx7 := bt_at a0 x6_1
   replace p7 := eq_true p7
   replace q7 := eq_true q7
   go_wp2_with (first | ((with_reducible refine gC 45 ?_); refine gL (some 31) Tryz.func45 #[.int .i64 (wrap64 (bt a0 x6_1))] ?_; (with_reducible refine (hornbookref03_Class.calls k1 (wrap64 (bt a0 x6_1)) t412 _ A11.out).mono ?_); rintro e w' ⟨rfl, ⟨nd, rfl⟩⟩; refine ⟨_, rfl, ?_⟩))
   go_roundg k1
   case measure => have := HK1.out; omega
   case rel => exact ⟨(false), (wrap64 (x6_1 + 1)), vQ, vQ, H', ⟨by have := HK1.out; omega⟩, ⟨bQ⟩⟩
def hornbookref04_fail.f (a0 : Int) (a1 : Int) : Option (Int × Int × Int × ByteArray × Int × Int) := some (0, 0, 0, (⟨#[]⟩ : ByteArray), a0, a1)
set_option maxHeartbeats 8000000 in
set_option maxRecDepth 100000 in
theorem hornbookref04_fail.calls (a0 : Int) (a1 : Int) (r1 : Int) (r2 : Int) (r3 : Int) (r4 : ByteArray) (r5 : Int) (r6 : Int) (w : World) (h : hornbookref04_fail.f a0 a1 = some (r1, r2, r3, r4, r5, r6)) :
  Calls Tryz.prog 58 #[.int .i64 a0, .int .i64 a1] w fun e w' => e = .returned (.tuple #[.agg #[.int .i64 r1, .int .i64 r2, .int .i64 r3, .string r4], .int .i64 r5, .int .i64 r6]) ∧ Below w.heap.size w w' := by
 have hu65 := Tryz.underlying65
 have HB := aM (Below.refl w.heap.size w)
 have H : (some (0, 0, 0, (⟨#[]⟩ : ByteArray), a0, a1)) = some (r1, r2, r3, r4, r5, r6) := h
 clear h
 simp only [Option.some.injEq, Prod.mk.injEq] at H
 obtain ⟨rfl, rfl, rfl, rfl, rfl, rfl⟩ := H
 go_enter Tryz.func58, Tryz.ntmps58
 go_wp2_with (first | ((with_reducible refine gD 4 ?_); refine bE 4 (cs := #[.int .i64 0, .int .i64 0, .int .i64 0, .string (⟨#[]⟩ : ByteArray)]) (t := 65) ?_; intro gb413 hg w3 hbox hb; have BK413 := aM hbox; have GW413 := sG w hg; have GE413 := sG w hg; replace HB := sB hb; clear hb hbox hg; obtain ⟨hcz4_0, hcz4_1, hcz4_2, hcz4_3, hfz4_0, hfz4_1, hfz4_2, hfz4_3⟩ := b4 BK413))
 refine bodyPost_ret (results_ctt rfl _ _ gb413 65 #[.int .i64 0, .int .i64 0, .int .i64 0, .string (⟨#[]⟩ : ByteArray)] (0, 0) _ rfl kQ Tryz.underlying65 rfl (by kernel_rfl)) rfl ?_
 exact ⟨eQ, bQ⟩
def hornbookref04_is.f (a0 : ByteArray) (a1 : Int) (a2 : Int) : Option (Bool) := if a1 ≥ 0 then (if a1 < (a0.size : Int) then (if 0 ≤ a1 then (some ((bt a0 a1) == a2)) else (none)) else (some false)) else (some false)
set_option maxHeartbeats 8000000 in
set_option maxRecDepth 100000 in
theorem hornbookref04_is.calls (a0 : ByteArray) (a1 : Int) (a2 : Int) (r : Bool) (w : World) (h : hornbookref04_is.f a0 a1 a2 = some r) :
  Calls Tryz.prog 59 #[.string a0, .int .i64 a1, .int .u8 a2] w fun e w' => e = .returned (.bool r) ∧ Drawn0 w w' := by
 have H : (if a1 ≥ 0 then (if a1 < (a0.size : Int) then (if 0 ≤ a1 then (some ((bt a0 a1) == a2)) else (none)) else (some false)) else (some false)) = some r := h
 clear h
 refine iNc H ?_ ?_<;>clear H<;>intro H c4
 rotate_left
 ·have c4b0 : decide (0 ≤ a1) = false := decide_eq_false c4
  clear c4
  obtain rfl := Option.some.inj H
  go_enter Tryz.func59, Tryz.ntmps59
  go_wp2
  go_ret
  exact ⟨by first | rfl | (simp; done) | (simp [*]; done), by repeat (first | exact Drawn0.refl _ | apply Drawn0.step)⟩
 have c4b0 : decide (0 ≤ a1) = true := decide_eq_true c4
 clear c4
 refine iD H ?_ ?_<;>clear H<;>intro H c5b0
 rotate_left
 ·obtain rfl := Option.some.inj H
  go_enter Tryz.func59, Tryz.ntmps59
  go_wp2
  go_ret
  exact ⟨by first | rfl | (simp; done) | (simp [*]; done), by repeat (first | exact Drawn0.refl _ | apply Drawn0.step)⟩
 refine iD H ?_ ?_<;>clear H<;>intro H c6b0
 rotate_left
 ·exact absurd H (by simp)
 obtain rfl := Option.some.inj H
 have p7 : 0 ≤ (a1 : Int) := of_decide_eq_true hQ
 have q7 : a1 < (a0.size : Int) := of_decide_eq_true hQ
 have hx7 := bt_at a0 a1
 replace p7 := eq_true p7
 replace q7 := eq_true q7
 go_enter Tryz.func59, Tryz.ntmps59
 go_wp2
 go_ret
 exact ⟨by first | rfl | (simp; done) | (simp [*]; done), by repeat (first | exact Drawn0.refl _ | apply Drawn0.step)⟩
def hornbookref03_Word.l0 : Nat → ByteArray → Int → Int → Option (ByteArray × Int)
 | 0, _, _, _ => none
 | k + 1, x0, x6, x7 => if x7 < (x0.size : Int) then (if 0 ≤ x7 then ((hornbookref03_Class.f k (wrap64 (bt x0 x7))).bind fun t415 => (if t415 = 0 then (hornbookref03_Word.l0 k x0 x6 (wrap64 (x7 + 1))) else (if 0 ≤ x6 then (if x6 ≤ x7 then (if x7 ≤ (x0.size : Int) then (some (x0.extract (x6 : Int).toNat (x7 : Int).toNat, x7)) else (none)) else (none)) else (none)))) else (none)) else (if 0 ≤ x6 then (if x6 ≤ x7 then (if x7 ≤ (x0.size : Int) then (some (x0.extract (x6 : Int).toNat (x7 : Int).toNat, x7)) else (none)) else (none)) else (none))
def hornbookref03_Word.f (k : Nat) (a0 : ByteArray) (a1 : Int) : Option (ByteArray × Int) := (hornbookref03_place.f a0 a1).bind fun t414 => (hornbookref03_Word.l0 k a0 t414 t414)
set_option maxHeartbeats 8000000 in
set_option maxRecDepth 100000 in
theorem hornbookref03_Word.calls (k : Nat) (a0 : ByteArray) (a1 : Int) (r1 : ByteArray) (r2 : Int) (w : World) (h : hornbookref03_Word.f k a0 a1 = some (r1, r2)) :
  Calls Tryz.prog 60 #[.string a0, .int .i64 a1] w fun e w' => e = .returned (.tuple #[.string r1, .int .i64 r2]) ∧ Below w.heap.size w w' := by
 have HB := aM (Below.refl w.heap.size w)
 have H : ((hornbookref03_place.f a0 a1).bind fun t414 => (hornbookref03_Word.l0 k a0 t414 t414)) = some (r1, r2) := h
 clear h
 replace H := bS H
 obtain ⟨t414, A3, H⟩ := H
 try dsimp only at H
 have H' := aM H
 clear H
 go_enter Tryz.func60, Tryz.ntmps60
 go_wp2_with (first | ((with_reducible refine gC 93 ?_); refine gL (some 10) Tryz.func93 #[.string a0, .int .i64 a1] ?_; (with_reducible refine cB (hornbookref03_place.calls a0 a1 t414 _ A3.out) ?_); intro w4 hb; replace HB := sB hb; clear hb))
 go_loopg [7] k (fun kq v7 w' => ∃ (x7_1 : Int), v7 = .int .i64 x7_1 ∧ Aside0 (hornbookref03_Word.l0 kq a0 t414 x7_1 = some (r1, r2)) ∧ Aside0 (kq ≤ k) ∧ Aside0 (Below w.heap.size w w'))
 case atStart => exact ⟨(t414), vQ, H', ⟨Nat.le_refl _⟩, ⟨bQ⟩⟩
 case round =>
  clear H'
  try clear p2
  obtain ⟨x7_1, rfl, HA, HK1, HB⟩ := hrel
  cases gk with
  | zero => exact absurd HA.out (by simp [hornbookref03_Word.l0])
  | succ k1 =>
   have H := HA.out
   clear HA
   simp only [hornbookref03_Word.l0] at H
   refine iD H ?_ ?_<;>clear H<;>intro H c5b0
   rotate_left
   ·refine iNc H ?_ ?_<;>clear H<;>intro H c13
    rotate_left
    ·exact absurd H (by simp)
    have c13b0 := eq_true c13
    have c13b1 : decide (0 ≤ t414) = true := decide_eq_true c13
    clear c13
    refine iNc H ?_ ?_<;>clear H<;>intro H c14
    rotate_left
    ·exact absurd H (by simp)
    have c14b0 := eq_true c14
    have c14b1 : decide (t414 ≤ x7_1) = true := decide_eq_true c14
    clear c14
    refine iNc H ?_ ?_<;>clear H<;>intro H c15
    rotate_left
    ·exact absurd H (by simp)
    have c15b0 := eq_true c15
    have c15b1 : decide (x7_1 ≤ (a0.size : Int)) = true := decide_eq_true c15
    clear c15
    simp only [Option.some.injEq, Prod.mk.injEq] at H
    obtain ⟨rfl, rfl⟩ := H
    go_wp2
    go_ret2
    exact ⟨eQ, bQ⟩
   refine iD H ?_ ?_<;>clear H<;>intro H c6b0
   rotate_left
   ·exact absurd H (by simp)
   replace H := bS H
   obtain ⟨t415, A8, H⟩ := H
   try dsimp only at H
   refine iEc H ?_ ?_<;>clear H<;>intro H c9b0 c9b1 c9
   ·clear c9
    have H' := aM H
    clear H
    have p7 : 0 ≤ (x7_1 : Int) := of_decide_eq_true hQ
    have q7 : x7_1 < (a0.size : Int) := of_decide_eq_true hQ
    have hx7 := bt_at a0 x7_1
    replace p7 := eq_true p7
    replace q7 := eq_true q7
    go_wp2_with (first | (go_at_call 45; (with_reducible refine (hornbookref03_Class.calls k1 (wrap64 (bt a0 x7_1)) t415 _ A8.out).mono ?_); rintro e w' ⟨rfl, ⟨nd, rfl⟩⟩))
    go_roundg k1
    case measure => have := HK1.out; omega
    case rel => exact ⟨(wrap64 (x7_1 + 1)), vQ, H', ⟨by have := HK1.out; omega⟩, ⟨bQ⟩⟩
   refine iNc H ?_ ?_<;>clear H<;>intro H c10
   rotate_left
   ·exact absurd H (by simp)
   have c10b0 := eq_true c10
   have c10b1 : decide (0 ≤ t414) = true := decide_eq_true c10
   clear c10
   refine iNc H ?_ ?_<;>clear H<;>intro H c11
   rotate_left
   ·exact absurd H (by simp)
   have c11b0 := eq_true c11
   have c11b1 : decide (t414 ≤ x7_1) = true := decide_eq_true c11
   clear c11
   refine iNc H ?_ ?_<;>clear H<;>intro H c12
   rotate_left
   ·exact absurd H (by simp)
   have c12b0 := eq_true c12
   have c12b1 : decide (x7_1 ≤ (a0.size : Int)) = true := decide_eq_true c12
   clear c12
   simp only [Option.some.injEq, Prod.mk.injEq] at H
   obtain ⟨rfl, rfl⟩ := H
   have p7 : 0 ≤ (x7_1 : Int) := of_decide_eq_true hQ
   have q7 : x7_1 < (a0.size : Int) := of_decide_eq_true hQ
   have hx7 := bt_at a0 x7_1
   replace p7 := eq_true p7
   replace q7 := eq_true q7
   go_wp2_with (first | (go_at_call 45; (with_reducible refine (hornbookref03_Class.calls k1 (wrap64 (bt a0 x7_1)) t415 _ A8.out).mono ?_); rintro e w' ⟨rfl, ⟨nd, rfl⟩⟩))
   go_ret2
   exact ⟨eQ, bQ⟩
def hornbookref01_Digit.l0 : Nat → Int → Int → Option (Int × Bool)
 | 0, _, _ => none
 | k + 1, x0, x4 => if x4 < 16 then (if 0 ≤ x4 then (if x0 = (wrap64 (bt (⟨#[48, 49, 50, 51, 52, 53, 54, 55, 56, 57, 65, 66, 67, 68, 69, 70]⟩ : ByteArray) x4)) then (some (x4, true)) else (if x4 > 9 then (if x0 = (wrap64 ((wrap64 (bt (⟨#[48, 49, 50, 51, 52, 53, 54, 55, 56, 57, 65, 66, 67, 68, 69, 70]⟩ : ByteArray) x4)) + 32)) then (some (x4, true)) else (hornbookref01_Digit.l0 k x0 (wrap64 (x4 + 1)))) else (hornbookref01_Digit.l0 k x0 (wrap64 (x4 + 1))))) else (none)) else (some (0, false))
def hornbookref01_Digit.f (k : Nat) (a0 : Int) : Option (Int × Bool) := hornbookref01_Digit.l0 k a0 0
theorem hornbookref01_Digit.mono_l : ∀ k, (∀ y0 y1, LeO (hornbookref01_Digit.l0 k y0 y1) (hornbookref01_Digit.l0 (k + 1) y0 y1))
 | 0 => fun _ _ r h => by simp [hornbookref01_Digit.l0] at h
 | k + 1 => by
  have ih0 := hornbookref01_Digit.mono_l k
  ·intro y0 y1
   unfold hornbookref01_Digit.l0
   repeat' first
   | (with_reducible exact ih0 _ _)
   | (with_reducible exact LeO.refl _)
   | (with_reducible exact LeO.none _)
   | (with_reducible refine LeO.ite ?_ ?_)
   | (with_reducible refine LeO.bind ?_ (fun _ => ?_))
   | exact ih0 _ _
   | exact LeO.none _
   | refine LeO.ite ?_ ?_
   | refine LeO.bind ?_ (fun _ => ?_)
theorem hornbookref01_Digit.mono : ∀ a0 k, LeO (hornbookref01_Digit.f k a0) (hornbookref01_Digit.f (k + 1) a0) := by
 intro a0 k
 have ih0 := hornbookref01_Digit.mono_l k
 unfold hornbookref01_Digit.f
 repeat' first
   | (with_reducible exact ih0 _ _)
   | (with_reducible exact LeO.refl _)
   | (with_reducible exact LeO.none _)
   | (with_reducible refine LeO.ite ?_ ?_)
   | (with_reducible refine LeO.bind ?_ (fun _ => ?_))
   | exact ih0 _ _
   | exact LeO.none _
   | refine LeO.ite ?_ ?_
   | refine LeO.bind ?_ (fun _ => ?_)
set_option maxHeartbeats 8000000 in
set_option maxRecDepth 100000 in
theorem hornbookref01_Digit.calls (k : Nat) (a0 : Int) (r1 : Int) (r2 : Bool) (w : World) (h : hornbookref01_Digit.f k a0 = some (r1, r2)) :
  Calls Tryz.prog 94 #[.int .i64 a0] w fun e w' => e = .returned (.tuple #[.int .i64 r1, .bool r2]) ∧ Drawn0 w w' := by
 have H : (hornbookref01_Digit.l0 k a0 0) = some (r1, r2) := h
 clear h
 have H' := aM H
 clear H
 go_enter Tryz.func94, Tryz.ntmps94
 go_wp2
 go_loopg [4] k (fun kq v4 w' => ∃ (x4_1 : Int), v4 = .int .i64 x4_1 ∧ Aside0 (hornbookref01_Digit.l0 kq a0 x4_1 = some (r1, r2)) ∧ Aside0 (kq ≤ k) ∧ Drawn0 w w')
 case atStart => exact ⟨(0), vQ, H', ⟨Nat.le_refl _⟩, by repeat (first | exact Drawn0.refl _ | apply Drawn0.step)⟩
 case round =>
  clear H'
  obtain ⟨x4_1, rfl, HA, HK1, ⟨m1, rfl⟩⟩ := hrel
  cases gk with
  | zero => exact absurd HA.out (by simp [hornbookref01_Digit.l0])
  | succ k1 =>
   have H := HA.out
   clear HA
   simp only [hornbookref01_Digit.l0] at H
   refine iD H ?_ ?_<;>clear H<;>intro H c2b0
   rotate_left
   ·simp only [Option.some.injEq, Prod.mk.injEq] at H
    obtain ⟨rfl, rfl⟩ := H
    go_wp2
    go_ret2
    exact ⟨by first | rfl | (simp; done) | (simp [*]; done), by repeat (first | exact Drawn0.refl _ | apply Drawn0.step)⟩
   refine iD H ?_ ?_<;>clear H<;>intro H c3b0
   rotate_left
   ·exact absurd H (by simp)
   refine iEc H ?_ ?_<;>clear H<;>intro H c5b0 c5b1 c5
   ·clear c5
    simp only [Option.some.injEq, Prod.mk.injEq] at H
    obtain ⟨rfl, rfl⟩ := H
    have p4 : 0 ≤ (x4_1 : Int) := of_decide_eq_true hQ
    have q4 : x4_1 < (16 : Int) := of_decide_eq_true hQ
    have hx4 := bt_at (⟨#[48, 49, 50, 51, 52, 53, 54, 55, 56, 57, 65, 66, 67, 68, 69, 70]⟩ : ByteArray) x4_1
    replace p4 := eq_true p4
    replace q4 := eq_true q4
    go_wp2
    go_ret2
    exact ⟨by first | rfl | (simp; done) | (simp [*]; done), by repeat (first | exact Drawn0.refl _ | apply Drawn0.step)⟩
   refine iNc H ?_ ?_<;>clear H<;>intro H c6
   rotate_left
   ·have c6b0 : decide (9 < x4_1) = false := decide_eq_false c6
    clear c6
    have H' := aM H
    clear H
    have p4 : 0 ≤ (x4_1 : Int) := of_decide_eq_true hQ
    have q4 : x4_1 < (16 : Int) := of_decide_eq_true hQ
    have hx4 := bt_at (⟨#[48, 49, 50, 51, 52, 53, 54, 55, 56, 57, 65, 66, 67, 68, 69, 70]⟩ : ByteArray) x4_1
    replace p4 := eq_true p4
    replace q4 := eq_true q4
    go_wp2
    go_roundg k1
    case measure => have := HK1.out; omega
    case rel => exact ⟨(wrap64 (x4_1 + 1)), vQ, H', ⟨by have := HK1.out; omega⟩, by repeat (first | exact Drawn0.refl _ | apply Drawn0.step)⟩
   have c6b0 : decide (9 < x4_1) = true := decide_eq_true c6
   clear c6
   refine iEc H ?_ ?_<;>clear H<;>intro H c8b0 c8b1 c8
   ·clear c8
    simp only [Option.some.injEq, Prod.mk.injEq] at H
    obtain ⟨rfl, rfl⟩ := H
    have p4 : 0 ≤ (x4_1 : Int) := of_decide_eq_true hQ
    have q4 : x4_1 < (16 : Int) := of_decide_eq_true hQ
    have hx4 := bt_at (⟨#[48, 49, 50, 51, 52, 53, 54, 55, 56, 57, 65, 66, 67, 68, 69, 70]⟩ : ByteArray) x4_1
    replace p4 := eq_true p4
    replace q4 := eq_true q4
    have p7 : 0 ≤ (x4_1 : Int) := of_decide_eq_true hQ
    have q7 : x4_1 < (16 : Int) := of_decide_eq_true hQ
    have hx7 := bt_at (⟨#[48, 49, 50, 51, 52, 53, 54, 55, 56, 57, 65, 66, 67, 68, 69, 70]⟩ : ByteArray) x4_1
    replace p7 := eq_true p7
    replace q7 := eq_true q7
    go_wp2
    go_ret2
    exact ⟨by first | rfl | (simp; done) | (simp [*]; done), by repeat (first | exact Drawn0.refl _ | apply Drawn0.step)⟩
   have H' := aM H
   clear H
   have p4 : 0 ≤ (x4_1 : Int) := of_decide_eq_true hQ
   have q4 : x4_1 < (16 : Int) := of_decide_eq_true hQ
   have hx4 := bt_at (⟨#[48, 49, 50, 51, 52, 53, 54, 55, 56, 57, 65, 66, 67, 68, 69, 70]⟩ : ByteArray) x4_1
   replace p4 := eq_true p4
   replace q4 := eq_true q4
   have p7 : 0 ≤ (x4_1 : Int) := of_decide_eq_true hQ
   have q7 : x4_1 < (16 : Int) := of_decide_eq_true hQ
   have hx7 := bt_at (⟨#[48, 49, 50, 51, 52, 53, 54, 55, 56, 57, 65, 66, 67, 68, 69, 70]⟩ : ByteArray) x4_1
   replace p7 := eq_true p7
   replace q7 := eq_true q7
   go_wp2
   go_roundg k1
   case measure => have := HK1.out; omega
   case rel => exact ⟨(wrap64 (x4_1 + 1)), vQ, H', ⟨by have := HK1.out; omega⟩, by repeat (first | exact Drawn0.refl _ | apply Drawn0.step)⟩
end Go.Proofs.YtdcldaknmenklaaGreatDoor.M
end
