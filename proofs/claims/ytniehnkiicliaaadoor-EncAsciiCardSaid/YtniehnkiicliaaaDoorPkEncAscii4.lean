/- Three encodings have all of ASCII: Win and Mac each value by its own byte, Standard all but two by theirs; for every number. -/
/- Packed by this session's program hbpack.py out of this claim's own texts (Rl, Q39, Q25, Q10, Wr, Q36, Q23, Gf, Ge0, Q16, Q50, Q51, Q52, Q53, Q35, Q21, Ra, Pe0, Pe, Ix, Pen0, Q4, Q14, Q18, Q19, Q3, PureEncIs, Pen, PureEncAscii, LawEncAscii): the same declarations, without those that the claim does not use. -/
import Derived.Test.YtniehnkiicliaaaDoorPkEncAscii3
import Derived.RangeFuncRecord
import Derived.RangeFuncSeq
import Derived.RangeFuncOwn
import Derived.RangeFuncLeaves
import Derived.OneCell
import Derived.RangeFuncCalls
import Derived.RangeFuncFrom
import Derived.RangeFuncBox
import Derived.Maps.AppendAt
import Derived.HandedShaped
import Derived.ProofKit
import Derived.LaidMore
import Derived.Lay
import Derived.Stop.Joined
import Derived.Shelf.Vars
import Derived.Stop.LaidErr
import Derived.Test.YtniehnkiicliaaaDoorRows
import Derived.Lib.IndexMore
import Derived.Lib.IndexAny
import Derived.Lib.Strings
import Derived.Lib.IndexBytes
import Derived.WalkKit
import Derived.OpenShut
import Derived.ShutString
import Derived.ChangeOld
import Derived.Below
import Derived.SizedLaws
import Derived.SevenTiedAt
import Derived.Test.YtniehnkiicliaaaDoorCards
import Derived.Test.YtniehnkiicliaaaDoorTie
section
namespace Go.Proofs.YtniehnkiicliaaaDoor.M
open Go Go.RowKit Go.Proofs.YtniehnkiicliaaaDoorW.PrintWords
set_option linter.unusedVariables false
set_option linter.unusedSimpArgs false
theorem wpIn_range_own {P : Program} {n : Nat} {g : Operand} {p : Tmp} {assign body : Code} {Q : Exit → Act → World → Prop} {a : Act} {w : World} {gf : Nat} {lb : Array Value}
    (hg : a.eval g = .func (.func gf) #[] lb) (eg : ∀ args w, (callFunc gf args).run P w = .ok (.enter gf args) w)
    (xs : List ByteArray) (bs : Nat) (hbs : bs < w.heap.size) (keep : World → World → Prop) (hkt : ∀ {A B C : World}, keep A B → keep B C → keep A C) (hkput : ∀ (A : World) (o : Obj), keep A (A.putObj (w.heap.size + 1) o))
    (hseq : ∀ (J : List ByteArray → World → Prop) (W : World), (∀ pre A v, J pre A → J pre (A.setCell ⟨bs, 0, none⟩ v)) →
      (∀ pre x A, J pre A → x ∈ xs → pre.length < xs.length → YieldAt Fence.wide 0 P (w.heap.size + 1) #[.string x] A fun e W' => e = .returned (.bool true) ∧ J (pre ++ [x]) W' ∧ keep A W') →
      (∀ k, k < w.heap.size → W.heap[k]? = w.heap[k]?) → J [] W → CallsIn Fence.wide (n - 1) P gf (#[.func (.yield (w.heap.size + 1)) #[] #[]] ++ lb) W fun e W' => (∃ v, e = .returned v) ∧ J xs W')
    (I : List ByteArray → World → Prop) (hIput : ∀ pre (A : World) o, I pre A → I pre (A.putObj (w.heap.size + 1) o)) (hIset : ∀ pre (A : World) v, I pre A → I pre (A.setCell ⟨bs, 0, none⟩ v))
    (h0 : ∀ o, I [] ((w.alloc (.deferred (some []))).alloc o)) (a₁ : ByteArray → Act)
    (hassign : ∀ (l : Nat) (x : ByteArray) (W : World) (K : Act → World → Prop), K (a₁ x) W → assign.wpIn (Fence.wide.inRound l) 0 P (Exit.then K (fun _ _ _ => False)) { tmps := (#[p].zip #[Value.string x]).foldl (fun t (p, v) => t.setIfInBounds p v) a.tmps, defers := [] } W)
    (hbody : ∀ (l : Nat) (pre : List ByteArray) (x : ByteArray) (A : World), I pre A → x ∈ xs → pre.length < xs.length → w.heap.size + 2 ≤ A.heap.size → body.wpIn (Fence.wide.inRound l) 0 P (fun e _ W' => e = .normal ∧ I (pre ++ [x]) W' ∧ keep A W' ∧ W'.heap[w.heap.size + 1]? = A.heap[w.heap.size + 1]? ∧ W'.heap[w.heap.size]? = A.heap[w.heap.size]?) (a₁ x) A)
    (hdone : ∀ (W : World), I xs W → W.heap[w.heap.size]? = some (.deferred (some [])) → Q .normal { a with defers := { target := .collected w.heap.size, args := #[] } :: a.defers } W) :
    (Code.rangeFunc g #[p] assign body).wpIn Fence.wide n P Q a w := by
  refine wpIn_rangeFunc ?_
  intro fn hfn
  obtain ⟨rec, hrec⟩ : ∃ rec : LoopState → Option Code → Loop, rec = fun st pe => { state := st, pending := pe, fn, tmps := a.tmps, params := #[p], assign, body, defers := w.heap.size } := ⟨_, rfl⟩
  obtain ⟨W1, hW1⟩ : ∃ W1, (w.alloc (.deferred (some []))).alloc (.loop (rec .ready none)) = W1 := ⟨_, rfl⟩
  have hL1 : W1.heap[w.heap.size + 1]? = some (.loop (rec .ready none)) := by
    rw [← hW1]; have := World.alloc_heap_new (w.alloc (.deferred (some []))) (.loop (rec .ready none)); rwa [World.size_alloc] at this
  have hK1 : W1.heap[w.heap.size]? = some (.deferred (some [])) := by
    rw [← hW1]; exact (Below.heap_alloc _ _ _ (by simp)).trans (World.alloc_heap_new w _)
  have hlow : ∀ k, k < w.heap.size → W1.heap[k]? = w.heap[k]? := by
    intro k hk
    rw [← hW1, Below.heap_alloc _ _ _ (by simp; omega), Below.heap_alloc _ _ _ hk]
  refine ⟨w.heap.size + 1, [{ target := .collected w.heap.size, args := #[] }], W1, { target := .fn (.func gf) lb, args := #[.func (.yield (w.heap.size + 1)) #[] #[]] }, W1, gf,
    #[.func (.yield (w.heap.size + 1)) #[] #[]] ++ lb, W1, ?_, ?_, fun _ _ => trivial, ?_, fun h => by simp [Fence.wide] at h, ?_⟩
  · rw [← hW1, hrec]; exact run_enterLoop_outer _ _ _ _ _
  · simp only [resolve, hg]
    simp [go_sem]
  · simp [invoke, go_sem, eg]
  · refine (hseq (fun pre W => I pre W ∧ W.heap[w.heap.size + 1]? = some (.loop (rec .ready none)) ∧ W.heap[w.heap.size]? = some (.deferred (some []))) W1
      (fun pre A v hh => ⟨hIset pre A v hh.1, (Below.heap_setCell A _ v _ (by show w.heap.size + 1 ≠ bs; omega)).trans hh.2.1, (Below.heap_setCell A _ v _ (by show w.heap.size ≠ bs; omega)).trans hh.2.2⟩)
      ?_ hlow ⟨by rw [← hW1]; exact h0 _, hL1, hK1⟩).mono ?_
    · rintro pre x W ⟨hi, hl, hk⟩ hx hxl
      have hlt : w.heap.size + 1 < W.heap.size := (Array.getElem?_eq_some_iff.1 hl).1
      have hy := run_yield (P := P) (args := #[.string x]) hl (by rw [hrec]; rfl)
      rw [hrec] at hy
      refine ⟨fn, _, assign, body, hy, roundIn_of_wpIn hfn ?_⟩
      refine hassign _ x W _ ⟨_, run_beginRound hl (by rw [hrec]), ?_⟩
      have hl2 : (W.putObj (w.heap.size + 1) (.loop { rec .ready none with state := .busy })).heap[w.heap.size + 1]? = some (.loop { rec .ready none with state := .busy }) := World.putObj_heap_same hlt
      have hk2 : (W.putObj (w.heap.size + 1) (.loop { rec .ready none with state := .busy })).heap[w.heap.size]? = some (.deferred (some [])) := (World.putObj_heap_other (by omega)).trans hk
      refine wpIn_mono (hbody _ pre x _ (hIput _ _ _ hi) hx hxl (by rw [World.putObj_size]; omega)) ?_
      rintro e a3 W3 ⟨rfl, hi3, hkp3, hl3, hk3⟩
      have hl4 := hl3.trans hl2
      have hr := run_endRound (P := P) none hl4
      refine ⟨_, _, hr, rfl, ⟨hIput _ _ _ hi3, ?_, (World.putObj_heap_other (by omega)).trans (hk3.trans hk2)⟩, hkt (hkt (hkput W _) hkp3) (hkput W3 _)⟩
      rw [World.putObj_heap_same (Array.getElem?_eq_some_iff.1 hl4).1, hrec]
      rfl
    · rintro e W2 ⟨⟨v, rfl⟩, hi, hl, hk⟩
      exact ⟨none, _, by have := run_endLoop (P := P) hl (by rw [hrec]; simp); rw [hrec] at this; exact this, hdone _ (hIput _ _ _ hi) ((World.putObj_heap_other (by omega)).trans hk)⟩
end Go.Proofs.YtniehnkiicliaaaDoor.M
end
section
namespace Go.Proofs.YtniehnkiicliaaaDoor.M
open Go.RowKit Go.Shelf Go.Proofs.YtniehnkiicliaaaDoorW.PrintWords Go.Proofs.YtniehnkiicliaaaDoorW.PrintLast
set_option linter.unusedVariables false
set_option linter.unusedSimpArgs false
attribute [local go_sem] Oper.semAt_some
def isPart (p : ByteArray) : Bool := decide (1 ≤ p.size) && decide (p.size ≤ 7) && p.data.toList.all isHexU
def glyph_values.f (a0 : ByteArray) : Option (List Int) := if a0.size ≤ 1000000 ∧ (partsOf 44 a0.data.toList).all isPart = true then some ((partsOf 44 a0.data.toList).map fun p => (hexNum p.data.toList : Int)) else none
theorem SplitSeq_calls (s : ByteArray) (c : UInt8) (W : World) :
    Calls Tryd.prog 60 #[.string s, .string ⟨#[c]⟩] W fun e W' => e = .returned (.func (.func 95) #[] #[.pointer (some ⟨W.heap.size + 1, 0, none⟩), .pointer (some ⟨W.heap.size, 0, none⟩), .pointer (some ⟨W.heap.size + 2, 0, none⟩)]) ∧
      W' = ((W.alloc (.cells #[.string s] 9)).alloc (.cells #[.string ⟨#[c]⟩] 9)).alloc (.cells #[.int .i64 0] 3) := by
  have h80 : Calls Tryd.prog 80 #[.string s, .string ⟨#[c]⟩, .int .i64 0] W fun e W' => e = .returned (.func (.func 95) #[] #[.pointer (some ⟨W.heap.size + 1, 0, none⟩), .pointer (some ⟨W.heap.size, 0, none⟩), .pointer (some ⟨W.heap.size + 2, 0, none⟩)]) ∧
      W' = ((W.alloc (.cells #[.string s] 9)).alloc (.cells #[.string ⟨#[c]⟩] 9)).alloc (.cells #[.int .i64 0] 3) := by
    go_enter Tryd.func80, Tryd.ntmps80
    go_wp2
    go_ret
    exact ⟨rfl, rfl⟩
  have H80 := Aside0.mk h80
  clear h80
  go_enter Tryd.func60, Tryd.ntmps60
  go_wp2_with fail
  refine H80.out.mono ?_
  rintro e W' ⟨rfl, hW⟩
  rw [hW]
  clear hW
  go_wp2
  go_ret
  exact ⟨rfl, rfl⟩
theorem splitB_len (c : UInt8) : ∀ (s w : List UInt8), (splitB c s w).length ≤ s.length + 1
  | [], w => by simp [splitB]
  | x :: r, w => by
    have h1 := splitB_len c r []
    have h2 := splitB_len c r (w ++ [x])
    simp only [splitB, List.length_cons]
    split
    · simp only [List.length_cons]; omega
    · omega
theorem partsOf_length (c : UInt8) (s : ByteArray) (h : s.size ≤ 1000000) : (partsOf c s.data.toList).length ≤ 1000001 := by
  unfold partsOf
  rw [List.length_map]
  have := splitB_len c s.data.toList []
  have e : s.data.toList.length = s.size := rfl
  omega
set_option maxRecDepth 100000 in
set_option maxHeartbeats 1000000 in
theorem glyph_values.calls (a0 : ByteArray) (r : List Int) (w : World) (h : glyph_values.f a0 = some r) :
    Calls Tryd.prog 39 #[.string a0] w fun e w' => ∃ v0_ : Value, e = .returned (v0_) ∧ Kd.R (Kd.int .i64) 3 w' w.heap.size (fun _ => True) v0_ r ∧ Below w.heap.size w w' := by
  unfold glyph_values.f at h
  split at h
  case isFalse => cases h
  rename_i hb
  obtain ⟨hb1, hb2⟩ := hb
  replace h := Option.some.inj h
  have HR := Aside0.mk h
  have HB2 := Aside0.mk hb2
  clear h hb2
  have HSP := Aside0.mk (fun W => callsIn_wide (n := 2).2 (SplitSeq_calls a0 44 W))
  refine (callsIn_wide (n := 3)).1 ?_
  refine callsIn_of_wp_marks Tryd.func39 rfl trivial ?_ rfl
  simp only [Tryd.ntmps39, List.size_toArray, List.length_cons, List.length_nil, Nat.reduceAdd, Nat.reduceSub, Array.replicate_succ, Array.replicate_zero, List.push_toArray, List.append_toArray, List.nil_append, List.cons_append]
  gi_wp2_with fail
  refine ⟨trivial, ?_⟩
  refine (HSP.out _).mono ?_
  rintro e W1 ⟨rfl, hw⟩
  rw [hw]
  clear hw HSP
  gi_wp2_with fail
  obtain ⟨w4, hw4⟩ : ∃ w4, ((((w.alloc (Obj.cells #[Value.slice none 0 0] 33)).alloc (Obj.cells #[Value.string a0] 9)).alloc (Obj.cells #[Value.string ⟨#[44]⟩] 9)).alloc (Obj.cells #[Value.int IntKind.i64 0] 3)) = w4 := ⟨_, rfl⟩
  have hs4 : w4.heap.size = w.heap.size + 4 := by rw [← hw4]; simp
  have hb4 : Below w.heap.size w w4 := by rw [← hw4]; exact below_alloc (below_alloc (below_alloc (below_alloc (Below.refl _ w) _) _) _) _
  have g0 : w4.heap[w.heap.size]? = some (.cells #[.slice none 0 0] 33 (0, 0)) := by
    rw [← hw4, Below.heap_alloc _ _ _ (by simp only [World.size_alloc]; omega), Below.heap_alloc _ _ _ (by simp only [World.size_alloc]; omega), Below.heap_alloc _ _ _ (by simp only [World.size_alloc]; omega)]; exact World.alloc_heap_new w _
  have g1 : w4.heap[w.heap.size + 1]? = some (.cells #[.string a0] 9 (0, 0)) := by
    rw [← hw4, Below.heap_alloc _ _ _ (by simp only [World.size_alloc]; omega), Below.heap_alloc _ _ _ (by simp only [World.size_alloc]; omega)]
    have := World.alloc_heap_new (w.alloc (Obj.cells #[Value.slice none 0 0] 33)) (Obj.cells #[Value.string a0] 9)
    rwa [World.size_alloc] at this
  have g2 : w4.heap[w.heap.size + 2]? = some (.cells #[.string ⟨#[44]⟩] 9 (0, 0)) := by
    rw [← hw4, Below.heap_alloc _ _ _ (by simp only [World.size_alloc]; omega)]
    have := World.alloc_heap_new ((w.alloc (Obj.cells #[Value.slice none 0 0] 33)).alloc (Obj.cells #[Value.string a0] 9)) (Obj.cells #[Value.string ⟨#[44]⟩] 9)
    rwa [World.size_alloc, World.size_alloc] at this
  have g3 : w4.heap[w.heap.size + 3]? = some (.cells #[.int .i64 0] 3 (0, 0)) := by
    rw [← hw4]
    have := World.alloc_heap_new (((w.alloc (Obj.cells #[Value.slice none 0 0] 33)).alloc (Obj.cells #[Value.string a0] 9)).alloc (Obj.cells #[Value.string ⟨#[44]⟩] 9)) (Obj.cells #[Value.int IntKind.i64 0] 3)
    rwa [World.size_alloc, World.size_alloc, World.size_alloc] at this
  rw [hw4]
  have HG0 := Aside0.mk g0
  have HG1 := Aside0.mk g1
  have HG2 := Aside0.mk g2
  have HG3 := Aside0.mk g3
  have HB4 := Aside0.mk hb4
  clear g0 g1 g2 g3 hb4 hw4
  have hinfo : (Tryd.prog.info? 3).map (fun i => (i.zero, i.size, i.bytes)) = some (some (.int .i64 0), 1, 8) := by kernel_rfl
  obtain ⟨i0, hi, hz0, hz1, hz2⟩ := info_parts hinfo
  clear hinfo
  have hpl : (partsOf 44 a0.data.toList).length ≤ 1000001 := partsOf_length 44 a0 hb1
  refine wpIn_range_own (gf := 95) (lb := #[.pointer (some ⟨w.heap.size + 1 + 1, 0, none⟩), .pointer (some ⟨w.heap.size + 1, 0, none⟩), .pointer (some ⟨w.heap.size + 1 + 2, 0, none⟩)]) rfl (enters_of Tryd.func95 (by kernel_rfl) rfl)
    (partsOf 44 a0.data.toList) (w.heap.size + 1) (by omega) (fun A B => ∀ k, w.heap.size < k → k < w.heap.size + 4 → B.heap[k]? = A.heap[k]?) (fun h1 h2 k a b => (h2 k a b).trans (h1 k a b)) (fun A o k a b => World.putObj_heap_other (by omega))
    ?seq (fun pre W => pre.length ≤ 1000001 ∧ (∃ v, W.heap[w.heap.size]? = some (.cells #[v] 33 (0, 0)) ∧ W.ownsRow (w4.heap.size + 2) 3 1 v pre.length (pre.map fun x => Value.int .i64 (hexNum x.data.toList : Int))) ∧ Below w.heap.size w W)
    ?put ?set ?start
    (fun x => { tmps := #[.string a0, undef, .slice none 0 0, .pointer (some ⟨w.heap.size, 0, none⟩), .string x, undef, undef, .string a0, .func (.func 95) #[] #[.pointer (some ⟨w.heap.size + 1 + 1, 0, none⟩), .pointer (some ⟨w.heap.size + 1, 0, none⟩), .pointer (some ⟨w.heap.size + 1 + 2, 0, none⟩)], .string x, undef, undef, undef, undef, undef, undef, undef, undef, undef, undef], defers := [] })
    ?assign ?body ?done
  case seq =>
    intro J W hset hY hlow h0
    refine callsIn_wide.2 (callsIn_wide.1 (splitSeq_in (w4.heap.size + 1) (w.heap.size + 1) (w.heap.size + 1 + 1) (w.heap.size + 1 + 2) 44 a0 hb1 (by omega) (by omega) J hset ?_ W ?_ ?_ ?_ h0))
    · intro pre x A hj hx hxl
      obtain ⟨fn, tmps, assign, body, hy, hR⟩ := hY pre x A hj hx hxl
      exact ⟨fn, tmps, assign, body, hy, hR.mono (fun e W' h => ⟨h.1, h.2.1, h.2.2 _ (by omega) (by omega), h.2.2 _ (by omega) (by omega), h.2.2 _ (by omega) (by omega)⟩)⟩
    · exact (hlow _ (by omega)).trans HG1.out
    · exact (hlow _ (by omega)).trans HG2.out
    · exact (hlow _ (by omega)).trans HG3.out
  case put =>
    rintro pre A o ⟨h1, ⟨v, h2, h3⟩, h4⟩
    refine ⟨h1, ⟨v, (World.putObj_heap_other (by omega)).trans h2, own_move h3 (fun k hk => World.putObj_heap_other (by have := own_base h3 k hk; omega))⟩, ?_⟩
    exact h4.grown (grownBy_putObj' A _ o) h4.size (fun k e => by cases e; omega)
  case set =>
    rintro pre A u ⟨h1, ⟨v, h2, h3⟩, h4⟩
    exact ⟨h1, ⟨v, (Below.heap_setCell A _ u _ (by show w.heap.size ≠ w.heap.size + 1; omega)).trans h2, ownsRow_setCell_below h3 (by show w.heap.size + 1 < w4.heap.size + 2; omega) u⟩, h4.setCell (by show w.heap.size ≤ w.heap.size + 1; omega) u⟩
  case start =>
    intro o
    refine ⟨by simp, ⟨.slice none 0 0, ?_, World.ownsRow_nil _ _ _ _⟩, below_alloc (below_alloc HB4.out _) _⟩
    rw [Below.heap_alloc _ _ _ (by simp; omega), Below.heap_alloc _ _ _ (by omega)]
    exact HG0.out
  case assign =>
    intro l x W K hK
    gi_wp2
    exact hK
  case body =>
    rintro l pre x A ⟨h1, ⟨v, h2, h3⟩, h4⟩ hx hxl hsz
    have hpre : pre.length + 1 ≤ 1000001 := by omega
    have hc : A.cell? ⟨w.heap.size, 0, none⟩ = some v := by simp [World.cell?, h2]
    have hp := List.all_eq_true.1 HB2.out x hx
    simp only [isPart, Bool.and_eq_true, decide_eq_true_eq] at hp
    have HPI := Aside0.mk (fun n W => CallsIn.inRound l (callsIn_wide (n := n).2 (ParseInt_hex x hp.1.1 hp.1.2 hp.2 W)))
    obtain ⟨z, hz⟩ : ∃ z : Int, z = (hexNum x.data.toList : Int) := ⟨_, rfl⟩
    rw [← hz] at HPI
    have HZ := Aside0.mk hz
    have H2 := Aside0.mk h2
    have H3 := Aside0.mk h3
    have H4 := Aside0.mk h4
    clear hz hp h2 h3 h4
    gi_wp2_with fail
    refine ⟨trivial, rfl, ?_⟩
    refine (HPI.out _ _).mono ?_
    rintro e W2 ⟨rfl, hb⟩
    have hs2 : w4.heap.size + 2 ≤ W2.heap.size := Nat.le_trans hsz hb.size
    have hrow : W2.ownsRow (w4.heap.size + 2) 3 1 v pre.length (pre.map fun x => Value.int .i64 (hexNum x.data.toList : Int)) := own_move H3.out (fun k hk => hb.block k (own_lt H3.out k hk))
    have HK : Aside0 (∀ k, k < w4.heap.size + 2 → W2.heap[k]? = A.heap[k]?) := ⟨fun k hk => hb.block k (by omega)⟩
    have HBW : Aside0 (Below w.heap.size w W2) := ⟨below_step H4.out hb⟩
    have HV2 : Aside0 (W2.heap[w.heap.size]? = some (.cells #[v] 33 (0, 0))) := ⟨(HK.out _ (by omega)).trans H2.out⟩
    have hc2 : W2.cell? ⟨w.heap.size, 0, none⟩ = some v := by simp [World.cell?, HV2.out]
    clear hc hb H2 H3 H4 HPI
    have HROW := Aside0.mk hrow
    clear hrow
    gi_wp2_with (gi_at_builtin; refine wpListIn_append_own _ rfl _ _ 33 rfl (w4.heap.size + 2) 3 i0 (.int .i64 0) 1 8 Tryd.underlying33 hi hz0 hz1 hz2 rfl (by decide) v pre.length _ ?c1 (HROW.out.alloc _) ⟨W2.heap.size, 0, none⟩ 1 1 [.int .i64 z] ?c2 rfl (cell_one_new _ _ _) (by simp [Value.oneCell']) (by unfold maxLen; omega) (by omega) (by simp; omega) ?_)
    case c1 => rfl
    case c2 => rfl
    intro v' w1 hown' hgrow _
    obtain ⟨g', cap', rfl⟩ := ownsRow_succ hown'
    have HOWN := Aside0.mk hown'
    have HKEEP : Aside0 (∀ k, k < w4.heap.size + 2 → w1.heap[k]? = W2.heap[k]?) := ⟨fun k hk => (hgrow.block k (by simp; omega) (fun e => by have := own_base HROW.out k e.symm; omega)).trans (Below.heap_alloc _ _ _ (by omega))⟩
    have HBW1 : Aside0 (Below w.heap.size w w1) := ⟨(below_alloc HBW.out _).grown hgrow (by have := HBW.out.size; simp; omega) (fun k e => by have := own_base HROW.out k e; omega)⟩
    have HV1 : Aside0 (w1.heap[w.heap.size]? = some (.cells #[v] 33 (0, 0))) := ⟨(HKEEP.out _ (by omega)).trans HV2.out⟩
    have hc1 : w1.cell? ⟨w.heap.size, 0, none⟩ = some v := by simp [World.cell?, HV1.out]
    have hf1 : w1.frozen? ⟨w.heap.size, 0, none⟩ = false := by simp [World.frozen?, HV1.out]
    clear hown' hgrow hc2
    gi_wp2
    have hoth := fun k (hk : k ≠ w.heap.size) => Below.heap_setCell w1 ⟨w.heap.size, 0, none⟩ (.slice (some ⟨g', 0, none⟩) (pre.length + 1) cap') k hk
    refine ⟨⟨⟨_, one_setCell HV1.out, ?_⟩, HBW1.out.setCell (Nat.le_refl _) _⟩, fun k a b => ?_, ?_, ?_⟩
    · have := ownsRow_setCell_below HOWN.out (a := ⟨w.heap.size, 0, none⟩) (by show w.heap.size < w.heap.size + 4 + 2; omega) (.slice (some ⟨g', 0, none⟩) (pre.length + 1) cap')
      rw [HZ.out] at this
      exact this
    · rw [hoth k (by omega), HKEEP.out k (by omega), HK.out k (by omega)]
    · rw [hoth _ (by omega), HKEEP.out _ (by omega), HK.out _ (by omega)]
    · rw [hoth _ (by omega), HKEEP.out _ (by omega), HK.out _ (by omega)]
  case done =>
    rintro W ⟨h1, ⟨v, h2, h3⟩, h4⟩ hK
    have hc : W.cell? ⟨w.heap.size, 0, none⟩ = some v := by simp [World.cell?, h2]
    gi_wp2
    refine ⟨by simp, .inl ⟨_, _, rfl, run_takeDeferred hK, ?_⟩⟩
    refine ⟨_, results_tmp rfl _ _ _, v, rfl, ?_, h4.grown (grownBy_putObj' W _ _) h4.size (fun k e => by cases e; omega)⟩
    refine Kd.R_of_own ?_ (fun _ _ => trivial)
    rw [← HR.out, List.length_map]
    have := own_weaken (base' := w.heap.size) (own_move (w1 := W.putObj w4.heap.size (.deferred none)) h3 (fun k hk => World.putObj_heap_other (by have := own_base h3 k hk; omega))) (by omega)
    unfold encs
    rw [List.map_map]
    exact this
end Go.Proofs.YtniehnkiicliaaaDoor.M
end
section
/- Laid by this session's program hbprint.py out of the translation: the function hornbook/glyph.Back and its contract. -/
namespace Go.Proofs.YtniehnkiicliaaaDoor.M
open Go.RowKit Go.Proofs.YtniehnkiicliaaaDoorW.PrintWords Go.Proofs.YtniehnkiicliaaaDoorW.PrintLast Go.Proofs.YtniehnkiicliaaaDoorW.PrintMore
attribute [local go_sem] max2_int min2_int max_two min_two max_three min_three max_four min_four
set_option linter.unusedVariables false
set_option linter.unusedSimpArgs false
def glyph_Back.l0 : Nat → Int → List ByteArray → Int → Int → Option (ByteArray × Bool)
  | 0, _, _, _, _ => none
  | k + 1, x0, x11, x12, x13 => if x13 < x12 then (if 0 ≤ x13 then (if x13 < (x11.length : Int) then ((strings_Cut.f (rdOf ByteArray.empty x11 x13) (⟨#[61]⟩ : ByteArray)).bind fun bt144 => ((glyph_values.f bt144.2.1).bind fun t147 => (if (t147.length : Int) = 1 then (if 0 < (t147.length : Int) then (if (rd t147 0) = x0 then (some (bt144.1, true)) else (glyph_Back.l0 k x0 x11 x12 (wrap64 (x13 + 1)))) else (none)) else (glyph_Back.l0 k x0 x11 x12 (wrap64 (x13 + 1)))))) else (none)) else (none)) else (some ((⟨#[]⟩ : ByteArray), false))
def glyph_Back.f (k : Nat) (a0 : Int) : Option (ByteArray × Bool) := (glyph_list.f k).bind fun t139 => ((strings_Fields.f t139).bind fun t140 => (glyph_Back.l0 k a0 t140 (t140.length : Int) 0))
set_option maxHeartbeats 8000000 in
set_option maxRecDepth 100000 in
theorem glyph_Back.calls (k : Nat) (a0 : Int) (r1 : ByteArray) (r2 : Bool) (w : World) (hG : GW w) (h : glyph_Back.f k a0 = some (r1, r2)) :
    Calls Tryd.prog 25 #[.int .i64 a0] w fun e w' => e = .returned (.tuple #[.string r1, .bool r2]) ∧ Below w.heap.size w w' := by
  have HG := Aside0.mk hG
  clear hG
  have HB := Aside0.mk (Below.refl w.heap.size w)
  have H : ((glyph_list.f k).bind fun t139 => ((strings_Fields.f t139).bind fun t140 => (glyph_Back.l0 k a0 t140 (t140.length : Int) 0))) = some (r1, r2) := h
  clear h
  replace H := Option.bind_eq_some_iff.mp H
  obtain ⟨t139, A20, H⟩ := H
  replace H : ((strings_Fields.f t139).bind fun t140 => (glyph_Back.l0 k a0 t140 (t140.length : Int) 0)) = some (r1, r2) := H
  have A2 := Aside0.mk A20
  clear A20
  replace H := Option.bind_eq_some_iff.mp H
  obtain ⟨t140, A30, H⟩ := H
  replace H : (glyph_Back.l0 k a0 t140 (t140.length : Int) 0) = some (r1, r2) := H
  have A3 := Aside0.mk A30
  clear A30
  have H' := Aside0.mk H
  clear H
  go_enter Tryd.func25, Tryd.ntmps25
  go_wp2_with (first | ((with_reducible refine gate_callee (f := 38) rfl ?_); refine goesL_ (some 10) rfl rfl Tryd.func38 (by kernel_rfl) rfl #[] rfl (by (try simp only [List.map_toArray, List.map_cons, List.map_nil]); first | done | rfl | (simp only [List.length_drop, List.length_take]; rfl)) ?_; (with_reducible refine (glyph_list.calls k  t139 _ A2.out).mono ?_); rintro e w4 ⟨rfl, hb⟩; refine ⟨_, rfl, ?_⟩; have n0_ := Aside0.mk (below_step (by repeat (first | (with_reducible first | exact HB.out | apply below_alloc | apply pw_below_drewN | apply below_drew1) | exact HB.out)) hb); clear HB; have HB := n0_; clear n0_; (try clear hb); (try clear hb2); (try clear hk); (try clear hi)) | ((with_reducible refine gate_callee (f := 42) rfl ?_); refine goesL_ (some 11) rfl rfl Tryd.func42 (by kernel_rfl) rfl #[.string t139] rfl (by (try simp only [List.map_toArray, List.map_cons, List.map_nil]); first | done | rfl | (simp only [List.length_drop, List.length_take]; rfl)) ?_; (with_reducible refine (strings_Fields.calls t139 t140 _ ?side1 A3.out).mono ?_); (case side1 => exact GW.below (by repeat (first | (with_reducible first | exact HB.out | apply below_alloc | apply pw_below_drewN | apply below_drew1) | exact HB.out)) HG.out); rintro e w5 ⟨v141, rfl, ho0, hb⟩; refine ⟨_, rfl, ?_⟩; have n0_ := Aside0.mk (Kd.R_lower ho0 (below_size (by repeat (first | (with_reducible first | exact HB.out | apply below_alloc | apply pw_below_drewN | apply below_drew1) | exact HB.out)))); have n1_ := Aside0.mk (below_step (by repeat (first | (with_reducible first | exact HB.out | apply below_alloc | apply pw_below_drewN | apply below_drew1) | exact HB.out)) hb); clear HB; have HO142 := n0_; have HB := n1_; clear n0_ n1_; (try clear hb); (try clear hb2); (try clear hk); (try clear hi); (try clear ho0); obtain ⟨Ao6, co6, eo6⟩ := Kd.R_slice HO142.out; subst eo6))
  go_loopg [13] k (fun kq v13 w' => ∃ (x13_1 : Int), v13 = .int .i64 x13_1 ∧ Aside0 (glyph_Back.l0 kq a0 t140 (t140.length : Int) x13_1 = some (r1, r2)) ∧ Aside0 (kq ≤ k) ∧ Aside0 (Kd.R Kd.string 9 w' w.heap.size (fun _ => True) (.slice Ao6 t140.length co6) t140) ∧ Aside0 (Below w.heap.size w w'))
  case atStart => exact ⟨(0), (by first | rfl | (simp; done) | (simp [*]; done)), H', ⟨Nat.le_refl _⟩, ⟨by (with_reducible repeat (first | apply Kd.R_alloc | apply Kd.R_drewN | apply Kd.R_drew)); exact HO142.out⟩, ⟨by repeat (first | (with_reducible first | exact HB.out | apply below_alloc | apply pw_below_drewN | apply below_drew1) | exact HB.out)⟩⟩
  case round =>
    clear H'
    try clear c2
    try clear p2
    try clear c3
    try clear c4
    obtain ⟨x13_1, rfl, HA, HK1, HO_11, HB⟩ := hrel
    cases gk with
    | zero => exact absurd HA.out (by simp [glyph_Back.l0])
    | succ k1 =>
      have H := HA.out
      clear HA
      simp only [glyph_Back.l0] at H
      by_cases c7 : x13_1 < (t140.length : Int)
      · rw [if_pos c7] at H
        have c7b0 : decide (x13_1 < (t140.length : Int)) = true := decide_eq_true c7
        clear c7
        by_cases c8 : 0 ≤ x13_1
        · rw [if_pos c8] at H
          have c8b0 : decide (0 ≤ x13_1) = true := decide_eq_true c8
          clear c8
          by_cases c9 : x13_1 < (t140.length : Int)
          · rw [if_pos c9] at H
            have c9b0 : decide (x13_1 < (t140.length : Int)) = true := decide_eq_true c9
            clear c9
            replace H := Option.bind_eq_some_iff.mp H
            obtain ⟨⟨t144, t145, t146⟩, A100, H⟩ := H
            replace H : ((glyph_values.f t145).bind fun t147 => (if (t147.length : Int) = 1 then (if 0 < (t147.length : Int) then (if (rd t147 0) = a0 then (some (t144, true)) else (glyph_Back.l0 k1 a0 t140 (t140.length : Int) (wrap64 (x13_1 + 1)))) else (none)) else (glyph_Back.l0 k1 a0 t140 (t140.length : Int) (wrap64 (x13_1 + 1))))) = some (r1, r2) := H
            have A10 := Aside0.mk A100
            clear A100
            replace H := Option.bind_eq_some_iff.mp H
            obtain ⟨t147, A110, H⟩ := H
            replace H : (if (t147.length : Int) = 1 then (if 0 < (t147.length : Int) then (if (rd t147 0) = a0 then (some (t144, true)) else (glyph_Back.l0 k1 a0 t140 (t140.length : Int) (wrap64 (x13_1 + 1)))) else (none)) else (glyph_Back.l0 k1 a0 t140 (t140.length : Int) (wrap64 (x13_1 + 1)))) = some (r1, r2) := H
            have A11 := Aside0.mk A110
            clear A110
            by_cases c12 : (t147.length : Int) = 1
            · rw [if_pos c12] at H
              have c12b0 : ((t147.length : Int) == 1) = true := beq_iff_eq.mpr c12
              have c12b1 : ((t147.length : Int) != 1) = false := bne_eq_false_iff_eq.mpr c12
              clear c12
              by_cases c13 : 0 < (t147.length : Int)
              · rw [if_pos c13] at H
                have c13b0 : decide (0 < (t147.length : Int)) = true := decide_eq_true c13
                have c13b1 : decide (0 < t147.length) = true := decide_eq_true (by omega)
                clear c13
                by_cases c14 : (rd t147 0) = a0
                · rw [if_pos c14] at H
                  have c14b0 : ((rd t147 0) == a0) = true := beq_iff_eq.mpr c14
                  have c14b1 : ((rd t147 0) != a0) = false := bne_eq_false_iff_eq.mpr c14
                  clear c14
                  simp only [Option.some.injEq, Prod.mk.injEq] at H
                  obtain ⟨rfl, rfl⟩ := H
                  have p143 : 0 ≤ (x13_1 : Int) := of_decide_eq_true (by first | (with_reducible assumption) | assumption)
                  have q143 : x13_1 < (t140.length : Int) := of_decide_eq_true (by first | (with_reducible assumption) | assumption)
                  obtain ⟨ad143, e143, hx143_0⟩ := Kd.at_string (Kd.R_reads' HO_11.out).2.2 x13_1 p143 q143
                  cases e143
                  replace p143 := eq_true p143
                  replace q143 := eq_true q143
                  go_wp2_with (first | ((with_reducible refine gate_callee (f := 37) rfl ?_); refine goesL_ (some 19) rfl rfl Tryd.func37 (by kernel_rfl) rfl #[.string (rdOf ByteArray.empty t140 x13_1), .string (⟨#[61]⟩ : ByteArray)] rfl (by (try simp only [List.map_toArray, List.map_cons, List.map_nil]); first | done | rfl | (simp only [List.length_drop, List.length_take]; rfl)) ?_; (with_reducible refine (strings_Cut.calls (rdOf ByteArray.empty t140 x13_1) (⟨#[61]⟩ : ByteArray) t144 t145 t146 _ ?side1 A10.out).mono ?_); (case side1 => exact GW.below (by repeat (first | (with_reducible first | exact HB.out | apply below_alloc | apply pw_below_drewN | apply below_drew1) | exact HB.out)) HG.out); rintro e w15 ⟨rfl, hb⟩; refine ⟨_, rfl, ?_⟩; have n0_ := Aside0.mk (Kd.R_below (by (with_reducible repeat (first | apply Kd.R_alloc | apply Kd.R_drewN | apply Kd.R_drew)); exact HO_11.out) hb); have n1_ := Aside0.mk (below_step (by repeat (first | (with_reducible first | exact HB.out | apply below_alloc | apply pw_below_drewN | apply below_drew1) | exact HB.out)) hb); clear HO_11; clear HB; have HO_11 := n0_; have HB := n1_; clear n0_ n1_; (try clear hb); (try clear hb2); (try clear hk); (try clear hi)) | ((with_reducible refine gate_callee (f := 39) rfl ?_); refine goesL_ (some 24) rfl rfl Tryd.func39 (by kernel_rfl) rfl #[.string t145] rfl (by (try simp only [List.map_toArray, List.map_cons, List.map_nil]); first | done | rfl | (simp only [List.length_drop, List.length_take]; rfl)) ?_; (with_reducible refine (glyph_values.calls t145 t147 _ A11.out).mono ?_); rintro e w16 ⟨v148, rfl, ho0, hb⟩; refine ⟨_, rfl, ?_⟩; have n0_ := Aside0.mk (Kd.R_below (by (with_reducible repeat (first | apply Kd.R_alloc | apply Kd.R_drewN | apply Kd.R_drew)); exact HO_11.out) hb); have n1_ := Aside0.mk (Kd.R_lower ho0 (below_size (by repeat (first | (with_reducible first | exact HB.out | apply below_alloc | apply pw_below_drewN | apply below_drew1) | exact HB.out)))); have n2_ := Aside0.mk (below_step (by repeat (first | (with_reducible first | exact HB.out | apply below_alloc | apply pw_below_drewN | apply below_drew1) | exact HB.out)) hb); clear HO_11; clear HB; have HO_11 := n0_; have HO149 := n1_; have HB := n2_; clear n0_ n1_ n2_; (try clear hb); (try clear hb2); (try clear hk); (try clear hi); (try clear ho0); obtain ⟨Ao17, co17, eo17⟩ := Kd.R_slice HO149.out; subst eo17; have p150 : 0 ≤ (0 : Int) := (by omega); have q150 : 0 < (t147.length : Int) := of_decide_eq_true (by first | (with_reducible assumption) | assumption); obtain ⟨ad150, e150, hx150_0⟩ := Kd.at_int (Kd.R_reads' HO149.out).2.2 0 p150 q150; cases e150; have qi150 : (0 < t147.length) = True := eq_true (by omega); (try rw [show ((0 : Int)).toNat = 0 from rfl] at hx150_0); (try rw [Addr.add_zero'] at hx150_0); replace p150 := eq_true p150; replace q150 := eq_true q150))
                  go_ret2
                  exact ⟨by first | rfl | (simp [errW_none, errW_some] <;> rfl) | (simp [*, errW_none, errW_some] <;> rfl), by repeat (first | (with_reducible first | exact HB.out | apply below_alloc | apply pw_below_drewN | apply below_drew1) | exact HB.out)⟩
                · rw [if_neg c14] at H
                  have c14b0 : ((rd t147 0) == a0) = false := beq_eq_false_iff_ne.mpr c14
                  have c14b1 : ((rd t147 0) != a0) = true := bne_iff_ne.mpr c14
                  have H' := Aside0.mk H
                  clear H
                  have p143 : 0 ≤ (x13_1 : Int) := of_decide_eq_true (by first | (with_reducible assumption) | assumption)
                  have q143 : x13_1 < (t140.length : Int) := of_decide_eq_true (by first | (with_reducible assumption) | assumption)
                  obtain ⟨ad143, e143, hx143_0⟩ := Kd.at_string (Kd.R_reads' HO_11.out).2.2 x13_1 p143 q143
                  cases e143
                  replace p143 := eq_true p143
                  replace q143 := eq_true q143
                  go_wp2_with (first | ((with_reducible refine gate_callee (f := 37) rfl ?_); refine goesL_ (some 19) rfl rfl Tryd.func37 (by kernel_rfl) rfl #[.string (rdOf ByteArray.empty t140 x13_1), .string (⟨#[61]⟩ : ByteArray)] rfl (by (try simp only [List.map_toArray, List.map_cons, List.map_nil]); first | done | rfl | (simp only [List.length_drop, List.length_take]; rfl)) ?_; (with_reducible refine (strings_Cut.calls (rdOf ByteArray.empty t140 x13_1) (⟨#[61]⟩ : ByteArray) t144 t145 t146 _ ?side1 A10.out).mono ?_); (case side1 => exact GW.below (by repeat (first | (with_reducible first | exact HB.out | apply below_alloc | apply pw_below_drewN | apply below_drew1) | exact HB.out)) HG.out); rintro e w18 ⟨rfl, hb⟩; refine ⟨_, rfl, ?_⟩; have n0_ := Aside0.mk (Kd.R_below (by (with_reducible repeat (first | apply Kd.R_alloc | apply Kd.R_drewN | apply Kd.R_drew)); exact HO_11.out) hb); have n1_ := Aside0.mk (below_step (by repeat (first | (with_reducible first | exact HB.out | apply below_alloc | apply pw_below_drewN | apply below_drew1) | exact HB.out)) hb); clear HO_11; clear HB; have HO_11 := n0_; have HB := n1_; clear n0_ n1_; (try clear hb); (try clear hb2); (try clear hk); (try clear hi)) | ((with_reducible refine gate_callee (f := 39) rfl ?_); refine goesL_ (some 24) rfl rfl Tryd.func39 (by kernel_rfl) rfl #[.string t145] rfl (by (try simp only [List.map_toArray, List.map_cons, List.map_nil]); first | done | rfl | (simp only [List.length_drop, List.length_take]; rfl)) ?_; (with_reducible refine (glyph_values.calls t145 t147 _ A11.out).mono ?_); rintro e w19 ⟨v148, rfl, ho0, hb⟩; refine ⟨_, rfl, ?_⟩; have n0_ := Aside0.mk (Kd.R_below (by (with_reducible repeat (first | apply Kd.R_alloc | apply Kd.R_drewN | apply Kd.R_drew)); exact HO_11.out) hb); have n1_ := Aside0.mk (Kd.R_lower ho0 (below_size (by repeat (first | (with_reducible first | exact HB.out | apply below_alloc | apply pw_below_drewN | apply below_drew1) | exact HB.out)))); have n2_ := Aside0.mk (below_step (by repeat (first | (with_reducible first | exact HB.out | apply below_alloc | apply pw_below_drewN | apply below_drew1) | exact HB.out)) hb); clear HO_11; clear HB; have HO_11 := n0_; have HO149 := n1_; have HB := n2_; clear n0_ n1_ n2_; (try clear hb); (try clear hb2); (try clear hk); (try clear hi); (try clear ho0); obtain ⟨Ao20, co20, eo20⟩ := Kd.R_slice HO149.out; subst eo20; have p150 : 0 ≤ (0 : Int) := (by omega); have q150 : 0 < (t147.length : Int) := of_decide_eq_true (by first | (with_reducible assumption) | assumption); obtain ⟨ad150, e150, hx150_0⟩ := Kd.at_int (Kd.R_reads' HO149.out).2.2 0 p150 q150; cases e150; have qi150 : (0 < t147.length) = True := eq_true (by omega); (try rw [show ((0 : Int)).toNat = 0 from rfl] at hx150_0); (try rw [Addr.add_zero'] at hx150_0); replace p150 := eq_true p150; replace q150 := eq_true q150))
                  go_roundg k1
                  case measure => have := HK1.out; omega
                  case rel => exact ⟨(wrap64 (x13_1 + 1)), (by first | rfl | (simp; done) | (simp [*]; done)), H', ⟨by have := HK1.out; omega⟩, ⟨by (with_reducible repeat (first | apply Kd.R_alloc | apply Kd.R_drewN | apply Kd.R_drew)); exact HO_11.out⟩, ⟨by repeat (first | (with_reducible first | exact HB.out | apply below_alloc | apply pw_below_drewN | apply below_drew1) | exact HB.out)⟩⟩
              · rw [if_neg c13] at H
                exact absurd H (by simp)
            · rw [if_neg c12] at H
              have c12b0 : ((t147.length : Int) == 1) = false := beq_eq_false_iff_ne.mpr c12
              have c12b1 : ((t147.length : Int) != 1) = true := bne_iff_ne.mpr c12
              have H' := Aside0.mk H
              clear H
              have p143 : 0 ≤ (x13_1 : Int) := of_decide_eq_true (by first | (with_reducible assumption) | assumption)
              have q143 : x13_1 < (t140.length : Int) := of_decide_eq_true (by first | (with_reducible assumption) | assumption)
              obtain ⟨ad143, e143, hx143_0⟩ := Kd.at_string (Kd.R_reads' HO_11.out).2.2 x13_1 p143 q143
              cases e143
              replace p143 := eq_true p143
              replace q143 := eq_true q143
              go_wp2_with (first | ((with_reducible refine gate_callee (f := 37) rfl ?_); refine goesL_ (some 19) rfl rfl Tryd.func37 (by kernel_rfl) rfl #[.string (rdOf ByteArray.empty t140 x13_1), .string (⟨#[61]⟩ : ByteArray)] rfl (by (try simp only [List.map_toArray, List.map_cons, List.map_nil]); first | done | rfl | (simp only [List.length_drop, List.length_take]; rfl)) ?_; (with_reducible refine (strings_Cut.calls (rdOf ByteArray.empty t140 x13_1) (⟨#[61]⟩ : ByteArray) t144 t145 t146 _ ?side1 A10.out).mono ?_); (case side1 => exact GW.below (by repeat (first | (with_reducible first | exact HB.out | apply below_alloc | apply pw_below_drewN | apply below_drew1) | exact HB.out)) HG.out); rintro e w21 ⟨rfl, hb⟩; refine ⟨_, rfl, ?_⟩; have n0_ := Aside0.mk (Kd.R_below (by (with_reducible repeat (first | apply Kd.R_alloc | apply Kd.R_drewN | apply Kd.R_drew)); exact HO_11.out) hb); have n1_ := Aside0.mk (below_step (by repeat (first | (with_reducible first | exact HB.out | apply below_alloc | apply pw_below_drewN | apply below_drew1) | exact HB.out)) hb); clear HO_11; clear HB; have HO_11 := n0_; have HB := n1_; clear n0_ n1_; (try clear hb); (try clear hb2); (try clear hk); (try clear hi)) | ((with_reducible refine gate_callee (f := 39) rfl ?_); refine goesL_ (some 24) rfl rfl Tryd.func39 (by kernel_rfl) rfl #[.string t145] rfl (by (try simp only [List.map_toArray, List.map_cons, List.map_nil]); first | done | rfl | (simp only [List.length_drop, List.length_take]; rfl)) ?_; (with_reducible refine (glyph_values.calls t145 t147 _ A11.out).mono ?_); rintro e w22 ⟨v148, rfl, ho0, hb⟩; refine ⟨_, rfl, ?_⟩; have n0_ := Aside0.mk (Kd.R_below (by (with_reducible repeat (first | apply Kd.R_alloc | apply Kd.R_drewN | apply Kd.R_drew)); exact HO_11.out) hb); have n1_ := Aside0.mk (Kd.R_lower ho0 (below_size (by repeat (first | (with_reducible first | exact HB.out | apply below_alloc | apply pw_below_drewN | apply below_drew1) | exact HB.out)))); have n2_ := Aside0.mk (below_step (by repeat (first | (with_reducible first | exact HB.out | apply below_alloc | apply pw_below_drewN | apply below_drew1) | exact HB.out)) hb); clear HO_11; clear HB; have HO_11 := n0_; have HO149 := n1_; have HB := n2_; clear n0_ n1_ n2_; (try clear hb); (try clear hb2); (try clear hk); (try clear hi); (try clear ho0); obtain ⟨Ao23, co23, eo23⟩ := Kd.R_slice HO149.out; subst eo23))
              go_roundg k1
              case measure => have := HK1.out; omega
              case rel => exact ⟨(wrap64 (x13_1 + 1)), (by first | rfl | (simp; done) | (simp [*]; done)), H', ⟨by have := HK1.out; omega⟩, ⟨by (with_reducible repeat (first | apply Kd.R_alloc | apply Kd.R_drewN | apply Kd.R_drew)); exact HO_11.out⟩, ⟨by repeat (first | (with_reducible first | exact HB.out | apply below_alloc | apply pw_below_drewN | apply below_drew1) | exact HB.out)⟩⟩
          · rw [if_neg c9] at H
            exact absurd H (by simp)
        · rw [if_neg c8] at H
          exact absurd H (by simp)
      · rw [if_neg c7] at H
        have c7b0 : decide (x13_1 < (t140.length : Int)) = false := decide_eq_false c7
        clear c7
        simp only [Option.some.injEq, Prod.mk.injEq] at H
        obtain ⟨rfl, rfl⟩ := H
        go_wp2
        go_ret2
        exact ⟨by first | rfl | (simp [errW_none, errW_some] <;> rfl) | (simp [*, errW_none, errW_some] <;> rfl), by repeat (first | (with_reducible first | exact HB.out | apply below_alloc | apply pw_below_drewN | apply below_drew1) | exact HB.out)⟩
end Go.Proofs.YtniehnkiicliaaaDoor.M
end
section
/- Laid by this session's program hbprint.py out of the translation: the function hornbook/hornbooklaw15.EncAscii and its contract. -/
namespace Go.Proofs.YtniehnkiicliaaaDoor.M
open Go.RowKit Go.Proofs.YtniehnkiicliaaaDoorW.PrintWords Go.Proofs.YtniehnkiicliaaaDoorW.PrintLast Go.Proofs.YtniehnkiicliaaaDoorW.PrintMore
attribute [local go_sem] max2_int min2_int max_two min_two max_three min_three max_four min_four
set_option linter.unusedVariables false
set_option linter.unusedSimpArgs false
def hornbooklaw15_EncAscii.f (k : Nat) (a0 : Int) : Option (Bool) := (hornbooklaw15_awake.f k).bind fun t242 => ((glyph_Back.f k (wrap64 (32 + (Int.tmod (Go.bits .and .i64 a0 65535) 95)))).bind fun bt243 => ((enc_Code.f k 1 bt243.1).bind fun bt245 => ((enc_Code.f k 2 bt243.1).bind fun bt247 => ((enc_Code.f k 0 bt243.1).bind fun bt249 => (if t242 = true then (if bt243.2 = true then (if bt245.2 = true then (if bt245.1 = (wrap64 (32 + (Int.tmod (Go.bits .and .i64 a0 65535) 95))) then (if bt247.2 = true then (if bt247.1 = (wrap64 (32 + (Int.tmod (Go.bits .and .i64 a0 65535) 95))) then (if (wrap64 (32 + (Int.tmod (Go.bits .and .i64 a0 65535) 95))) = 39 then (if bt249.2 = true then (some (decide (bt249.1 > 126))) else (some false)) else (if (wrap64 (32 + (Int.tmod (Go.bits .and .i64 a0 65535) 95))) = 96 then (if bt249.2 = true then (some (decide (bt249.1 > 126))) else (some false)) else (if bt249.2 = true then (if bt249.1 = (wrap64 (32 + (Int.tmod (Go.bits .and .i64 a0 65535) 95))) then (some true) else (some false)) else (some false)))) else (some false)) else (some false)) else (some false)) else (some false)) else (some false)) else (some false))))))
set_option maxHeartbeats 8000000 in
set_option maxRecDepth 100000 in
theorem hornbooklaw15_EncAscii.calls (k : Nat) (a0 : Int) (r : Bool) (w : World) (hG : GW w) (h : hornbooklaw15_EncAscii.f k a0 = some r) :
    Calls Tryd.prog 10 #[.int .i64 a0] w fun e w' => e = .returned (.bool r) ∧ Below w.heap.size w w' := by
  have HG := Aside0.mk hG
  clear hG
  have HB := Aside0.mk (Below.refl w.heap.size w)
  have H : ((hornbooklaw15_awake.f k).bind fun t242 => ((glyph_Back.f k (wrap64 (32 + (Int.tmod (Go.bits .and .i64 a0 65535) 95)))).bind fun bt243 => ((enc_Code.f k 1 bt243.1).bind fun bt245 => ((enc_Code.f k 2 bt243.1).bind fun bt247 => ((enc_Code.f k 0 bt243.1).bind fun bt249 => (if t242 = true then (if bt243.2 = true then (if bt245.2 = true then (if bt245.1 = (wrap64 (32 + (Int.tmod (Go.bits .and .i64 a0 65535) 95))) then (if bt247.2 = true then (if bt247.1 = (wrap64 (32 + (Int.tmod (Go.bits .and .i64 a0 65535) 95))) then (if (wrap64 (32 + (Int.tmod (Go.bits .and .i64 a0 65535) 95))) = 39 then (if bt249.2 = true then (some (decide (bt249.1 > 126))) else (some false)) else (if (wrap64 (32 + (Int.tmod (Go.bits .and .i64 a0 65535) 95))) = 96 then (if bt249.2 = true then (some (decide (bt249.1 > 126))) else (some false)) else (if bt249.2 = true then (if bt249.1 = (wrap64 (32 + (Int.tmod (Go.bits .and .i64 a0 65535) 95))) then (some true) else (some false)) else (some false)))) else (some false)) else (some false)) else (some false)) else (some false)) else (some false)) else (some false))))))) = some r := h
  clear h
  replace H := Option.bind_eq_some_iff.mp H
  obtain ⟨t242, A20, H⟩ := H
  replace H : ((glyph_Back.f k (wrap64 (32 + (Int.tmod (Go.bits .and .i64 a0 65535) 95)))).bind fun bt243 => ((enc_Code.f k 1 bt243.1).bind fun bt245 => ((enc_Code.f k 2 bt243.1).bind fun bt247 => ((enc_Code.f k 0 bt243.1).bind fun bt249 => (if t242 = true then (if bt243.2 = true then (if bt245.2 = true then (if bt245.1 = (wrap64 (32 + (Int.tmod (Go.bits .and .i64 a0 65535) 95))) then (if bt247.2 = true then (if bt247.1 = (wrap64 (32 + (Int.tmod (Go.bits .and .i64 a0 65535) 95))) then (if (wrap64 (32 + (Int.tmod (Go.bits .and .i64 a0 65535) 95))) = 39 then (if bt249.2 = true then (some (decide (bt249.1 > 126))) else (some false)) else (if (wrap64 (32 + (Int.tmod (Go.bits .and .i64 a0 65535) 95))) = 96 then (if bt249.2 = true then (some (decide (bt249.1 > 126))) else (some false)) else (if bt249.2 = true then (if bt249.1 = (wrap64 (32 + (Int.tmod (Go.bits .and .i64 a0 65535) 95))) then (some true) else (some false)) else (some false)))) else (some false)) else (some false)) else (some false)) else (some false)) else (some false)) else (some false)))))) = some r := H
  have A2 := Aside0.mk A20
  clear A20
  replace H := Option.bind_eq_some_iff.mp H
  obtain ⟨⟨t243, t244⟩, A30, H⟩ := H
  replace H : ((enc_Code.f k 1 t243).bind fun bt245 => ((enc_Code.f k 2 t243).bind fun bt247 => ((enc_Code.f k 0 t243).bind fun bt249 => (if t242 = true then (if t244 = true then (if bt245.2 = true then (if bt245.1 = (wrap64 (32 + (Int.tmod (Go.bits .and .i64 a0 65535) 95))) then (if bt247.2 = true then (if bt247.1 = (wrap64 (32 + (Int.tmod (Go.bits .and .i64 a0 65535) 95))) then (if (wrap64 (32 + (Int.tmod (Go.bits .and .i64 a0 65535) 95))) = 39 then (if bt249.2 = true then (some (decide (bt249.1 > 126))) else (some false)) else (if (wrap64 (32 + (Int.tmod (Go.bits .and .i64 a0 65535) 95))) = 96 then (if bt249.2 = true then (some (decide (bt249.1 > 126))) else (some false)) else (if bt249.2 = true then (if bt249.1 = (wrap64 (32 + (Int.tmod (Go.bits .and .i64 a0 65535) 95))) then (some true) else (some false)) else (some false)))) else (some false)) else (some false)) else (some false)) else (some false)) else (some false)) else (some false))))) = some r := H
  have A3 := Aside0.mk A30
  clear A30
  replace H := Option.bind_eq_some_iff.mp H
  obtain ⟨⟨t245, t246⟩, A40, H⟩ := H
  replace H : ((enc_Code.f k 2 t243).bind fun bt247 => ((enc_Code.f k 0 t243).bind fun bt249 => (if t242 = true then (if t244 = true then (if t246 = true then (if t245 = (wrap64 (32 + (Int.tmod (Go.bits .and .i64 a0 65535) 95))) then (if bt247.2 = true then (if bt247.1 = (wrap64 (32 + (Int.tmod (Go.bits .and .i64 a0 65535) 95))) then (if (wrap64 (32 + (Int.tmod (Go.bits .and .i64 a0 65535) 95))) = 39 then (if bt249.2 = true then (some (decide (bt249.1 > 126))) else (some false)) else (if (wrap64 (32 + (Int.tmod (Go.bits .and .i64 a0 65535) 95))) = 96 then (if bt249.2 = true then (some (decide (bt249.1 > 126))) else (some false)) else (if bt249.2 = true then (if bt249.1 = (wrap64 (32 + (Int.tmod (Go.bits .and .i64 a0 65535) 95))) then (some true) else (some false)) else (some false)))) else (some false)) else (some false)) else (some false)) else (some false)) else (some false)) else (some false)))) = some r := H
  have A4 := Aside0.mk A40
  clear A40
  replace H := Option.bind_eq_some_iff.mp H
  obtain ⟨⟨t247, t248⟩, A50, H⟩ := H
  replace H : ((enc_Code.f k 0 t243).bind fun bt249 => (if t242 = true then (if t244 = true then (if t246 = true then (if t245 = (wrap64 (32 + (Int.tmod (Go.bits .and .i64 a0 65535) 95))) then (if t248 = true then (if t247 = (wrap64 (32 + (Int.tmod (Go.bits .and .i64 a0 65535) 95))) then (if (wrap64 (32 + (Int.tmod (Go.bits .and .i64 a0 65535) 95))) = 39 then (if bt249.2 = true then (some (decide (bt249.1 > 126))) else (some false)) else (if (wrap64 (32 + (Int.tmod (Go.bits .and .i64 a0 65535) 95))) = 96 then (if bt249.2 = true then (some (decide (bt249.1 > 126))) else (some false)) else (if bt249.2 = true then (if bt249.1 = (wrap64 (32 + (Int.tmod (Go.bits .and .i64 a0 65535) 95))) then (some true) else (some false)) else (some false)))) else (some false)) else (some false)) else (some false)) else (some false)) else (some false)) else (some false))) = some r := H
  have A5 := Aside0.mk A50
  clear A50
  replace H := Option.bind_eq_some_iff.mp H
  obtain ⟨⟨t249, t250⟩, A60, H⟩ := H
  replace H : (if t242 = true then (if t244 = true then (if t246 = true then (if t245 = (wrap64 (32 + (Int.tmod (Go.bits .and .i64 a0 65535) 95))) then (if t248 = true then (if t247 = (wrap64 (32 + (Int.tmod (Go.bits .and .i64 a0 65535) 95))) then (if (wrap64 (32 + (Int.tmod (Go.bits .and .i64 a0 65535) 95))) = 39 then (if t250 = true then (some (decide (t249 > 126))) else (some false)) else (if (wrap64 (32 + (Int.tmod (Go.bits .and .i64 a0 65535) 95))) = 96 then (if t250 = true then (some (decide (t249 > 126))) else (some false)) else (if t250 = true then (if t249 = (wrap64 (32 + (Int.tmod (Go.bits .and .i64 a0 65535) 95))) then (some true) else (some false)) else (some false)))) else (some false)) else (some false)) else (some false)) else (some false)) else (some false)) else (some false)) = some r := H
  have A6 := Aside0.mk A60
  clear A60
  by_cases c7 : t242 = true
  · subst c7
    have H1 : (if t244 = true then (if t246 = true then (if t245 = (wrap64 (32 + (Int.tmod (Go.bits .and .i64 a0 65535) 95))) then (if t248 = true then (if t247 = (wrap64 (32 + (Int.tmod (Go.bits .and .i64 a0 65535) 95))) then (if (wrap64 (32 + (Int.tmod (Go.bits .and .i64 a0 65535) 95))) = 39 then (if t250 = true then (some (decide (t249 > 126))) else (some false)) else (if (wrap64 (32 + (Int.tmod (Go.bits .and .i64 a0 65535) 95))) = 96 then (if t250 = true then (some (decide (t249 > 126))) else (some false)) else (if t250 = true then (if t249 = (wrap64 (32 + (Int.tmod (Go.bits .and .i64 a0 65535) 95))) then (some true) else (some false)) else (some false)))) else (some false)) else (some false)) else (some false)) else (some false)) else (some false)) = some r := by rw [if_pos rfl] at H; exact H
    clear H
    have H := H1
    clear H1
    by_cases c8 : t244 = true
    · subst c8
      have H1 : (if t246 = true then (if t245 = (wrap64 (32 + (Int.tmod (Go.bits .and .i64 a0 65535) 95))) then (if t248 = true then (if t247 = (wrap64 (32 + (Int.tmod (Go.bits .and .i64 a0 65535) 95))) then (if (wrap64 (32 + (Int.tmod (Go.bits .and .i64 a0 65535) 95))) = 39 then (if t250 = true then (some (decide (t249 > 126))) else (some false)) else (if (wrap64 (32 + (Int.tmod (Go.bits .and .i64 a0 65535) 95))) = 96 then (if t250 = true then (some (decide (t249 > 126))) else (some false)) else (if t250 = true then (if t249 = (wrap64 (32 + (Int.tmod (Go.bits .and .i64 a0 65535) 95))) then (some true) else (some false)) else (some false)))) else (some false)) else (some false)) else (some false)) else (some false)) = some r := by rw [if_pos rfl] at H; exact H
      clear H
      have H := H1
      clear H1
      by_cases c9 : t246 = true
      · subst c9
        have H1 : (if t245 = (wrap64 (32 + (Int.tmod (Go.bits .and .i64 a0 65535) 95))) then (if t248 = true then (if t247 = (wrap64 (32 + (Int.tmod (Go.bits .and .i64 a0 65535) 95))) then (if (wrap64 (32 + (Int.tmod (Go.bits .and .i64 a0 65535) 95))) = 39 then (if t250 = true then (some (decide (t249 > 126))) else (some false)) else (if (wrap64 (32 + (Int.tmod (Go.bits .and .i64 a0 65535) 95))) = 96 then (if t250 = true then (some (decide (t249 > 126))) else (some false)) else (if t250 = true then (if t249 = (wrap64 (32 + (Int.tmod (Go.bits .and .i64 a0 65535) 95))) then (some true) else (some false)) else (some false)))) else (some false)) else (some false)) else (some false)) = some r := by rw [if_pos rfl] at H; exact H
        clear H
        have H := H1
        clear H1
        by_cases c10 : t245 = (wrap64 (32 + (Int.tmod (Go.bits .and .i64 a0 65535) 95)))
        · rw [if_pos c10] at H
          have c10b0 : (t245 == (wrap64 (32 + (Int.tmod (Go.bits .and .i64 a0 65535) 95)))) = true := beq_iff_eq.mpr c10
          have c10b1 : (t245 != (wrap64 (32 + (Int.tmod (Go.bits .and .i64 a0 65535) 95)))) = false := bne_eq_false_iff_eq.mpr c10
          clear c10
          by_cases c11 : t248 = true
          · subst c11
            have H1 : (if t247 = (wrap64 (32 + (Int.tmod (Go.bits .and .i64 a0 65535) 95))) then (if (wrap64 (32 + (Int.tmod (Go.bits .and .i64 a0 65535) 95))) = 39 then (if t250 = true then (some (decide (t249 > 126))) else (some false)) else (if (wrap64 (32 + (Int.tmod (Go.bits .and .i64 a0 65535) 95))) = 96 then (if t250 = true then (some (decide (t249 > 126))) else (some false)) else (if t250 = true then (if t249 = (wrap64 (32 + (Int.tmod (Go.bits .and .i64 a0 65535) 95))) then (some true) else (some false)) else (some false)))) else (some false)) = some r := by rw [if_pos rfl] at H; exact H
            clear H
            have H := H1
            clear H1
            by_cases c12 : t247 = (wrap64 (32 + (Int.tmod (Go.bits .and .i64 a0 65535) 95)))
            · rw [if_pos c12] at H
              have c12b0 : (t247 == (wrap64 (32 + (Int.tmod (Go.bits .and .i64 a0 65535) 95)))) = true := beq_iff_eq.mpr c12
              have c12b1 : (t247 != (wrap64 (32 + (Int.tmod (Go.bits .and .i64 a0 65535) 95)))) = false := bne_eq_false_iff_eq.mpr c12
              clear c12
              by_cases c13 : (wrap64 (32 + (Int.tmod (Go.bits .and .i64 a0 65535) 95))) = 39
              · rw [if_pos c13] at H
                have c13b0 : ((wrap64 (32 + (Int.tmod (Go.bits .and .i64 a0 65535) 95))) == 39) = true := beq_iff_eq.mpr c13
                have c13b1 : ((wrap64 (32 + (Int.tmod (Go.bits .and .i64 a0 65535) 95))) != 39) = false := bne_eq_false_iff_eq.mpr c13
                clear c13
                by_cases c14 : t250 = true
                · subst c14
                  have H1 : (some (decide (t249 > 126))) = some r := by rw [if_pos rfl] at H; exact H
                  clear H
                  have H := H1
                  clear H1
                  obtain rfl := Option.some.inj H
                  go_enter Tryd.func10, Tryd.ntmps10
                  go_wp2_with (first | ((with_reducible refine gate_callee (f := 12) rfl ?_); refine goesL_ (some 13) rfl rfl Tryd.func12 (by kernel_rfl) rfl #[] rfl (by (try simp only [List.map_toArray, List.map_cons, List.map_nil]); first | done | rfl | (simp only [List.length_drop, List.length_take]; rfl)) ?_; (with_reducible refine (hornbooklaw15_awake.calls k  true _ ?side1 A2.out).mono ?_); (case side1 => exact GW.below (by repeat (first | (with_reducible first | exact HB.out | apply below_alloc | apply pw_below_drewN | apply below_drew1) | exact HB.out)) HG.out); rintro e w15 ⟨rfl, hb⟩; refine ⟨_, rfl, ?_⟩; have n0_ := Aside0.mk (below_step (by repeat (first | (with_reducible first | exact HB.out | apply below_alloc | apply pw_below_drewN | apply below_drew1) | exact HB.out)) hb); clear HB; have HB := n0_; clear n0_; (try clear hb); (try clear hb2); (try clear hk); (try clear hi)) | ((with_reducible refine gate_callee (f := 25) rfl ?_); refine goesL_ (some 20) rfl rfl Tryd.func25 (by kernel_rfl) rfl #[.int .i64 (wrap64 (32 + (Int.tmod (Go.bits .and .i64 a0 65535) 95)))] rfl (by (try simp only [List.map_toArray, List.map_cons, List.map_nil]); first | done | rfl | (simp only [List.length_drop, List.length_take]; rfl)) ?_; (with_reducible refine (glyph_Back.calls k (wrap64 (32 + (Int.tmod (Go.bits .and .i64 a0 65535) 95))) t243 true _ ?side1 A3.out).mono ?_); (case side1 => exact GW.below (by repeat (first | (with_reducible first | exact HB.out | apply below_alloc | apply pw_below_drewN | apply below_drew1) | exact HB.out)) HG.out); rintro e w16 ⟨rfl, hb⟩; refine ⟨_, rfl, ?_⟩; have n0_ := Aside0.mk (below_step (by repeat (first | (with_reducible first | exact HB.out | apply below_alloc | apply pw_below_drewN | apply below_drew1) | exact HB.out)) hb); clear HB; have HB := n0_; clear n0_; (try clear hb); (try clear hb2); (try clear hk); (try clear hi)) | ((with_reducible refine gate_callee (f := 13) rfl ?_); refine goesL_ (some 25) rfl rfl Tryd.func13 (by kernel_rfl) rfl #[.int .i64 1, .string t243] rfl (by (try simp only [List.map_toArray, List.map_cons, List.map_nil]); first | done | rfl | (simp only [List.length_drop, List.length_take]; rfl)) ?_; (with_reducible refine (enc_Code.calls k 1 t243 t245 true _ ?side1 A4.out).mono ?_); (case side1 => exact GW.below (by repeat (first | (with_reducible first | exact HB.out | apply below_alloc | apply pw_below_drewN | apply below_drew1) | exact HB.out)) HG.out); rintro e w17 ⟨rfl, hb⟩; refine ⟨_, rfl, ?_⟩; have n0_ := Aside0.mk (below_step (by repeat (first | (with_reducible first | exact HB.out | apply below_alloc | apply pw_below_drewN | apply below_drew1) | exact HB.out)) hb); clear HB; have HB := n0_; clear n0_; (try clear hb); (try clear hb2); (try clear hk); (try clear hi)) | ((with_reducible refine gate_callee (f := 13) rfl ?_); refine goesL_ (some 30) rfl rfl Tryd.func13 (by kernel_rfl) rfl #[.int .i64 2, .string t243] rfl (by (try simp only [List.map_toArray, List.map_cons, List.map_nil]); first | done | rfl | (simp only [List.length_drop, List.length_take]; rfl)) ?_; (with_reducible refine (enc_Code.calls k 2 t243 t247 true _ ?side1 A5.out).mono ?_); (case side1 => exact GW.below (by repeat (first | (with_reducible first | exact HB.out | apply below_alloc | apply pw_below_drewN | apply below_drew1) | exact HB.out)) HG.out); rintro e w18 ⟨rfl, hb⟩; refine ⟨_, rfl, ?_⟩; have n0_ := Aside0.mk (below_step (by repeat (first | (with_reducible first | exact HB.out | apply below_alloc | apply pw_below_drewN | apply below_drew1) | exact HB.out)) hb); clear HB; have HB := n0_; clear n0_; (try clear hb); (try clear hb2); (try clear hk); (try clear hi)) | ((with_reducible refine gate_callee (f := 13) rfl ?_); refine goesL_ (some 35) rfl rfl Tryd.func13 (by kernel_rfl) rfl #[.int .i64 0, .string t243] rfl (by (try simp only [List.map_toArray, List.map_cons, List.map_nil]); first | done | rfl | (simp only [List.length_drop, List.length_take]; rfl)) ?_; (with_reducible refine (enc_Code.calls k 0 t243 t249 true _ ?side1 A6.out).mono ?_); (case side1 => exact GW.below (by repeat (first | (with_reducible first | exact HB.out | apply below_alloc | apply pw_below_drewN | apply below_drew1) | exact HB.out)) HG.out); rintro e w19 ⟨rfl, hb⟩; refine ⟨_, rfl, ?_⟩; have n0_ := Aside0.mk (below_step (by repeat (first | (with_reducible first | exact HB.out | apply below_alloc | apply pw_below_drewN | apply below_drew1) | exact HB.out)) hb); clear HB; have HB := n0_; clear n0_; (try clear hb); (try clear hb2); (try clear hk); (try clear hi)))
                  go_ret
                  exact ⟨by first | rfl | (simp [errW_none, errW_some] <;> rfl) | (simp [*, errW_none, errW_some] <;> rfl), by repeat (first | (with_reducible first | exact HB.out | apply below_alloc | apply pw_below_drewN | apply below_drew1) | exact HB.out)⟩
                · replace c14 := Bool.eq_false_iff.mpr c14
                  subst c14
                  have H1 : (some false) = some r := by rw [if_neg (show ¬ (false = true) by decide)] at H; exact H
                  clear H
                  have H := H1
                  clear H1
                  obtain rfl := Option.some.inj H
                  go_enter Tryd.func10, Tryd.ntmps10
                  go_wp2_with (first | ((with_reducible refine gate_callee (f := 12) rfl ?_); refine goesL_ (some 13) rfl rfl Tryd.func12 (by kernel_rfl) rfl #[] rfl (by (try simp only [List.map_toArray, List.map_cons, List.map_nil]); first | done | rfl | (simp only [List.length_drop, List.length_take]; rfl)) ?_; (with_reducible refine (hornbooklaw15_awake.calls k  true _ ?side1 A2.out).mono ?_); (case side1 => exact GW.below (by repeat (first | (with_reducible first | exact HB.out | apply below_alloc | apply pw_below_drewN | apply below_drew1) | exact HB.out)) HG.out); rintro e w20 ⟨rfl, hb⟩; refine ⟨_, rfl, ?_⟩; have n0_ := Aside0.mk (below_step (by repeat (first | (with_reducible first | exact HB.out | apply below_alloc | apply pw_below_drewN | apply below_drew1) | exact HB.out)) hb); clear HB; have HB := n0_; clear n0_; (try clear hb); (try clear hb2); (try clear hk); (try clear hi)) | ((with_reducible refine gate_callee (f := 25) rfl ?_); refine goesL_ (some 20) rfl rfl Tryd.func25 (by kernel_rfl) rfl #[.int .i64 (wrap64 (32 + (Int.tmod (Go.bits .and .i64 a0 65535) 95)))] rfl (by (try simp only [List.map_toArray, List.map_cons, List.map_nil]); first | done | rfl | (simp only [List.length_drop, List.length_take]; rfl)) ?_; (with_reducible refine (glyph_Back.calls k (wrap64 (32 + (Int.tmod (Go.bits .and .i64 a0 65535) 95))) t243 true _ ?side1 A3.out).mono ?_); (case side1 => exact GW.below (by repeat (first | (with_reducible first | exact HB.out | apply below_alloc | apply pw_below_drewN | apply below_drew1) | exact HB.out)) HG.out); rintro e w21 ⟨rfl, hb⟩; refine ⟨_, rfl, ?_⟩; have n0_ := Aside0.mk (below_step (by repeat (first | (with_reducible first | exact HB.out | apply below_alloc | apply pw_below_drewN | apply below_drew1) | exact HB.out)) hb); clear HB; have HB := n0_; clear n0_; (try clear hb); (try clear hb2); (try clear hk); (try clear hi)) | ((with_reducible refine gate_callee (f := 13) rfl ?_); refine goesL_ (some 25) rfl rfl Tryd.func13 (by kernel_rfl) rfl #[.int .i64 1, .string t243] rfl (by (try simp only [List.map_toArray, List.map_cons, List.map_nil]); first | done | rfl | (simp only [List.length_drop, List.length_take]; rfl)) ?_; (with_reducible refine (enc_Code.calls k 1 t243 t245 true _ ?side1 A4.out).mono ?_); (case side1 => exact GW.below (by repeat (first | (with_reducible first | exact HB.out | apply below_alloc | apply pw_below_drewN | apply below_drew1) | exact HB.out)) HG.out); rintro e w22 ⟨rfl, hb⟩; refine ⟨_, rfl, ?_⟩; have n0_ := Aside0.mk (below_step (by repeat (first | (with_reducible first | exact HB.out | apply below_alloc | apply pw_below_drewN | apply below_drew1) | exact HB.out)) hb); clear HB; have HB := n0_; clear n0_; (try clear hb); (try clear hb2); (try clear hk); (try clear hi)) | ((with_reducible refine gate_callee (f := 13) rfl ?_); refine goesL_ (some 30) rfl rfl Tryd.func13 (by kernel_rfl) rfl #[.int .i64 2, .string t243] rfl (by (try simp only [List.map_toArray, List.map_cons, List.map_nil]); first | done | rfl | (simp only [List.length_drop, List.length_take]; rfl)) ?_; (with_reducible refine (enc_Code.calls k 2 t243 t247 true _ ?side1 A5.out).mono ?_); (case side1 => exact GW.below (by repeat (first | (with_reducible first | exact HB.out | apply below_alloc | apply pw_below_drewN | apply below_drew1) | exact HB.out)) HG.out); rintro e w23 ⟨rfl, hb⟩; refine ⟨_, rfl, ?_⟩; have n0_ := Aside0.mk (below_step (by repeat (first | (with_reducible first | exact HB.out | apply below_alloc | apply pw_below_drewN | apply below_drew1) | exact HB.out)) hb); clear HB; have HB := n0_; clear n0_; (try clear hb); (try clear hb2); (try clear hk); (try clear hi)) | ((with_reducible refine gate_callee (f := 13) rfl ?_); refine goesL_ (some 35) rfl rfl Tryd.func13 (by kernel_rfl) rfl #[.int .i64 0, .string t243] rfl (by (try simp only [List.map_toArray, List.map_cons, List.map_nil]); first | done | rfl | (simp only [List.length_drop, List.length_take]; rfl)) ?_; (with_reducible refine (enc_Code.calls k 0 t243 t249 false _ ?side1 A6.out).mono ?_); (case side1 => exact GW.below (by repeat (first | (with_reducible first | exact HB.out | apply below_alloc | apply pw_below_drewN | apply below_drew1) | exact HB.out)) HG.out); rintro e w24 ⟨rfl, hb⟩; refine ⟨_, rfl, ?_⟩; have n0_ := Aside0.mk (below_step (by repeat (first | (with_reducible first | exact HB.out | apply below_alloc | apply pw_below_drewN | apply below_drew1) | exact HB.out)) hb); clear HB; have HB := n0_; clear n0_; (try clear hb); (try clear hb2); (try clear hk); (try clear hi)))
                  go_ret
                  exact ⟨by first | rfl | (simp [errW_none, errW_some] <;> rfl) | (simp [*, errW_none, errW_some] <;> rfl), by repeat (first | (with_reducible first | exact HB.out | apply below_alloc | apply pw_below_drewN | apply below_drew1) | exact HB.out)⟩
              · rw [if_neg c13] at H
                have c13b0 : ((wrap64 (32 + (Int.tmod (Go.bits .and .i64 a0 65535) 95))) == 39) = false := beq_eq_false_iff_ne.mpr c13
                have c13b1 : ((wrap64 (32 + (Int.tmod (Go.bits .and .i64 a0 65535) 95))) != 39) = true := bne_iff_ne.mpr c13
                by_cases c25 : (wrap64 (32 + (Int.tmod (Go.bits .and .i64 a0 65535) 95))) = 96
                · rw [if_pos c25] at H
                  have c25b0 : ((wrap64 (32 + (Int.tmod (Go.bits .and .i64 a0 65535) 95))) == 96) = true := beq_iff_eq.mpr c25
                  have c25b1 : ((wrap64 (32 + (Int.tmod (Go.bits .and .i64 a0 65535) 95))) != 96) = false := bne_eq_false_iff_eq.mpr c25
                  clear c25
                  by_cases c26 : t250 = true
                  · subst c26
                    have H1 : (some (decide (t249 > 126))) = some r := by rw [if_pos rfl] at H; exact H
                    clear H
                    have H := H1
                    clear H1
                    obtain rfl := Option.some.inj H
                    go_enter Tryd.func10, Tryd.ntmps10
                    go_wp2_with (first | ((with_reducible refine gate_callee (f := 12) rfl ?_); refine goesL_ (some 13) rfl rfl Tryd.func12 (by kernel_rfl) rfl #[] rfl (by (try simp only [List.map_toArray, List.map_cons, List.map_nil]); first | done | rfl | (simp only [List.length_drop, List.length_take]; rfl)) ?_; (with_reducible refine (hornbooklaw15_awake.calls k  true _ ?side1 A2.out).mono ?_); (case side1 => exact GW.below (by repeat (first | (with_reducible first | exact HB.out | apply below_alloc | apply pw_below_drewN | apply below_drew1) | exact HB.out)) HG.out); rintro e w27 ⟨rfl, hb⟩; refine ⟨_, rfl, ?_⟩; have n0_ := Aside0.mk (below_step (by repeat (first | (with_reducible first | exact HB.out | apply below_alloc | apply pw_below_drewN | apply below_drew1) | exact HB.out)) hb); clear HB; have HB := n0_; clear n0_; (try clear hb); (try clear hb2); (try clear hk); (try clear hi)) | ((with_reducible refine gate_callee (f := 25) rfl ?_); refine goesL_ (some 20) rfl rfl Tryd.func25 (by kernel_rfl) rfl #[.int .i64 (wrap64 (32 + (Int.tmod (Go.bits .and .i64 a0 65535) 95)))] rfl (by (try simp only [List.map_toArray, List.map_cons, List.map_nil]); first | done | rfl | (simp only [List.length_drop, List.length_take]; rfl)) ?_; (with_reducible refine (glyph_Back.calls k (wrap64 (32 + (Int.tmod (Go.bits .and .i64 a0 65535) 95))) t243 true _ ?side1 A3.out).mono ?_); (case side1 => exact GW.below (by repeat (first | (with_reducible first | exact HB.out | apply below_alloc | apply pw_below_drewN | apply below_drew1) | exact HB.out)) HG.out); rintro e w28 ⟨rfl, hb⟩; refine ⟨_, rfl, ?_⟩; have n0_ := Aside0.mk (below_step (by repeat (first | (with_reducible first | exact HB.out | apply below_alloc | apply pw_below_drewN | apply below_drew1) | exact HB.out)) hb); clear HB; have HB := n0_; clear n0_; (try clear hb); (try clear hb2); (try clear hk); (try clear hi)) | ((with_reducible refine gate_callee (f := 13) rfl ?_); refine goesL_ (some 25) rfl rfl Tryd.func13 (by kernel_rfl) rfl #[.int .i64 1, .string t243] rfl (by (try simp only [List.map_toArray, List.map_cons, List.map_nil]); first | done | rfl | (simp only [List.length_drop, List.length_take]; rfl)) ?_; (with_reducible refine (enc_Code.calls k 1 t243 t245 true _ ?side1 A4.out).mono ?_); (case side1 => exact GW.below (by repeat (first | (with_reducible first | exact HB.out | apply below_alloc | apply pw_below_drewN | apply below_drew1) | exact HB.out)) HG.out); rintro e w29 ⟨rfl, hb⟩; refine ⟨_, rfl, ?_⟩; have n0_ := Aside0.mk (below_step (by repeat (first | (with_reducible first | exact HB.out | apply below_alloc | apply pw_below_drewN | apply below_drew1) | exact HB.out)) hb); clear HB; have HB := n0_; clear n0_; (try clear hb); (try clear hb2); (try clear hk); (try clear hi)) | ((with_reducible refine gate_callee (f := 13) rfl ?_); refine goesL_ (some 30) rfl rfl Tryd.func13 (by kernel_rfl) rfl #[.int .i64 2, .string t243] rfl (by (try simp only [List.map_toArray, List.map_cons, List.map_nil]); first | done | rfl | (simp only [List.length_drop, List.length_take]; rfl)) ?_; (with_reducible refine (enc_Code.calls k 2 t243 t247 true _ ?side1 A5.out).mono ?_); (case side1 => exact GW.below (by repeat (first | (with_reducible first | exact HB.out | apply below_alloc | apply pw_below_drewN | apply below_drew1) | exact HB.out)) HG.out); rintro e w30 ⟨rfl, hb⟩; refine ⟨_, rfl, ?_⟩; have n0_ := Aside0.mk (below_step (by repeat (first | (with_reducible first | exact HB.out | apply below_alloc | apply pw_below_drewN | apply below_drew1) | exact HB.out)) hb); clear HB; have HB := n0_; clear n0_; (try clear hb); (try clear hb2); (try clear hk); (try clear hi)) | ((with_reducible refine gate_callee (f := 13) rfl ?_); refine goesL_ (some 35) rfl rfl Tryd.func13 (by kernel_rfl) rfl #[.int .i64 0, .string t243] rfl (by (try simp only [List.map_toArray, List.map_cons, List.map_nil]); first | done | rfl | (simp only [List.length_drop, List.length_take]; rfl)) ?_; (with_reducible refine (enc_Code.calls k 0 t243 t249 true _ ?side1 A6.out).mono ?_); (case side1 => exact GW.below (by repeat (first | (with_reducible first | exact HB.out | apply below_alloc | apply pw_below_drewN | apply below_drew1) | exact HB.out)) HG.out); rintro e w31 ⟨rfl, hb⟩; refine ⟨_, rfl, ?_⟩; have n0_ := Aside0.mk (below_step (by repeat (first | (with_reducible first | exact HB.out | apply below_alloc | apply pw_below_drewN | apply below_drew1) | exact HB.out)) hb); clear HB; have HB := n0_; clear n0_; (try clear hb); (try clear hb2); (try clear hk); (try clear hi)))
                    go_ret
                    exact ⟨by first | rfl | (simp [errW_none, errW_some] <;> rfl) | (simp [*, errW_none, errW_some] <;> rfl), by repeat (first | (with_reducible first | exact HB.out | apply below_alloc | apply pw_below_drewN | apply below_drew1) | exact HB.out)⟩
                  · replace c26 := Bool.eq_false_iff.mpr c26
                    subst c26
                    have H1 : (some false) = some r := by rw [if_neg (show ¬ (false = true) by decide)] at H; exact H
                    clear H
                    have H := H1
                    clear H1
                    obtain rfl := Option.some.inj H
                    go_enter Tryd.func10, Tryd.ntmps10
                    go_wp2_with (first | ((with_reducible refine gate_callee (f := 12) rfl ?_); refine goesL_ (some 13) rfl rfl Tryd.func12 (by kernel_rfl) rfl #[] rfl (by (try simp only [List.map_toArray, List.map_cons, List.map_nil]); first | done | rfl | (simp only [List.length_drop, List.length_take]; rfl)) ?_; (with_reducible refine (hornbooklaw15_awake.calls k  true _ ?side1 A2.out).mono ?_); (case side1 => exact GW.below (by repeat (first | (with_reducible first | exact HB.out | apply below_alloc | apply pw_below_drewN | apply below_drew1) | exact HB.out)) HG.out); rintro e w32 ⟨rfl, hb⟩; refine ⟨_, rfl, ?_⟩; have n0_ := Aside0.mk (below_step (by repeat (first | (with_reducible first | exact HB.out | apply below_alloc | apply pw_below_drewN | apply below_drew1) | exact HB.out)) hb); clear HB; have HB := n0_; clear n0_; (try clear hb); (try clear hb2); (try clear hk); (try clear hi)) | ((with_reducible refine gate_callee (f := 25) rfl ?_); refine goesL_ (some 20) rfl rfl Tryd.func25 (by kernel_rfl) rfl #[.int .i64 (wrap64 (32 + (Int.tmod (Go.bits .and .i64 a0 65535) 95)))] rfl (by (try simp only [List.map_toArray, List.map_cons, List.map_nil]); first | done | rfl | (simp only [List.length_drop, List.length_take]; rfl)) ?_; (with_reducible refine (glyph_Back.calls k (wrap64 (32 + (Int.tmod (Go.bits .and .i64 a0 65535) 95))) t243 true _ ?side1 A3.out).mono ?_); (case side1 => exact GW.below (by repeat (first | (with_reducible first | exact HB.out | apply below_alloc | apply pw_below_drewN | apply below_drew1) | exact HB.out)) HG.out); rintro e w33 ⟨rfl, hb⟩; refine ⟨_, rfl, ?_⟩; have n0_ := Aside0.mk (below_step (by repeat (first | (with_reducible first | exact HB.out | apply below_alloc | apply pw_below_drewN | apply below_drew1) | exact HB.out)) hb); clear HB; have HB := n0_; clear n0_; (try clear hb); (try clear hb2); (try clear hk); (try clear hi)) | ((with_reducible refine gate_callee (f := 13) rfl ?_); refine goesL_ (some 25) rfl rfl Tryd.func13 (by kernel_rfl) rfl #[.int .i64 1, .string t243] rfl (by (try simp only [List.map_toArray, List.map_cons, List.map_nil]); first | done | rfl | (simp only [List.length_drop, List.length_take]; rfl)) ?_; (with_reducible refine (enc_Code.calls k 1 t243 t245 true _ ?side1 A4.out).mono ?_); (case side1 => exact GW.below (by repeat (first | (with_reducible first | exact HB.out | apply below_alloc | apply pw_below_drewN | apply below_drew1) | exact HB.out)) HG.out); rintro e w34 ⟨rfl, hb⟩; refine ⟨_, rfl, ?_⟩; have n0_ := Aside0.mk (below_step (by repeat (first | (with_reducible first | exact HB.out | apply below_alloc | apply pw_below_drewN | apply below_drew1) | exact HB.out)) hb); clear HB; have HB := n0_; clear n0_; (try clear hb); (try clear hb2); (try clear hk); (try clear hi)) | ((with_reducible refine gate_callee (f := 13) rfl ?_); refine goesL_ (some 30) rfl rfl Tryd.func13 (by kernel_rfl) rfl #[.int .i64 2, .string t243] rfl (by (try simp only [List.map_toArray, List.map_cons, List.map_nil]); first | done | rfl | (simp only [List.length_drop, List.length_take]; rfl)) ?_; (with_reducible refine (enc_Code.calls k 2 t243 t247 true _ ?side1 A5.out).mono ?_); (case side1 => exact GW.below (by repeat (first | (with_reducible first | exact HB.out | apply below_alloc | apply pw_below_drewN | apply below_drew1) | exact HB.out)) HG.out); rintro e w35 ⟨rfl, hb⟩; refine ⟨_, rfl, ?_⟩; have n0_ := Aside0.mk (below_step (by repeat (first | (with_reducible first | exact HB.out | apply below_alloc | apply pw_below_drewN | apply below_drew1) | exact HB.out)) hb); clear HB; have HB := n0_; clear n0_; (try clear hb); (try clear hb2); (try clear hk); (try clear hi)) | ((with_reducible refine gate_callee (f := 13) rfl ?_); refine goesL_ (some 35) rfl rfl Tryd.func13 (by kernel_rfl) rfl #[.int .i64 0, .string t243] rfl (by (try simp only [List.map_toArray, List.map_cons, List.map_nil]); first | done | rfl | (simp only [List.length_drop, List.length_take]; rfl)) ?_; (with_reducible refine (enc_Code.calls k 0 t243 t249 false _ ?side1 A6.out).mono ?_); (case side1 => exact GW.below (by repeat (first | (with_reducible first | exact HB.out | apply below_alloc | apply pw_below_drewN | apply below_drew1) | exact HB.out)) HG.out); rintro e w36 ⟨rfl, hb⟩; refine ⟨_, rfl, ?_⟩; have n0_ := Aside0.mk (below_step (by repeat (first | (with_reducible first | exact HB.out | apply below_alloc | apply pw_below_drewN | apply below_drew1) | exact HB.out)) hb); clear HB; have HB := n0_; clear n0_; (try clear hb); (try clear hb2); (try clear hk); (try clear hi)))
                    go_ret
                    exact ⟨by first | rfl | (simp [errW_none, errW_some] <;> rfl) | (simp [*, errW_none, errW_some] <;> rfl), by repeat (first | (with_reducible first | exact HB.out | apply below_alloc | apply pw_below_drewN | apply below_drew1) | exact HB.out)⟩
                · rw [if_neg c25] at H
                  have c25b0 : ((wrap64 (32 + (Int.tmod (Go.bits .and .i64 a0 65535) 95))) == 96) = false := beq_eq_false_iff_ne.mpr c25
                  have c25b1 : ((wrap64 (32 + (Int.tmod (Go.bits .and .i64 a0 65535) 95))) != 96) = true := bne_iff_ne.mpr c25
                  by_cases c37 : t250 = true
                  · subst c37
                    have H1 : (if t249 = (wrap64 (32 + (Int.tmod (Go.bits .and .i64 a0 65535) 95))) then (some true) else (some false)) = some r := by rw [if_pos rfl] at H; exact H
                    clear H
                    have H := H1
                    clear H1
                    by_cases c38 : t249 = (wrap64 (32 + (Int.tmod (Go.bits .and .i64 a0 65535) 95)))
                    · rw [if_pos c38] at H
                      have c38b0 : (t249 == (wrap64 (32 + (Int.tmod (Go.bits .and .i64 a0 65535) 95)))) = true := beq_iff_eq.mpr c38
                      have c38b1 : (t249 != (wrap64 (32 + (Int.tmod (Go.bits .and .i64 a0 65535) 95)))) = false := bne_eq_false_iff_eq.mpr c38
                      clear c38
                      obtain rfl := Option.some.inj H
                      go_enter Tryd.func10, Tryd.ntmps10
                      go_wp2_with (first | ((with_reducible refine gate_callee (f := 12) rfl ?_); refine goesL_ (some 13) rfl rfl Tryd.func12 (by kernel_rfl) rfl #[] rfl (by (try simp only [List.map_toArray, List.map_cons, List.map_nil]); first | done | rfl | (simp only [List.length_drop, List.length_take]; rfl)) ?_; (with_reducible refine (hornbooklaw15_awake.calls k  true _ ?side1 A2.out).mono ?_); (case side1 => exact GW.below (by repeat (first | (with_reducible first | exact HB.out | apply below_alloc | apply pw_below_drewN | apply below_drew1) | exact HB.out)) HG.out); rintro e w39 ⟨rfl, hb⟩; refine ⟨_, rfl, ?_⟩; have n0_ := Aside0.mk (below_step (by repeat (first | (with_reducible first | exact HB.out | apply below_alloc | apply pw_below_drewN | apply below_drew1) | exact HB.out)) hb); clear HB; have HB := n0_; clear n0_; (try clear hb); (try clear hb2); (try clear hk); (try clear hi)) | ((with_reducible refine gate_callee (f := 25) rfl ?_); refine goesL_ (some 20) rfl rfl Tryd.func25 (by kernel_rfl) rfl #[.int .i64 (wrap64 (32 + (Int.tmod (Go.bits .and .i64 a0 65535) 95)))] rfl (by (try simp only [List.map_toArray, List.map_cons, List.map_nil]); first | done | rfl | (simp only [List.length_drop, List.length_take]; rfl)) ?_; (with_reducible refine (glyph_Back.calls k (wrap64 (32 + (Int.tmod (Go.bits .and .i64 a0 65535) 95))) t243 true _ ?side1 A3.out).mono ?_); (case side1 => exact GW.below (by repeat (first | (with_reducible first | exact HB.out | apply below_alloc | apply pw_below_drewN | apply below_drew1) | exact HB.out)) HG.out); rintro e w40 ⟨rfl, hb⟩; refine ⟨_, rfl, ?_⟩; have n0_ := Aside0.mk (below_step (by repeat (first | (with_reducible first | exact HB.out | apply below_alloc | apply pw_below_drewN | apply below_drew1) | exact HB.out)) hb); clear HB; have HB := n0_; clear n0_; (try clear hb); (try clear hb2); (try clear hk); (try clear hi)) | ((with_reducible refine gate_callee (f := 13) rfl ?_); refine goesL_ (some 25) rfl rfl Tryd.func13 (by kernel_rfl) rfl #[.int .i64 1, .string t243] rfl (by (try simp only [List.map_toArray, List.map_cons, List.map_nil]); first | done | rfl | (simp only [List.length_drop, List.length_take]; rfl)) ?_; (with_reducible refine (enc_Code.calls k 1 t243 t245 true _ ?side1 A4.out).mono ?_); (case side1 => exact GW.below (by repeat (first | (with_reducible first | exact HB.out | apply below_alloc | apply pw_below_drewN | apply below_drew1) | exact HB.out)) HG.out); rintro e w41 ⟨rfl, hb⟩; refine ⟨_, rfl, ?_⟩; have n0_ := Aside0.mk (below_step (by repeat (first | (with_reducible first | exact HB.out | apply below_alloc | apply pw_below_drewN | apply below_drew1) | exact HB.out)) hb); clear HB; have HB := n0_; clear n0_; (try clear hb); (try clear hb2); (try clear hk); (try clear hi)) | ((with_reducible refine gate_callee (f := 13) rfl ?_); refine goesL_ (some 30) rfl rfl Tryd.func13 (by kernel_rfl) rfl #[.int .i64 2, .string t243] rfl (by (try simp only [List.map_toArray, List.map_cons, List.map_nil]); first | done | rfl | (simp only [List.length_drop, List.length_take]; rfl)) ?_; (with_reducible refine (enc_Code.calls k 2 t243 t247 true _ ?side1 A5.out).mono ?_); (case side1 => exact GW.below (by repeat (first | (with_reducible first | exact HB.out | apply below_alloc | apply pw_below_drewN | apply below_drew1) | exact HB.out)) HG.out); rintro e w42 ⟨rfl, hb⟩; refine ⟨_, rfl, ?_⟩; have n0_ := Aside0.mk (below_step (by repeat (first | (with_reducible first | exact HB.out | apply below_alloc | apply pw_below_drewN | apply below_drew1) | exact HB.out)) hb); clear HB; have HB := n0_; clear n0_; (try clear hb); (try clear hb2); (try clear hk); (try clear hi)) | ((with_reducible refine gate_callee (f := 13) rfl ?_); refine goesL_ (some 35) rfl rfl Tryd.func13 (by kernel_rfl) rfl #[.int .i64 0, .string t243] rfl (by (try simp only [List.map_toArray, List.map_cons, List.map_nil]); first | done | rfl | (simp only [List.length_drop, List.length_take]; rfl)) ?_; (with_reducible refine (enc_Code.calls k 0 t243 t249 true _ ?side1 A6.out).mono ?_); (case side1 => exact GW.below (by repeat (first | (with_reducible first | exact HB.out | apply below_alloc | apply pw_below_drewN | apply below_drew1) | exact HB.out)) HG.out); rintro e w43 ⟨rfl, hb⟩; refine ⟨_, rfl, ?_⟩; have n0_ := Aside0.mk (below_step (by repeat (first | (with_reducible first | exact HB.out | apply below_alloc | apply pw_below_drewN | apply below_drew1) | exact HB.out)) hb); clear HB; have HB := n0_; clear n0_; (try clear hb); (try clear hb2); (try clear hk); (try clear hi)))
                      go_ret
                      exact ⟨by first | rfl | (simp [errW_none, errW_some] <;> rfl) | (simp [*, errW_none, errW_some] <;> rfl), by repeat (first | (with_reducible first | exact HB.out | apply below_alloc | apply pw_below_drewN | apply below_drew1) | exact HB.out)⟩
                    · rw [if_neg c38] at H
                      have c38b0 : (t249 == (wrap64 (32 + (Int.tmod (Go.bits .and .i64 a0 65535) 95)))) = false := beq_eq_false_iff_ne.mpr c38
                      have c38b1 : (t249 != (wrap64 (32 + (Int.tmod (Go.bits .and .i64 a0 65535) 95)))) = true := bne_iff_ne.mpr c38
                      obtain rfl := Option.some.inj H
                      go_enter Tryd.func10, Tryd.ntmps10
                      go_wp2_with (first | ((with_reducible refine gate_callee (f := 12) rfl ?_); refine goesL_ (some 13) rfl rfl Tryd.func12 (by kernel_rfl) rfl #[] rfl (by (try simp only [List.map_toArray, List.map_cons, List.map_nil]); first | done | rfl | (simp only [List.length_drop, List.length_take]; rfl)) ?_; (with_reducible refine (hornbooklaw15_awake.calls k  true _ ?side1 A2.out).mono ?_); (case side1 => exact GW.below (by repeat (first | (with_reducible first | exact HB.out | apply below_alloc | apply pw_below_drewN | apply below_drew1) | exact HB.out)) HG.out); rintro e w44 ⟨rfl, hb⟩; refine ⟨_, rfl, ?_⟩; have n0_ := Aside0.mk (below_step (by repeat (first | (with_reducible first | exact HB.out | apply below_alloc | apply pw_below_drewN | apply below_drew1) | exact HB.out)) hb); clear HB; have HB := n0_; clear n0_; (try clear hb); (try clear hb2); (try clear hk); (try clear hi)) | ((with_reducible refine gate_callee (f := 25) rfl ?_); refine goesL_ (some 20) rfl rfl Tryd.func25 (by kernel_rfl) rfl #[.int .i64 (wrap64 (32 + (Int.tmod (Go.bits .and .i64 a0 65535) 95)))] rfl (by (try simp only [List.map_toArray, List.map_cons, List.map_nil]); first | done | rfl | (simp only [List.length_drop, List.length_take]; rfl)) ?_; (with_reducible refine (glyph_Back.calls k (wrap64 (32 + (Int.tmod (Go.bits .and .i64 a0 65535) 95))) t243 true _ ?side1 A3.out).mono ?_); (case side1 => exact GW.below (by repeat (first | (with_reducible first | exact HB.out | apply below_alloc | apply pw_below_drewN | apply below_drew1) | exact HB.out)) HG.out); rintro e w45 ⟨rfl, hb⟩; refine ⟨_, rfl, ?_⟩; have n0_ := Aside0.mk (below_step (by repeat (first | (with_reducible first | exact HB.out | apply below_alloc | apply pw_below_drewN | apply below_drew1) | exact HB.out)) hb); clear HB; have HB := n0_; clear n0_; (try clear hb); (try clear hb2); (try clear hk); (try clear hi)) | ((with_reducible refine gate_callee (f := 13) rfl ?_); refine goesL_ (some 25) rfl rfl Tryd.func13 (by kernel_rfl) rfl #[.int .i64 1, .string t243] rfl (by (try simp only [List.map_toArray, List.map_cons, List.map_nil]); first | done | rfl | (simp only [List.length_drop, List.length_take]; rfl)) ?_; (with_reducible refine (enc_Code.calls k 1 t243 t245 true _ ?side1 A4.out).mono ?_); (case side1 => exact GW.below (by repeat (first | (with_reducible first | exact HB.out | apply below_alloc | apply pw_below_drewN | apply below_drew1) | exact HB.out)) HG.out); rintro e w46 ⟨rfl, hb⟩; refine ⟨_, rfl, ?_⟩; have n0_ := Aside0.mk (below_step (by repeat (first | (with_reducible first | exact HB.out | apply below_alloc | apply pw_below_drewN | apply below_drew1) | exact HB.out)) hb); clear HB; have HB := n0_; clear n0_; (try clear hb); (try clear hb2); (try clear hk); (try clear hi)) | ((with_reducible refine gate_callee (f := 13) rfl ?_); refine goesL_ (some 30) rfl rfl Tryd.func13 (by kernel_rfl) rfl #[.int .i64 2, .string t243] rfl (by (try simp only [List.map_toArray, List.map_cons, List.map_nil]); first | done | rfl | (simp only [List.length_drop, List.length_take]; rfl)) ?_; (with_reducible refine (enc_Code.calls k 2 t243 t247 true _ ?side1 A5.out).mono ?_); (case side1 => exact GW.below (by repeat (first | (with_reducible first | exact HB.out | apply below_alloc | apply pw_below_drewN | apply below_drew1) | exact HB.out)) HG.out); rintro e w47 ⟨rfl, hb⟩; refine ⟨_, rfl, ?_⟩; have n0_ := Aside0.mk (below_step (by repeat (first | (with_reducible first | exact HB.out | apply below_alloc | apply pw_below_drewN | apply below_drew1) | exact HB.out)) hb); clear HB; have HB := n0_; clear n0_; (try clear hb); (try clear hb2); (try clear hk); (try clear hi)) | ((with_reducible refine gate_callee (f := 13) rfl ?_); refine goesL_ (some 35) rfl rfl Tryd.func13 (by kernel_rfl) rfl #[.int .i64 0, .string t243] rfl (by (try simp only [List.map_toArray, List.map_cons, List.map_nil]); first | done | rfl | (simp only [List.length_drop, List.length_take]; rfl)) ?_; (with_reducible refine (enc_Code.calls k 0 t243 t249 true _ ?side1 A6.out).mono ?_); (case side1 => exact GW.below (by repeat (first | (with_reducible first | exact HB.out | apply below_alloc | apply pw_below_drewN | apply below_drew1) | exact HB.out)) HG.out); rintro e w48 ⟨rfl, hb⟩; refine ⟨_, rfl, ?_⟩; have n0_ := Aside0.mk (below_step (by repeat (first | (with_reducible first | exact HB.out | apply below_alloc | apply pw_below_drewN | apply below_drew1) | exact HB.out)) hb); clear HB; have HB := n0_; clear n0_; (try clear hb); (try clear hb2); (try clear hk); (try clear hi)))
                      go_ret
                      exact ⟨by first | rfl | (simp [errW_none, errW_some] <;> rfl) | (simp [*, errW_none, errW_some] <;> rfl), by repeat (first | (with_reducible first | exact HB.out | apply below_alloc | apply pw_below_drewN | apply below_drew1) | exact HB.out)⟩
                  · replace c37 := Bool.eq_false_iff.mpr c37
                    subst c37
                    have H1 : (some false) = some r := by rw [if_neg (show ¬ (false = true) by decide)] at H; exact H
                    clear H
                    have H := H1
                    clear H1
                    obtain rfl := Option.some.inj H
                    go_enter Tryd.func10, Tryd.ntmps10
                    go_wp2_with (first | ((with_reducible refine gate_callee (f := 12) rfl ?_); refine goesL_ (some 13) rfl rfl Tryd.func12 (by kernel_rfl) rfl #[] rfl (by (try simp only [List.map_toArray, List.map_cons, List.map_nil]); first | done | rfl | (simp only [List.length_drop, List.length_take]; rfl)) ?_; (with_reducible refine (hornbooklaw15_awake.calls k  true _ ?side1 A2.out).mono ?_); (case side1 => exact GW.below (by repeat (first | (with_reducible first | exact HB.out | apply below_alloc | apply pw_below_drewN | apply below_drew1) | exact HB.out)) HG.out); rintro e w49 ⟨rfl, hb⟩; refine ⟨_, rfl, ?_⟩; have n0_ := Aside0.mk (below_step (by repeat (first | (with_reducible first | exact HB.out | apply below_alloc | apply pw_below_drewN | apply below_drew1) | exact HB.out)) hb); clear HB; have HB := n0_; clear n0_; (try clear hb); (try clear hb2); (try clear hk); (try clear hi)) | ((with_reducible refine gate_callee (f := 25) rfl ?_); refine goesL_ (some 20) rfl rfl Tryd.func25 (by kernel_rfl) rfl #[.int .i64 (wrap64 (32 + (Int.tmod (Go.bits .and .i64 a0 65535) 95)))] rfl (by (try simp only [List.map_toArray, List.map_cons, List.map_nil]); first | done | rfl | (simp only [List.length_drop, List.length_take]; rfl)) ?_; (with_reducible refine (glyph_Back.calls k (wrap64 (32 + (Int.tmod (Go.bits .and .i64 a0 65535) 95))) t243 true _ ?side1 A3.out).mono ?_); (case side1 => exact GW.below (by repeat (first | (with_reducible first | exact HB.out | apply below_alloc | apply pw_below_drewN | apply below_drew1) | exact HB.out)) HG.out); rintro e w50 ⟨rfl, hb⟩; refine ⟨_, rfl, ?_⟩; have n0_ := Aside0.mk (below_step (by repeat (first | (with_reducible first | exact HB.out | apply below_alloc | apply pw_below_drewN | apply below_drew1) | exact HB.out)) hb); clear HB; have HB := n0_; clear n0_; (try clear hb); (try clear hb2); (try clear hk); (try clear hi)) | ((with_reducible refine gate_callee (f := 13) rfl ?_); refine goesL_ (some 25) rfl rfl Tryd.func13 (by kernel_rfl) rfl #[.int .i64 1, .string t243] rfl (by (try simp only [List.map_toArray, List.map_cons, List.map_nil]); first | done | rfl | (simp only [List.length_drop, List.length_take]; rfl)) ?_; (with_reducible refine (enc_Code.calls k 1 t243 t245 true _ ?side1 A4.out).mono ?_); (case side1 => exact GW.below (by repeat (first | (with_reducible first | exact HB.out | apply below_alloc | apply pw_below_drewN | apply below_drew1) | exact HB.out)) HG.out); rintro e w51 ⟨rfl, hb⟩; refine ⟨_, rfl, ?_⟩; have n0_ := Aside0.mk (below_step (by repeat (first | (with_reducible first | exact HB.out | apply below_alloc | apply pw_below_drewN | apply below_drew1) | exact HB.out)) hb); clear HB; have HB := n0_; clear n0_; (try clear hb); (try clear hb2); (try clear hk); (try clear hi)) | ((with_reducible refine gate_callee (f := 13) rfl ?_); refine goesL_ (some 30) rfl rfl Tryd.func13 (by kernel_rfl) rfl #[.int .i64 2, .string t243] rfl (by (try simp only [List.map_toArray, List.map_cons, List.map_nil]); first | done | rfl | (simp only [List.length_drop, List.length_take]; rfl)) ?_; (with_reducible refine (enc_Code.calls k 2 t243 t247 true _ ?side1 A5.out).mono ?_); (case side1 => exact GW.below (by repeat (first | (with_reducible first | exact HB.out | apply below_alloc | apply pw_below_drewN | apply below_drew1) | exact HB.out)) HG.out); rintro e w52 ⟨rfl, hb⟩; refine ⟨_, rfl, ?_⟩; have n0_ := Aside0.mk (below_step (by repeat (first | (with_reducible first | exact HB.out | apply below_alloc | apply pw_below_drewN | apply below_drew1) | exact HB.out)) hb); clear HB; have HB := n0_; clear n0_; (try clear hb); (try clear hb2); (try clear hk); (try clear hi)) | ((with_reducible refine gate_callee (f := 13) rfl ?_); refine goesL_ (some 35) rfl rfl Tryd.func13 (by kernel_rfl) rfl #[.int .i64 0, .string t243] rfl (by (try simp only [List.map_toArray, List.map_cons, List.map_nil]); first | done | rfl | (simp only [List.length_drop, List.length_take]; rfl)) ?_; (with_reducible refine (enc_Code.calls k 0 t243 t249 false _ ?side1 A6.out).mono ?_); (case side1 => exact GW.below (by repeat (first | (with_reducible first | exact HB.out | apply below_alloc | apply pw_below_drewN | apply below_drew1) | exact HB.out)) HG.out); rintro e w53 ⟨rfl, hb⟩; refine ⟨_, rfl, ?_⟩; have n0_ := Aside0.mk (below_step (by repeat (first | (with_reducible first | exact HB.out | apply below_alloc | apply pw_below_drewN | apply below_drew1) | exact HB.out)) hb); clear HB; have HB := n0_; clear n0_; (try clear hb); (try clear hb2); (try clear hk); (try clear hi)))
                    go_ret
                    exact ⟨by first | rfl | (simp [errW_none, errW_some] <;> rfl) | (simp [*, errW_none, errW_some] <;> rfl), by repeat (first | (with_reducible first | exact HB.out | apply below_alloc | apply pw_below_drewN | apply below_drew1) | exact HB.out)⟩
            · rw [if_neg c12] at H
              have c12b0 : (t247 == (wrap64 (32 + (Int.tmod (Go.bits .and .i64 a0 65535) 95)))) = false := beq_eq_false_iff_ne.mpr c12
              have c12b1 : (t247 != (wrap64 (32 + (Int.tmod (Go.bits .and .i64 a0 65535) 95)))) = true := bne_iff_ne.mpr c12
              obtain rfl := Option.some.inj H
              go_enter Tryd.func10, Tryd.ntmps10
              go_wp2_with (first | ((with_reducible refine gate_callee (f := 12) rfl ?_); refine goesL_ (some 13) rfl rfl Tryd.func12 (by kernel_rfl) rfl #[] rfl (by (try simp only [List.map_toArray, List.map_cons, List.map_nil]); first | done | rfl | (simp only [List.length_drop, List.length_take]; rfl)) ?_; (with_reducible refine (hornbooklaw15_awake.calls k  true _ ?side1 A2.out).mono ?_); (case side1 => exact GW.below (by repeat (first | (with_reducible first | exact HB.out | apply below_alloc | apply pw_below_drewN | apply below_drew1) | exact HB.out)) HG.out); rintro e w54 ⟨rfl, hb⟩; refine ⟨_, rfl, ?_⟩; have n0_ := Aside0.mk (below_step (by repeat (first | (with_reducible first | exact HB.out | apply below_alloc | apply pw_below_drewN | apply below_drew1) | exact HB.out)) hb); clear HB; have HB := n0_; clear n0_; (try clear hb); (try clear hb2); (try clear hk); (try clear hi)) | ((with_reducible refine gate_callee (f := 25) rfl ?_); refine goesL_ (some 20) rfl rfl Tryd.func25 (by kernel_rfl) rfl #[.int .i64 (wrap64 (32 + (Int.tmod (Go.bits .and .i64 a0 65535) 95)))] rfl (by (try simp only [List.map_toArray, List.map_cons, List.map_nil]); first | done | rfl | (simp only [List.length_drop, List.length_take]; rfl)) ?_; (with_reducible refine (glyph_Back.calls k (wrap64 (32 + (Int.tmod (Go.bits .and .i64 a0 65535) 95))) t243 true _ ?side1 A3.out).mono ?_); (case side1 => exact GW.below (by repeat (first | (with_reducible first | exact HB.out | apply below_alloc | apply pw_below_drewN | apply below_drew1) | exact HB.out)) HG.out); rintro e w55 ⟨rfl, hb⟩; refine ⟨_, rfl, ?_⟩; have n0_ := Aside0.mk (below_step (by repeat (first | (with_reducible first | exact HB.out | apply below_alloc | apply pw_below_drewN | apply below_drew1) | exact HB.out)) hb); clear HB; have HB := n0_; clear n0_; (try clear hb); (try clear hb2); (try clear hk); (try clear hi)) | ((with_reducible refine gate_callee (f := 13) rfl ?_); refine goesL_ (some 25) rfl rfl Tryd.func13 (by kernel_rfl) rfl #[.int .i64 1, .string t243] rfl (by (try simp only [List.map_toArray, List.map_cons, List.map_nil]); first | done | rfl | (simp only [List.length_drop, List.length_take]; rfl)) ?_; (with_reducible refine (enc_Code.calls k 1 t243 t245 true _ ?side1 A4.out).mono ?_); (case side1 => exact GW.below (by repeat (first | (with_reducible first | exact HB.out | apply below_alloc | apply pw_below_drewN | apply below_drew1) | exact HB.out)) HG.out); rintro e w56 ⟨rfl, hb⟩; refine ⟨_, rfl, ?_⟩; have n0_ := Aside0.mk (below_step (by repeat (first | (with_reducible first | exact HB.out | apply below_alloc | apply pw_below_drewN | apply below_drew1) | exact HB.out)) hb); clear HB; have HB := n0_; clear n0_; (try clear hb); (try clear hb2); (try clear hk); (try clear hi)) | ((with_reducible refine gate_callee (f := 13) rfl ?_); refine goesL_ (some 30) rfl rfl Tryd.func13 (by kernel_rfl) rfl #[.int .i64 2, .string t243] rfl (by (try simp only [List.map_toArray, List.map_cons, List.map_nil]); first | done | rfl | (simp only [List.length_drop, List.length_take]; rfl)) ?_; (with_reducible refine (enc_Code.calls k 2 t243 t247 true _ ?side1 A5.out).mono ?_); (case side1 => exact GW.below (by repeat (first | (with_reducible first | exact HB.out | apply below_alloc | apply pw_below_drewN | apply below_drew1) | exact HB.out)) HG.out); rintro e w57 ⟨rfl, hb⟩; refine ⟨_, rfl, ?_⟩; have n0_ := Aside0.mk (below_step (by repeat (first | (with_reducible first | exact HB.out | apply below_alloc | apply pw_below_drewN | apply below_drew1) | exact HB.out)) hb); clear HB; have HB := n0_; clear n0_; (try clear hb); (try clear hb2); (try clear hk); (try clear hi)) | ((with_reducible refine gate_callee (f := 13) rfl ?_); refine goesL_ (some 35) rfl rfl Tryd.func13 (by kernel_rfl) rfl #[.int .i64 0, .string t243] rfl (by (try simp only [List.map_toArray, List.map_cons, List.map_nil]); first | done | rfl | (simp only [List.length_drop, List.length_take]; rfl)) ?_; (with_reducible refine (enc_Code.calls k 0 t243 t249 t250 _ ?side1 A6.out).mono ?_); (case side1 => exact GW.below (by repeat (first | (with_reducible first | exact HB.out | apply below_alloc | apply pw_below_drewN | apply below_drew1) | exact HB.out)) HG.out); rintro e w58 ⟨rfl, hb⟩; refine ⟨_, rfl, ?_⟩; have n0_ := Aside0.mk (below_step (by repeat (first | (with_reducible first | exact HB.out | apply below_alloc | apply pw_below_drewN | apply below_drew1) | exact HB.out)) hb); clear HB; have HB := n0_; clear n0_; (try clear hb); (try clear hb2); (try clear hk); (try clear hi)))
              go_ret
              exact ⟨by first | rfl | (simp [errW_none, errW_some] <;> rfl) | (simp [*, errW_none, errW_some] <;> rfl), by repeat (first | (with_reducible first | exact HB.out | apply below_alloc | apply pw_below_drewN | apply below_drew1) | exact HB.out)⟩
          · replace c11 := Bool.eq_false_iff.mpr c11
            subst c11
            have H1 : (some false) = some r := by rw [if_neg (show ¬ (false = true) by decide)] at H; exact H
            clear H
            have H := H1
            clear H1
            obtain rfl := Option.some.inj H
            go_enter Tryd.func10, Tryd.ntmps10
            go_wp2_with (first | ((with_reducible refine gate_callee (f := 12) rfl ?_); refine goesL_ (some 13) rfl rfl Tryd.func12 (by kernel_rfl) rfl #[] rfl (by (try simp only [List.map_toArray, List.map_cons, List.map_nil]); first | done | rfl | (simp only [List.length_drop, List.length_take]; rfl)) ?_; (with_reducible refine (hornbooklaw15_awake.calls k  true _ ?side1 A2.out).mono ?_); (case side1 => exact GW.below (by repeat (first | (with_reducible first | exact HB.out | apply below_alloc | apply pw_below_drewN | apply below_drew1) | exact HB.out)) HG.out); rintro e w59 ⟨rfl, hb⟩; refine ⟨_, rfl, ?_⟩; have n0_ := Aside0.mk (below_step (by repeat (first | (with_reducible first | exact HB.out | apply below_alloc | apply pw_below_drewN | apply below_drew1) | exact HB.out)) hb); clear HB; have HB := n0_; clear n0_; (try clear hb); (try clear hb2); (try clear hk); (try clear hi)) | ((with_reducible refine gate_callee (f := 25) rfl ?_); refine goesL_ (some 20) rfl rfl Tryd.func25 (by kernel_rfl) rfl #[.int .i64 (wrap64 (32 + (Int.tmod (Go.bits .and .i64 a0 65535) 95)))] rfl (by (try simp only [List.map_toArray, List.map_cons, List.map_nil]); first | done | rfl | (simp only [List.length_drop, List.length_take]; rfl)) ?_; (with_reducible refine (glyph_Back.calls k (wrap64 (32 + (Int.tmod (Go.bits .and .i64 a0 65535) 95))) t243 true _ ?side1 A3.out).mono ?_); (case side1 => exact GW.below (by repeat (first | (with_reducible first | exact HB.out | apply below_alloc | apply pw_below_drewN | apply below_drew1) | exact HB.out)) HG.out); rintro e w60 ⟨rfl, hb⟩; refine ⟨_, rfl, ?_⟩; have n0_ := Aside0.mk (below_step (by repeat (first | (with_reducible first | exact HB.out | apply below_alloc | apply pw_below_drewN | apply below_drew1) | exact HB.out)) hb); clear HB; have HB := n0_; clear n0_; (try clear hb); (try clear hb2); (try clear hk); (try clear hi)) | ((with_reducible refine gate_callee (f := 13) rfl ?_); refine goesL_ (some 25) rfl rfl Tryd.func13 (by kernel_rfl) rfl #[.int .i64 1, .string t243] rfl (by (try simp only [List.map_toArray, List.map_cons, List.map_nil]); first | done | rfl | (simp only [List.length_drop, List.length_take]; rfl)) ?_; (with_reducible refine (enc_Code.calls k 1 t243 t245 true _ ?side1 A4.out).mono ?_); (case side1 => exact GW.below (by repeat (first | (with_reducible first | exact HB.out | apply below_alloc | apply pw_below_drewN | apply below_drew1) | exact HB.out)) HG.out); rintro e w61 ⟨rfl, hb⟩; refine ⟨_, rfl, ?_⟩; have n0_ := Aside0.mk (below_step (by repeat (first | (with_reducible first | exact HB.out | apply below_alloc | apply pw_below_drewN | apply below_drew1) | exact HB.out)) hb); clear HB; have HB := n0_; clear n0_; (try clear hb); (try clear hb2); (try clear hk); (try clear hi)) | ((with_reducible refine gate_callee (f := 13) rfl ?_); refine goesL_ (some 30) rfl rfl Tryd.func13 (by kernel_rfl) rfl #[.int .i64 2, .string t243] rfl (by (try simp only [List.map_toArray, List.map_cons, List.map_nil]); first | done | rfl | (simp only [List.length_drop, List.length_take]; rfl)) ?_; (with_reducible refine (enc_Code.calls k 2 t243 t247 false _ ?side1 A5.out).mono ?_); (case side1 => exact GW.below (by repeat (first | (with_reducible first | exact HB.out | apply below_alloc | apply pw_below_drewN | apply below_drew1) | exact HB.out)) HG.out); rintro e w62 ⟨rfl, hb⟩; refine ⟨_, rfl, ?_⟩; have n0_ := Aside0.mk (below_step (by repeat (first | (with_reducible first | exact HB.out | apply below_alloc | apply pw_below_drewN | apply below_drew1) | exact HB.out)) hb); clear HB; have HB := n0_; clear n0_; (try clear hb); (try clear hb2); (try clear hk); (try clear hi)) | ((with_reducible refine gate_callee (f := 13) rfl ?_); refine goesL_ (some 35) rfl rfl Tryd.func13 (by kernel_rfl) rfl #[.int .i64 0, .string t243] rfl (by (try simp only [List.map_toArray, List.map_cons, List.map_nil]); first | done | rfl | (simp only [List.length_drop, List.length_take]; rfl)) ?_; (with_reducible refine (enc_Code.calls k 0 t243 t249 t250 _ ?side1 A6.out).mono ?_); (case side1 => exact GW.below (by repeat (first | (with_reducible first | exact HB.out | apply below_alloc | apply pw_below_drewN | apply below_drew1) | exact HB.out)) HG.out); rintro e w63 ⟨rfl, hb⟩; refine ⟨_, rfl, ?_⟩; have n0_ := Aside0.mk (below_step (by repeat (first | (with_reducible first | exact HB.out | apply below_alloc | apply pw_below_drewN | apply below_drew1) | exact HB.out)) hb); clear HB; have HB := n0_; clear n0_; (try clear hb); (try clear hb2); (try clear hk); (try clear hi)))
            go_ret
            exact ⟨by first | rfl | (simp [errW_none, errW_some] <;> rfl) | (simp [*, errW_none, errW_some] <;> rfl), by repeat (first | (with_reducible first | exact HB.out | apply below_alloc | apply pw_below_drewN | apply below_drew1) | exact HB.out)⟩
        · rw [if_neg c10] at H
          have c10b0 : (t245 == (wrap64 (32 + (Int.tmod (Go.bits .and .i64 a0 65535) 95)))) = false := beq_eq_false_iff_ne.mpr c10
          have c10b1 : (t245 != (wrap64 (32 + (Int.tmod (Go.bits .and .i64 a0 65535) 95)))) = true := bne_iff_ne.mpr c10
          obtain rfl := Option.some.inj H
          go_enter Tryd.func10, Tryd.ntmps10
          go_wp2_with (first | ((with_reducible refine gate_callee (f := 12) rfl ?_); refine goesL_ (some 13) rfl rfl Tryd.func12 (by kernel_rfl) rfl #[] rfl (by (try simp only [List.map_toArray, List.map_cons, List.map_nil]); first | done | rfl | (simp only [List.length_drop, List.length_take]; rfl)) ?_; (with_reducible refine (hornbooklaw15_awake.calls k  true _ ?side1 A2.out).mono ?_); (case side1 => exact GW.below (by repeat (first | (with_reducible first | exact HB.out | apply below_alloc | apply pw_below_drewN | apply below_drew1) | exact HB.out)) HG.out); rintro e w64 ⟨rfl, hb⟩; refine ⟨_, rfl, ?_⟩; have n0_ := Aside0.mk (below_step (by repeat (first | (with_reducible first | exact HB.out | apply below_alloc | apply pw_below_drewN | apply below_drew1) | exact HB.out)) hb); clear HB; have HB := n0_; clear n0_; (try clear hb); (try clear hb2); (try clear hk); (try clear hi)) | ((with_reducible refine gate_callee (f := 25) rfl ?_); refine goesL_ (some 20) rfl rfl Tryd.func25 (by kernel_rfl) rfl #[.int .i64 (wrap64 (32 + (Int.tmod (Go.bits .and .i64 a0 65535) 95)))] rfl (by (try simp only [List.map_toArray, List.map_cons, List.map_nil]); first | done | rfl | (simp only [List.length_drop, List.length_take]; rfl)) ?_; (with_reducible refine (glyph_Back.calls k (wrap64 (32 + (Int.tmod (Go.bits .and .i64 a0 65535) 95))) t243 true _ ?side1 A3.out).mono ?_); (case side1 => exact GW.below (by repeat (first | (with_reducible first | exact HB.out | apply below_alloc | apply pw_below_drewN | apply below_drew1) | exact HB.out)) HG.out); rintro e w65 ⟨rfl, hb⟩; refine ⟨_, rfl, ?_⟩; have n0_ := Aside0.mk (below_step (by repeat (first | (with_reducible first | exact HB.out | apply below_alloc | apply pw_below_drewN | apply below_drew1) | exact HB.out)) hb); clear HB; have HB := n0_; clear n0_; (try clear hb); (try clear hb2); (try clear hk); (try clear hi)) | ((with_reducible refine gate_callee (f := 13) rfl ?_); refine goesL_ (some 25) rfl rfl Tryd.func13 (by kernel_rfl) rfl #[.int .i64 1, .string t243] rfl (by (try simp only [List.map_toArray, List.map_cons, List.map_nil]); first | done | rfl | (simp only [List.length_drop, List.length_take]; rfl)) ?_; (with_reducible refine (enc_Code.calls k 1 t243 t245 true _ ?side1 A4.out).mono ?_); (case side1 => exact GW.below (by repeat (first | (with_reducible first | exact HB.out | apply below_alloc | apply pw_below_drewN | apply below_drew1) | exact HB.out)) HG.out); rintro e w66 ⟨rfl, hb⟩; refine ⟨_, rfl, ?_⟩; have n0_ := Aside0.mk (below_step (by repeat (first | (with_reducible first | exact HB.out | apply below_alloc | apply pw_below_drewN | apply below_drew1) | exact HB.out)) hb); clear HB; have HB := n0_; clear n0_; (try clear hb); (try clear hb2); (try clear hk); (try clear hi)) | ((with_reducible refine gate_callee (f := 13) rfl ?_); refine goesL_ (some 30) rfl rfl Tryd.func13 (by kernel_rfl) rfl #[.int .i64 2, .string t243] rfl (by (try simp only [List.map_toArray, List.map_cons, List.map_nil]); first | done | rfl | (simp only [List.length_drop, List.length_take]; rfl)) ?_; (with_reducible refine (enc_Code.calls k 2 t243 t247 t248 _ ?side1 A5.out).mono ?_); (case side1 => exact GW.below (by repeat (first | (with_reducible first | exact HB.out | apply below_alloc | apply pw_below_drewN | apply below_drew1) | exact HB.out)) HG.out); rintro e w67 ⟨rfl, hb⟩; refine ⟨_, rfl, ?_⟩; have n0_ := Aside0.mk (below_step (by repeat (first | (with_reducible first | exact HB.out | apply below_alloc | apply pw_below_drewN | apply below_drew1) | exact HB.out)) hb); clear HB; have HB := n0_; clear n0_; (try clear hb); (try clear hb2); (try clear hk); (try clear hi)) | ((with_reducible refine gate_callee (f := 13) rfl ?_); refine goesL_ (some 35) rfl rfl Tryd.func13 (by kernel_rfl) rfl #[.int .i64 0, .string t243] rfl (by (try simp only [List.map_toArray, List.map_cons, List.map_nil]); first | done | rfl | (simp only [List.length_drop, List.length_take]; rfl)) ?_; (with_reducible refine (enc_Code.calls k 0 t243 t249 t250 _ ?side1 A6.out).mono ?_); (case side1 => exact GW.below (by repeat (first | (with_reducible first | exact HB.out | apply below_alloc | apply pw_below_drewN | apply below_drew1) | exact HB.out)) HG.out); rintro e w68 ⟨rfl, hb⟩; refine ⟨_, rfl, ?_⟩; have n0_ := Aside0.mk (below_step (by repeat (first | (with_reducible first | exact HB.out | apply below_alloc | apply pw_below_drewN | apply below_drew1) | exact HB.out)) hb); clear HB; have HB := n0_; clear n0_; (try clear hb); (try clear hb2); (try clear hk); (try clear hi)))
          go_ret
          exact ⟨by first | rfl | (simp [errW_none, errW_some] <;> rfl) | (simp [*, errW_none, errW_some] <;> rfl), by repeat (first | (with_reducible first | exact HB.out | apply below_alloc | apply pw_below_drewN | apply below_drew1) | exact HB.out)⟩
      · replace c9 := Bool.eq_false_iff.mpr c9
        subst c9
        have H1 : (some false) = some r := by rw [if_neg (show ¬ (false = true) by decide)] at H; exact H
        clear H
        have H := H1
        clear H1
        obtain rfl := Option.some.inj H
        go_enter Tryd.func10, Tryd.ntmps10
        go_wp2_with (first | ((with_reducible refine gate_callee (f := 12) rfl ?_); refine goesL_ (some 13) rfl rfl Tryd.func12 (by kernel_rfl) rfl #[] rfl (by (try simp only [List.map_toArray, List.map_cons, List.map_nil]); first | done | rfl | (simp only [List.length_drop, List.length_take]; rfl)) ?_; (with_reducible refine (hornbooklaw15_awake.calls k  true _ ?side1 A2.out).mono ?_); (case side1 => exact GW.below (by repeat (first | (with_reducible first | exact HB.out | apply below_alloc | apply pw_below_drewN | apply below_drew1) | exact HB.out)) HG.out); rintro e w69 ⟨rfl, hb⟩; refine ⟨_, rfl, ?_⟩; have n0_ := Aside0.mk (below_step (by repeat (first | (with_reducible first | exact HB.out | apply below_alloc | apply pw_below_drewN | apply below_drew1) | exact HB.out)) hb); clear HB; have HB := n0_; clear n0_; (try clear hb); (try clear hb2); (try clear hk); (try clear hi)) | ((with_reducible refine gate_callee (f := 25) rfl ?_); refine goesL_ (some 20) rfl rfl Tryd.func25 (by kernel_rfl) rfl #[.int .i64 (wrap64 (32 + (Int.tmod (Go.bits .and .i64 a0 65535) 95)))] rfl (by (try simp only [List.map_toArray, List.map_cons, List.map_nil]); first | done | rfl | (simp only [List.length_drop, List.length_take]; rfl)) ?_; (with_reducible refine (glyph_Back.calls k (wrap64 (32 + (Int.tmod (Go.bits .and .i64 a0 65535) 95))) t243 true _ ?side1 A3.out).mono ?_); (case side1 => exact GW.below (by repeat (first | (with_reducible first | exact HB.out | apply below_alloc | apply pw_below_drewN | apply below_drew1) | exact HB.out)) HG.out); rintro e w70 ⟨rfl, hb⟩; refine ⟨_, rfl, ?_⟩; have n0_ := Aside0.mk (below_step (by repeat (first | (with_reducible first | exact HB.out | apply below_alloc | apply pw_below_drewN | apply below_drew1) | exact HB.out)) hb); clear HB; have HB := n0_; clear n0_; (try clear hb); (try clear hb2); (try clear hk); (try clear hi)) | ((with_reducible refine gate_callee (f := 13) rfl ?_); refine goesL_ (some 25) rfl rfl Tryd.func13 (by kernel_rfl) rfl #[.int .i64 1, .string t243] rfl (by (try simp only [List.map_toArray, List.map_cons, List.map_nil]); first | done | rfl | (simp only [List.length_drop, List.length_take]; rfl)) ?_; (with_reducible refine (enc_Code.calls k 1 t243 t245 false _ ?side1 A4.out).mono ?_); (case side1 => exact GW.below (by repeat (first | (with_reducible first | exact HB.out | apply below_alloc | apply pw_below_drewN | apply below_drew1) | exact HB.out)) HG.out); rintro e w71 ⟨rfl, hb⟩; refine ⟨_, rfl, ?_⟩; have n0_ := Aside0.mk (below_step (by repeat (first | (with_reducible first | exact HB.out | apply below_alloc | apply pw_below_drewN | apply below_drew1) | exact HB.out)) hb); clear HB; have HB := n0_; clear n0_; (try clear hb); (try clear hb2); (try clear hk); (try clear hi)) | ((with_reducible refine gate_callee (f := 13) rfl ?_); refine goesL_ (some 30) rfl rfl Tryd.func13 (by kernel_rfl) rfl #[.int .i64 2, .string t243] rfl (by (try simp only [List.map_toArray, List.map_cons, List.map_nil]); first | done | rfl | (simp only [List.length_drop, List.length_take]; rfl)) ?_; (with_reducible refine (enc_Code.calls k 2 t243 t247 t248 _ ?side1 A5.out).mono ?_); (case side1 => exact GW.below (by repeat (first | (with_reducible first | exact HB.out | apply below_alloc | apply pw_below_drewN | apply below_drew1) | exact HB.out)) HG.out); rintro e w72 ⟨rfl, hb⟩; refine ⟨_, rfl, ?_⟩; have n0_ := Aside0.mk (below_step (by repeat (first | (with_reducible first | exact HB.out | apply below_alloc | apply pw_below_drewN | apply below_drew1) | exact HB.out)) hb); clear HB; have HB := n0_; clear n0_; (try clear hb); (try clear hb2); (try clear hk); (try clear hi)) | ((with_reducible refine gate_callee (f := 13) rfl ?_); refine goesL_ (some 35) rfl rfl Tryd.func13 (by kernel_rfl) rfl #[.int .i64 0, .string t243] rfl (by (try simp only [List.map_toArray, List.map_cons, List.map_nil]); first | done | rfl | (simp only [List.length_drop, List.length_take]; rfl)) ?_; (with_reducible refine (enc_Code.calls k 0 t243 t249 t250 _ ?side1 A6.out).mono ?_); (case side1 => exact GW.below (by repeat (first | (with_reducible first | exact HB.out | apply below_alloc | apply pw_below_drewN | apply below_drew1) | exact HB.out)) HG.out); rintro e w73 ⟨rfl, hb⟩; refine ⟨_, rfl, ?_⟩; have n0_ := Aside0.mk (below_step (by repeat (first | (with_reducible first | exact HB.out | apply below_alloc | apply pw_below_drewN | apply below_drew1) | exact HB.out)) hb); clear HB; have HB := n0_; clear n0_; (try clear hb); (try clear hb2); (try clear hk); (try clear hi)))
        go_ret
        exact ⟨by first | rfl | (simp [errW_none, errW_some] <;> rfl) | (simp [*, errW_none, errW_some] <;> rfl), by repeat (first | (with_reducible first | exact HB.out | apply below_alloc | apply pw_below_drewN | apply below_drew1) | exact HB.out)⟩
    · replace c8 := Bool.eq_false_iff.mpr c8
      subst c8
      have H1 : (some false) = some r := by rw [if_neg (show ¬ (false = true) by decide)] at H; exact H
      clear H
      have H := H1
      clear H1
      obtain rfl := Option.some.inj H
      go_enter Tryd.func10, Tryd.ntmps10
      go_wp2_with (first | ((with_reducible refine gate_callee (f := 12) rfl ?_); refine goesL_ (some 13) rfl rfl Tryd.func12 (by kernel_rfl) rfl #[] rfl (by (try simp only [List.map_toArray, List.map_cons, List.map_nil]); first | done | rfl | (simp only [List.length_drop, List.length_take]; rfl)) ?_; (with_reducible refine (hornbooklaw15_awake.calls k  true _ ?side1 A2.out).mono ?_); (case side1 => exact GW.below (by repeat (first | (with_reducible first | exact HB.out | apply below_alloc | apply pw_below_drewN | apply below_drew1) | exact HB.out)) HG.out); rintro e w74 ⟨rfl, hb⟩; refine ⟨_, rfl, ?_⟩; have n0_ := Aside0.mk (below_step (by repeat (first | (with_reducible first | exact HB.out | apply below_alloc | apply pw_below_drewN | apply below_drew1) | exact HB.out)) hb); clear HB; have HB := n0_; clear n0_; (try clear hb); (try clear hb2); (try clear hk); (try clear hi)) | ((with_reducible refine gate_callee (f := 25) rfl ?_); refine goesL_ (some 20) rfl rfl Tryd.func25 (by kernel_rfl) rfl #[.int .i64 (wrap64 (32 + (Int.tmod (Go.bits .and .i64 a0 65535) 95)))] rfl (by (try simp only [List.map_toArray, List.map_cons, List.map_nil]); first | done | rfl | (simp only [List.length_drop, List.length_take]; rfl)) ?_; (with_reducible refine (glyph_Back.calls k (wrap64 (32 + (Int.tmod (Go.bits .and .i64 a0 65535) 95))) t243 false _ ?side1 A3.out).mono ?_); (case side1 => exact GW.below (by repeat (first | (with_reducible first | exact HB.out | apply below_alloc | apply pw_below_drewN | apply below_drew1) | exact HB.out)) HG.out); rintro e w75 ⟨rfl, hb⟩; refine ⟨_, rfl, ?_⟩; have n0_ := Aside0.mk (below_step (by repeat (first | (with_reducible first | exact HB.out | apply below_alloc | apply pw_below_drewN | apply below_drew1) | exact HB.out)) hb); clear HB; have HB := n0_; clear n0_; (try clear hb); (try clear hb2); (try clear hk); (try clear hi)) | ((with_reducible refine gate_callee (f := 13) rfl ?_); refine goesL_ (some 25) rfl rfl Tryd.func13 (by kernel_rfl) rfl #[.int .i64 1, .string t243] rfl (by (try simp only [List.map_toArray, List.map_cons, List.map_nil]); first | done | rfl | (simp only [List.length_drop, List.length_take]; rfl)) ?_; (with_reducible refine (enc_Code.calls k 1 t243 t245 t246 _ ?side1 A4.out).mono ?_); (case side1 => exact GW.below (by repeat (first | (with_reducible first | exact HB.out | apply below_alloc | apply pw_below_drewN | apply below_drew1) | exact HB.out)) HG.out); rintro e w76 ⟨rfl, hb⟩; refine ⟨_, rfl, ?_⟩; have n0_ := Aside0.mk (below_step (by repeat (first | (with_reducible first | exact HB.out | apply below_alloc | apply pw_below_drewN | apply below_drew1) | exact HB.out)) hb); clear HB; have HB := n0_; clear n0_; (try clear hb); (try clear hb2); (try clear hk); (try clear hi)) | ((with_reducible refine gate_callee (f := 13) rfl ?_); refine goesL_ (some 30) rfl rfl Tryd.func13 (by kernel_rfl) rfl #[.int .i64 2, .string t243] rfl (by (try simp only [List.map_toArray, List.map_cons, List.map_nil]); first | done | rfl | (simp only [List.length_drop, List.length_take]; rfl)) ?_; (with_reducible refine (enc_Code.calls k 2 t243 t247 t248 _ ?side1 A5.out).mono ?_); (case side1 => exact GW.below (by repeat (first | (with_reducible first | exact HB.out | apply below_alloc | apply pw_below_drewN | apply below_drew1) | exact HB.out)) HG.out); rintro e w77 ⟨rfl, hb⟩; refine ⟨_, rfl, ?_⟩; have n0_ := Aside0.mk (below_step (by repeat (first | (with_reducible first | exact HB.out | apply below_alloc | apply pw_below_drewN | apply below_drew1) | exact HB.out)) hb); clear HB; have HB := n0_; clear n0_; (try clear hb); (try clear hb2); (try clear hk); (try clear hi)) | ((with_reducible refine gate_callee (f := 13) rfl ?_); refine goesL_ (some 35) rfl rfl Tryd.func13 (by kernel_rfl) rfl #[.int .i64 0, .string t243] rfl (by (try simp only [List.map_toArray, List.map_cons, List.map_nil]); first | done | rfl | (simp only [List.length_drop, List.length_take]; rfl)) ?_; (with_reducible refine (enc_Code.calls k 0 t243 t249 t250 _ ?side1 A6.out).mono ?_); (case side1 => exact GW.below (by repeat (first | (with_reducible first | exact HB.out | apply below_alloc | apply pw_below_drewN | apply below_drew1) | exact HB.out)) HG.out); rintro e w78 ⟨rfl, hb⟩; refine ⟨_, rfl, ?_⟩; have n0_ := Aside0.mk (below_step (by repeat (first | (with_reducible first | exact HB.out | apply below_alloc | apply pw_below_drewN | apply below_drew1) | exact HB.out)) hb); clear HB; have HB := n0_; clear n0_; (try clear hb); (try clear hb2); (try clear hk); (try clear hi)))
      go_ret
      exact ⟨by first | rfl | (simp [errW_none, errW_some] <;> rfl) | (simp [*, errW_none, errW_some] <;> rfl), by repeat (first | (with_reducible first | exact HB.out | apply below_alloc | apply pw_below_drewN | apply below_drew1) | exact HB.out)⟩
  · replace c7 := Bool.eq_false_iff.mpr c7
    subst c7
    have H1 : (some false) = some r := by rw [if_neg (show ¬ (false = true) by decide)] at H; exact H
    clear H
    have H := H1
    clear H1
    obtain rfl := Option.some.inj H
    go_enter Tryd.func10, Tryd.ntmps10
    go_wp2_with (first | ((with_reducible refine gate_callee (f := 12) rfl ?_); refine goesL_ (some 13) rfl rfl Tryd.func12 (by kernel_rfl) rfl #[] rfl (by (try simp only [List.map_toArray, List.map_cons, List.map_nil]); first | done | rfl | (simp only [List.length_drop, List.length_take]; rfl)) ?_; (with_reducible refine (hornbooklaw15_awake.calls k  false _ ?side1 A2.out).mono ?_); (case side1 => exact GW.below (by repeat (first | (with_reducible first | exact HB.out | apply below_alloc | apply pw_below_drewN | apply below_drew1) | exact HB.out)) HG.out); rintro e w79 ⟨rfl, hb⟩; refine ⟨_, rfl, ?_⟩; have n0_ := Aside0.mk (below_step (by repeat (first | (with_reducible first | exact HB.out | apply below_alloc | apply pw_below_drewN | apply below_drew1) | exact HB.out)) hb); clear HB; have HB := n0_; clear n0_; (try clear hb); (try clear hb2); (try clear hk); (try clear hi)) | ((with_reducible refine gate_callee (f := 25) rfl ?_); refine goesL_ (some 20) rfl rfl Tryd.func25 (by kernel_rfl) rfl #[.int .i64 (wrap64 (32 + (Int.tmod (Go.bits .and .i64 a0 65535) 95)))] rfl (by (try simp only [List.map_toArray, List.map_cons, List.map_nil]); first | done | rfl | (simp only [List.length_drop, List.length_take]; rfl)) ?_; (with_reducible refine (glyph_Back.calls k (wrap64 (32 + (Int.tmod (Go.bits .and .i64 a0 65535) 95))) t243 t244 _ ?side1 A3.out).mono ?_); (case side1 => exact GW.below (by repeat (first | (with_reducible first | exact HB.out | apply below_alloc | apply pw_below_drewN | apply below_drew1) | exact HB.out)) HG.out); rintro e w80 ⟨rfl, hb⟩; refine ⟨_, rfl, ?_⟩; have n0_ := Aside0.mk (below_step (by repeat (first | (with_reducible first | exact HB.out | apply below_alloc | apply pw_below_drewN | apply below_drew1) | exact HB.out)) hb); clear HB; have HB := n0_; clear n0_; (try clear hb); (try clear hb2); (try clear hk); (try clear hi)) | ((with_reducible refine gate_callee (f := 13) rfl ?_); refine goesL_ (some 25) rfl rfl Tryd.func13 (by kernel_rfl) rfl #[.int .i64 1, .string t243] rfl (by (try simp only [List.map_toArray, List.map_cons, List.map_nil]); first | done | rfl | (simp only [List.length_drop, List.length_take]; rfl)) ?_; (with_reducible refine (enc_Code.calls k 1 t243 t245 t246 _ ?side1 A4.out).mono ?_); (case side1 => exact GW.below (by repeat (first | (with_reducible first | exact HB.out | apply below_alloc | apply pw_below_drewN | apply below_drew1) | exact HB.out)) HG.out); rintro e w81 ⟨rfl, hb⟩; refine ⟨_, rfl, ?_⟩; have n0_ := Aside0.mk (below_step (by repeat (first | (with_reducible first | exact HB.out | apply below_alloc | apply pw_below_drewN | apply below_drew1) | exact HB.out)) hb); clear HB; have HB := n0_; clear n0_; (try clear hb); (try clear hb2); (try clear hk); (try clear hi)) | ((with_reducible refine gate_callee (f := 13) rfl ?_); refine goesL_ (some 30) rfl rfl Tryd.func13 (by kernel_rfl) rfl #[.int .i64 2, .string t243] rfl (by (try simp only [List.map_toArray, List.map_cons, List.map_nil]); first | done | rfl | (simp only [List.length_drop, List.length_take]; rfl)) ?_; (with_reducible refine (enc_Code.calls k 2 t243 t247 t248 _ ?side1 A5.out).mono ?_); (case side1 => exact GW.below (by repeat (first | (with_reducible first | exact HB.out | apply below_alloc | apply pw_below_drewN | apply below_drew1) | exact HB.out)) HG.out); rintro e w82 ⟨rfl, hb⟩; refine ⟨_, rfl, ?_⟩; have n0_ := Aside0.mk (below_step (by repeat (first | (with_reducible first | exact HB.out | apply below_alloc | apply pw_below_drewN | apply below_drew1) | exact HB.out)) hb); clear HB; have HB := n0_; clear n0_; (try clear hb); (try clear hb2); (try clear hk); (try clear hi)) | ((with_reducible refine gate_callee (f := 13) rfl ?_); refine goesL_ (some 35) rfl rfl Tryd.func13 (by kernel_rfl) rfl #[.int .i64 0, .string t243] rfl (by (try simp only [List.map_toArray, List.map_cons, List.map_nil]); first | done | rfl | (simp only [List.length_drop, List.length_take]; rfl)) ?_; (with_reducible refine (enc_Code.calls k 0 t243 t249 t250 _ ?side1 A6.out).mono ?_); (case side1 => exact GW.below (by repeat (first | (with_reducible first | exact HB.out | apply below_alloc | apply pw_below_drewN | apply below_drew1) | exact HB.out)) HG.out); rintro e w83 ⟨rfl, hb⟩; refine ⟨_, rfl, ?_⟩; have n0_ := Aside0.mk (below_step (by repeat (first | (with_reducible first | exact HB.out | apply below_alloc | apply pw_below_drewN | apply below_drew1) | exact HB.out)) hb); clear HB; have HB := n0_; clear n0_; (try clear hb); (try clear hb2); (try clear hk); (try clear hi)))
    go_ret
    exact ⟨by first | rfl | (simp [errW_none, errW_some] <;> rfl) | (simp [*, errW_none, errW_some] <;> rfl), by repeat (first | (with_reducible first | exact HB.out | apply below_alloc | apply pw_below_drewN | apply below_drew1) | exact HB.out)⟩
/-- THE ONE PURE STATEMENT of hornbooklaw15_EncAscii: yours. -/
def hornbooklaw15_EncAscii.Pure : Prop := ∀ (a0 : Int), (Lit.int .i64 a0).wf = true → ∃ k, hornbooklaw15_EncAscii.f k a0 = some true
theorem hornbooklaw15_EncAscii.walk (P : hornbooklaw15_EncAscii.Pure) (a0 : Int) (w : World) (w0 : (Lit.int .i64 a0).wf = true)(hG : GW w) :
    Calls Tryd.prog 10 #[.int .i64 a0] w fun e w' => e = .returned (.bool true) ∧ Below w.heap.size w w' := by
  obtain ⟨k, h⟩ := P a0 w0
  refine (hornbooklaw15_EncAscii.calls k a0 true w hG h).mono ?_
  rintro e w' ⟨rfl, hd⟩
  exact ⟨rfl, hd⟩
end Go.Proofs.YtniehnkiicliaaaDoor.M
end
section
namespace Go.Proofs.YtniehnkiicliaaaDoor.M
open Go Go.RowKit
variable {H : Type} {enc : TypeId × Value → H}
theorem returns_both {a : Assume} {C : Checked} {os : Os} {f : FuncId} {fn : Func} {s : ChangeSpec} {conds : List PathCond} {apart fresh handsOn again : Bool} {X : World → Array Value → Prop}
    (hX : ∀ (w w' : World) (args : Array Value), w.heap = w'.heap → X w args → X w' args)
    (own : ownKnob C.prog.godebug = none) (started : os.Started) (noInit : C.prog.inits.idxOf? f = none) (hfn : C.prog.funcs[f]? = some fn)
    (witness : ∃ (w : World) (tape : Tape) (i : Input), w.os = os ∧ (w.forCall tape i).Shaped C.prog ∧ i.vars = [] ∧ Input.okWide C.prog (w.forCall tape i) .any w.heap.size f i ∧
      ((s.pre enc C.prog fn conds apart (w.forCall tape i).memory i.args ∧ X (w.forCall tape i).memory i.args) ∧ sizedMet enc C.prog fn (OpenSpec.ofChange s) apart (w.forCall tape i).memory i.args) ∧ a.holds C.prog (lone (Frame.enter C.prog f i.args .normal) [] (w.forCall tape i)))
    (contract : ∀ (W : World) (base : Nat) (args : Array Value) (ds gs : List (DataW H)) (before : List MemPlace),
      (∀ (j : Nat) t v, fn.params[j]? = some t → args[j]? = some v → Value.okWide C.prog W .any base t v) →
      DataW.Whole enc C.prog fn.params.toList s.vars apart W args.toList ds gs before →
      conds.all (PathCond.test C.prog ⟨fn.params.toList, ds, s.plain.varTypes C.prog, gs⟩) = true →
      (DataW.weightsEach C.prog (fn.params.toList ++ s.plain.varTypes C.prog) (ds ++ gs)).all (· ≤ reachBytes) = true → X W args → W.ShapedOpen C.prog →
      Calls C.prog f args W fun e W' => ∃ v, e = .returned v ∧ s.post enc C.prog fn apart fresh handsOn again W args v W') :
    ReturnsInHanded a C os f .any (fun w args => (s.pre enc C.prog fn conds apart w args ∧ X w args) ∧ sizedMet enc C.prog fn (OpenSpec.ofChange s) apart w args) (s.post enc C.prog fn apart fresh handsOn again) := by
  refine returnsInHanded_of_calls own started noInit witness ?_
  intro w tape i _ hsh _ hok hpre hholds
  obtain ⟨_, _, _, fn', hfn', _, _, _, _, hval⟩ := hok
  have e : fn' = fn := Option.some.inj (hfn'.symm.trans hfn)
  subst e
  obtain ⟨⟨⟨ds, gs, before, hw, hc⟩, hx⟩, hz⟩ := hpre
  have hw' := DataW.Whole.of_heap (w' := w.forCall tape i) (by rfl) hw
  refine (contract (w.forCall tape i) w.heap.size i.args ds gs before hval hw' hc (hz.weights hw) (hX _ _ _ (by rfl) hx) hsh).mono fun e W' ⟨v, he, hp⟩ => ?_
  subst he
  exact ChangeSpec.post_blind hp
theorem gw_star : "*" ++ "errors.errorString" = "*errors.errorString" := by decide
theorem gw_row (u : TypeId) (h : Tryd.prog.typeName? 3 u = some "*errors.errorString") : u = 142 :=
  typeName_ptr_named (nm := "errors.errorString") (by rw [gw_star]; kernel_rfl) (by kernel_rfl) (by decide) u (by rw [gw_star]; exact h)
/-- Out of a row's 'laid', from the two sentinels on, and the world's shape. -/
theorem GW.of_mets {r1 r2 : List (String × DataW Unit)} {t1 t2 : List UInt8} {W : World}
    (h1 : laidMet Tryd.prog (("strconv.ErrRange", .iface "*errors.errorString" (.ptr (.agg [.lit (.string t1)]))) :: r1) W)
    (h2 : laidMet Tryd.prog (("strconv.ErrSyntax", .iface "*errors.errorString" (.ptr (.agg [.lit (.string t2)]))) :: r2) W)
    {r3 : List (String × DataW Unit)} (h3 : laidMet Tryd.prog (("strings.asciiSpace", Rows.laid_strings_asciiSpace) :: r3) W)
    (hsh : W.ShapedOpen Tryd.prog) : GW W := by
  obtain ⟨a0, s0, hv0, -, -, -⟩ := laid_sentinel h1 (g := 4) (ti := 64) (by kernel_rfl) (by kernel_rfl) Tryd.underlying64 gw_row Tryd.underlying142 Tryd.underlying144 rfl rfl Tryd.underlying9 (by kernel_rfl) (by kernel_rfl)
  obtain ⟨a1, s1, hv1, -, -, -⟩ := laid_sentinel h2 (g := 3) (ti := 64) (by kernel_rfl) (by kernel_rfl) Tryd.underlying64 gw_row Tryd.underlying142 Tryd.underlying144 rfl rfl Tryd.underlying9 (by kernel_rfl) (by kernel_rfl)
  have c0 := World.var?_cell (P := Tryd.prog) (g := 4) (by kernel_rfl) hv0 0
  have c1 := World.var?_cell (P := Tryd.prog) (g := 3) (by kernel_rfl) hv1 0
  obtain ⟨m, hm⟩ := cell_of_shapedOpen_int (P := Tryd.prog) (g := 2) (t := 3) (zero := #[.int .i64 0]) hsh (of_decide_eq_true (by kernel_rfl)) (by kernel_rfl) rfl (by kernel_rfl) (by kernel_rfl) Tryd.underlying3
  have e3 : (Rows.laid_strings_asciiSpace : DataW Unit) = Lib.tabData .u8 Lib.asciiSpaceTab := by kernel_rfl
  rw [e3] at h3
  have hsp : Lib.TabIs Tryd.prog W "strings.asciiSpace" .u8 Lib.asciiSpaceTab := Lib.tabIs_of_head (g := 0) (by kernel_rfl) (by kernel_rfl) Tryd.underlying79 Tryd.underlying5 (by kernel_rfl) (by kernel_rfl) h3
  exact ⟨⟨a0, by simpa using c0⟩, ⟨a1, by simpa using c1⟩, ⟨m, hm⟩, hsp⟩
end Go.Proofs.YtniehnkiicliaaaDoor.M
end
section
namespace Go.Proofs.YtniehnkiicliaaaDoor.M
open Go.RowKit Go.Proofs.YtniehnkiicliaaaDoorW.PrintWords
set_option linter.unusedVariables false
def allAscii (l : List UInt8) : Bool := l.all fun b => decide (b.toNat < 128)
end Go.Proofs.YtniehnkiicliaaaDoor.M
end
section
/- Laid by this session's program hbprint.py out of the translation: the function hornbook/glyph.Uni and its contract. -/
namespace Go.Proofs.YtniehnkiicliaaaDoor.M
open Go.RowKit Go.Proofs.YtniehnkiicliaaaDoorW.PrintWords Go.Proofs.YtniehnkiicliaaaDoorW.PrintLast Go.Proofs.YtniehnkiicliaaaDoorW.PrintMore
attribute [local go_sem] max2_int min2_int max_two min_two max_three min_three max_four min_four
set_option linter.unusedVariables false
set_option linter.unusedSimpArgs false
end Go.Proofs.YtniehnkiicliaaaDoor.M
end
section
namespace Go.Proofs.YtniehnkiicliaaaDoor.M
open Go.RowKit Go.Proofs.YtniehnkiicliaaaDoorW.PrintWords
set_option linter.unusedVariables false
def bodyOf : List (List UInt8) → List UInt8
  | [] => []
  | f :: fs => f ++ 32 :: bodyOf fs
def findF (p : List UInt8) : List (List UInt8) → Option (List UInt8)
  | [] => none
  | f :: fs => if p.isPrefixOf f = true then some (f.drop p.length) else findF p fs
def rawF (F : List ByteArray) : List (List UInt8) := F.map fun f => f.data.toList
def nmF (f : ByteArray) : ByteArray := ⟨(Lib.cut f.data.toList [61]).1.toArray⟩
def hxF (f : ByteArray) : ByteArray := ⟨(Lib.cut f.data.toList [61]).2.1.toArray⟩
def valsF (f : ByteArray) : List Int := (glyph_values.f (hxF f)).getD []
def nameOk (n : ByteArray) : Bool := decide (n.size ≤ 300) && !n.data.toList.isEmpty && n.data.toList.all fun b => decide (b.toNat < 128) && b != 32 && b != 61
def okF (F : List ByteArray) (f : ByteArray) : Bool := decide (f.size < 1000) && (glyph_values.f (hxF f)).isSome && (f.data.toList.all fun b => b != 32) && nameOk (nmF f) && decide (findF ((nmF f).data.toList ++ [61]) (rawF F) = some (hxF f).data.toList)
def goodF (T : ByteArray) (F : List ByteArray) : Bool := decide (T.size < 1000000) && decide (F.length < 1000) && decide (T.data.toList = 32 :: bodyOf (rawF F)) && F.all (okF F)
structure Glyphs (T : ByteArray) (F : List ByteArray) : Prop where
  size : T.size < 1000000
  len : F.length < 1000
  body : T.data.toList = 32 :: bodyOf (rawF F)
  ok : ∀ f ∈ F, okF F f = true
theorem Glyphs.of {T : ByteArray} {F : List ByteArray} (h : goodF T F = true) : Glyphs T F := by
  simp only [goodF, Bool.and_eq_true, decide_eq_true_eq] at h
  exact ⟨h.1.1.1, h.1.1.2, h.1.2, fun f hf => List.all_eq_true.1 h.2 f hf⟩
structure OkF (F : List ByteArray) (f : ByteArray) : Prop where
  size : f.size < 1000
  vals : glyph_values.f (hxF f) = some (valsF f)
  noBlank : ∀ b ∈ f.data.toList, b ≠ 32
  name : nameOk (nmF f) = true
  found : findF ((nmF f).data.toList ++ [61]) (rawF F) = some (hxF f).data.toList
theorem OkF.of {F : List ByteArray} {f : ByteArray} (h : okF F f = true) : OkF F f := by
  simp only [okF, Bool.and_eq_true, decide_eq_true_eq] at h
  obtain ⟨⟨⟨⟨h1, h2⟩, h3⟩, h4⟩, h5⟩ := h
  refine ⟨h1, ?_, ?_, h4, h5⟩
  · obtain ⟨v, hv⟩ := Option.isSome_iff_exists.1 h2
    unfold valsF
    rw [hv]; rfl
  · intro b hb
    have := List.all_eq_true.1 h3 b hb
    simpa using this
theorem name_facts {n : ByteArray} (h : nameOk n = true) : n.size ≤ 300 ∧ n.toList ≠ [] ∧ allAscii n.data.toList = true ∧ (∀ b ∈ n.data.toList, b ≠ 32 ∧ b ≠ 61) := by
  simp only [nameOk, Bool.and_eq_true, decide_eq_true_eq] at h
  obtain ⟨⟨h1, h2⟩, h3⟩ := h
  have h4 : ∀ b ∈ n.data.toList, b.toNat < 128 ∧ b ≠ 32 ∧ b ≠ 61 := by
    intro b hb
    have := List.all_eq_true.1 h3 b hb
    simp only [Bool.and_eq_true, decide_eq_true_eq, bne_iff_ne] at this
    exact ⟨this.1.1, this.1.2, this.2⟩
  refine ⟨h1, ?_, ?_, fun b hb => (h4 b hb).2⟩
  · rw [toList_data]
    intro e
    rw [e] at h2
    simp at h2
  · unfold allAscii
    exact List.all_eq_true.2 (fun b hb => decide_eq_true (h4 b hb).1)
theorem cut_in {F : List ByteArray} {f : ByteArray} (ho : OkF F f) : strings_Cut.f f ⟨#[61]⟩ = some (nmF f, hxF f, (Lib.cut f.data.toList [61]).2.2) := by
  unfold strings_Cut.f
  rw [if_pos (by have := ho.size; omega)]
  rfl
def backIn (r : Int) : List ByteArray → ByteArray × Bool
  | [] => (⟨#[]⟩, false)
  | f :: fs => if valsF f = [r] then (nmF f, true) else backIn r fs
theorem one_rd {l : List Int} {r : Int} : (l.length : Int) = 1 → (rd l 0 = r ↔ l = [r]) := by
  intro h
  match l, h with
  | [x], _ => simp [rd]
theorem back_loopG {F : List ByteArray} (hF : ∀ f ∈ F, okF F f = true) (hl : F.length < 1000) (r : Int) (d : Nat) : ∀ (i k : Nat), F.length - i = d → i ≤ F.length → d < k →
    glyph_Back.l0 k r F F.length i = some (backIn r (F.drop i)) := by
  induction d with
  | zero =>
    intro i k hd hi hk
    obtain ⟨k, rfl⟩ : ∃ m, k = m + 1 := ⟨k - 1, by omega⟩
    rw [glyph_Back.l0, if_neg (by omega), List.drop_eq_nil_of_le (by omega), backIn]
  | succ d ih =>
    intro i k hd hi hk
    obtain ⟨k, rfl⟩ : ∃ m, k = m + 1 := ⟨k - 1, by omega⟩
    have hlt : i < F.length := by omega
    have hw : wrap64 ((i : Int) + 1) = ((i + 1 : Nat) : Int) := by rw [wrap_small (by omega) (by omega)]; omega
    have hr : rdOf ByteArray.empty F (i : Int) = F[i] := by
      unfold rdOf
      rw [Int.toNat_natCast, List.getD_eq_getElem?_getD, List.getElem?_eq_getElem hlt, Option.getD_some]
    have ho := OkF.of (hF _ (List.getElem_mem hlt))
    rw [glyph_Back.l0, if_pos (by omega), if_pos (by omega), if_pos (by omega), hw, hr, cut_in ho, Option.bind_some, ho.vals, Option.bind_some, List.drop_eq_getElem_cons hlt, backIn, ih (i + 1) k (by omega) (by omega) (by omega)]
    by_cases h1 : ((valsF F[i]).length : Int) = 1
    · rw [if_pos h1, if_pos (by omega)]
      by_cases h2 : valsF F[i] = [r]
      · rw [if_pos h2, if_pos ((one_rd h1).2 h2)]
      · rw [if_neg h2, if_neg (fun e => h2 ((one_rd h1).1 e))]
    · rw [if_neg h1, if_neg (fun e => h1 (by rw [e]; rfl))]
theorem back_eq {T : ByteArray} {F : List ByteArray} (hG : Glyphs T F) {k : Nat} (hk : 1000 ≤ k) (hT : glyph_list.f k = some T) (hF : strings_Fields.f T = some F) (r : Int) : glyph_Back.f k r = some (backIn r F) := by
  unfold glyph_Back.f
  rw [hT, Option.bind_some, hF, Option.bind_some]
  have := back_loopG hG.ok hG.len r F.length 0 k (by omega) (by omega) (by have := hG.len; omega)
  exact this
theorem backIn_cases (r : Int) : ∀ fs : List ByteArray, (∃ f ∈ fs, backIn r fs = (nmF f, true) ∧ valsF f = [r]) ∨ (backIn r fs = (⟨#[]⟩, false) ∧ ∀ f ∈ fs, valsF f ≠ [r])
  | [] => .inr ⟨rfl, fun f hf => by cases hf⟩
  | f :: fs => by
    by_cases h : valsF f = [r]
    · exact .inl ⟨f, List.mem_cons_self, by rw [backIn, if_pos h], h⟩
    · rw [backIn, if_neg h]
      rcases backIn_cases r fs with ⟨g, hg, h1, h2⟩ | ⟨h1, h2⟩
      · exact .inl ⟨g, List.mem_cons_of_mem _ hg, h1, h2⟩
      · refine .inr ⟨h1, fun g hg => ?_⟩
        rcases List.mem_cons.1 hg with rfl | hg
        · exact h
        · exact h2 g hg
end Go.Proofs.YtniehnkiicliaaaDoor.M
end
section
namespace Go.Proofs.YtniehnkiicliaaaDoor.M
open Go.RowKit Go.Proofs.YtniehnkiicliaaaDoorW.PrintWords
set_option linter.unusedVariables false
def fieldsK (k : Nat) : Option (ByteArray × List ByteArray) := (glyph_list.f k).bind fun t => (strings_Fields.f t).bind fun F => some (t, F)
def goodK (k : Nat) : Bool := match fieldsK k with
  | some p => goodF p.1 p.2
  | none => false
set_option maxRecDepth 100000 in
theorem goodK_at : goodK 500 = true := by decide +kernel
theorem glyphs_are : ∃ T F, (∀ k, 500 ≤ k → glyph_list.f k = some T) ∧ strings_Fields.f T = some F ∧ Glyphs T F ∧ fieldsK 500 = some (T, F) := by
  have h := goodK_at
  unfold goodK at h
  split at h
  case h_2 => cases h
  rename_i p hp
  have hp' := hp
  unfold fieldsK at hp
  obtain ⟨T, hT, hp⟩ := Option.bind_eq_some_iff.1 hp
  obtain ⟨F, hF, hp⟩ := Option.bind_eq_some_iff.1 hp
  obtain rfl := Option.some.inj hp
  exact ⟨T, F, fun k hk => le_rounds (g := fun k => glyph_list.f k) (fun k => glyph_list.mono k) hT hk, hF, Glyphs.of h, hp'⟩
end Go.Proofs.YtniehnkiicliaaaDoor.M
end
section
/- Laid by this session's program hbprint.py out of the translation: the function hornbook/hornbookref15.Sane and its contract. -/
namespace Go.Proofs.YtniehnkiicliaaaDoor.M
open Go.RowKit Go.Proofs.YtniehnkiicliaaaDoorW.PrintWords Go.Proofs.YtniehnkiicliaaaDoorW.PrintLast Go.Proofs.YtniehnkiicliaaaDoorW.PrintMore
attribute [local go_sem] max2_int min2_int max_two min_two max_three min_three max_four min_four
set_option linter.unusedVariables false
set_option linter.unusedSimpArgs false
def hornbookref15_Sane.f (a0 : Int) : Option (Bool) := if a0 ≥ 0 then (some (decide (a0 ≤ 3))) else (some false)
end Go.Proofs.YtniehnkiicliaaaDoor.M
end
section
/- Laid by this session's program hbprint.py out of the translation: the function hornbook/hornbookref15.standard and its contract. -/
namespace Go.Proofs.YtniehnkiicliaaaDoor.M
open Go.RowKit Go.Proofs.YtniehnkiicliaaaDoorW.PrintWords Go.Proofs.YtniehnkiicliaaaDoorW.PrintLast Go.Proofs.YtniehnkiicliaaaDoorW.PrintMore
attribute [local go_sem] max2_int min2_int max_two min_two max_three min_three max_four min_four
set_option linter.unusedVariables false
set_option linter.unusedSimpArgs false
def hornbookref15_standard.f  : Option (ByteArray) := some (⟨#[115, 112, 97, 99, 101, 32, 101, 120, 99, 108, 97, 109, 32, 113, 117, 111, 116, 101, 100, 98, 108, 32, 110, 117, 109, 98, 101, 114, 115, 105, 103, 110, 32, 100, 111, 108, 108, 97, 114, 32, 112, 101, 114, 99, 101, 110, 116, 32, 97, 109, 112, 101, 114, 115, 97, 110, 100, 32, 113, 117, 111, 116, 101, 114, 105, 103, 104, 116, 32, 112, 97, 114, 101, 110, 108, 101, 102, 116, 32, 112, 97, 114, 101, 110, 114, 105, 103, 104, 116, 32, 97, 115, 116, 101, 114, 105, 115, 107, 32, 112, 108, 117, 115, 32, 99, 111, 109, 109, 97, 32, 104, 121, 112, 104, 101, 110, 32, 112, 101, 114, 105, 111, 100, 32, 115, 108, 97, 115, 104, 32, 122, 101, 114, 111, 32, 111, 110, 101, 32, 116, 119, 111, 32, 116, 104, 114, 101, 101, 32, 102, 111, 117, 114, 32, 102, 105, 118, 101, 32, 115, 105, 120, 32, 115, 101, 118, 101, 110, 32, 101, 105, 103, 104, 116, 32, 110, 105, 110, 101, 32, 99, 111, 108, 111, 110, 32, 115, 101, 109, 105, 99, 111, 108, 111, 110, 32, 108, 101, 115, 115, 32, 101, 113, 117, 97, 108, 32, 103, 114, 101, 97, 116, 101, 114, 32, 113, 117, 101, 115, 116, 105, 111, 110, 32, 97, 116, 32, 65, 32, 66, 32, 67, 32, 68, 32, 69, 32, 70, 32, 71, 32, 72, 32, 73, 32, 74, 32, 75, 32, 76, 32, 77, 32, 78, 32, 79, 32, 80, 32, 81, 32, 82, 32, 83, 32, 84, 32, 85, 32, 86, 32, 87, 32, 88, 32, 89, 32, 90, 32, 98, 114, 97, 99, 107, 101, 116, 108, 101, 102, 116, 32, 98, 97, 99, 107, 115, 108, 97, 115, 104, 32, 98, 114, 97, 99, 107, 101, 116, 114, 105, 103, 104, 116, 32, 97, 115, 99, 105, 105, 99, 105, 114, 99, 117, 109, 32, 117, 110, 100, 101, 114, 115, 99, 111, 114, 101, 32, 113, 117, 111, 116, 101, 108, 101, 102, 116, 32, 97, 32, 98, 32, 99, 32, 100, 32, 101, 32, 102, 32, 103, 32, 104, 32, 105, 32, 106, 32, 107, 32, 108, 32, 109, 32, 110, 32, 111, 32, 112, 32, 113, 32, 114, 32, 115, 32, 116, 32, 117, 32, 118, 32, 119, 32, 120, 32, 121, 32, 122, 32, 98, 114, 97, 99, 101, 108, 101, 102, 116, 32, 98, 97, 114, 32, 98, 114, 97, 99, 101, 114, 105, 103, 104, 116, 32, 97, 115, 99, 105, 105, 116, 105, 108, 100, 101, 32, 45, 32, 45, 32, 45, 32, 45, 32, 45, 32, 45, 32, 45, 32, 45, 32, 45, 32, 45, 32, 45, 32, 45, 32, 45, 32, 45, 32, 45, 32, 45, 32, 45, 32, 45, 32, 45, 32, 45, 32, 45, 32, 45, 32, 45, 32, 45, 32, 45, 32, 45, 32, 45, 32, 45, 32, 45, 32, 45, 32, 45, 32, 45, 32, 45, 32, 45, 32, 101, 120, 99, 108, 97, 109, 100, 111, 119, 110, 32, 99, 101, 110, 116, 32, 115, 116, 101, 114, 108, 105, 110, 103, 32, 102, 114, 97, 99, 116, 105, 111, 110, 32, 121, 101, 110, 32, 102, 108, 111, 114, 105, 110, 32, 115, 101, 99, 116, 105, 111, 110, 32, 99, 117, 114, 114, 101, 110, 99, 121, 32, 113, 117, 111, 116, 101, 115, 105, 110, 103, 108, 101, 32, 113, 117, 111, 116, 101, 100, 98, 108, 108, 101, 102, 116, 32, 103, 117, 105, 108, 108, 101, 109, 111, 116, 108, 101, 102, 116, 32, 103, 117, 105, 108, 115, 105, 110, 103, 108, 108, 101, 102, 116, 32, 103, 117, 105, 108, 115, 105, 110, 103, 108, 114, 105, 103, 104, 116, 32, 102, 105, 32, 102, 108, 32, 45, 32, 101, 110, 100, 97, 115, 104, 32, 100, 97, 103, 103, 101, 114, 32, 100, 97, 103, 103, 101, 114, 100, 98, 108, 32, 112, 101, 114, 105, 111, 100, 99, 101, 110, 116, 101, 114, 101, 100, 32, 45, 32, 112, 97, 114, 97, 103, 114, 97, 112, 104, 32, 98, 117, 108, 108, 101, 116, 32, 113, 117, 111, 116, 101, 115, 105, 110, 103, 108, 98, 97, 115, 101, 32, 113, 117, 111, 116, 101, 100, 98, 108, 98, 97, 115, 101, 32, 113, 117, 111, 116, 101, 100, 98, 108, 114, 105, 103, 104, 116, 32, 103, 117, 105, 108, 108, 101, 109, 111, 116, 114, 105, 103, 104, 116, 32, 101, 108, 108, 105, 112, 115, 105, 115, 32, 112, 101, 114, 116, 104, 111, 117, 115, 97, 110, 100, 32, 45, 32, 113, 117, 101, 115, 116, 105, 111, 110, 100, 111, 119, 110, 32, 45, 32, 103, 114, 97, 118, 101, 32, 97, 99, 117, 116, 101, 32, 99, 105, 114, 99, 117, 109, 102, 108, 101, 120, 32, 116, 105, 108, 100, 101, 32, 109, 97, 99, 114, 111, 110, 32, 98, 114, 101, 118, 101, 32, 100, 111, 116, 97, 99, 99, 101, 110, 116, 32, 100, 105, 101, 114, 101, 115, 105, 115, 32, 45, 32, 114, 105, 110, 103, 32, 99, 101, 100, 105, 108, 108, 97, 32, 45, 32, 104, 117, 110, 103, 97, 114, 117, 109, 108, 97, 117, 116, 32, 111, 103, 111, 110, 101, 107, 32, 99, 97, 114, 111, 110, 32, 101, 109, 100, 97, 115, 104, 32, 45, 32, 45, 32, 45, 32, 45, 32, 45, 32, 45, 32, 45, 32, 45, 32, 45, 32, 45, 32, 45, 32, 45, 32, 45, 32, 45, 32, 45, 32, 45, 32, 65, 69, 32, 45, 32, 111, 114, 100, 102, 101, 109, 105, 110, 105, 110, 101, 32, 45, 32, 45, 32, 45, 32, 45, 32, 76, 115, 108, 97, 115, 104, 32, 79, 115, 108, 97, 115, 104, 32, 79, 69, 32, 111, 114, 100, 109, 97, 115, 99, 117, 108, 105, 110, 101, 32, 45, 32, 45, 32, 45, 32, 45, 32, 45, 32, 97, 101, 32, 45, 32, 45, 32, 45, 32, 100, 111, 116, 108, 101, 115, 115, 105, 32, 45, 32, 45, 32, 108, 115, 108, 97, 115, 104, 32, 111, 115, 108, 97, 115, 104, 32, 111, 101, 32, 103, 101, 114, 109, 97, 110, 100, 98, 108, 115, 32, 45, 32, 45, 32, 45, 32, 45, 32]⟩ : ByteArray)
end Go.Proofs.YtniehnkiicliaaaDoor.M
end
section
/- Laid by this session's program hbprint.py out of the translation: the function hornbook/hornbookref15.win and its contract. -/
namespace Go.Proofs.YtniehnkiicliaaaDoor.M
open Go.RowKit Go.Proofs.YtniehnkiicliaaaDoorW.PrintWords Go.Proofs.YtniehnkiicliaaaDoorW.PrintLast Go.Proofs.YtniehnkiicliaaaDoorW.PrintMore
attribute [local go_sem] max2_int min2_int max_two min_two max_three min_three max_four min_four
set_option linter.unusedVariables false
set_option linter.unusedSimpArgs false
def hornbookref15_win.f  : Option (ByteArray) := some (⟨#[115, 112, 97, 99, 101, 32, 101, 120, 99, 108, 97, 109, 32, 113, 117, 111, 116, 101, 100, 98, 108, 32, 110, 117, 109, 98, 101, 114, 115, 105, 103, 110, 32, 100, 111, 108, 108, 97, 114, 32, 112, 101, 114, 99, 101, 110, 116, 32, 97, 109, 112, 101, 114, 115, 97, 110, 100, 32, 113, 117, 111, 116, 101, 115, 105, 110, 103, 108, 101, 32, 112, 97, 114, 101, 110, 108, 101, 102, 116, 32, 112, 97, 114, 101, 110, 114, 105, 103, 104, 116, 32, 97, 115, 116, 101, 114, 105, 115, 107, 32, 112, 108, 117, 115, 32, 99, 111, 109, 109, 97, 32, 104, 121, 112, 104, 101, 110, 32, 112, 101, 114, 105, 111, 100, 32, 115, 108, 97, 115, 104, 32, 122, 101, 114, 111, 32, 111, 110, 101, 32, 116, 119, 111, 32, 116, 104, 114, 101, 101, 32, 102, 111, 117, 114, 32, 102, 105, 118, 101, 32, 115, 105, 120, 32, 115, 101, 118, 101, 110, 32, 101, 105, 103, 104, 116, 32, 110, 105, 110, 101, 32, 99, 111, 108, 111, 110, 32, 115, 101, 109, 105, 99, 111, 108, 111, 110, 32, 108, 101, 115, 115, 32, 101, 113, 117, 97, 108, 32, 103, 114, 101, 97, 116, 101, 114, 32, 113, 117, 101, 115, 116, 105, 111, 110, 32, 97, 116, 32, 65, 32, 66, 32, 67, 32, 68, 32, 69, 32, 70, 32, 71, 32, 72, 32, 73, 32, 74, 32, 75, 32, 76, 32, 77, 32, 78, 32, 79, 32, 80, 32, 81, 32, 82, 32, 83, 32, 84, 32, 85, 32, 86, 32, 87, 32, 88, 32, 89, 32, 90, 32, 98, 114, 97, 99, 107, 101, 116, 108, 101, 102, 116, 32, 98, 97, 99, 107, 115, 108, 97, 115, 104, 32, 98, 114, 97, 99, 107, 101, 116, 114, 105, 103, 104, 116, 32, 97, 115, 99, 105, 105, 99, 105, 114, 99, 117, 109, 32, 117, 110, 100, 101, 114, 115, 99, 111, 114, 101, 32, 103, 114, 97, 118, 101, 32, 97, 32, 98, 32, 99, 32, 100, 32, 101, 32, 102, 32, 103, 32, 104, 32, 105, 32, 106, 32, 107, 32, 108, 32, 109, 32, 110, 32, 111, 32, 112, 32, 113, 32, 114, 32, 115, 32, 116, 32, 117, 32, 118, 32, 119, 32, 120, 32, 121, 32, 122, 32, 98, 114, 97, 99, 101, 108, 101, 102, 116, 32, 98, 97, 114, 32, 98, 114, 97, 99, 101, 114, 105, 103, 104, 116, 32, 97, 115, 99, 105, 105, 116, 105, 108, 100, 101, 32, 98, 117, 108, 108, 101, 116, 32, 69, 117, 114, 111, 32, 98, 117, 108, 108, 101, 116, 32, 113, 117, 111, 116, 101, 115, 105, 110, 103, 108, 98, 97, 115, 101, 32, 102, 108, 111, 114, 105, 110, 32, 113, 117, 111, 116, 101, 100, 98, 108, 98, 97, 115, 101, 32, 101, 108, 108, 105, 112, 115, 105, 115, 32, 100, 97, 103, 103, 101, 114, 32, 100, 97, 103, 103, 101, 114, 100, 98, 108, 32, 99, 105, 114, 99, 117, 109, 102, 108, 101, 120, 32, 112, 101, 114, 116, 104, 111, 117, 115, 97, 110, 100, 32, 83, 99, 97, 114, 111, 110, 32, 103, 117, 105, 108, 115, 105, 110, 103, 108, 108, 101, 102, 116, 32, 79, 69, 32, 98, 117, 108, 108, 101, 116, 32, 90, 99, 97, 114, 111, 110, 32, 98, 117, 108, 108, 101, 116, 32, 98, 117, 108, 108, 101, 116, 32, 113, 117, 111, 116, 101, 108, 101, 102, 116, 32, 113, 117, 111, 116, 101, 114, 105, 103, 104, 116, 32, 113, 117, 111, 116, 101, 100, 98, 108, 108, 101, 102, 116, 32, 113, 117, 111, 116, 101, 100, 98, 108, 114, 105, 103, 104, 116, 32, 98, 117, 108, 108, 101, 116, 32, 101, 110, 100, 97, 115, 104, 32, 101, 109, 100, 97, 115, 104, 32, 116, 105, 108, 100, 101, 32, 116, 114, 97, 100, 101, 109, 97, 114, 107, 32, 115, 99, 97, 114, 111, 110, 32, 103, 117, 105, 108, 115, 105, 110, 103, 108, 114, 105, 103, 104, 116, 32, 111, 101, 32, 98, 117, 108, 108, 101, 116, 32, 122, 99, 97, 114, 111, 110, 32, 89, 100, 105, 101, 114, 101, 115, 105, 115, 32, 115, 112, 97, 99, 101, 32, 101, 120, 99, 108, 97, 109, 100, 111, 119, 110, 32, 99, 101, 110, 116, 32, 115, 116, 101, 114, 108, 105, 110, 103, 32, 99, 117, 114, 114, 101, 110, 99, 121, 32, 121, 101, 110, 32, 98, 114, 111, 107, 101, 110, 98, 97, 114, 32, 115, 101, 99, 116, 105, 111, 110, 32, 100, 105, 101, 114, 101, 115, 105, 115, 32, 99, 111, 112, 121, 114, 105, 103, 104, 116, 32, 111, 114, 100, 102, 101, 109, 105, 110, 105, 110, 101, 32, 103, 117, 105, 108, 108, 101, 109, 111, 116, 108, 101, 102, 116, 32, 108, 111, 103, 105, 99, 97, 108, 110, 111, 116, 32, 104, 121, 112, 104, 101, 110, 32, 114, 101, 103, 105, 115, 116, 101, 114, 101, 100, 32, 109, 97, 99, 114, 111, 110, 32, 100, 101, 103, 114, 101, 101, 32, 112, 108, 117, 115, 109, 105, 110, 117, 115, 32, 116, 119, 111, 115, 117, 112, 101, 114, 105, 111, 114, 32, 116, 104, 114, 101, 101, 115, 117, 112, 101, 114, 105, 111, 114, 32, 97, 99, 117, 116, 101, 32, 109, 117, 32, 112, 97, 114, 97, 103, 114, 97, 112, 104, 32, 112, 101, 114, 105, 111, 100, 99, 101, 110, 116, 101, 114, 101, 100, 32, 99, 101, 100, 105, 108, 108, 97, 32, 111, 110, 101, 115, 117, 112, 101, 114, 105, 111, 114, 32, 111, 114, 100, 109, 97, 115, 99, 117, 108, 105, 110, 101, 32, 103, 117, 105, 108, 108, 101, 109, 111, 116, 114, 105, 103, 104, 116, 32, 111, 110, 101, 113, 117, 97, 114, 116, 101, 114, 32, 111, 110, 101, 104, 97, 108, 102, 32, 116, 104, 114, 101, 101, 113, 117, 97, 114, 116, 101, 114, 115, 32, 113, 117, 101, 115, 116, 105, 111, 110, 100, 111, 119, 110, 32, 65, 103, 114, 97, 118, 101, 32, 65, 97, 99, 117, 116, 101, 32, 65, 99, 105, 114, 99, 117, 109, 102, 108, 101, 120, 32, 65, 116, 105, 108, 100, 101, 32, 65, 100, 105, 101, 114, 101, 115, 105, 115, 32, 65, 114, 105, 110, 103, 32, 65, 69, 32, 67, 99, 101, 100, 105, 108, 108, 97, 32, 69, 103, 114, 97, 118, 101, 32, 69, 97, 99, 117, 116, 101, 32, 69, 99, 105, 114, 99, 117, 109, 102, 108, 101, 120, 32, 69, 100, 105, 101, 114, 101, 115, 105, 115, 32, 73, 103, 114, 97, 118, 101, 32, 73, 97, 99, 117, 116, 101, 32, 73, 99, 105, 114, 99, 117, 109, 102, 108, 101, 120, 32, 73, 100, 105, 101, 114, 101, 115, 105, 115, 32, 69, 116, 104, 32, 78, 116, 105, 108, 100, 101, 32, 79, 103, 114, 97, 118, 101, 32, 79, 97, 99, 117, 116, 101, 32, 79, 99, 105, 114, 99, 117, 109, 102, 108, 101, 120, 32, 79, 116, 105, 108, 100, 101, 32, 79, 100, 105, 101, 114, 101, 115, 105, 115, 32, 109, 117, 108, 116, 105, 112, 108, 121, 32, 79, 115, 108, 97, 115, 104, 32, 85, 103, 114, 97, 118, 101, 32, 85, 97, 99, 117, 116, 101, 32, 85, 99, 105, 114, 99, 117, 109, 102, 108, 101, 120, 32, 85, 100, 105, 101, 114, 101, 115, 105, 115, 32, 89, 97, 99, 117, 116, 101, 32, 84, 104, 111, 114, 110, 32, 103, 101, 114, 109, 97, 110, 100, 98, 108, 115, 32, 97, 103, 114, 97, 118, 101, 32, 97, 97, 99, 117, 116, 101, 32, 97, 99, 105, 114, 99, 117, 109, 102, 108, 101, 120, 32, 97, 116, 105, 108, 100, 101, 32, 97, 100, 105, 101, 114, 101, 115, 105, 115, 32, 97, 114, 105, 110, 103, 32, 97, 101, 32, 99, 99, 101, 100, 105, 108, 108, 97, 32, 101, 103, 114, 97, 118, 101, 32, 101, 97, 99, 117, 116, 101, 32, 101, 99, 105, 114, 99, 117, 109, 102, 108, 101, 120, 32, 101, 100, 105, 101, 114, 101, 115, 105, 115, 32, 105, 103, 114, 97, 118, 101, 32, 105, 97, 99, 117, 116, 101, 32, 105, 99, 105, 114, 99, 117, 109, 102, 108, 101, 120, 32, 105, 100, 105, 101, 114, 101, 115, 105, 115, 32, 101, 116, 104, 32, 110, 116, 105, 108, 100, 101, 32, 111, 103, 114, 97, 118, 101, 32, 111, 97, 99, 117, 116, 101, 32, 111, 99, 105, 114, 99, 117, 109, 102, 108, 101, 120, 32, 111, 116, 105, 108, 100, 101, 32, 111, 100, 105, 101, 114, 101, 115, 105, 115, 32, 100, 105, 118, 105, 100, 101, 32, 111, 115, 108, 97, 115, 104, 32, 117, 103, 114, 97, 118, 101, 32, 117, 97, 99, 117, 116, 101, 32, 117, 99, 105, 114, 99, 117, 109, 102, 108, 101, 120, 32, 117, 100, 105, 101, 114, 101, 115, 105, 115, 32, 121, 97, 99, 117, 116, 101, 32, 116, 104, 111, 114, 110, 32, 121, 100, 105, 101, 114, 101, 115, 105, 115, 32]⟩ : ByteArray)
end Go.Proofs.YtniehnkiicliaaaDoor.M
end
section
/- Laid by this session's program hbprint.py out of the translation: the function hornbook/hornbookref15.mac and its contract. -/
namespace Go.Proofs.YtniehnkiicliaaaDoor.M
open Go.RowKit Go.Proofs.YtniehnkiicliaaaDoorW.PrintWords Go.Proofs.YtniehnkiicliaaaDoorW.PrintLast Go.Proofs.YtniehnkiicliaaaDoorW.PrintMore
attribute [local go_sem] max2_int min2_int max_two min_two max_three min_three max_four min_four
set_option linter.unusedVariables false
set_option linter.unusedSimpArgs false
def hornbookref15_mac.f  : Option (ByteArray) := some (⟨#[115, 112, 97, 99, 101, 32, 101, 120, 99, 108, 97, 109, 32, 113, 117, 111, 116, 101, 100, 98, 108, 32, 110, 117, 109, 98, 101, 114, 115, 105, 103, 110, 32, 100, 111, 108, 108, 97, 114, 32, 112, 101, 114, 99, 101, 110, 116, 32, 97, 109, 112, 101, 114, 115, 97, 110, 100, 32, 113, 117, 111, 116, 101, 115, 105, 110, 103, 108, 101, 32, 112, 97, 114, 101, 110, 108, 101, 102, 116, 32, 112, 97, 114, 101, 110, 114, 105, 103, 104, 116, 32, 97, 115, 116, 101, 114, 105, 115, 107, 32, 112, 108, 117, 115, 32, 99, 111, 109, 109, 97, 32, 104, 121, 112, 104, 101, 110, 32, 112, 101, 114, 105, 111, 100, 32, 115, 108, 97, 115, 104, 32, 122, 101, 114, 111, 32, 111, 110, 101, 32, 116, 119, 111, 32, 116, 104, 114, 101, 101, 32, 102, 111, 117, 114, 32, 102, 105, 118, 101, 32, 115, 105, 120, 32, 115, 101, 118, 101, 110, 32, 101, 105, 103, 104, 116, 32, 110, 105, 110, 101, 32, 99, 111, 108, 111, 110, 32, 115, 101, 109, 105, 99, 111, 108, 111, 110, 32, 108, 101, 115, 115, 32, 101, 113, 117, 97, 108, 32, 103, 114, 101, 97, 116, 101, 114, 32, 113, 117, 101, 115, 116, 105, 111, 110, 32, 97, 116, 32, 65, 32, 66, 32, 67, 32, 68, 32, 69, 32, 70, 32, 71, 32, 72, 32, 73, 32, 74, 32, 75, 32, 76, 32, 77, 32, 78, 32, 79, 32, 80, 32, 81, 32, 82, 32, 83, 32, 84, 32, 85, 32, 86, 32, 87, 32, 88, 32, 89, 32, 90, 32, 98, 114, 97, 99, 107, 101, 116, 108, 101, 102, 116, 32, 98, 97, 99, 107, 115, 108, 97, 115, 104, 32, 98, 114, 97, 99, 107, 101, 116, 114, 105, 103, 104, 116, 32, 97, 115, 99, 105, 105, 99, 105, 114, 99, 117, 109, 32, 117, 110, 100, 101, 114, 115, 99, 111, 114, 101, 32, 103, 114, 97, 118, 101, 32, 97, 32, 98, 32, 99, 32, 100, 32, 101, 32, 102, 32, 103, 32, 104, 32, 105, 32, 106, 32, 107, 32, 108, 32, 109, 32, 110, 32, 111, 32, 112, 32, 113, 32, 114, 32, 115, 32, 116, 32, 117, 32, 118, 32, 119, 32, 120, 32, 121, 32, 122, 32, 98, 114, 97, 99, 101, 108, 101, 102, 116, 32, 98, 97, 114, 32, 98, 114, 97, 99, 101, 114, 105, 103, 104, 116, 32, 97, 115, 99, 105, 105, 116, 105, 108, 100, 101, 32, 45, 32, 65, 100, 105, 101, 114, 101, 115, 105, 115, 32, 65, 114, 105, 110, 103, 32, 67, 99, 101, 100, 105, 108, 108, 97, 32, 69, 97, 99, 117, 116, 101, 32, 78, 116, 105, 108, 100, 101, 32, 79, 100, 105, 101, 114, 101, 115, 105, 115, 32, 85, 100, 105, 101, 114, 101, 115, 105, 115, 32, 97, 97, 99, 117, 116, 101, 32, 97, 103, 114, 97, 118, 101, 32, 97, 99, 105, 114, 99, 117, 109, 102, 108, 101, 120, 32, 97, 100, 105, 101, 114, 101, 115, 105, 115, 32, 97, 116, 105, 108, 100, 101, 32, 97, 114, 105, 110, 103, 32, 99, 99, 101, 100, 105, 108, 108, 97, 32, 101, 97, 99, 117, 116, 101, 32, 101, 103, 114, 97, 118, 101, 32, 101, 99, 105, 114, 99, 117, 109, 102, 108, 101, 120, 32, 101, 100, 105, 101, 114, 101, 115, 105, 115, 32, 105, 97, 99, 117, 116, 101, 32, 105, 103, 114, 97, 118, 101, 32, 105, 99, 105, 114, 99, 117, 109, 102, 108, 101, 120, 32, 105, 100, 105, 101, 114, 101, 115, 105, 115, 32, 110, 116, 105, 108, 100, 101, 32, 111, 97, 99, 117, 116, 101, 32, 111, 103, 114, 97, 118, 101, 32, 111, 99, 105, 114, 99, 117, 109, 102, 108, 101, 120, 32, 111, 100, 105, 101, 114, 101, 115, 105, 115, 32, 111, 116, 105, 108, 100, 101, 32, 117, 97, 99, 117, 116, 101, 32, 117, 103, 114, 97, 118, 101, 32, 117, 99, 105, 114, 99, 117, 109, 102, 108, 101, 120, 32, 117, 100, 105, 101, 114, 101, 115, 105, 115, 32, 100, 97, 103, 103, 101, 114, 32, 100, 101, 103, 114, 101, 101, 32, 99, 101, 110, 116, 32, 115, 116, 101, 114, 108, 105, 110, 103, 32, 115, 101, 99, 116, 105, 111, 110, 32, 98, 117, 108, 108, 101, 116, 32, 112, 97, 114, 97, 103, 114, 97, 112, 104, 32, 103, 101, 114, 109, 97, 110, 100, 98, 108, 115, 32, 114, 101, 103, 105, 115, 116, 101, 114, 101, 100, 32, 99, 111, 112, 121, 114, 105, 103, 104, 116, 32, 116, 114, 97, 100, 101, 109, 97, 114, 107, 32, 97, 99, 117, 116, 101, 32, 100, 105, 101, 114, 101, 115, 105, 115, 32, 45, 32, 65, 69, 32, 79, 115, 108, 97, 115, 104, 32, 45, 32, 112, 108, 117, 115, 109, 105, 110, 117, 115, 32, 45, 32, 45, 32, 121, 101, 110, 32, 109, 117, 32, 45, 32, 45, 32, 45, 32, 45, 32, 45, 32, 111, 114, 100, 102, 101, 109, 105, 110, 105, 110, 101, 32, 111, 114, 100, 109, 97, 115, 99, 117, 108, 105, 110, 101, 32, 45, 32, 97, 101, 32, 111, 115, 108, 97, 115, 104, 32, 113, 117, 101, 115, 116, 105, 111, 110, 100, 111, 119, 110, 32, 101, 120, 99, 108, 97, 109, 100, 111, 119, 110, 32, 108, 111, 103, 105, 99, 97, 108, 110, 111, 116, 32, 45, 32, 102, 108, 111, 114, 105, 110, 32, 45, 32, 45, 32, 103, 117, 105, 108, 108, 101, 109, 111, 116, 108, 101, 102, 116, 32, 103, 117, 105, 108, 108, 101, 109, 111, 116, 114, 105, 103, 104, 116, 32, 101, 108, 108, 105, 112, 115, 105, 115, 32, 115, 112, 97, 99, 101, 32, 65, 103, 114, 97, 118, 101, 32, 65, 116, 105, 108, 100, 101, 32, 79, 116, 105, 108, 100, 101, 32, 79, 69, 32, 111, 101, 32, 101, 110, 100, 97, 115, 104, 32, 101, 109, 100, 97, 115, 104, 32, 113, 117, 111, 116, 101, 100, 98, 108, 108, 101, 102, 116, 32, 113, 117, 111, 116, 101, 100, 98, 108, 114, 105, 103, 104, 116, 32, 113, 117, 111, 116, 101, 108, 101, 102, 116, 32, 113, 117, 111, 116, 101, 114, 105, 103, 104, 116, 32, 100, 105, 118, 105, 100, 101, 32, 45, 32, 121, 100, 105, 101, 114, 101, 115, 105, 115, 32, 89, 100, 105, 101, 114, 101, 115, 105, 115, 32, 102, 114, 97, 99, 116, 105, 111, 110, 32, 99, 117, 114, 114, 101, 110, 99, 121, 32, 103, 117, 105, 108, 115, 105, 110, 103, 108, 108, 101, 102, 116, 32, 103, 117, 105, 108, 115, 105, 110, 103, 108, 114, 105, 103, 104, 116, 32, 102, 105, 32, 102, 108, 32, 100, 97, 103, 103, 101, 114, 100, 98, 108, 32, 112, 101, 114, 105, 111, 100, 99, 101, 110, 116, 101, 114, 101, 100, 32, 113, 117, 111, 116, 101, 115, 105, 110, 103, 108, 98, 97, 115, 101, 32, 113, 117, 111, 116, 101, 100, 98, 108, 98, 97, 115, 101, 32, 112, 101, 114, 116, 104, 111, 117, 115, 97, 110, 100, 32, 65, 99, 105, 114, 99, 117, 109, 102, 108, 101, 120, 32, 69, 99, 105, 114, 99, 117, 109, 102, 108, 101, 120, 32, 65, 97, 99, 117, 116, 101, 32, 69, 100, 105, 101, 114, 101, 115, 105, 115, 32, 69, 103, 114, 97, 118, 101, 32, 73, 97, 99, 117, 116, 101, 32, 73, 99, 105, 114, 99, 117, 109, 102, 108, 101, 120, 32, 73, 100, 105, 101, 114, 101, 115, 105, 115, 32, 73, 103, 114, 97, 118, 101, 32, 79, 97, 99, 117, 116, 101, 32, 79, 99, 105, 114, 99, 117, 109, 102, 108, 101, 120, 32, 45, 32, 79, 103, 114, 97, 118, 101, 32, 85, 97, 99, 117, 116, 101, 32, 85, 99, 105, 114, 99, 117, 109, 102, 108, 101, 120, 32, 85, 103, 114, 97, 118, 101, 32, 100, 111, 116, 108, 101, 115, 115, 105, 32, 99, 105, 114, 99, 117, 109, 102, 108, 101, 120, 32, 116, 105, 108, 100, 101, 32, 109, 97, 99, 114, 111, 110, 32, 98, 114, 101, 118, 101, 32, 100, 111, 116, 97, 99, 99, 101, 110, 116, 32, 114, 105, 110, 103, 32, 99, 101, 100, 105, 108, 108, 97, 32, 104, 117, 110, 103, 97, 114, 117, 109, 108, 97, 117, 116, 32, 111, 103, 111, 110, 101, 107, 32, 99, 97, 114, 111, 110, 32]⟩ : ByteArray)
end Go.Proofs.YtniehnkiicliaaaDoor.M
end
section
/- Laid by this session's program hbprint.py out of the translation: the function hornbook/hornbookref15.symbol and its contract. -/
namespace Go.Proofs.YtniehnkiicliaaaDoor.M
open Go.RowKit Go.Proofs.YtniehnkiicliaaaDoorW.PrintWords Go.Proofs.YtniehnkiicliaaaDoorW.PrintLast Go.Proofs.YtniehnkiicliaaaDoorW.PrintMore
attribute [local go_sem] max2_int min2_int max_two min_two max_three min_three max_four min_four
set_option linter.unusedVariables false
set_option linter.unusedSimpArgs false
def hornbookref15_symbol.f  : Option (ByteArray) := some (⟨#[115, 112, 97, 99, 101, 32, 101, 120, 99, 108, 97, 109, 32, 117, 110, 105, 118, 101, 114, 115, 97, 108, 32, 110, 117, 109, 98, 101, 114, 115, 105, 103, 110, 32, 101, 120, 105, 115, 116, 101, 110, 116, 105, 97, 108, 32, 112, 101, 114, 99, 101, 110, 116, 32, 97, 109, 112, 101, 114, 115, 97, 110, 100, 32, 115, 117, 99, 104, 116, 104, 97, 116, 32, 112, 97, 114, 101, 110, 108, 101, 102, 116, 32, 112, 97, 114, 101, 110, 114, 105, 103, 104, 116, 32, 97, 115, 116, 101, 114, 105, 115, 107, 109, 97, 116, 104, 32, 112, 108, 117, 115, 32, 99, 111, 109, 109, 97, 32, 109, 105, 110, 117, 115, 32, 112, 101, 114, 105, 111, 100, 32, 115, 108, 97, 115, 104, 32, 122, 101, 114, 111, 32, 111, 110, 101, 32, 116, 119, 111, 32, 116, 104, 114, 101, 101, 32, 102, 111, 117, 114, 32, 102, 105, 118, 101, 32, 115, 105, 120, 32, 115, 101, 118, 101, 110, 32, 101, 105, 103, 104, 116, 32, 110, 105, 110, 101, 32, 99, 111, 108, 111, 110, 32, 115, 101, 109, 105, 99, 111, 108, 111, 110, 32, 108, 101, 115, 115, 32, 101, 113, 117, 97, 108, 32, 103, 114, 101, 97, 116, 101, 114, 32, 113, 117, 101, 115, 116, 105, 111, 110, 32, 99, 111, 110, 103, 114, 117, 101, 110, 116, 32, 65, 108, 112, 104, 97, 32, 66, 101, 116, 97, 32, 67, 104, 105, 32, 68, 101, 108, 116, 97, 32, 69, 112, 115, 105, 108, 111, 110, 32, 80, 104, 105, 32, 71, 97, 109, 109, 97, 32, 69, 116, 97, 32, 73, 111, 116, 97, 32, 116, 104, 101, 116, 97, 49, 32, 75, 97, 112, 112, 97, 32, 76, 97, 109, 98, 100, 97, 32, 77, 117, 32, 78, 117, 32, 79, 109, 105, 99, 114, 111, 110, 32, 80, 105, 32, 84, 104, 101, 116, 97, 32, 82, 104, 111, 32, 83, 105, 103, 109, 97, 32, 84, 97, 117, 32, 85, 112, 115, 105, 108, 111, 110, 32, 115, 105, 103, 109, 97, 49, 32, 79, 109, 101, 103, 97, 32, 88, 105, 32, 80, 115, 105, 32, 90, 101, 116, 97, 32, 98, 114, 97, 99, 107, 101, 116, 108, 101, 102, 116, 32, 116, 104, 101, 114, 101, 102, 111, 114, 101, 32, 98, 114, 97, 99, 107, 101, 116, 114, 105, 103, 104, 116, 32, 112, 101, 114, 112, 101, 110, 100, 105, 99, 117, 108, 97, 114, 32, 117, 110, 100, 101, 114, 115, 99, 111, 114, 101, 32, 45, 32, 97, 108, 112, 104, 97, 32, 98, 101, 116, 97, 32, 99, 104, 105, 32, 100, 101, 108, 116, 97, 32, 101, 112, 115, 105, 108, 111, 110, 32, 112, 104, 105, 32, 103, 97, 109, 109, 97, 32, 101, 116, 97, 32, 105, 111, 116, 97, 32, 112, 104, 105, 49, 32, 107, 97, 112, 112, 97, 32, 108, 97, 109, 98, 100, 97, 32, 109, 117, 32, 110, 117, 32, 111, 109, 105, 99, 114, 111, 110, 32, 112, 105, 32, 116, 104, 101, 116, 97, 32, 114, 104, 111, 32, 115, 105, 103, 109, 97, 32, 116, 97, 117, 32, 117, 112, 115, 105, 108, 111, 110, 32, 111, 109, 101, 103, 97, 49, 32, 111, 109, 101, 103, 97, 32, 120, 105, 32, 112, 115, 105, 32, 122, 101, 116, 97, 32, 98, 114, 97, 99, 101, 108, 101, 102, 116, 32, 98, 97, 114, 32, 98, 114, 97, 99, 101, 114, 105, 103, 104, 116, 32, 115, 105, 109, 105, 108, 97, 114, 32, 45, 32, 45, 32, 45, 32, 45, 32, 45, 32, 45, 32, 45, 32, 45, 32, 45, 32, 45, 32, 45, 32, 45, 32, 45, 32, 45, 32, 45, 32, 45, 32, 45, 32, 45, 32, 45, 32, 45, 32, 45, 32, 45, 32, 45, 32, 45, 32, 45, 32, 45, 32, 45, 32, 45, 32, 45, 32, 45, 32, 45, 32, 45, 32, 45, 32, 69, 117, 114, 111, 32, 85, 112, 115, 105, 108, 111, 110, 49, 32, 109, 105, 110, 117, 116, 101, 32, 108, 101, 115, 115, 101, 113, 117, 97, 108, 32, 102, 114, 97, 99, 116, 105, 111, 110, 32, 105, 110, 102, 105, 110, 105, 116, 121, 32, 102, 108, 111, 114, 105, 110, 32, 99, 108, 117, 98, 32, 100, 105, 97, 109, 111, 110, 100, 32, 104, 101, 97, 114, 116, 32, 115, 112, 97, 100, 101, 32, 97, 114, 114, 111, 119, 98, 111, 116, 104, 32, 97, 114, 114, 111, 119, 108, 101, 102, 116, 32, 97, 114, 114, 111, 119, 117, 112, 32, 97, 114, 114, 111, 119, 114, 105, 103, 104, 116, 32, 97, 114, 114, 111, 119, 100, 111, 119, 110, 32, 100, 101, 103, 114, 101, 101, 32, 112, 108, 117, 115, 109, 105, 110, 117, 115, 32, 115, 101, 99, 111, 110, 100, 32, 103, 114, 101, 97, 116, 101, 114, 101, 113, 117, 97, 108, 32, 109, 117, 108, 116, 105, 112, 108, 121, 32, 112, 114, 111, 112, 111, 114, 116, 105, 111, 110, 97, 108, 32, 112, 97, 114, 116, 105, 97, 108, 100, 105, 102, 102, 32, 98, 117, 108, 108, 101, 116, 32, 100, 105, 118, 105, 100, 101, 32, 110, 111, 116, 101, 113, 117, 97, 108, 32, 101, 113, 117, 105, 118, 97, 108, 101, 110, 99, 101, 32, 97, 112, 112, 114, 111, 120, 101, 113, 117, 97, 108, 32, 101, 108, 108, 105, 112, 115, 105, 115, 32, 45, 32, 45, 32, 45, 32, 97, 108, 101, 112, 104, 32, 73, 102, 114, 97, 107, 116, 117, 114, 32, 82, 102, 114, 97, 107, 116, 117, 114, 32, 119, 101, 105, 101, 114, 115, 116, 114, 97, 115, 115, 32, 99, 105, 114, 99, 108, 101, 109, 117, 108, 116, 105, 112, 108, 121, 32, 99, 105, 114, 99, 108, 101, 112, 108, 117, 115, 32, 101, 109, 112, 116, 121, 115, 101, 116, 32, 105, 110, 116, 101, 114, 115, 101, 99, 116, 105, 111, 110, 32, 117, 110, 105, 111, 110, 32, 112, 114, 111, 112, 101, 114, 115, 117, 112, 101, 114, 115, 101, 116, 32, 114, 101, 102, 108, 101, 120, 115, 117, 112, 101, 114, 115, 101, 116, 32, 110, 111, 116, 115, 117, 98, 115, 101, 116, 32, 112, 114, 111, 112, 101, 114, 115, 117, 98, 115, 101, 116, 32, 114, 101, 102, 108, 101, 120, 115, 117, 98, 115, 101, 116, 32, 101, 108, 101, 109, 101, 110, 116, 32, 110, 111, 116, 101, 108, 101, 109, 101, 110, 116, 32, 97, 110, 103, 108, 101, 32, 103, 114, 97, 100, 105, 101, 110, 116, 32, 45, 32, 45, 32, 45, 32, 112, 114, 111, 100, 117, 99, 116, 32, 114, 97, 100, 105, 99, 97, 108, 32, 100, 111, 116, 109, 97, 116, 104, 32, 108, 111, 103, 105, 99, 97, 108, 110, 111, 116, 32, 108, 111, 103, 105, 99, 97, 108, 97, 110, 100, 32, 108, 111, 103, 105, 99, 97, 108, 111, 114, 32, 97, 114, 114, 111, 119, 100, 98, 108, 98, 111, 116, 104, 32, 97, 114, 114, 111, 119, 100, 98, 108, 108, 101, 102, 116, 32, 97, 114, 114, 111, 119, 100, 98, 108, 117, 112, 32, 97, 114, 114, 111, 119, 100, 98, 108, 114, 105, 103, 104, 116, 32, 97, 114, 114, 111, 119, 100, 98, 108, 100, 111, 119, 110, 32, 108, 111, 122, 101, 110, 103, 101, 32, 97, 110, 103, 108, 101, 108, 101, 102, 116, 32, 45, 32, 45, 32, 45, 32, 115, 117, 109, 109, 97, 116, 105, 111, 110, 32, 45, 32, 45, 32, 45, 32, 45, 32, 45, 32, 45, 32, 45, 32, 45, 32, 45, 32, 45, 32, 45, 32, 97, 110, 103, 108, 101, 114, 105, 103, 104, 116, 32, 105, 110, 116, 101, 103, 114, 97, 108, 32, 45, 32, 45, 32, 45, 32, 45, 32, 45, 32, 45, 32, 45, 32, 45, 32, 45, 32, 45, 32, 45, 32, 45, 32, 45, 32]⟩ : ByteArray)
end Go.Proofs.YtniehnkiicliaaaDoor.M
end
section
/- Laid by this session's program hbprint.py out of the translation: the function hornbook/hornbookref15.rows and its contract. -/
namespace Go.Proofs.YtniehnkiicliaaaDoor.M
open Go.RowKit Go.Proofs.YtniehnkiicliaaaDoorW.PrintWords Go.Proofs.YtniehnkiicliaaaDoorW.PrintLast Go.Proofs.YtniehnkiicliaaaDoorW.PrintMore
attribute [local go_sem] max2_int min2_int max_two min_two max_three min_three max_four min_four
set_option linter.unusedVariables false
set_option linter.unusedSimpArgs false
def hornbookref15_rows.f (a0 : Int) : Option (ByteArray) := if a0 = 0 then ((hornbookref15_standard.f).bind fun t176 => (some t176)) else (if a0 = 1 then ((hornbookref15_win.f).bind fun t177 => (some t177)) else (if a0 = 2 then ((hornbookref15_mac.f).bind fun t178 => (some t178)) else (if a0 = 3 then ((hornbookref15_symbol.f).bind fun t179 => (some t179)) else (some (⟨#[]⟩ : ByteArray)))))
end Go.Proofs.YtniehnkiicliaaaDoor.M
end
section
/- Laid by this session's program hbprint.py out of the translation: the function hornbook/hornbookref15.All and its contract. -/
namespace Go.Proofs.YtniehnkiicliaaaDoor.M
open Go.RowKit Go.Proofs.YtniehnkiicliaaaDoorW.PrintWords Go.Proofs.YtniehnkiicliaaaDoorW.PrintLast Go.Proofs.YtniehnkiicliaaaDoorW.PrintMore
attribute [local go_sem] max2_int min2_int max_two min_two max_three min_three max_four min_four
set_option linter.unusedVariables false
set_option linter.unusedSimpArgs false
def hornbookref15_All.l0 : Nat → List ByteArray → ByteArray → Int → Int → Option (List ByteArray)
  | 0, _, _, _, _ => none
  | k + 1, x3, x4, x5, x6 => if x6 < (x4.size : Int) then (if 0 ≤ x6 then (if (bt x4 x6) = 32 then (if 0 ≤ x5 then (if x5 ≤ x6 then (if x6 ≤ (x4.size : Int) then (if (x4.extract (x5 : Int).toNat (x6 : Int).toNat).toList = ([45] : List UInt8) then (if x3.length < 8796093022208 then (hornbookref15_All.l0 k (x3 ++ [(⟨#[]⟩ : ByteArray)]) x4 (wrap64 (x6 + 1)) (wrap64 (x6 + 1))) else (none)) else (if x3.length < 8796093022208 then (hornbookref15_All.l0 k (x3 ++ [x4.extract (x5 : Int).toNat (x6 : Int).toNat]) x4 (wrap64 (x6 + 1)) (wrap64 (x6 + 1))) else (none))) else (none)) else (none)) else (none)) else (hornbookref15_All.l0 k x3 x4 x5 (wrap64 (x6 + 1)))) else (none)) else (some x3)
def hornbookref15_All.f (k : Nat) (a0 : Int) : Option (List ByteArray) := (hornbookref15_Sane.f a0).bind fun t180 => (if t180 = true then (if 32 ≤ 17592186044416 then ((hornbookref15_rows.f a0).bind fun t184 => (hornbookref15_All.l0 k (List.replicate 32 (⟨#[]⟩ : ByteArray)) t184 0 0)) else (none)) else (some ([] : List ByteArray)))
end Go.Proofs.YtniehnkiicliaaaDoor.M
end
section
namespace Go.Proofs.YtniehnkiicliaaaDoor.M
open Go.RowKit Go.Proofs.YtniehnkiicliaaaDoorW.PrintWords
set_option linter.unusedVariables false
def rowsOf : List UInt8 → List UInt8 → List ByteArray
  | [], _ => []
  | c :: r, w => if c = 32 then (if w = [45] then ⟨#[]⟩ else ⟨w.toArray⟩) :: rowsOf r [] else rowsOf r (w ++ [c])
theorem take_one_more (L : List UInt8) (f i : Nat) (hf : f ≤ i) (hi : i < L.length) : (L.drop f).take (i + 1 - f) = (L.drop f).take (i - f) ++ [L[i]] := by
  have e : i + 1 - f = (i - f) + 1 := by omega
  rw [e, List.take_succ_eq_append_getElem (by rw [List.length_drop]; omega), List.getElem_drop]
  congr 2
  congr 1
  omega
theorem refAll_loop (s : ByteArray) (hs : s.size < 1099511627776) (d : Nat) : ∀ (i f k : Nat) (x3 : List ByteArray), s.size - i = d → f ≤ i → i ≤ s.size → d < k → x3.length + d < 8796093022208 →
    hornbookref15_All.l0 k x3 s f i = some (x3 ++ rowsOf (s.data.toList.drop i) ((s.data.toList.drop f).take (i - f))) := by
  induction d with
  | zero =>
    intro i f k x3 hd hf hi hk hx
    obtain ⟨k, rfl⟩ : ∃ m, k = m + 1 := ⟨k - 1, by omega⟩
    have : i = s.size := by omega
    subst this
    rw [hornbookref15_All.l0, if_neg (by omega), size_list, List.drop_length, rowsOf, List.append_nil]
  | succ d ih =>
    intro i f k x3 hd hf hi hk hx
    obtain ⟨k, rfl⟩ : ∃ m, k = m + 1 := ⟨k - 1, by omega⟩
    have hlt : i < s.size := by omega
    have hl : i < s.data.toList.length := by rw [← size_list]; exact hlt
    have hw : wrap64 ((i : Int) + 1) = ((i + 1 : Nat) : Int) := by rw [wrap_small (by omega) (by omega)]; omega
    rw [hornbookref15_All.l0, if_pos (by omega), if_pos (by omega), bt_get s i hlt, hw, List.drop_eq_getElem_cons hl, rowsOf]
    by_cases h32 : s.data.toList[i] = 32
    · rw [if_pos h32, if_pos (by rw [h32]; rfl), if_pos (by omega), if_pos (by omega), if_pos (by omega), Int.toNat_natCast, Int.toNat_natCast, ext_mid, ba_toList]
      have h1 := fun x : ByteArray => ih (i + 1) (i + 1) k (x3 ++ [x]) (by omega) (by omega) (by omega) (by omega) (by rw [List.length_append, List.length_singleton]; omega)
      rw [Nat.sub_self, List.take_zero] at h1
      by_cases hd1 : (s.data.toList.drop f).take (i - f) = [45]
      · rw [if_pos hd1, if_pos hd1, if_pos (by omega), h1, List.append_assoc]; rfl
      · rw [if_neg hd1, if_neg hd1, if_pos (by omega), h1, List.append_assoc]; rfl
    · have hn : ¬ ((s.data.toList[i].toNat : Int) = 32) := by
        intro e
        apply h32
        apply UInt8.toNat_inj.1
        show s.data.toList[i].toNat = 32
        omega
      rw [if_neg h32, if_neg hn, ih (i + 1) f k x3 (by omega) (by omega) (by omega) (by omega) (by omega), take_one_more _ _ _ hf hl]
/-- The document's names of an encoding that is there. -/
theorem refAll_eq (t : Int) (h0 : 0 ≤ t) (h1 : t < 4) (s : ByteArray) (hs : hornbookref15_rows.f t = some s) (hz : s.size < 1099511627776) {k : Nat} (hk : s.size < k) :
    hornbookref15_All.f k t = some (List.replicate 32 ⟨#[]⟩ ++ rowsOf s.data.toList []) := by
  unfold hornbookref15_All.f hornbookref15_Sane.f
  rw [if_pos h0, Option.bind_some, if_pos (decide_eq_true (by omega)), if_pos (by decide), hs, Option.bind_some]
  have := refAll_loop s hz s.size 0 0 k (List.replicate 32 ⟨#[]⟩) (by omega) (Nat.le_refl _) (by omega) hk (by rw [List.length_replicate]; omega)
  exact this
end Go.Proofs.YtniehnkiicliaaaDoor.M
end
section
namespace Go.Proofs.YtniehnkiicliaaaDoor.M
open Go.RowKit Go.Proofs.YtniehnkiicliaaaDoorW.PrintWords
set_option linter.unusedVariables false
def sameNames (t : Int) : Bool :=
  match encOf 500 t, hornbookref15_rows.f t with
  | some a, some s => decide (s.size < 2400) && decide (a.map (fun x : ByteArray => x.data.toList) = (List.replicate 32 (⟨#[]⟩ : ByteArray) ++ rowsOf s.data.toList []).map (fun x : ByteArray => x.data.toList)) && decide ((rdOf ByteArray.empty a 65).data.toList = if t = 3 then [65, 108, 112, 104, 97] else [65]) && decide (t = 2 → slices_Index_string_string.f 500 a ⟨#[65]⟩ = some 65)
  | _, _ => false
set_option maxRecDepth 100000 in
theorem sameNames_0 : sameNames 0 = true := by decide +kernel
set_option maxRecDepth 100000 in
theorem sameNames_1 : sameNames 1 = true := by decide +kernel
set_option maxRecDepth 100000 in
theorem sameNames_2 : sameNames 2 = true := by decide +kernel
set_option maxRecDepth 100000 in
theorem sameNames_3 : sameNames 3 = true := by decide +kernel
end Go.Proofs.YtniehnkiicliaaaDoor.M
end
section
namespace Go.Proofs.YtniehnkiicliaaaDoor.M
open Go.RowKit Go.Proofs.YtniehnkiicliaaaDoorW.PrintWords
set_option linter.unusedVariables false
theorem bytes_inj {a b : List ByteArray} (h : a.map (·.data.toList) = b.map (·.data.toList)) : a = b := by
  induction a generalizing b with
  | nil => cases b with
    | nil => rfl
    | cons y b => simp at h
  | cons x a ih => cases b with
    | nil => simp at h
    | cons y b =>
      simp only [List.map_cons, List.cons.injEq] at h
      rw [ih h.2]
      congr 1
      rcases x with ⟨⟨x⟩⟩
      rcases y with ⟨⟨y⟩⟩
      have := h.1
      simp at this
      rw [this]
/-- Of an encoding that is there: its 256 names, in the program and in the document. -/
theorem names_of (t : Int) (h0 : 0 ≤ t) (h1 : t < 4) : ∃ L : List ByteArray, L.length = 256 ∧ (∀ k, 2500 ≤ k → encOf k t = some L ∧ hornbookref15_All.f k t = some L) ∧
    ((rdOf ByteArray.empty L 65).data.toList = if t = 3 then [65, 108, 112, 104, 97] else [65]) ∧ (t = 2 → ∀ k, 2500 ≤ k → slices_Index_string_string.f k L ⟨#[65]⟩ = some 65) := by
  have h : sameNames t = true := by
    have : t = 0 ∨ t = 1 ∨ t = 2 ∨ t = 3 := by omega
    rcases this with rfl | rfl | rfl | rfl
    · exact sameNames_0
    · exact sameNames_1
    · exact sameNames_2
    · exact sameNames_3
  unfold sameNames at h
  split at h
  · rename_i a s ha hs
    simp only [Bool.and_eq_true, decide_eq_true_eq] at h
    obtain ⟨⟨⟨hz, e⟩, h65⟩, h2⟩ := h
    have e := bytes_inj e
    refine ⟨a, encOf_length ha, fun k hk => ⟨le_rounds (g := fun k => encOf k t) (fun k => encOf_mono t k) ha (by omega), ?_⟩, h65, fun ht k hk => le_rounds (g := fun k => slices_Index_string_string.f k a ⟨#[65]⟩) (fun k => slices_Index_string_string.mono _ _ k) (h2 ht) (by omega)⟩
    rw [refAll_eq t h0 h1 s hs (by omega) (by omega), e]
  · cases h
theorem awake15 {k : Nat} (hk : 2500 ≤ k) : hornbooklaw15_awake.f k = some true := by
  obtain ⟨L0, l0, e0, -, -⟩ := names_of 0 (by decide) (by decide)
  obtain ⟨L1, l1, e1, a1, -⟩ := names_of 1 (by decide) (by decide)
  obtain ⟨L2, l2, e2, a2, i2⟩ := names_of 2 (by decide) (by decide)
  obtain ⟨L3, l3, e3, a3, -⟩ := names_of 3 (by decide) (by decide)
  have a1' : (rdOf ByteArray.empty L1 65).toList = [65] := by rw [toList_data, a1]; rfl
  unfold hornbooklaw15_awake.f
  have c : enc_Code.f k 2 ⟨#[65]⟩ = some (65, true) := by
    unfold enc_Code.f enc_All.f
    rw [if_neg (by rw [toList_data]; decide), if_pos (by decide), (e2 k hk).1, Option.bind_some, i2 rfl k hk]
    rfl
  have n1 : enc_Name.f k 1 65 = some (rdOf ByteArray.empty L1 65) := by
    unfold enc_Name.f
    rw [if_pos (by decide), (e1 k hk).1]; rfl
  have n3 : enc_Name.f k 3 65 = some (rdOf ByteArray.empty L3 65) := by
    unfold enc_Name.f
    rw [if_pos (by decide), (e3 k hk).1]; rfl
  have all0 : enc_All.f k 0 = some L0 := by
    unfold enc_All.f
    rw [if_pos (by decide), (e0 k hk).1]
  have a3' : (rdOf ByteArray.empty L3 65).toList = [65, 108, 112, 104, 97] := by
    rw [toList_data, a3]; rfl
  rw [c, Option.bind_some, n1, Option.bind_some, if_pos a1', n3, Option.bind_some, if_pos a3', if_pos rfl, if_pos rfl, all0, Option.bind_some, if_pos (by rw [l0]; rfl), sane_yes (by decide) (by decide)]
  rfl
end Go.Proofs.YtniehnkiicliaaaDoor.M
end
section
namespace Go.Proofs.YtniehnkiicliaaaDoor.M
open Go.RowKit Go.Proofs.YtniehnkiicliaaaDoorW.PrintWords
set_option linter.unusedVariables false
def firstIn (n : List UInt8) : List ByteArray → Nat → Int
  | [], _ => -1
  | x :: r, i => if x.toList = n then (i : Int) else firstIn n r (i + 1)
def firstFrom (n : ByteArray) (L : List ByteArray) (i : Nat) : Int := firstIn n.toList (L.drop i) i
theorem firstFrom_end (n : ByteArray) (L : List ByteArray) (i : Nat) (h : L.length ≤ i) : firstFrom n L i = -1 := by
  unfold firstFrom
  rw [List.drop_eq_nil_of_le h, firstIn]
theorem rdOf_get (L : List ByteArray) (i : Nat) (h : i < L.length) : rdOf ByteArray.empty L (i : Int) = L[i] := by
  unfold rdOf
  rw [Int.toNat_natCast, List.getD_eq_getElem?_getD, List.getElem?_eq_getElem h, Option.getD_some]
theorem firstFrom_hit (n : ByteArray) (L : List ByteArray) (i : Nat) (h : i < L.length) (e : (rdOf ByteArray.empty L (i : Int)).toList = n.toList) : firstFrom n L i = i := by
  unfold firstFrom
  rw [List.drop_eq_getElem_cons h, firstIn, if_pos (by rw [← rdOf_get L i h]; exact e)]
theorem firstFrom_miss (n : ByteArray) (L : List ByteArray) (i : Nat) (h : i < L.length) (e : ¬ (rdOf ByteArray.empty L (i : Int)).toList = n.toList) : firstFrom n L i = firstFrom n L (i + 1) := by
  unfold firstFrom
  rw [List.drop_eq_getElem_cons h, firstIn, if_neg (by rw [← rdOf_get L i h]; exact e)]
theorem index_loop (n : ByteArray) (L : List ByteArray) (hL : L.length ≤ 1000000) (d : Nat) : ∀ (i k : Nat), L.length - i = d → i ≤ L.length → d < k →
    slices_Index_string_string.l0 k L n L.length i = some (firstFrom n L i) := by
  induction d with
  | zero =>
    intro i k hd hi hk
    obtain ⟨k, rfl⟩ : ∃ m, k = m + 1 := ⟨k - 1, by omega⟩
    rw [slices_Index_string_string.l0, if_neg (by omega), firstFrom_end n L i (by omega)]
  | succ d ih =>
    intro i k hd hi hk
    obtain ⟨k, rfl⟩ : ∃ m, k = m + 1 := ⟨k - 1, by omega⟩
    have hlt : i < L.length := by omega
    have hw : wrap64 ((i : Int) + 1) = ((i + 1 : Nat) : Int) := by rw [wrap_small (by omega) (by omega)]; omega
    rw [slices_Index_string_string.l0, if_pos (by omega), if_pos (by omega), if_pos (by omega), hw]
    by_cases he : (rdOf ByteArray.empty L (i : Int)).toList = n.toList
    · rw [if_pos he.symm, firstFrom_hit n L i hlt he]
    · rw [if_neg (fun e => he e.symm), firstFrom_miss n L i hlt he, ih (i + 1) k (by omega) (by omega) (by omega)]
theorem index_eq (n : ByteArray) (L : List ByteArray) (hL : L.length ≤ 1000000) {k : Nat} (hk : L.length < k) : slices_Index_string_string.f k L n = some (firstFrom n L 0) := by
  unfold slices_Index_string_string.f
  exact index_loop n L hL L.length 0 k (by omega) (by omega) hk
end Go.Proofs.YtniehnkiicliaaaDoor.M
end
section
namespace Go.Proofs.YtniehnkiicliaaaDoor.M
open Go.RowKit Go.Proofs.YtniehnkiicliaaaDoorW.PrintWords
set_option linter.unusedVariables false
def nameIn (F : List ByteArray) (n : ByteArray) : Bool := n.data.toList.isEmpty || (nameOk n && match findF (n.data.toList ++ [61]) (rawF F) with
  | some h => (glyph_values.f ⟨h.toArray⟩).isSome
  | none => false)
/-- Where the name of an ASCII value stands in an encoding. -/
def asciiAt (t : Int) (L F : List ByteArray) (i : Nat) : Bool :=
  let b := backIn (32 + i) F
  let c := firstIn b.1.data.toList L 0
  b.2 && (if t = 0 ∧ (i = 7 ∨ i = 64) then decide (c > 126) else decide (t = 3) || decide (c = 32 + i))
def encGood (t : Int) (L F : List ByteArray) : Bool := (L.take 32).all (fun n => n.data.toList.isEmpty) && L.all (nameIn F) && (List.range 95).all (asciiAt t L F)
def encGlyph (t : Int) : Bool := match encOf 500 t, fieldsK 500 with
  | some L, some p => encGood t L p.2
  | _, _ => false
set_option maxRecDepth 100000 in
theorem encGlyph_0 : encGlyph 0 = true := by decide +kernel
set_option maxRecDepth 100000 in
theorem encGlyph_1 : encGlyph 1 = true := by decide +kernel
set_option maxRecDepth 100000 in
theorem encGlyph_2 : encGlyph 2 = true := by decide +kernel
set_option maxRecDepth 100000 in
theorem encGlyph_3 : encGlyph 3 = true := by decide +kernel
end Go.Proofs.YtniehnkiicliaaaDoor.M
end
section
/- Laid by this session's program hbprint.py out of the translation: the function hornbook/hornbooklaw15.EncAll and its contract. -/
namespace Go.Proofs.YtniehnkiicliaaaDoor.M
open Go.RowKit Go.Proofs.YtniehnkiicliaaaDoorW.PrintWords Go.Proofs.YtniehnkiicliaaaDoorW.PrintLast Go.Proofs.YtniehnkiicliaaaDoorW.PrintMore
attribute [local go_sem] max2_int min2_int max_two min_two max_three min_three max_four min_four
set_option linter.unusedVariables false
set_option linter.unusedSimpArgs false
end Go.Proofs.YtniehnkiicliaaaDoor.M
end
section
/- Laid by this session's program hbprint.py out of the translation: the function hornbook/hornbookref15.Code and its contract. -/
namespace Go.Proofs.YtniehnkiicliaaaDoor.M
open Go.RowKit Go.Proofs.YtniehnkiicliaaaDoorW.PrintWords Go.Proofs.YtniehnkiicliaaaDoorW.PrintLast Go.Proofs.YtniehnkiicliaaaDoorW.PrintMore
attribute [local go_sem] max2_int min2_int max_two min_two max_three min_three max_four min_four
set_option linter.unusedVariables false
set_option linter.unusedSimpArgs false
end Go.Proofs.YtniehnkiicliaaaDoor.M
end
section
/- Laid by this session's program hbprint.py out of the translation: the function hornbook/hornbookref15.Name and its contract. -/
namespace Go.Proofs.YtniehnkiicliaaaDoor.M
open Go.RowKit Go.Proofs.YtniehnkiicliaaaDoorW.PrintWords Go.Proofs.YtniehnkiicliaaaDoorW.PrintLast Go.Proofs.YtniehnkiicliaaaDoorW.PrintMore
attribute [local go_sem] max2_int min2_int max_two min_two max_three min_three max_four min_four
set_option linter.unusedVariables false
set_option linter.unusedSimpArgs false
end Go.Proofs.YtniehnkiicliaaaDoor.M
end
section
/- Laid by this session's program hbprint.py out of the translation: the function hornbook/hornbookref15.Same and its contract. -/
namespace Go.Proofs.YtniehnkiicliaaaDoor.M
open Go.RowKit Go.Proofs.YtniehnkiicliaaaDoorW.PrintWords Go.Proofs.YtniehnkiicliaaaDoorW.PrintLast Go.Proofs.YtniehnkiicliaaaDoorW.PrintMore
attribute [local go_sem] max2_int min2_int max_two min_two max_three min_three max_four min_four
set_option linter.unusedVariables false
set_option linter.unusedSimpArgs false
end Go.Proofs.YtniehnkiicliaaaDoor.M
end
section
/- Laid by this session's program hbprint.py out of the translation: the function hornbook/hornbooklaw15.EncIs and its contract. -/
namespace Go.Proofs.YtniehnkiicliaaaDoor.M
open Go.RowKit Go.Proofs.YtniehnkiicliaaaDoorW.PrintWords Go.Proofs.YtniehnkiicliaaaDoorW.PrintLast Go.Proofs.YtniehnkiicliaaaDoorW.PrintMore
attribute [local go_sem] max2_int min2_int max_two min_two max_three min_three max_four min_four
set_option linter.unusedVariables false
set_option linter.unusedSimpArgs false
end Go.Proofs.YtniehnkiicliaaaDoor.M
end
section
namespace Go.Proofs.YtniehnkiicliaaaDoor.M
open Go.RowKit Go.Proofs.YtniehnkiicliaaaDoorW.PrintWords
set_option linter.unusedVariables false
/-- A name's byte, and whether there is one. -/
def codeOf (n : ByteArray) (L : List ByteArray) : Int × Bool := if n.toList = [] then (0, false) else if 0 ≤ firstFrom n L 0 then (firstFrom n L 0, true) else (0, false)
theorem code_eq (n : ByteArray) (L : List ByteArray) (hL : L.length ≤ 1000000) {k : Nat} (hk : L.length < k) {t : Int} (hA : enc_All.f k t = some L) : enc_Code.f k t n = some (codeOf n L) := by
  unfold enc_Code.f codeOf
  by_cases hn : n.toList = []
  · rw [if_pos hn, if_pos hn]
  · rw [if_neg hn, if_neg hn, hA, Option.bind_some, index_eq n L hL hk, Option.bind_some]
    by_cases h0 : 0 ≤ firstFrom n L 0
    · rw [if_pos h0, decide_eq_true h0]
      unfold mx
      rw [if_neg (by omega)]
    · rw [if_neg h0, decide_eq_false h0]
      unfold mx
      rw [if_pos (by omega)]
end Go.Proofs.YtniehnkiicliaaaDoor.M
end
section
namespace Go.Proofs.YtniehnkiicliaaaDoor.M
open Go.RowKit Go.Proofs.YtniehnkiicliaaaDoorW.PrintWords
set_option linter.unusedVariables false
theorem enc_in {T : ByteArray} {F : List ByteArray} (hK : fieldsK 500 = some (T, F)) (t : Int) (h0 : 0 ≤ t) (h1 : t < 4) : ∃ L : List ByteArray, L.length = 256 ∧ (∀ k, 500 ≤ k → encOf k t = some L) ∧ encGood t L F = true := by
  have h : encGlyph t = true := by
    have : t = 0 ∨ t = 1 ∨ t = 2 ∨ t = 3 := by omega
    rcases this with rfl | rfl | rfl | rfl
    · exact encGlyph_0
    · exact encGlyph_1
    · exact encGlyph_2
    · exact encGlyph_3
  unfold encGlyph at h
  rw [hK] at h
  cases hL : encOf 500 t with
  | none => rw [hL] at h; cases h
  | some L =>
    rw [hL] at h
    exact ⟨L, encOf_length hL, fun k hk => le_rounds (g := fun k => encOf k t) (fun k => encOf_mono t k) hL hk, h⟩
end Go.Proofs.YtniehnkiicliaaaDoor.M
end
section
namespace Go.Proofs.YtniehnkiicliaaaDoor.M
open Go.RowKit Go.Proofs.YtniehnkiicliaaaDoorW.PrintWords
set_option linter.unusedVariables false
theorem code_ascii {T : ByteArray} {F : List ByteArray} (hG : Glyphs T F) {t : Int} {L : List ByteArray} (h0 : 0 ≤ t) (h1 : t < 3) (hl : L.length = 256) {k : Nat} (hk : 500 ≤ k) (hL : encOf k t = some L) (hg : encGood t L F = true) (i : Nat) (hi : i < 95) :
    (backIn (32 + i) F).2 = true ∧ ∃ c : Int, enc_Code.f k t (backIn (32 + i) F).1 = some (c, true) ∧ (if t = 0 ∧ (i = 7 ∨ i = 64) then c > 126 else c = 32 + i) := by
  simp only [encGood, Bool.and_eq_true] at hg
  have ha := List.all_eq_true.1 hg.2 i (List.mem_range.2 hi)
  unfold asciiAt at ha
  simp only [Bool.and_eq_true] at ha
  obtain ⟨hb, hc⟩ := ha
  refine ⟨hb, ?_⟩
  rcases backIn_cases (32 + i) F with ⟨f, hf, e1, e2⟩ | ⟨e1, -⟩
  case inr => rw [e1] at hb; cases hb
  rw [e1] at hc ⊢
  have hn := (name_facts (OkF.of (hG.ok f hf)).name).2.1
  have hA : enc_All.f k t = some L := by unfold enc_All.f; rw [if_pos ⟨h0, by omega⟩, hL]
  have hc' : (if t = 0 ∧ (i = 7 ∨ i = 64) then firstFrom (nmF f) L 0 > 126 else firstFrom (nmF f) L 0 = 32 + i) := by
    have e : firstIn (nmF f).data.toList L 0 = firstFrom (nmF f) L 0 := by unfold firstFrom; rw [List.drop_zero, toList_data]
    simp only [e] at hc
    split at hc
    · rename_i h; rw [if_pos h]; simpa using hc
    · rename_i h; rw [if_neg h]
      simp only [Bool.or_eq_true, decide_eq_true_eq] at hc
      rcases hc with hc | hc
      · omega
      · exact hc
  have hp : 0 ≤ firstFrom (nmF f) L 0 := by
    split at hc' <;> omega
  refine ⟨firstFrom (nmF f) L 0, ?_, hc'⟩
  show enc_Code.f k t (nmF f) = _
  rw [code_eq (nmF f) L (by omega) (by omega) hA]
  unfold codeOf
  rw [if_neg hn, if_pos hp]
theorem EncAscii : hornbooklaw15_EncAscii.Pure := by
  intro a0 _
  obtain ⟨T, F, hT, hF, hG, hK⟩ := glyphs_are
  refine ⟨2500, ?_⟩
  have hm : Go.bits .and .i64 a0 65535 = a0 % 65536 := and_mask a0 16 (by decide) 65535 (by decide)
  obtain ⟨i, hi, hx⟩ : ∃ i : Nat, i < 95 ∧ wrap64 (32 + Int.tmod (Go.bits .and .i64 a0 65535) 95) = 32 + (i : Int) := by
    rw [hm, Int.tmod_eq_emod_of_nonneg (by omega)]
    refine ⟨(a0 % 65536 % 95).toNat, by omega, ?_⟩
    rw [wrap_small (by omega) (by omega)]
    omega
  unfold hornbooklaw15_EncAscii.f
  rw [hx, awake15 (Nat.le_refl _), Option.bind_some, back_eq hG (by decide) (hT 2500 (by decide)) hF, Option.bind_some]
  obtain ⟨L0, l0, e0, g0⟩ := enc_in hK 0 (by decide) (by decide)
  obtain ⟨L1, l1, e1, g1⟩ := enc_in hK 1 (by decide) (by decide)
  obtain ⟨L2, l2, e2, g2⟩ := enc_in hK 2 (by decide) (by decide)
  obtain ⟨hb, c0, q0, r0⟩ := code_ascii hG (by decide) (by decide) l0 (k := 2500) (by decide) (e0 2500 (by decide)) g0 i hi
  obtain ⟨-, c1, q1, r1⟩ := code_ascii hG (by decide) (by decide) l1 (k := 2500) (by decide) (e1 2500 (by decide)) g1 i hi
  obtain ⟨-, c2, q2, r2⟩ := code_ascii hG (by decide) (by decide) l2 (k := 2500) (by decide) (e2 2500 (by decide)) g2 i hi
  rw [if_neg (by omega)] at r1 r2
  rw [q1, Option.bind_some, q2, Option.bind_some, q0, Option.bind_some, if_pos rfl, if_pos hb, if_pos rfl, if_pos r1, if_pos rfl, if_pos r2]
  by_cases h7 : (32 + (i : Int)) = 39
  · rw [if_pos h7, if_pos rfl]
    rw [if_pos ⟨rfl, by omega⟩] at r0
    simp [r0]
  · rw [if_neg h7]
    by_cases h64 : (32 + (i : Int)) = 96
    · rw [if_pos h64, if_pos rfl]
      rw [if_pos ⟨rfl, by omega⟩] at r0
      simp [r0]
    · rw [if_neg h64, if_pos rfl]
      rw [if_neg (by omega)] at r0
      rw [if_pos r0]
end Go.Proofs.YtniehnkiicliaaaDoor.M
end
section
/- Three encodings have all of ASCII: Win and Mac each value by its own byte, Standard all but two by theirs; for every number. -/
namespace Go.Proofs.YtniehnkiicliaaaDoor.encAscii
open Go Go.ChangeShapes Go.WideShapes Go.ChangeAt Go.RowKit
open Go.ChangeMaps (open_string shut_string)
set_option linter.unusedVariables false
theorem own : ownKnob Tryd.prog.godebug = none := by kernel_rfl
set_option maxRecDepth 100000 in
theorem lifted (os : Os) (started : os.Started) (H : Type) (enc : TypeId × Value → H) :
    ReturnsInHanded {} Tryd.checked os 10 .any (fun w args => (Rows.encAsciiSpec.pre enc Tryd.prog Tryd.f10 Rows.encAsciiRow.domain false w args ∧ laidMetH Tryd.prog Rows.encAsciiRow.laid w) ∧ sizedMet enc Tryd.prog Tryd.f10 (OpenSpec.ofChange Rows.encAsciiSpec) false w args)
      (Rows.encAsciiSpec.post enc Tryd.prog Tryd.f10 false true false false) := by
  refine M.returns_both (C := Tryd.checked) (X := fun w _ => laidMetH Tryd.prog Rows.encAsciiRow.laid w) (fun _ _ _ hh h => h.of_heap hh) own started (by kernel_rfl) Tryd.func10
    (ChangeSpec.witness_shaped (enc := enc) (C := Tryd.checked) (os := os) (X := fun w _ => laidMetH Tryd.prog Rows.encAsciiRow.laid w) false (World.laidAll Tryd.prog os Rows.encAsciiRow.laid) #[.int .i64 0] 8 (World.laidAll_os _ _ _)
      (World.shaped_of_ZipB (by kernel_rfl) (by kernel_rfl)) (by kernel_rfl) (by kernel_rfl) (by kernel_rfl)
      (by rw [MakeChecks.laidMetH_plain _ _ _ (by kernel_rfl)]; exact laidMet_laidAll _ (by kernel_rfl) (by kernel_rfl))) ?_
  intro W base args ds gs before hval0 hW hcnd hsz0 hL hshape
  have hsz : (DataW.weightsEach Tryd.prog (Tryd.f10.params.toList ++ Rows.encAsciiSpec.plain.varTypes Tryd.prog) (ds ++ gs)).all (· ≤ reachBytes) = true := hsz0
  have hval : ∀ (j : Nat) t v, Tryd.f10.params[j]? = some t → args[j]? = some v → Value.okWide Tryd.prog W .any base t v := hval0
  have hLp := hL
  rw [MakeChecks.laidMetH_plain _ _ _ (by kernel_rfl)] at hLp
  have hG : M.GW W := M.GW.of_mets (hLp.tail.tail.tail.tail) (hLp.tail.tail.tail.tail.tail) (hLp.tail.tail.tail.tail.tail.tail.tail) hshape
  have hW' := hW
  obtain ⟨p, q, hA0, hV, rfl, hfz, hnd⟩ := hW
  have hA : DataW.TrodAll enc Tryd.prog W 0 (fun _ => true) true Tryd.f10.params.toList args.toList ds p := hA0
  rw [Tryd.params10] at hA hval hsz
  obtain ⟨v0, vs0, d0, ds0, p0, q0, hargs, rfl, rfl, h0, r0⟩ := trodAll_cons hA
  obtain ⟨rfl, rfl, rfl⟩ := trodAll_nil r0
  obtain rfl : args = #[v0] := by cases args; simp_all
  obtain ⟨rfl, rfl⟩ := trodVars_none hV
  obtain ⟨a0, rfl, rfl, rfl, w0⟩ := open_int Tryd.underlying3 (hval 0 3 v0 rfl rfl) h0
  clear hA0 hval0 hsz0 hsz
  refine (M.hornbooklaw15_EncAscii.walk M.EncAscii a0 W w0 hG).mono fun e W' ⟨he, bel⟩ => ?_
  subst he
  exact ⟨_, rfl, _, _, _, [], _, [], hW', trodAll_mk1 (shut_bool Tryd.underlying4 _), (trodAll_cons_mk (shut_int Tryd.underlying3 w0) trodAll_mk0), rfl, bel.frame _, fun h => by cases h⟩
theorem over : Rows.encAsciiRow.holds Tryd.pinned (OpenSpec.ofChange Rows.encAsciiSpec) :=
  OpenClaim.holds_of_wide 10 Tryd.f10 rfl rfl rfl rfl rfl rfl rfl ⟨rfl, rfl, rfl, rfl, rfl⟩ rfl rfl rfl rfl rfl (by kernel_rfl) Tryd.func10 (by kernel_rfl)
    (of_decide_eq_true (by kernel_rfl)) (by unfold Func.isWrapper; first | (rw [if_pos (by decide +kernel)]; kernel_rfl) | (rw [if_neg (by decide +kernel)]; exact ⟨rfl, rfl⟩))
    (fun os started H enc _ => lifted os started H enc)
theorem proved : Rows.EncAsciiSaid := over
theorem card : Rows.EncAsciiCardSaid :=
  Claim7.holds_tied_plain_at .later [] [.data, .data, .data, .data, .sentinel, .sentinel, .listed, .data, .pinned] true (true, "5f9ff1a42316a4d4725f9c01a666ae2751b9b31bcc55bdfc676b0087572aa2e8") true
    proved (fun _ h => by cases h) (by kernel_rfl) (fun _ h => by cases h) encAscii_row_tie rfl ⟨rfl, rfl⟩ (by kernel_rfl) rfl
    (fun f fn hf hfn => by
      obtain rfl : f = 10 := Option.some.inj ((show Tryd.prog.funcNamed "hornbook/hornbooklaw15.EncAscii" = some 10 by kernel_rfl).symm.trans hf) |>.symm
      obtain rfl : fn = Tryd.f10 := (Option.some.inj (Tryd.func10.symm.trans hfn)).symm
      exact ⟨by kernel_rfl, fun j t ht => by
        rw [Tryd.params10] at ht
        have hm : t ∈ [3] := by simpa using Array.mem_of_getElem? ht
        have hall : ([3].all fun u => !Tryd.prog.wantsStandIn u) = true := by kernel_rfl
        exact (show Tryd.prog.wantsStandIn t = false by simpa using List.all_eq_true.1 hall t hm)⟩)
    (by kernel_rfl)
end Go.Proofs.YtniehnkiicliaaaDoor.encAscii
namespace Go.Proofs.YtniehnkiicliaaaDoor
/-- The statement, under a short name, for the claim. -/
theorem encAscii_holds : Rows.EncAsciiCardSaid := encAscii.card
#print axioms encAscii_holds
end Go.Proofs.YtniehnkiicliaaaDoor
end
