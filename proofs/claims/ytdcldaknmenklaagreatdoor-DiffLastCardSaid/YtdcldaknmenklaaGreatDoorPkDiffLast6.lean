/- For every tag, row of entries, byte and name, what DiffLast says holds: the last entry of a byte counts. -/
/- Packed by this session's program hbpack.py out of this claim's own texts (Dc, PureDiffLast, Op, LawDiffLast): the same declarations, without those that the claim does not use. -/
import Derived.Test.YtdcldaknmenklaaGreatDoorPkDiffLast5
import Derived.Deep.Strs
import Derived.SizedLaws
import Derived.WalkKit
import Derived.ProofKit
import Derived.OpenShut
import Derived.ShutString
import Derived.ChangeOld
import Derived.Below
import Derived.LaidMore
import Derived.Lay
import Derived.Stop.Joined
import Derived.SevenTiedAt
import Derived.Test.YtdcldaknmenklaaGreatDoorRows
import Derived.Test.YtdcldaknmenklaaGreatDoorCards
import Derived.Test.YtdcldaknmenklaaGreatDoorTie
section
namespace Go.Proofs.YtdcldaknmenklaaGreatDoor.M
open Go.RowKit Go.Proofs.YtdcldaknmenklaaGreatDoorW.PrintWords
set_option linter.unusedVariables false
def encThere (t : Int) : Bool := match encOf 500 t with
  | some a => decide (t = 1 → (rdOf ByteArray.empty a 67).data.toList = [67])
  | none => false
set_option maxRecDepth 100000 in
theorem encThere_0 : encThere 0 = true := by decide +kernel
set_option maxRecDepth 100000 in
theorem encThere_1 : encThere 1 = true := by decide +kernel
set_option maxRecDepth 100000 in
theorem encThere_2 : encThere 2 = true := by decide +kernel
set_option maxRecDepth 100000 in
theorem encThere_3 : encThere 3 = true := by decide +kernel
theorem enc_there (t : Int) (h0 : 0 ≤ t) (h1 : t < 4) : ∃ L : List ByteArray, L.length = 256 ∧ (∀ k, 500 ≤ k → enc_All.f k t = some L) ∧ (t = 1 → (rdOf ByteArray.empty L 67).data.toList = [67]) := by
  have h : encThere t = true := by
    have : t = 0 ∨ t = 1 ∨ t = 2 ∨ t = 3 := by omega
    rcases this with rfl | rfl | rfl | rfl
    · exact encThere_0
    · exact encThere_1
    · exact encThere_2
    · exact encThere_3
  unfold encThere at h
  split at h
  · rename_i a ha
    refine ⟨a, encOf_length ha, fun k hk => ?_, fun e => of_decide_eq_true h e⟩
    unfold enc_All.f
    rw [if_pos ⟨h0, h1⟩]
    exact le_rounds (g := fun k => encOf k t) (fun k => encOf_mono t k) ha hk
  · cases h
/-- What is made of entries over an encoding. -/
theorem make_eq (t : Int) (h0 : 0 ≤ t) (h1 : t < 4) : ∃ L : List ByteArray, L.length = 256 ∧ (∀ k, 500 ≤ k → ∀ l : List S32, l.length ≤ 1000000 → diff_Make.f k t l = some (applyOut (runG (L, -1) 0 (l.map enOf)))) ∧ (t = 1 → (rdOf ByteArray.empty L 67).data.toList = [67]) := by
  obtain ⟨L, hL, he, hc⟩ := enc_there t h0 h1
  refine ⟨L, hL, fun k hk l hl => ?_, hc⟩
  unfold diff_Make.f diff_Apply.f
  rw [he k hk, Option.bind_some, if_pos hL, if_pos hl, Option.bind_some]
theorem make_none (t : Int) (h : ¬ (0 ≤ t ∧ t < 4)) (k : Nat) (l : List S32) : diff_Make.f k t l = some ([], 0, 11) := by
  unfold diff_Make.f diff_Apply.f enc_All.f
  rw [if_neg h, Option.bind_some, if_neg (by decide), Option.bind_some]
theorem applyOut_ok (s : St) : applyOut (.ok s) = (s.1, 0, 0) := rfl
theorem applyOut_err (p : Nat) (e : Int) : applyOut (.error (p, e)) = ([], (p : Int), e) := rfl
def enL (x : S32) : Bool × Int × List UInt8 := (x.f0, x.f1, x.f2.data.toList)
def exE : List S32 := [⟨true, 65, ⟨#[]⟩⟩, ⟨false, 0, ⟨#[66]⟩⟩, ⟨false, 0, ⟨#[67]⟩⟩, ⟨true, 97, ⟨#[]⟩⟩, ⟨false, 0, ⟨#[97]⟩⟩]
theorem enL_inj {a b : List S32} (h : a.map enL = b.map enL) : a = b := by
  have e : ∀ l : List S32, (l.map enL).map (fun y => (⟨y.1, y.2.1, ⟨y.2.2.toArray⟩⟩ : S32)) = l := by
    intro l
    rw [List.map_map]
    conv => rhs; rw [← List.map_id l]
    exact List.map_congr_left fun x _ => by rcases x with ⟨a, b, ⟨c⟩⟩; rfl
  rw [← e a, ← e b, h]
def exB : ByteArray := ⟨#[91, 32, 54, 53, 32, 47, 66, 32, 47, 67, 32, 57, 55, 32, 47, 97, 32, 93]⟩
def exParse : Bool := match diff_Parse.f 400 exB with
  | some r => decide (r.1.map enL = exE.map enL) && decide (r.2 = (18, 0))
  | none => false
def exText : Bool := match diff_Text.f exE with
  | some r => decide (r.data.toList = exB.data.toList)
  | none => false
set_option maxRecDepth 100000 in
theorem exParse_ok : exParse = true := by decide +kernel
set_option maxRecDepth 100000 in
theorem exText_ok : exText = true := by decide +kernel
theorem ex_parse {k : Nat} (hk : 400 ≤ k) : diff_Parse.f k exB = some (exE, 18, 0) := by
  have h := exParse_ok
  unfold exParse at h
  split at h
  · rename_i r hr
    simp only [Bool.and_eq_true, decide_eq_true_eq] at h
    refine le_rounds (g := fun k => diff_Parse.f k exB) (fun k => diff_Parse.mono _ k) ?_ hk
    show diff_Parse.f 400 exB = _
    rw [hr]
    rcases r with ⟨r1, r2⟩
    have h1 : r1 = exE := enL_inj h.1
    have h2 : r2 = (18, 0) := h.2
    rw [h1, h2]
  · cases h
theorem ex_text : ∃ r, diff_Text.f exE = some r ∧ r.data.toList = exB.data.toList := by
  have h := exText_ok
  unfold exText at h
  split at h
  · rename_i r hr
    exact ⟨r, hr, of_decide_eq_true h⟩
  · cases h
theorem awake17 {k : Nat} (hk : 500 ≤ k) : hornbooklaw17_awake.f k = some true := by
  unfold hornbooklaw17_awake.f
  obtain ⟨L, hL, hm, hc⟩ := make_eq 1 (by decide) (by decide)
  obtain ⟨r, hr, hr2⟩ := ex_text
  have hp := ex_parse (k := k) (by omega)
  unfold exB at hp
  rw [hp, Option.bind_some, hm k hk exE (by decide), Option.bind_some]
  have hrun : runG (L, -1) 0 (exE.map enOf) = .ok (((L.set 65 ⟨#[66]⟩).set 66 ⟨#[67]⟩).set 97 ⟨#[97]⟩, 98) := by
    simp [exE, enOf, runG, stepG]
  have hc2 : (rdOf ByteArray.empty L 67).toList = [67] := by rw [toList_data, hc rfl]
  have hlen : (((L.set 65 ⟨#[66]⟩).set 66 ⟨#[67]⟩).set 97 ⟨#[97]⟩).length = 256 := by simp [hL]
  have g65 : rdOf ByteArray.empty (((L.set 65 ⟨#[66]⟩).set 66 ⟨#[67]⟩).set 97 ⟨#[97]⟩) 65 = ⟨#[66]⟩ := by
    unfold rdOf
    rw [show (65 : Int).toNat = 65 from rfl, List.getD_eq_getElem?_getD, List.getElem?_set_ne (by decide), List.getElem?_set_ne (by decide), List.getElem?_set_self (by omega)]
    rfl
  have g66 : rdOf ByteArray.empty (((L.set 65 ⟨#[66]⟩).set 66 ⟨#[67]⟩).set 97 ⟨#[97]⟩) 66 = ⟨#[67]⟩ := by
    unfold rdOf
    rw [show (66 : Int).toNat = 66 from rfl, List.getD_eq_getElem?_getD, List.getElem?_set_ne (by decide), List.getElem?_set_self (by rw [List.length_set]; omega)]
    rfl
  have g67 : rdOf ByteArray.empty (((L.set 65 ⟨#[66]⟩).set 66 ⟨#[67]⟩).set 97 ⟨#[97]⟩) 67 = rdOf ByteArray.empty L 67 := by
    unfold rdOf
    rw [show (67 : Int).toNat = 67 from rfl, List.getD_eq_getElem?_getD, List.getElem?_set_ne (by decide), List.getElem?_set_ne (by decide), List.getElem?_set_ne (by decide), List.getD_eq_getElem?_getD]
  rw [hrun, applyOut_ok]
  dsimp only
  rw [if_pos rfl, if_pos rfl, if_pos rfl, hlen, if_pos (show ((256 : Nat) : Int) = 256 from rfl), if_pos (by decide), g65, if_pos (by rw [toList_data]), if_pos (by decide), g66, if_pos (by rw [toList_data]), if_pos (by decide), g67, if_pos hc2, hr, Option.bind_some, toList_data, hr2]
  rfl
end Go.Proofs.YtdcldaknmenklaaGreatDoor.M
end
section
namespace Go.Proofs.YtdcldaknmenklaaGreatDoor.M
open Go.RowKit Go.Proofs.YtdcldaknmenklaaGreatDoorW.PrintWords
set_option linter.unusedVariables false
theorem last_loop (L : List ByteArray) (hL : L.length = 256) (K : Nat) (hK : K < 256) (x : ByteArray) (d : Nat) : ∀ (i k : Nat), 256 - i = d → i ≤ 256 → d < k → hornbooklaw17_DiffLast.l0 k true L (K : Int) (L.set K x) (i : Int) = some true := by
  induction d with
  | zero =>
    intro i k hd hi hk
    obtain ⟨k, rfl⟩ : ∃ m, k = m + 1 := ⟨k - 1, by omega⟩
    rw [hornbooklaw17_DiffLast.l0, if_neg (by omega)]
  | succ d ih =>
    intro i k hd hi hk
    obtain ⟨k, rfl⟩ : ∃ m, k = m + 1 := ⟨k - 1, by omega⟩
    have hn := ih (i + 1) k (by omega) (by omega) (by omega)
    rw [show (((i + 1 : Nat) : Int)) = (i : Int) + 1 by omega] at hn
    rw [hornbooklaw17_DiffLast.l0, if_pos (by omega), wrap_small (by omega) (by omega), hn]
    by_cases he : (i : Int) = (K : Int)
    · rw [if_pos he]
    · have hne : K ≠ i := by omega
      have hg : rdOf ByteArray.empty (L.set K x) (i : Int) = rdOf ByteArray.empty L (i : Int) := by
        unfold rdOf
        rw [Int.toNat_natCast, List.getD_eq_getElem?_getD, List.getElem?_set_ne hne, List.getD_eq_getElem?_getD]
      rw [if_neg he, if_pos (by omega), if_pos (by omega), if_pos (by rw [List.length_set]; omega), hg, if_pos rfl]
theorem DiffLast : hornbooklaw17_DiffLast.Pure := by
  intro t l c name _ _ _ _ _ _
  refine ⟨4000, ?_⟩
  unfold hornbooklaw17_DiffLast.f
  obtain ⟨b, hb, hb2⟩ := few_eq l (k := 4000) (by decide)
  have hend : hornbooklaw17_DiffLast.j0 4000 t l c name true true = some true := by rw [hornbooklaw17_DiffLast.j0, if_pos rfl]
  rw [awake17 (by decide), Option.bind_some, hb, Option.bind_some]
  cases b with
  | false => rw [if_neg (by decide)]; exact hend
  | true =>
    obtain ⟨hl, -⟩ := hb2 rfl
    rw [if_pos rfl]
    cases hc : decide ((name.size : Int) > 100) with
    | true => exact hend
    | false =>
      have hA := ours_eq l (k := 3999) (by omega) (by omega)
      have hm : Go.bits .and .i64 c 255 = c % 256 := and_mask c 8 (by decide) 255 (by decide)
      obtain ⟨K, hK, hK2⟩ : ∃ K : Nat, c % 256 = (K : Int) ∧ K < 256 := ⟨(c % 256).toNat, by omega, by omega⟩
      have hlen : (l.map toE).length = l.length := List.length_map _
      rw [hornbooklaw17_DiffLast.j0, if_neg (by decide), hA, Option.bind_some, hm, hK]
      by_cases hs : 0 ≤ t ∧ t < 4
      · obtain ⟨L, hL, hmk, -⟩ := make_eq t hs.1 hs.2
        have hB := hmk 3999 (by decide) (l.map toE ++ [(⟨true, (K : Int), ⟨#[]⟩⟩ : S32), ⟨false, 0, name⟩]) (by rw [List.length_append, hlen]; simp; omega)
        rw [List.map_append, runG_app] at hB
        rw [hmk 3999 (by decide) _ (by omega), Option.bind_some, Option.bind_some, Option.bind_some, if_pos (by rw [hlen]; simp; omega)]
        cases hr : runG (L, -1) 0 ((l.map toE).map enOf) with
        | error pe =>
          obtain ⟨p, e⟩ := pe
          obtain ⟨j, rfl, hj, he, -, -, -⟩ := runG_err _ _ _ _ _ hr
          have he2 : e ≠ 0 := by rcases he with rfl | rfl <;> decide
          rw [hr] at hB
          dsimp only at hB
          rw [applyOut_err] at hB ⊢
          rw [hB, Option.bind_some]
          dsimp only
          rw [if_neg he2, if_pos rfl, if_pos rfl, if_pos (show (([] : List ByteArray).length : Int) = 0 from rfl)]
          rfl
        | ok s =>
          have hsz : s.1.length = 256 := (runG_size _ _ _ _ hr).trans hL
          have h2 : ∀ n, runG s n ([(⟨true, (K : Int), ⟨#[]⟩⟩ : S32), ⟨false, 0, name⟩].map enOf) = .ok (s.1.set K name, (K : Int) + 1) := by
            intro n
            have e1 : stepG s (true, (K : Int), ⟨#[]⟩) = .ok (s.1, (K : Int)) := by
              unfold stepG
              rw [if_pos rfl]
              dsimp only
              rw [if_neg (by omega)]
            have e2 : stepG (s.1, (K : Int)) (false, 0, name) = .ok (s.1.set K name, (K : Int) + 1) := by
              unfold stepG
              rw [if_neg (by simp)]
              dsimp only
              rw [if_neg (by omega), if_neg (by omega), Int.toNat_natCast]
            rw [List.map_cons, List.map_cons, List.map_nil]
            show runG s n [(true, (K : Int), ⟨#[]⟩), (false, 0, name)] = _
            rw [runG, e1]
            dsimp only
            rw [runG, e2]
            dsimp only
            rw [runG]
          have hlast := last_loop s.1 hsz K hK2 name 256 0 3998 rfl (by omega) (by omega)
          rw [hr] at hB
          dsimp only at hB
          rw [h2, applyOut_ok] at hB
          rw [applyOut_ok, hB, Option.bind_some]
          dsimp only
          have hk : rdOf ByteArray.empty (s.1.set K name) (K : Int) = name := by
            unfold rdOf
            rw [Int.toNat_natCast, List.getD_eq_getElem?_getD, List.getElem?_set_self (by omega)]
            rfl
          rw [if_pos rfl, if_pos rfl, if_pos rfl, if_pos (by omega), if_pos (by rw [List.length_set]; omega), if_pos (by omega), if_pos (by rw [List.length_set]; omega), hk, hornbooklaw17_DiffLast.j1, if_neg (by simp)]
          exact hlast
      · rw [make_none t hs, Option.bind_some, Option.bind_some, Option.bind_some, if_pos (by rw [hlen]; simp; omega), make_none t hs, Option.bind_some]
        dsimp only
        rw [if_neg (by decide), if_pos rfl, if_pos rfl, if_pos (show (([] : List ByteArray).length : Int) = 0 from rfl)]
        rfl
end Go.Proofs.YtdcldaknmenklaaGreatDoor.M
end
section
namespace Go.Proofs.YtdcldaknmenklaaGreatDoor.M
open Go Go.ChangeShapes Go.WideShapes Go.RowKit Go.Proofs.YtdcldaknmenklaaGreatDoorW.PrintWords
set_option linter.unusedVariables false
theorem weights_all {H : Type} {P : Program} {e : TypeId} {l : List (DataW H)} {y : DataW H} (hy : y ∈ l) {q : Nat} (hq : q ∈ DataW.weights P e y) : q ∈ DataW.weightsAll P e l := by
  induction l with
  | nil => cases hy
  | cons z r ih =>
    rw [DataW.weightsAll, List.mem_append]
    rcases List.mem_cons.1 hy with rfl | h
    · exact .inl hq
    · exact .inr (ih h)
section
variable {H α : Type} {enc : TypeId × Value → H} {P : Program} {W : World} {base : Nat} {spare : Nat → Bool} {held : Bool} {t e : TypeId}
/-- A slice's one cell, opened: its elements by their kind. -/
theorem open_cells (d : Kd α) (Q : α → Prop) (hu : P.underlying t = some (.slice e)) (hc : P.cellsOf e = d.sz)
    (he : ∀ n cs y, DataW.trod enc P W base spare held n e cs = some y → (∀ q ∈ DataW.weights P e y.1, q ≤ reachBytes) → ∃ x : α, d.K W x cs ∧ Q x)
    {n : Nat} {cs : List Value} {y : DataW H × List MemPlace} (h : DataW.trod enc P W base spare held n t cs = some y) (hw : ∀ q ∈ DataW.weights P t y.1, q ≤ reachBytes) :
    ∃ (a : Option Addr) (len cap : Nat) (l : List α), cs = [.slice a len cap] ∧ l.length = len ∧ l.length ≤ cap ∧ l.length ≤ maxLen ∧ d.C W a l.length l ∧ l.length * P.bytesOf e ≤ reachBytes ∧ ∀ x ∈ l, Q x := by
  rcases Go.Deep.open_slice hu h with ⟨rfl, rfl⟩ | ⟨a, len, cap, m, n', D, Pl, rfl, hb, hl, hm, hmm, rfl, hx⟩
  · exact ⟨none, 0, 0, [], rfl, rfl, Nat.le_refl _, Nat.zero_le _, Kd.C_nil _ _, by simp, fun x h => by cases h⟩
  have hle : len ≤ m := by
    rw [hmm]
    split <;> omega
  have hws : ∀ i, i < len → ∀ q ∈ DataW.weights P e (D i), q ≤ reachBytes := by
    intro i hi q hq
    refine hw q ?_
    show q ∈ DataW.weights P t (DataW.slice _ _)
    rw [DataW.weights, hu]
    exact List.mem_cons_of_mem _ (List.mem_append_left _ (weights_all (List.mem_map.2 ⟨i, List.mem_range.2 hi, rfl⟩) hq))
  have each : ∀ i, i < len → ∃ x : α, (∃ cs', W.cells? base (a.add (i * P.cellsOf e)) (P.cellsOf e) = some cs' ∧ d.K W x cs') ∧ Q x := by
    intro i hi
    obtain ⟨cs', h1, h2⟩ := hx i (Nat.lt_of_lt_of_le hi hle)
    obtain ⟨x, h3, h4⟩ := he _ _ _ h2 (hws i hi)
    exact ⟨x, ⟨cs', h1, h3⟩, h4⟩
  have build : ∀ k, k ≤ len → ∃ l : List α, l.length = k ∧ ∀ i x, l[i]? = some x → (∃ cs', W.cells? base (a.add (i * P.cellsOf e)) (P.cellsOf e) = some cs' ∧ d.K W x cs') ∧ Q x := by
    intro k
    induction k with
    | zero => exact fun _ => ⟨[], rfl, fun i x h => by simp at h⟩
    | succ k ih =>
      intro hk
      obtain ⟨l, hl1, hl2⟩ := ih (by omega)
      obtain ⟨x, hx1⟩ := each k (by omega)
      refine ⟨l ++ [x], by simp [hl1], fun i z hz => ?_⟩
      rcases Nat.lt_or_ge i l.length with h0 | h0
      · rw [List.getElem?_append_left h0] at hz
        exact hl2 i z hz
      · rw [List.getElem?_append_right h0] at hz
        have h1 : i - l.length < 1 := by
          have := (List.getElem?_eq_some_iff.1 hz).1
          simpa using this
        have h2 : i = k := by omega
        subst h2
        have h3 : x = z := by
          rw [show i - l.length = 0 by omega] at hz
          simpa using hz
        subst h3
        exact hx1
  obtain ⟨l, hl1, hl2⟩ := build len (Nat.le_refl _)
  subst hl1
  refine ⟨some a, l.length, cap, l, rfl, rfl, hl, Nat.le_trans hl hm, ⟨rfl, Nat.le_trans (Nat.le_trans hl hm) (by decide), fun _ => ⟨a, rfl, fun j p hj => ?_⟩⟩, ?_, fun x hx' => ?_⟩
  · obtain ⟨⟨cs', h1, h2⟩, _⟩ := hl2 j p hj
    rw [hc] at h1
    obtain ⟨_, h3, h4⟩ := World.cells?_some h1
    refine ⟨cs', h3, h2, fun i u hi => ?_⟩
    have h5 : i < d.sz := by
      have := (List.getElem?_eq_some_iff.1 hi).1
      omega
    rw [← Go.Deep.add_add, h4 i h5, hi]
  · refine Nat.le_trans ?_ (hw ((((List.range l.length).map D).length + ((List.range (m - l.length)).map fun j => D (l.length + j)).length) * P.bytesOf e) ?_)
    · refine Nat.mul_le_mul_right _ ?_
      simp
    · show _ ∈ DataW.weights P t (DataW.slice _ _)
      rw [DataW.weights, hu]
      exact List.mem_cons_self
  · obtain ⟨i, hi⟩ := List.getElem?_of_mem hx'
    exact (hl2 i x hi).2
/-- .. as an argument of a law. -/
theorem open_rows (d : Kd α) (Q : α → Prop) {a : Option Addr} {len cap : Nat} {dt : DataW H} {ps : List MemPlace} {ts : List TypeId} {ds : List (DataW H)} {j : Nat}
    (hsz : (DataW.weightsEach P ts ds).all (· ≤ reachBytes) = true) (ht : ts[j]? = some t) (hd : ds[j]? = some dt) (hu : P.underlying t = some (.slice e)) (hc : P.cellsOf e = d.sz) {B : Nat} (hB : P.bytesOf e = B)
    (he : ∀ n cs y, DataW.trod enc P W base spare held n e cs = some y → (∀ q ∈ DataW.weights P e y.1, q ≤ reachBytes) → ∃ x : α, d.K W x cs ∧ Q x)
    (h : DataW.Trod enc P W base spare held t (.slice a len cap) dt ps) :
    ∃ l : List α, l.length = len ∧ l.length ≤ cap ∧ l.length ≤ maxLen ∧ d.C W a l.length l ∧ l.length * B ≤ 140737488351232 ∧ ∀ x ∈ l, Q x := by
  obtain ⟨fuel, hf⟩ := h
  obtain ⟨a', len', cap', l, hcs, h1, h2, h3, h4, h5, h6⟩ := open_cells d Q hu hc he hf (fun q hq => by
    have := List.all_eq_true.1 hsz _ (DataW.weights_mem_each ht hd q hq)
    simpa using this)
  simp [Value.cells] at hcs
  obtain ⟨rfl, rfl, rfl⟩ := hcs
  rw [hB] at h5
  exact ⟨l, h1, h2, h3, h4, h5, h6⟩
theorem el_string (he : P.underlying e = some .string) : ∀ n cs (y : DataW H × List MemPlace), DataW.trod enc P W base spare held n e cs = some y → (∀ q ∈ DataW.weights P e y.1, q ≤ reachBytes) → ∃ x : ByteArray, Kd.string.K W x cs ∧ x.size ≤ 140737488351232 := by
  intro n cs y h hw
  obtain ⟨s, rfl, rfl, hs⟩ := DataW.trod_string he h
  refine ⟨s, rfl, ?_⟩
  have := hw s.data.toList.length (by simp [DataW.weights])
  rwa [data_length] at this
theorem el_int {k : IntKind} (he : P.underlying e = some (.int k)) : ∀ n cs (y : DataW H × List MemPlace), DataW.trod enc P W base spare held n e cs = some y → (∀ q ∈ DataW.weights P e y.1, q ≤ reachBytes) → ∃ x : Int, (Kd.int k).K W x cs ∧ (Lit.int k x).wf = true := by
  intro n cs y h hw
  obtain ⟨s, rfl, rfl, hs⟩ := DataW.trod_int he h
  exact ⟨s, rfl, hs⟩
theorem el_bool (he : P.underlying e = some .bool) : ∀ n cs (y : DataW H × List MemPlace), DataW.trod enc P W base spare held n e cs = some y → (∀ q ∈ DataW.weights P e y.1, q ≤ reachBytes) → ∃ x : Bool, Kd.bool.K W x cs ∧ True := by
  intro n cs y h hw
  obtain ⟨s, rfl, rfl⟩ := DataW.trod_bool he h
  exact ⟨s, rfl, trivial⟩
/-- A struct: fields are opened one by one; a field's cells and weights. -/
theorem struct_len {fs : Array Field} {n : Nat} {cs : List Value} {y : DataW H × List MemPlace} (ht : P.underlying t = some (.struct fs)) (h : DataW.trod enc P W base spare held n t cs = some y) {c : Nat} (hc : P.cellsOf t = c) : cs.length = c := by
  obtain ⟨xs, n', _, rfl, hl, hlen, hf⟩ := DataW.trod_struct ht h
  rw [hl, hc]
theorem struct_field {fs : Array Field} {n : Nat} {cs : List Value} {y : DataW H × List MemPlace} (ht : P.underlying t = some (.struct fs)) (h : DataW.trod enc P W base spare held n t cs = some y) (hw : ∀ q ∈ DataW.weights P t y.1, q ≤ reachBytes)
    (i : Nat) (f : Field) (hi : fs[i]? = some f) (ft : TypeId) (o s : Nat) (hft : f.type = ft) (ho : f.offset = o) (hs : P.cellsOf ft = s) :
    ∃ n' y', DataW.trod enc P W base spare held n' ft ((cs.drop o).take s) = some y' ∧ ∀ q ∈ DataW.weights P ft y'.1, q ≤ reachBytes := by
  obtain ⟨xs, n', _, rfl, hl, hlen, hf⟩ := DataW.trod_struct ht h
  have h1 := hf i f hi
  have h2 : i < xs.length := by
    rw [hlen]
    exact (Array.getElem?_eq_some_iff.1 hi).1
  rw [List.getElem?_eq_getElem h2, hft, ho, hs] at h1
  refine ⟨n', _, h1, fun q hq => hw q ?_⟩
  show q ∈ DataW.weights P t (DataW.agg _)
  rw [DataW.weights, ht]
  refine DataW.weights_mem_each (j := i) (t := ft) (d := xs[i].1) ?_ ?_ q hq
  · rw [List.getElem?_map, Array.getElem?_toList, hi]
    exact congrArg some hft
  · rw [List.getElem?_map, List.getElem?_eq_getElem h2]
    rfl
end
end Go.Proofs.YtdcldaknmenklaaGreatDoor.M
end
section
/- For every tag, row of entries, byte and name, what DiffLast says holds: the last entry of a byte counts. -/
namespace Go.Proofs.YtdcldaknmenklaaGreatDoor.diffLast
open Go Go.ChangeShapes Go.WideShapes Go.ChangeAt Go.RowKit
open Go.ChangeMaps (open_string shut_string)
set_option linter.unusedVariables false
open Go.Proofs.YtdcldaknmenklaaGreatDoorW.PrintWords
theorem own : ownKnob Tryz.prog.godebug = none := by kernel_rfl
theorem laidOut : laidOutB Tryz.prog = true := by kernel_rfl
theorem el_S34 {H : Type} {enc : TypeId × Value → H} {W : World} {base : Nat} {spare : Nat → Bool} {held : Bool} : ∀ n cs (y : DataW H × List MemPlace), DataW.trod enc Tryz.prog W base spare held n 34 cs = some y → (∀ q ∈ DataW.weights Tryz.prog 34 y.1, q ≤ reachBytes) → ∃ x : M.S34, M.k34.K W x cs ∧ (True ∧ (Lit.int .i64 x.f1).wf = true ∧ x.f2.size ≤ 140737488351232) := by
  intro n cs y h hw
  have hl := M.struct_len Tryz.underlying34 h (c := 3) (by kernel_rfl)
  obtain ⟨n0, y0, h0, w0⟩ := M.struct_field Tryz.underlying34 h hw 0 _ rfl 4 0 1 rfl rfl (by kernel_rfl)
  obtain ⟨x0, kx0, q0⟩ := (M.el_bool Tryz.underlying4) _ _ _ h0 w0
  obtain ⟨n1, y1, h1, w1⟩ := M.struct_field Tryz.underlying34 h hw 1 _ rfl 3 1 1 rfl rfl (by kernel_rfl)
  obtain ⟨x1, kx1, q1⟩ := (M.el_int Tryz.underlying3) _ _ _ h1 w1
  obtain ⟨n2, y2, h2, w2⟩ := M.struct_field Tryz.underlying34 h hw 2 _ rfl 9 2 1 rfl rfl (by kernel_rfl)
  obtain ⟨x2, kx2, q2⟩ := (M.el_string Tryz.underlying9) _ _ _ h2 w2
  have hcs : cs = (cs.drop 0).take 1 ++ ((cs.drop 1).take 1 ++ ((cs.drop 2).take 1)) := by
    match cs, hl with
    | [c0, c1, c2], _ => rfl
  exact ⟨⟨x0, x1, x2⟩, ⟨_, _, hcs, kx0, _, _, rfl, kx1, kx2⟩, q0, q1, q2⟩
set_option maxRecDepth 100000 in
theorem lifted (os : Os) (started : os.Started) (H : Type) (enc : TypeId × Value → H) :
    ReturnsInHanded {} Tryz.checked os 3 .any (fun w args => (Rows.diffLastSpec.pre enc Tryz.prog Tryz.f3 Rows.diffLastRow.domain false w args ∧ laidMetH Tryz.prog Rows.diffLastRow.laid w) ∧ sizedMet enc Tryz.prog Tryz.f3 (OpenSpec.ofChange Rows.diffLastSpec) false w args)
      (Rows.diffLastSpec.post enc Tryz.prog Tryz.f3 false true false false) := by
  refine M.returns_both (C := Tryz.checked) (X := fun w _ => laidMetH Tryz.prog Rows.diffLastRow.laid w) (fun _ _ _ hh h => h.of_heap hh) own started (by kernel_rfl) Tryz.func3
    (ChangeSpec.witness_shaped (enc := enc) (C := Tryz.checked) (os := os) (X := fun w _ => laidMetH Tryz.prog Rows.diffLastRow.laid w) false (World.laidAll Tryz.prog os Rows.diffLastRow.laid) #[.int .i64 0, .slice none 0 0, .int .i64 0, .string ByteArray.empty] 8 (World.laidAll_os _ _ _)
      (World.shaped_of_ZipB (by kernel_rfl) (by kernel_rfl)) (by kernel_rfl) (by kernel_rfl) (by kernel_rfl)
      (by rw [MakeChecks.laidMetH_plain _ _ _ (by kernel_rfl)]; exact laidMet_laidAll _ (by kernel_rfl) (by kernel_rfl))) ?_
  intro W base args ds gs before hval0 hW hcnd hsz0 hL hshape
  have hsz : (DataW.weightsEach Tryz.prog (Tryz.f3.params.toList ++ Rows.diffLastSpec.plain.varTypes Tryz.prog) (ds ++ gs)).all (· ≤ reachBytes) = true := hsz0
  have hval : ∀ (j : Nat) t v, Tryz.f3.params[j]? = some t → args[j]? = some v → Value.okWide Tryz.prog W .any base t v := hval0
  have hLp := hL
  rw [MakeChecks.laidMetH_plain _ _ _ (by kernel_rfl)] at hLp
  have hG : M.GW W := M.GW.of_mets (hLp.tail.tail.tail.tail) (hLp.tail.tail.tail.tail.tail) (hLp.tail.tail.tail.tail.tail.tail.tail) (hLp.tail.tail) hshape
  have hW' := hW
  obtain ⟨p, q, hA0, hV, rfl, hfz, hnd⟩ := hW
  have hA : DataW.TrodAll enc Tryz.prog W 0 (fun _ => true) true Tryz.f3.params.toList args.toList ds p := hA0
  rw [Tryz.params3] at hA hval hsz
  obtain ⟨v0, vs0, d0, ds0, p0, q0, hargs, rfl, rfl, h0, r0⟩ := trodAll_cons hA
  obtain ⟨v1, vs1, d1, ds1, p1, q1, rfl, rfl, rfl, h1, r1⟩ := trodAll_cons r0
  obtain ⟨v2, vs2, d2, ds2, p2, q2, rfl, rfl, rfl, h2, r2⟩ := trodAll_cons r1
  obtain ⟨v3, vs3, d3, ds3, p3, q3, rfl, rfl, rfl, h3, r3⟩ := trodAll_cons r2
  obtain ⟨rfl, rfl, rfl⟩ := trodAll_nil r3
  obtain rfl : args = #[v0, v1, v2, v3] := by cases args; simp_all
  obtain ⟨rfl, rfl⟩ := trodVars_none hV
  obtain ⟨a0, rfl, rfl, rfl, w0⟩ := open_int Tryz.underlying3 (hval 0 3 v0 rfl rfl) h0
  obtain ⟨a1, len1, cap1, rfl⟩ := okWide_slice Tryz.underlying22 (hval 1 22 v1 rfl rfl)
  have k1 := h1
  have lt1 : ∀ x ∈ p1, x.block < W.heap.size := by obtain ⟨m, hm⟩ := k1; exact DataW.trod_lt m _ _ _ hm
  obtain ⟨l1, el1, hc1, w1, hr1, y1, q1⟩ := M.open_rows M.k34 (fun z => (True ∧ (Lit.int .i64 z.f1).wf = true ∧ z.f2.size ≤ 140737488351232)) hsz (j := 1) (t := 22) rfl rfl Tryz.underlying22 (by kernel_rfl) (B := 32) (by kernel_rfl) el_S34 h1
  subst el1
  obtain ⟨a2, rfl, rfl, rfl, w2⟩ := open_int Tryz.underlying3 (hval 2 3 v2 rfl rfl) h2
  obtain ⟨a3, rfl, rfl, rfl, y3⟩ := open_string Tryz.underlying9 (hval 3 9 v3 rfl rfl) h3
  have w3 : a3.size ≤ 140737488351232 := by
    have z := sized_string hsz (j := 3) (t := 9) rfl rfl
    rw [Array.length_toList] at z
    exact z
  clear hA0 hval0 hsz0 hsz
  refine (M.hornbooklaw17_DiffLast.walk M.DiffLast a0 a1 cap1 l1 a2 a3 W w0 hr1 hc1 w1 y1 q1 w2 w3 hG).mono fun e W' ⟨he, bel⟩ => ?_
  subst he
  exact ⟨_, rfl, _, _, _, [], _, [], hW', trodAll_mk1 (shut_bool Tryz.underlying4 _), (trodAll_cons_mk (shut_int Tryz.underlying3 w0) (trodAll_cons_mk (Below.trod laidOut (by kernel_rfl) (of_decide_eq_true (by kernel_rfl)) k1 bel lt1) (trodAll_cons_mk (shut_int Tryz.underlying3 w2) (trodAll_cons_mk (shut_string Tryz.underlying9 y3) trodAll_mk0)))), rfl, bel.frame _, fun h => by cases h⟩
theorem over : Rows.diffLastRow.holds Tryz.pinned (OpenSpec.ofChange Rows.diffLastSpec) :=
  OpenClaim.holds_of_wide 3 Tryz.f3 rfl rfl rfl rfl rfl rfl rfl ⟨rfl, rfl, rfl, rfl, rfl⟩ rfl rfl rfl rfl rfl (by kernel_rfl) Tryz.func3 (by kernel_rfl)
    (of_decide_eq_true (by kernel_rfl)) (by unfold Func.isWrapper; first | (rw [if_pos (by decide +kernel)]; kernel_rfl) | (rw [if_neg (by decide +kernel)]; exact ⟨rfl, rfl⟩))
    (fun os started H enc _ => lifted os started H enc)
theorem proved : Rows.DiffLastSaid := over
theorem card : Rows.DiffLastCardSaid :=
  Claim7.holds_tied_plain_at .later [] [.data, .data, .data, .data, .sentinel, .sentinel, .listed, .data, .pinned] true (true, "0afd4bafc3317950a78f067166de83fbf789a8e3cacd5b6c49203b0034216e5a") true
    proved (fun _ h => by cases h) (by kernel_rfl) (fun _ h => by cases h) diffLast_row_tie rfl ⟨rfl, rfl⟩ (by kernel_rfl) rfl
    (fun f fn hf hfn => by
      obtain rfl : f = 3 := Option.some.inj ((show Tryz.prog.funcNamed "hornbook/hornbooklaw17.DiffLast" = some 3 by kernel_rfl).symm.trans hf) |>.symm
      obtain rfl : fn = Tryz.f3 := (Option.some.inj (Tryz.func3.symm.trans hfn)).symm
      exact ⟨by kernel_rfl, fun j t ht => by
        rw [Tryz.params3] at ht
        have hm : t ∈ [3, 22, 3, 9] := by simpa using Array.mem_of_getElem? ht
        have hall : ([3, 22, 3, 9].all fun u => !Tryz.prog.wantsStandIn u) = true := by kernel_rfl
        exact (show Tryz.prog.wantsStandIn t = false by simpa using List.all_eq_true.1 hall t hm)⟩)
    (by kernel_rfl)
end Go.Proofs.YtdcldaknmenklaaGreatDoor.diffLast
namespace Go.Proofs.YtdcldaknmenklaaGreatDoor
/-- The statement, under a short name, for the claim. -/
theorem diffLast_holds : Rows.DiffLastCardSaid := diffLast.card
#print axioms diffLast_holds
end Go.Proofs.YtdcldaknmenklaaGreatDoor
end
