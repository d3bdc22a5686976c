/- lex.Int reads a text's number of 32 bits: for every string, in a world where strconv.ErrRange holds its error. -/
import Derived.Test.YtaolcbklpdodaaaDoorIs
import Derived.Test.YtaolcbklpdodaaaDoorPl
import Derived.Test.YtaolcbklpdodaaaDoorSh
namespace Go.Proofs.YtaolcbklpdodaaaDoor.M
open Go.RowKit Go.Proofs.YtaolcbklpdodaaaDoorW.PrintWords
set_option linter.unusedVariables false
/-- A text's number, and the error's number: 3 no number, 4 too great. -/
def lexInt (l : List UInt8) : Int × Int := if wholeB l then (match Lib.parseIntB 32 l with | .ok v => (v, 0) | _ => (0, 4)) else (0, 3)
def lex_Int.f (a0 : ByteArray) : Option (Int × Int) := if a0.size ≤ 281474976710656 then some (lexInt a0.data.toList) else none
/-- Neither a number nor one that is too great. -/
def badNum {α : Type} : Lib.NumEnd α → Bool
  | .ok _ => false
  | .range => false
  | _ => true
theorem parseUintM_digits (M : Nat) : ∀ (l : List UInt8) (acc : Nat), l.all isDigB = true → badNum (Lib.parseUintM M acc l) = false
  | [], acc, _ => by simp [Lib.parseUintM, badNum]
  | c :: r, acc, h => by
    simp only [List.all_cons, Bool.and_eq_true, isDigB, decide_eq_true_eq] at h
    unfold Lib.parseUintM
    rw [if_pos ⟨h.1.1, h.1.2⟩]
    split
    · rfl
    · split
      · rfl
      · exact parseUintM_digits M r _ h.2
theorem parse_whole (l : List UInt8) (h : wholeB l = true) : badNum (Lib.parseIntB 32 l) = false := by
  match l with
  | [] => simp [wholeB, unsign] at h
  | c :: r =>
    have key : ∀ ds : List UInt8, ds ≠ [] → ds.all isDigB = true → badNum (Lib.parseUintB 32 ds) = false := by
      intro ds h1 h2
      unfold Lib.parseUintB
      rw [if_neg h1]
      exact parseUintM_digits _ _ _ h2
    have hu : (if c.toNat = 43 ∨ c.toNat = 45 then r else c :: r) = unsign (c :: r) := by
      have e1 : (c == 43) = decide (c.toNat = 43) := by rw [Bool.eq_iff_iff, beq_iff_eq, decide_eq_true_eq, ← UInt8.toNat_inj]; rfl
      have e2 : (c == 45) = decide (c.toNat = 45) := by rw [Bool.eq_iff_iff, beq_iff_eq, decide_eq_true_eq, ← UInt8.toNat_inj]; rfl
      simp [unsign, e1, e2]
    simp only [wholeB, Bool.and_eq_true, Bool.not_eq_true', List.isEmpty_eq_false_iff] at h
    have hk := key _ h.1 h.2
    unfold Lib.parseIntB
    simp only
    rw [hu]
    cases hp : Lib.parseUintB 32 (unsign (c :: r)) with
    | ok u =>
      simp only
      split
      · rfl
      · split
        · rfl
        · split <;> rfl
    | range => rfl
    | _ => rw [hp] at hk; exact absurd hk (by decide)
set_option maxHeartbeats 1000000 in
set_option maxRecDepth 1000000 in
theorem lex_Int.calls (a0 : ByteArray) (r1 r2 : Int) (w : World) (hG : GW w) (h : lex_Int.f a0 = some (r1, r2)) :
    Calls Tryd.prog 15 #[.string a0] w fun e w' => e = .returned (.tuple #[.int .i64 r1, .int .i64 r2]) ∧ Below w.heap.size w w' := by
  unfold lex_Int.f at h
  split at h
  case isFalse => cases h
  rename_i hl
  have he := Option.some.inj h
  clear h
  have hwh := whole_eq a0 (by omega)
  have HG := Aside0.mk hG
  clear hG
  unfold lexInt at he
  cases hb : wholeB a0.data.toList with
  | false =>
    rw [hb] at he hwh
    obtain ⟨rfl, rfl⟩ : 0 = r1 ∧ 3 = r2 := by simpa using he
    have HW := Aside0.mk hwh
    clear hwh he hb
    go_enter Tryd.func15, Tryd.ntmps15
    go_wp2_with (go_at_call 25; with_reducible refine (lex_whole.calls _ _ _ HW.out).mono ?_)
    rintro e w1 ⟨rfl, b1⟩
    go_wp2
    go_ret2
    exact ⟨rfl, b1⟩
  | true =>
    rw [hb] at he hwh
    have hns := parse_whole _ hb
    have HW := Aside0.mk hwh
    simp only [if_true] at he
    cases hp : Lib.parseIntB 32 a0.data.toList with
    | ok v =>
      rw [hp] at he
      obtain ⟨rfl, rfl⟩ : v = r1 ∧ 0 = r2 := by simpa using he
      have HP := Aside0.mk hp
      clear hwh he hb hp hns
      go_enter Tryd.func15, Tryd.ntmps15
      go_wp2_with (go_at_call 25; with_reducible refine (lex_whole.calls _ _ _ HW.out).mono ?_)
      rintro e w1 ⟨rfl, b1⟩
      go_wp2_with (go_at_call 26; with_reducible refine (Tryd.strconv_ParseInt_10_at32_ok _ (by omega) _ HP.out _).mono ?_)
      rintro e w2 ⟨rfl, hw2⟩
      have b2 : Below w.heap.size w w2 := by
        rcases hw2 with rfl | ⟨t, rfl⟩
        · exact b1
        · exact below_then b1 b1.size (Lib.bytesWorld_below _ _ _)
      clear hw2
      obtain ⟨a, ha⟩ := (GW.below b2 HG.out).range
      go_wp2_with (go_at_call 27; with_reducible refine (is_nil _ _).mono ?_)
      rintro e w3 ⟨rfl, rfl⟩
      go_wp2
      go_ret2
      exact ⟨rfl, b2⟩
    | range =>
      rw [hp] at he
      obtain ⟨rfl, rfl⟩ : 0 = r1 ∧ 4 = r2 := by simpa using he
      have HP := Aside0.mk hp
      clear hwh he hb hp hns
      go_enter Tryd.func15, Tryd.ntmps15
      go_wp2_with (go_at_call 25; with_reducible refine (lex_whole.calls _ _ _ HW.out).mono ?_)
      rintro e w1 ⟨rfl, b1⟩
      obtain ⟨a, ha⟩ := (GW.below b1 HG.out).range
      have HA := Aside0.mk ha
      clear ha
      go_wp2_with (go_at_call 26; with_reducible refine (Tryd.strconv_ParseInt_10_at32_range _ (by omega) HP.out _ _ HA.out (.inr ⟨_, _, rfl⟩)).mono ?_)
      rintro e w2 ⟨N, rfl, hN, hN2, b2⟩
      have ha2 := pw_cell_below b2 HA.out
      have hc2 : w2.cell? ⟨N, 2, none⟩ = some (.iface 103 (.pointer (some a))) := by rw [Lib.cell_of_heap hN2]; rfl
      replace b1 := below_then b1 b1.size b2
      clear hN hN2 b2
      go_wp2_with (go_at_call 27; with_reducible refine (is_wrap_same _ _ _ hc2).mono ?_)
      rintro e w3 ⟨rfl, rfl⟩
      go_wp2
      go_ret2
      exact ⟨rfl, b1⟩
    | _ => rw [hp] at hns; exact absurd hns (by decide)
end Go.Proofs.YtaolcbklpdodaaaDoor.M
