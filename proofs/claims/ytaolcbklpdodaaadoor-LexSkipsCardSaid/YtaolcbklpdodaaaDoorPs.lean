/- Plain facts on layer 3: what Skip tells, in lists. -/
import Derived.Test.YtaolcbklpdodaaaDoorPq
import Derived.Test.YtaolcbklpdodaaaDoorQ14
namespace Go.Proofs.YtaolcbklpdodaaaDoor.M
open Go.RowKit Go.Proofs.YtaolcbklpdodaaaDoorW.PrintWords
set_option linter.unusedVariables false
def isNL (c : UInt8) : Bool := c == 10 || c == 13
/-- How many bytes are skipped; the first argument: in a remark. -/
def skipG : Bool → List UInt8 → Nat
  | _, [] => 0
  | true, c :: r => 1 + skipG (!isNL c) r
  | false, c :: r => if c == 37 then 1 + skipG true r else if clsOf c.toNat == 1 then 1 + skipG false r else 0
def nlAt (r : List UInt8) : Nat := (r.takeWhile (fun c => !isNL c)).length
theorem skipG_le : ∀ (l : List UInt8) (b : Bool), skipG b l ≤ l.length
  | [], b => by cases b <;> simp [skipG]
  | c :: r, true => by have := skipG_le r (!isNL c); simp only [skipG, List.length_cons]; omega
  | c :: r, false => by
    have h1 := skipG_le r true
    have h2 := skipG_le r false
    simp only [skipG, List.length_cons]
    split
    · omega
    · split <;> omega
theorem skipG_stable : ∀ (l : List UInt8) (b : Bool), skipG false (l.drop (skipG b l)) = 0
  | [], b => by cases b <;> simp [skipG]
  | c :: r, true => by
    have := skipG_stable r (!isNL c)
    simp only [skipG]
    rw [Nat.add_comm, List.drop_succ_cons]; exact this
  | c :: r, false => by
    have h1 := skipG_stable r true
    have h2 := skipG_stable r false
    rw [skipG]
    split
    · rw [Nat.add_comm, List.drop_succ_cons]; exact h1
    · split
      · rw [Nat.add_comm, List.drop_succ_cons]; exact h2
      · rename_i n1 n2
        rw [List.drop_zero, skipG, if_neg n1, if_neg n2]
theorem skipG_zero (c : UInt8) (r : List UInt8) (h : skipG false (c :: r) = 0) : (c == 37) = false ∧ (clsOf c.toNat == 1) = false := by
  rw [skipG] at h
  split at h
  · omega
  · split at h
    · omega
    · rename_i n1 n2
      exact ⟨by simpa using n1, by simpa using n2⟩
theorem skipG_remark : ∀ r : List UInt8, skipG true r = if nlAt r < r.length then nlAt r + 1 + skipG false (r.drop (nlAt r + 1)) else r.length
  | [] => by simp [skipG, nlAt]
  | c :: r => by
    have ih := skipG_remark r
    simp only [skipG]
    cases hc : isNL c with
    | true =>
      have e : nlAt (c :: r) = 0 := by simp [nlAt, hc]
      rw [e, if_pos (by simp)]
      simp
    | false =>
      have e : nlAt (c :: r) = nlAt r + 1 := by simp [nlAt, hc]
      rw [e, Bool.not_false, ih]
      simp only [List.length_cons, List.drop_succ_cons]
      by_cases hl : nlAt r < r.length
      · rw [if_pos hl, if_pos (by omega)]; omega
      · rw [if_neg hl, if_neg (by omega)]; omega
theorem skipG_line : ∀ (f s : List UInt8), f.all (fun c => !isNL c) = true → skipG true (f ++ 10 :: s) = f.length + 1 + skipG false s
  | [], s, _ => by simp [skipG, isNL]
  | c :: f, s, h => by
    simp only [List.all_cons, Bool.and_eq_true] at h
    rw [List.cons_append]
    simp only [skipG, List.length_cons]
    rw [h.1, skipG_line f s h.2]; omega
/-- Where the remark ends, as the program finds it. -/
def endOf (r : List UInt8) : Int := if 0 ≤ Lib.indexByte r 13 ∧ (Lib.indexByte r 10 < 0 ∨ Lib.indexByte r 13 < Lib.indexByte r 10) then Lib.indexByte r 13 else Lib.indexByte r 10
theorem indexByte_cons (c : UInt8) (r : List UInt8) (x : UInt8) : Lib.indexByte (c :: r) x = if c = x then 0 else if Lib.indexByte r x = -1 then -1 else Lib.indexByte r x + 1 := by
  simp [Lib.indexByte]
theorem endOf_eq : ∀ r : List UInt8, endOf r = if nlAt r < r.length then (nlAt r : Int) else -1
  | [] => by simp [endOf, nlAt, Lib.indexByte]
  | c :: r => by
    have ih := endOf_eq r
    have ha := Lib.indexByte_ge r 10
    have hb := Lib.indexByte_ge r 13
    have ea := indexByte_cons c r 10
    have eb := indexByte_cons c r 13
    unfold endOf at ih ⊢
    generalize Lib.indexByte (c :: r) 10 = A at ea ⊢
    generalize Lib.indexByte (c :: r) 13 = B at eb ⊢
    generalize Lib.indexByte r 10 = a at ea ih ha
    generalize Lib.indexByte r 13 = b at eb ih hb
    by_cases h10 : c = 10
    · subst h10
      have e : nlAt (10 :: r) = 0 := by simp [nlAt, isNL]
      rw [if_pos rfl] at ea
      rw [if_neg (by decide)] at eb
      have hr : (if nlAt (10 :: r) < (10 :: r).length then ((nlAt (10 :: r) : Nat) : Int) else -1) = 0 := by rw [e]; simp
      rw [hr]
      split at eb <;> (split <;> omega)
    · by_cases h13 : c = 13
      · subst h13
        have e : nlAt (13 :: r) = 0 := by simp [nlAt, isNL]
        rw [if_pos rfl] at eb
        rw [if_neg (by decide)] at ea
        have hr : (if nlAt (13 :: r) < (13 :: r).length then ((nlAt (13 :: r) : Nat) : Int) else -1) = 0 := by rw [e]; simp
        rw [hr]
        split at ea <;> (split <;> omega)
      · have e : nlAt (c :: r) = nlAt r + 1 := by simp [nlAt, isNL, h10, h13]
        rw [if_neg h10] at ea
        rw [if_neg h13] at eb
        by_cases hn : nlAt r < r.length
        · rw [if_pos hn] at ih
          have hr : (if nlAt (c :: r) < (c :: r).length then ((nlAt (c :: r) : Nat) : Int) else -1) = ((nlAt r + 1 : Nat) : Int) := by rw [e, List.length_cons, if_pos (by omega)]
          rw [hr]
          split at ih <;> split at ea <;> split at eb <;> (split <;> omega)
        · rw [if_neg hn] at ih
          have hr : (if nlAt (c :: r) < (c :: r).length then ((nlAt (c :: r) : Nat) : Int) else -1) = -1 := by rw [e, List.length_cons, if_neg (by omega)]
          rw [hr]
          split at ih <;> split at ea <;> split at eb <;> (split <;> omega)
theorem skip_loop (s : ByteArray) (hs : s.size < 4611686018427387904) (d : Nat) : ∀ (i k : Nat), s.size - i ≤ d → i ≤ s.size → 2 * d + 4 ≤ k →
    lex_Skip.l0 k s i = some ((i + skipG false (s.data.toList.drop i) : Nat) : Int) := by
  induction d with
  | zero =>
    intro i k hd hi hk
    obtain ⟨k, rfl⟩ : ∃ m, k = m + 1 := ⟨k - 1, by omega⟩
    simp only [lex_Skip.l0]
    rw [if_neg (by omega), List.drop_of_length_le (by rw [← size_list]; omega)]
    simp [skipG]
  | succ d ih =>
    intro i k hd hi hk
    obtain ⟨k, rfl⟩ : ∃ m, k = m + 1 := ⟨k - 1, by omega⟩
    by_cases hlt : i < s.size
    · have hl : i < s.data.toList.length := by rw [← size_list]; exact hlt
      simp only [lex_Skip.l0]
      rw [if_pos (by omega), if_pos (by omega), bt_get s i hlt, List.drop_eq_getElem_cons hl]
      by_cases hc : (s.data.toList[i].toNat : Int) = 37
      · have hc' : s.data.toList[i] = 37 := UInt8.toNat_inj.1 (show s.data.toList[i].toNat = (37 : UInt8).toNat by have : (37 : UInt8).toNat = 37 := rfl; omega)
        rw [if_pos hc, if_pos (by omega)]
        obtain ⟨k, rfl⟩ : ∃ m, k = m + 1 := ⟨k - 1, by omega⟩
        have hx : s.extract (i : Int).toNat s.size = ⟨(s.data.toList.drop i).toArray⟩ := by rw [Int.toNat_natCast, ext_from]
        rw [hx]
        simp only [strings_IndexByte.f, Option.bind_some, show (Int.toNat 13).toUInt8 = 13 from rfl, show (Int.toNat 10).toUInt8 = 10 from rfl]
        have hb := Lib.indexByte_ge (s.data.toList.drop i) 13
        have ha := Lib.indexByte_ge (s.data.toList.drop i) 10
        have he := endOf_eq (s.data.toList.drop i)
        have hlen : (s.data.toList.drop i).length = s.size - i := by rw [List.length_drop, ← size_list]
        have hnl : nlAt (s.data.toList.drop i) ≤ (s.data.toList.drop i).length := by unfold nlAt; exact (List.takeWhile_prefix _).length_le
        have hsk : skipG false (s.data.toList[i] :: s.data.toList.drop (i + 1)) = skipG true (s.data.toList.drop i) := by
          rw [List.drop_eq_getElem_cons hl, hc']; simp [skipG, isNL]
        rw [hsk, skipG_remark]
        have key : lex_Skip.j1 (k + 1) s i (Lib.indexByte (s.data.toList.drop i) 10) (Lib.indexByte (s.data.toList.drop i) 13) (decide (0 ≤ Lib.indexByte (s.data.toList.drop i) 13 ∧ (Lib.indexByte (s.data.toList.drop i) 10 < 0 ∨ Lib.indexByte (s.data.toList.drop i) 13 < Lib.indexByte (s.data.toList.drop i) 10))) = if endOf (s.data.toList.drop i) < 0 then some (s.size : Int) else lex_Skip.l0 k s (wrap64 ((wrap64 (i + endOf (s.data.toList.drop i))) + 1)) := by
          by_cases hcnd : 0 ≤ Lib.indexByte (s.data.toList.drop i) 13 ∧ (Lib.indexByte (s.data.toList.drop i) 10 < 0 ∨ Lib.indexByte (s.data.toList.drop i) 13 < Lib.indexByte (s.data.toList.drop i) 10)
          · have e : endOf (s.data.toList.drop i) = Lib.indexByte (s.data.toList.drop i) 13 := by unfold endOf; rw [if_pos hcnd]
            rw [e, decide_eq_true hcnd, lex_Skip.j1, if_pos rfl]
          · have e : endOf (s.data.toList.drop i) = Lib.indexByte (s.data.toList.drop i) 10 := by unfold endOf; rw [if_neg hcnd]
            rw [e, decide_eq_false hcnd, lex_Skip.j1, if_neg (by decide)]
        have key2 : (if Lib.indexByte (s.data.toList.drop i) 13 ≥ 0 then (if Lib.indexByte (s.data.toList.drop i) 10 < 0 then lex_Skip.j1 (k + 1) s i (Lib.indexByte (s.data.toList.drop i) 10) (Lib.indexByte (s.data.toList.drop i) 13) true else lex_Skip.j1 (k + 1) s i (Lib.indexByte (s.data.toList.drop i) 10) (Lib.indexByte (s.data.toList.drop i) 13) (decide (Lib.indexByte (s.data.toList.drop i) 13 < Lib.indexByte (s.data.toList.drop i) 10))) else lex_Skip.j1 (k + 1) s i (Lib.indexByte (s.data.toList.drop i) 10) (Lib.indexByte (s.data.toList.drop i) 13) false) = lex_Skip.j1 (k + 1) s i (Lib.indexByte (s.data.toList.drop i) 10) (Lib.indexByte (s.data.toList.drop i) 13) (decide (0 ≤ Lib.indexByte (s.data.toList.drop i) 13 ∧ (Lib.indexByte (s.data.toList.drop i) 10 < 0 ∨ Lib.indexByte (s.data.toList.drop i) 13 < Lib.indexByte (s.data.toList.drop i) 10))) := by
          split
          · rename_i h1
            split
            · rename_i h2
              rw [decide_eq_true (show _ ∧ _ from ⟨h1, .inl h2⟩)]
            · rename_i h2
              congr 1
              rw [decide_eq_decide]
              constructor
              · intro h3; exact ⟨h1, .inr h3⟩
              · rintro ⟨_, h3 | h3⟩
                · exact absurd h3 h2
                · exact h3
          · rename_i h1
            rw [decide_eq_false (show ¬ (_ ∧ _) from fun h3 => h1 h3.1)]
        rw [key2, key]
        clear key key2 ha hb hx hc hc' hsk
        · rw [he]
          clear he
          have hih := fun (n : Nat) (h : n < (s.data.toList.drop i).length) => ih (i + n + 1) k (by omega) (by omega) (by omega)
          clear ih
          generalize (s.data.toList.drop i).length = L at *
          generalize hnn : nlAt (s.data.toList.drop i) = n at *
          clear hnn
          by_cases hn : n < L
          · rw [if_pos hn, if_pos hn, if_neg (by omega)]
            have e1 : wrap64 ((i : Int) + (n : Int)) = (i : Int) + (n : Int) := wrap_small (by omega) (by omega)
            have e2 : wrap64 ((i : Int) + (n : Int) + 1) = ((i + n + 1 : Nat) : Int) := by
              rw [wrap_small (by omega) (by omega)]; omega
            rw [e1, e2, hih n hn, List.drop_drop, show i + n + 1 = i + (n + 1) by omega, Nat.add_assoc]
          · rw [if_neg hn, if_neg hn, if_pos (by omega)]
            congr 1
            omega
      · have hc' : (s.data.toList[i] == 37) = false := by
          rw [beq_eq_false_iff_ne]; intro e; apply hc; rw [e]; rfl
        rw [if_neg hc, ← bt_get s i hlt, cls_get s i hlt (by omega)]
        simp only [Option.bind_some]
        have hr : skipG false (s.data.toList[i] :: s.data.toList.drop (i + 1)) = if clsOf (s.data.toList[i]).toNat == 1 then 1 + skipG false (s.data.toList.drop (i + 1)) else 0 := by
          rw [skipG, hc']; rfl
        rw [hr]
        by_cases h1 : clsOf (s.data.toList[i]).toNat = 1
        · rw [if_pos h1, if_pos (by simpa using h1), wrap_small (by omega) (by omega)]
          have := ih (i + 1) k (by omega) (by omega) (by omega)
          rw [show ((i : Int) + 1) = ((i + 1 : Nat) : Int) by omega, this]
          congr 1
          omega
        · rw [if_neg h1, if_neg (by simpa using h1)]
          rfl
    · simp only [lex_Skip.l0]
      rw [if_neg (by omega), List.drop_of_length_le (by rw [← size_list]; omega)]
      simp [skipG]
/-- What Skip tells. -/
def skipN (s : ByteArray) (a : Int) : Nat := placeN s a + skipG false (s.data.toList.drop (placeN s a))
theorem skipN_le (s : ByteArray) (a : Int) : skipN s a ≤ s.size := by
  have h1 := skipG_le (s.data.toList.drop (placeN s a)) false
  have h2 := placeN_le s a
  rw [List.length_drop, ← size_list] at h1
  unfold skipN; omega
theorem skip_eq (s : ByteArray) (hs : s.size < 4611686018427387904) (a : Int) {k : Nat} (hk : 2 * s.size + 4 ≤ k) : lex_Skip.f k s a = some (skipN s a : Int) := by
  unfold lex_Skip.f
  rw [place_eq]
  simp only [Option.bind_some]
  rw [skip_loop s hs s.size _ k (by omega) (placeN_le s a) hk]
  rfl
end Go.Proofs.YtaolcbklpdodaaaDoor.M
