/- Plain facts on numbers that are written in ten digits: what lex.Int tells of them. -/
import Derived.Test.YtaolcbklpdodaaaDoorPq
import Derived.Test.YtaolcbklpdodaaaDoorQ15
import Derived.Lib.ParseIntBCases
import Derived.Laws.BitsLemmas
namespace Go.Proofs.YtaolcbklpdodaaaDoor.M
open Go.RowKit Go.Proofs.YtaolcbklpdodaaaDoorW.PrintWords
set_option linter.unusedVariables false
theorem and_range (x : Int) (n : Nat) (hn : n < 9223372036854775808) : 0 ≤ Go.bits .and .i64 x (n : Int) ∧ Go.bits .and .i64 x (n : Int) ≤ n := by
  have h2 : (BitVec.ofInt 64 (n : Int)).toNat = n := by
    rw [BitVec.ofInt_natCast, BitVec.toNat_ofNat]; omega
  have h1 : (BitVec.ofInt 64 x &&& BitVec.ofInt 64 (n : Int)).toNat ≤ n := by
    rw [BitVec.toNat_and, h2]; exact Nat.and_le_right
  have h3 : Go.bits .and .i64 x (n : Int) = Go.IntKind.i64.wrap ((BitVec.ofInt 64 x &&& BitVec.ofInt 64 (n : Int)).toNat : Int) := rfl
  rw [h3, Go.IntKind.wrap_i64]
  omega
/-- The number that the digits spell, behind those that spell acc. -/
def digN (c : UInt8) : Nat := c.toNat - 48
def valD (acc : Nat) (l : List UInt8) : Nat := l.foldl (fun a c => a * 10 + digN c) acc
theorem valD_nil (acc : Nat) : valD acc [] = acc := rfl
theorem valD_cons (acc : Nat) (c : UInt8) (r : List UInt8) : valD acc (c :: r) = valD (acc * 10 + digN c) r := by
  unfold valD; rw [List.foldl_cons]
attribute [irreducible] valD
theorem valD_ge : ∀ (l : List UInt8) (acc : Nat), acc ≤ valD acc l
  | [], acc => Nat.le_of_eq (valD_nil acc).symm
  | c :: r, acc => by
    have := valD_ge r (acc * 10 + digN c)
    rw [valD_cons]; omega
theorem valD_split : ∀ (l : List UInt8) (acc : Nat), valD acc l = acc * 10 ^ l.length + valD 0 l
  | [], acc => by rw [valD_nil, valD_nil]; simp
  | c :: r, acc => by
    have h1 := valD_split r (acc * 10 + digN c)
    have h2 := valD_split r (0 * 10 + digN c)
    rw [valD_cons, valD_cons, h1, h2, List.length_cons, Nat.pow_succ, Nat.add_mul, Nat.mul_assoc, Nat.mul_comm 10, Nat.zero_mul, Nat.zero_add, Nat.add_assoc]
theorem valD_append : ∀ (l m : List UInt8) (acc : Nat), valD acc (l ++ m) = valD (valD acc l) m
  | [], m, acc => by rw [valD_nil]; rfl
  | c :: r, m, acc => by rw [List.cons_append, valD_cons, valD_cons]; exact valD_append r m _
theorem valD_noughts (l : List UInt8) : ∀ n : Nat, valD 0 (List.replicate n 48 ++ l) = valD 0 l
  | 0 => rfl
  | n + 1 => by
    rw [List.replicate_succ, List.cons_append, valD_cons]
    exact valD_noughts l n
theorem parseUintM_val : ∀ (l : List UInt8) (acc : Nat), acc ≤ 4294967295 → l.all isDigB = true → Lib.parseUintM 4294967295 acc l = if valD acc l ≤ 4294967295 then .ok (valD acc l) else .range
  | [], acc, ha, _ => by rw [valD_nil, if_pos ha, Lib.parseUintM]
  | c :: r, acc, ha, h => by
    simp only [List.all_cons, Bool.and_eq_true] at h
    have h1 := h.1
    simp only [isDigB, Bool.and_eq_true, decide_eq_true_eq] at h1
    rw [Lib.parseUintM, valD_cons, if_pos (by omega), if_neg (by omega)]
    have hd : digN c = c.toNat - 48 := rfl
    rw [← hd]
    by_cases hle : 4294967295 < acc * 10 + digN c
    · have := valD_ge r (acc * 10 + digN c)
      rw [if_pos hle, if_neg (by omega)]
    · rw [if_neg hle]
      exact parseUintM_val r _ (by omega) h.2
theorem parseUintB_val (l : List UInt8) (h0 : l ≠ []) (h : l.all isDigB = true) : Lib.parseUintB 32 l = if valD 0 l ≤ 4294967295 then .ok (valD 0 l) else .range := by
  unfold Lib.parseUintB
  rw [if_neg h0]
  exact parseUintM_val l 0 (by omega) h
theorem whole_digits (l : List UInt8) (h0 : l ≠ []) (h : l.all isDigB = true) : wholeB l = true := by
  match l, h0 with
  | c :: r, _ =>
    have hc : isDigB c = true := by simp only [List.all_cons, Bool.and_eq_true] at h; exact h.1
    have n1 : (c == 43) = false := by rw [beq_eq_false_iff_ne]; rintro rfl; exact absurd hc (by decide)
    have n2 : (c == 45) = false := by rw [beq_eq_false_iff_ne]; rintro rfl; exact absurd hc (by decide)
    have hu : unsign (c :: r) = c :: r := by
      simp only [unsign]
      rw [if_neg (by rw [n1, n2]; decide)]
    unfold wholeB
    rw [hu, h]; rfl
theorem whole_plus (l : List UInt8) (h0 : l ≠ []) (h : l.all isDigB = true) : wholeB (43 :: l) = true := by
  unfold wholeB unsign
  simp only [beq_self_eq_true, Bool.true_or, if_true, h, Bool.and_true]
  cases l with
  | nil => exact absurd rfl h0
  | cons c r => rfl
theorem whole_minus (l : List UInt8) (h0 : l ≠ []) (h : l.all isDigB = true) : wholeB (45 :: l) = true := by
  unfold wholeB unsign
  simp only [beq_self_eq_true, Bool.or_true, if_true, h, Bool.and_true]
  cases l with
  | nil => exact absurd rfl h0
  | cons c r => rfl
theorem lexInt_minus (l : List UInt8) (h0 : l ≠ []) (h : l.all isDigB = true) : lexInt (45 :: l) = if valD 0 l ≤ 2147483648 then (-(valD 0 l : Int), 0) else (0, 4) := by
  unfold lexInt
  rw [if_pos (whole_minus l h0 h), Lib.parseIntB_minus, parseUintB_val l h0 h]
  by_cases h1 : valD 0 l ≤ 2147483648
  · rw [if_pos h1, if_pos (by omega)]
    simp only [Lib.signedC]
    rw [if_neg (by omega)]
  · rw [if_neg h1]
    by_cases h2 : valD 0 l ≤ 4294967295
    · rw [if_pos h2]
      simp only [Lib.signedC]
      rw [if_pos (by omega)]
    · rw [if_neg h2]
      rfl
theorem signless_val (l : List UInt8) (h0 : l ≠ []) (h : l.all isDigB = true) : (match Lib.signlessC (2 ^ (32 - 1)) (Lib.parseUintB 32 l) with | .ok v => (v, 0) | _ => (0, 4)) = if valD 0 l ≤ 2147483647 then ((valD 0 l : Int), (0 : Int)) else (0, 4) := by
  rw [parseUintB_val l h0 h]
  by_cases h1 : valD 0 l ≤ 2147483647
  · rw [if_pos h1, if_pos (by omega)]
    simp only [Lib.signlessC]
    rw [if_neg (by omega)]
  · rw [if_neg h1]
    by_cases h2 : valD 0 l ≤ 4294967295
    · rw [if_pos h2]
      simp only [Lib.signlessC]
      rw [if_pos (by omega)]
    · rw [if_neg h2]
      rfl
theorem lexInt_plus (l : List UInt8) (h0 : l ≠ []) (h : l.all isDigB = true) : lexInt (43 :: l) = if valD 0 l ≤ 2147483647 then ((valD 0 l : Int), (0 : Int)) else (0, 4) := by
  unfold lexInt
  rw [if_pos (whole_plus l h0 h), Lib.parseIntB_plus]
  exact signless_val l h0 h
theorem lexInt_digits (l : List UInt8) (h0 : l ≠ []) (h : l.all isDigB = true) : lexInt l = if valD 0 l ≤ 2147483647 then ((valD 0 l : Int), (0 : Int)) else (0, 4) := by
  have hw := whole_digits l h0 h
  match l, h0 with
  | c :: r, h0 =>
    have hc : isDigB c = true := by simp only [List.all_cons, Bool.and_eq_true] at h; exact h.1
    simp only [isDigB, Bool.and_eq_true, decide_eq_true_eq] at hc
    unfold lexInt
    rw [if_pos hw, Lib.parseIntB_plain 32 c r (by omega) (by omega)]
    exact signless_val (c :: r) h0 h
theorem lexInt_none (l : List UInt8) (h : wholeB l = false) : lexInt l = (0, 3) := by
  unfold lexInt; rw [h]; rfl
/-- Every text is one of four. -/
theorem int_cases (l : List UInt8) : (∃ r, l = 43 :: r ∧ r ≠ [] ∧ r.all isDigB = true) ∨ (∃ r, l = 45 :: r ∧ r ≠ [] ∧ r.all isDigB = true) ∨ (l ≠ [] ∧ l.all isDigB = true) ∨ wholeB l = false := by
  cases hw : wholeB l with
  | false => exact .inr (.inr (.inr rfl))
  | true =>
    unfold wholeB at hw
    simp only [Bool.and_eq_true, Bool.not_eq_true', List.isEmpty_eq_false_iff] at hw
    match l with
    | [] => exact absurd rfl hw.1
    | c :: r =>
      simp only [unsign] at hw
      split at hw
      · rename_i hc
        simp only [Bool.or_eq_true, beq_iff_eq] at hc
        rcases hc with rfl | rfl
        · exact .inl ⟨r, rfl, hw.1, hw.2⟩
        · exact .inr (.inl ⟨r, rfl, hw.1, hw.2⟩)
      · exact .inr (.inr (.inl ⟨by simp, hw.2⟩))
theorem ba_app (x y : List UInt8) : ((⟨x.toArray⟩ : ByteArray) ++ (⟨y.toArray⟩ : ByteArray)) = ⟨(x ++ y).toArray⟩ := by
  rw [ba_eta (_ ++ _)]; simp
theorem noughts_dig (n : Nat) (l : List UInt8) (h : l.all isDigB = true) : (List.replicate n 48 ++ l).all isDigB = true := by
  rw [List.all_append, h, Bool.and_true, List.all_eq_true]
  intro c hc
  rw [List.eq_of_mem_replicate hc]; decide
theorem noughts_ne (n : Nat) (l : List UInt8) (h : l ≠ []) : List.replicate n 48 ++ l ≠ [] := by
  simp [h]
end Go.Proofs.YtaolcbklpdodaaaDoor.M
