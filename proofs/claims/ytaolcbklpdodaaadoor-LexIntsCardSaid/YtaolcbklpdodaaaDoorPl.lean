/- Plain facts on what the printed functions of layers 1 and 3 answer: a byte's class, a digit's value. -/
import Derived.Test.YtaolcbklpdodaaaDoorQ12
import Derived.Test.YtaolcbklpdodaaaDoorQ23
import Derived.Test.YtaolcbklpdodaaaDoorQ16
import Derived.Test.YtaolcbklpdodaaaDoorQ25
import Derived.Test.YtaolcbklpdodaaaDoorQ32
namespace Go.Proofs.YtaolcbklpdodaaaDoor.M
open Go.RowKit Go.Proofs.YtaolcbklpdodaaaDoorW.PrintWords
set_option linter.unusedVariables false
theorem le_rounds {α : Type} {g : Nat → Option α} (hm : ∀ k, LeO (g k) (g (k + 1))) {k : Nat} {r : α} (h : g k = some r) : ∀ {m : Nat}, k ≤ m → g m = some r := by
  intro m hk
  induction m with
  | zero => obtain rfl : k = 0 := by omega
            exact h
  | succ m ih =>
    by_cases e : k = m + 1
    · subst e; exact h
    · exact hm m r (ih (by omega))
/-- A byte's class: 0 regular, 1 blank, 2 delimiter. -/
def isDelim (c : Int) : Bool := c == 40 || c == 41 || c == 60 || c == 62 || c == 91 || c == 93 || c == 123 || c == 125 || c == 47 || c == 37
def clsOf (c : Int) : Int := if isDelim c then 2 else if isWhite c then 1 else 0
theorem class_eq {k : Nat} (hk : 2 ≤ k) (c : Int) : lex_Class.f k c = some (clsOf c) := by
  obtain ⟨k, rfl⟩ : ∃ m, k = m + 2 := ⟨k - 2, by omega⟩
  by_cases hd : isDelim c = true
  · have e : clsOf c = 2 := by simp [clsOf, hd]
    rw [e]
    simp only [isDelim, Bool.or_eq_true, beq_iff_eq] at hd
    rcases hd with ((((((((rfl | rfl) | rfl) | rfl) | rfl) | rfl) | rfl) | rfl) | rfl) | rfl <;> simp [lex_Class.f, lex_Class.j0, lex_Class.j1]
  · have e : clsOf c = if isWhite c then 1 else 0 := by simp [clsOf, hd]
    rw [e]
    simp only [isDelim, Bool.or_eq_true, beq_iff_eq, not_or] at hd
    obtain ⟨⟨⟨⟨⟨⟨⟨⟨⟨h1, h2⟩, h3⟩, h4⟩, h5⟩, h6⟩, h7⟩, h8⟩, h9⟩, h10⟩ := hd
    simp only [lex_Class.f, lex_Class.j0, lex_Class.j1, hex_White.f, Option.bind_some, if_neg h1, if_neg h2, if_neg h3, if_neg h4, if_neg h5, if_neg h7, if_neg h8, if_neg h9]
    have e6 : (c == 93) = false := by simpa using h6
    have e10 : (c == 37) = false := by simpa using h10
    rw [e6, e10]
    cases isWhite c <;> simp
def isPlainB (c : Int) : Bool := clsOf c == 0 && c != 35 && decide (33 ≤ c) && decide (c ≤ 126)
theorem plain_eq {k : Nat} (hk : 2 ≤ k) (c : Int) (h0 : 0 ≤ c) (h1 : c ≤ 255) : lex_plain.f k c = some (isPlainB c) := by
  unfold lex_plain.f
  have e : wrap64 c = c := by unfold wrap64; omega
  rw [e, class_eq hk]
  simp only [Option.bind_some, isPlainB]
  by_cases h2 : clsOf c = 0
  · by_cases h3 : c = 35
    · subst h3; simp [h2]
    · by_cases h4 : 33 ≤ c
      · have h4' : c ≥ 33 := h4
        simp [h2, h3, h4']
      · simp [h2, h3, h4]
  · simp [h2]
/-- A hex digit's value. -/
def hexVal (c : Int) : Option Int := if 48 ≤ c ∧ c ≤ 57 then some (c - 48) else if 65 ≤ c ∧ c ≤ 70 then some (c - 55) else if 97 ≤ c ∧ c ≤ 102 then some (c - 87) else none
theorem digit_eq {k : Nat} (hk : 1 ≤ k) (c : Int) (h0 : 0 ≤ c) (h1 : c ≤ 255) : hex_Digit.f k c = some ((hexVal c).getD 0, (hexVal c).isSome) := by
  have : ∀ n : Fin 256, hex_Digit.f 1 (n.val : Int) = some ((hexVal n.val).getD 0, (hexVal n.val).isSome) := by decide +kernel
  have h := this ⟨c.toNat, by omega⟩
  have e : ((c.toNat : Nat) : Int) = c := by omega
  simp only [e] at h
  exact le_rounds (g := fun k => hex_Digit.f k c) (fun k => hex_Digit.mono c k) h hk
/-- A text is a sign or none, and digits. -/
def unsign (l : List UInt8) : List UInt8 := match l with
  | [] => []
  | c :: r => if c == 43 || c == 45 then r else c :: r
def wholeB (l : List UInt8) : Bool := !(unsign l).isEmpty && (unsign l).all isDigB
theorem ba_eta (a : ByteArray) : a = ⟨a.data.toList.toArray⟩ := by cases a; rfl
theorem toList_data (a : ByteArray) : a.toList = a.data.toList := ByteArray.toList_eq a
theorem ext_from (a : ByteArray) (i : Nat) : a.extract i a.size = ⟨(a.data.toList.drop i).toArray⟩ := by
  rw [ba_eta (a.extract i a.size), Lib.extract_to_end]
theorem bt_get (a : ByteArray) (i : Nat) (h : i < a.size) : bt a (i : Int) = (a.data.toList[i]'(by simpa using h)).toNat := by
  unfold bt
  simp only [Int.toNat_natCast, h, dif_pos]
  rfl
theorem trim_ten (a : ByteArray) (ha : a.size ≤ 9223372036854775807) : strings_Trim.f a ⟨#[48, 49, 50, 51, 52, 53, 54, 55, 56, 57]⟩ = some ⟨(Lib.trimS a.data.toList tenDigits).toArray⟩ := by
  unfold strings_Trim.f
  rw [if_pos ha, if_pos (by decide), if_pos (by decide)]
  rfl
theorem trim_test (a : ByteArray) : ((⟨(Lib.trimS a.data.toList tenDigits).toArray⟩ : ByteArray).toList == ([] : List UInt8)) = a.data.toList.all isDigB := by
  rw [toList_data]
  rw [Bool.eq_iff_iff, beq_iff_eq]
  exact trim_nil _
theorem whole_eq (a : ByteArray) (ha : a.size ≤ 9223372036854775807) : lex_whole.f a = some (wholeB a.data.toList) := by
  unfold lex_whole.f wholeB
  have hs : a.size = a.data.toList.length := rfl
  rw [toList_data]
  match hl : a.data.toList with
  | [] => simp [unsign]
  | c :: r =>
    rw [if_neg (by simp), if_pos (by rw [hs, hl]; simp)]
    have hb : bt a 0 = (c.toNat : Int) := by
      have := bt_get a 0 (by rw [hs, hl]; simp)
      simpa [hl] using this
    have hx : a.extract 1 a.size = ⟨r.toArray⟩ := by rw [ext_from, hl]; rfl
    have hxs : (⟨r.toArray⟩ : ByteArray).size ≤ 9223372036854775807 := by
      show r.toArray.size ≤ _
      rw [hs, hl] at ha
      simp at ha ⊢; omega
    have hxl : (⟨r.toArray⟩ : ByteArray).data.toList = r := by simp
    have h1 : (1 : Int) ≤ (a.size : Int) := by rw [hs, hl]; simp; omega
    rw [hb, hx, toList_data, hxl]
    have t1 := trim_ten ⟨r.toArray⟩ hxs
    have t2 := trim_ten a ha
    have u1 := trim_test ⟨r.toArray⟩
    have u2 := trim_test a
    rw [hxl] at u1
    rw [t1, t2]
    simp only [Option.bind_some]
    by_cases e1 : c = 43
    · subst e1
      rw [if_pos (by rfl), if_pos h1]
      cases r with
      | nil => rfl
      | cons x y => rw [if_neg (by simp), u1]; simp [unsign]
    · have n1 : ¬ (c.toNat : Int) = 43 := by
        intro h; apply e1; exact UInt8.toNat_inj.1 (by simpa using (show c.toNat = 43 by omega))
      rw [if_neg n1]
      by_cases e2 : c = 45
      · subst e2
        rw [if_pos (by rfl), if_pos h1]
        cases r with
        | nil => rfl
        | cons x y => rw [if_neg (by simp), u1]; simp [unsign]
      · have n2 : ¬ (c.toNat : Int) = 45 := by
          intro h; apply e2; exact UInt8.toNat_inj.1 (by simpa using (show c.toNat = 45 by omega))
        rw [if_neg n2, u2, hl]
        simp [unsign, e1, e2]
end Go.Proofs.YtaolcbklpdodaaaDoor.M
