/- strings.Trim at an ASCII cutset: the shelf's contract in the printed form; and what it tells at the ten digits. -/
import Derived.Test.YtaolcbklpdodaaaDoorQK
import Derived.Test.YtaolcbklpdodaaaDoorSh
import Derived.Shelf.Strings.SlTrimAscii
namespace Go.Proofs.YtaolcbklpdodaaaDoor.M
open Go.RowKit Go.Proofs.YtaolcbklpdodaaaDoorW.PrintWords
set_option linter.unusedVariables false
def isDigB (c : UInt8) : Bool := decide (48 ≤ c.toNat) && decide (c.toNat ≤ 57)
def tenDigits : List UInt8 := [48, 49, 50, 51, 52, 53, 54, 55, 56, 57]
theorem ten_contains (c : UInt8) : tenDigits.contains c = isDigB c := by
  have : ∀ n : Fin 256, tenDigits.contains n.val.toUInt8 = isDigB n.val.toUInt8 := by decide +kernel
  have h := this ⟨c.toNat, c.toNat_lt⟩
  simpa using h
theorem dropWhile_nil (p : UInt8 → Bool) : ∀ l : List UInt8, l.dropWhile p = [] ↔ ∀ c ∈ l, p c = true
  | [] => by simp
  | x :: l => by
    rw [List.dropWhile_cons]
    split
    · rename_i hx
      rw [dropWhile_nil p l]
      simp [hx]
    · rename_i hx
      simp [hx]
theorem trim_nil (l : List UInt8) : (Lib.trimS l tenDigits = []) ↔ l.all isDigB = true := by
  unfold Lib.trimS Lib.trimLeftS Lib.trimRightS
  have e : (fun x => tenDigits.contains x) = isDigB := funext ten_contains
  rw [e]
  constructor
  · intro h
    rw [dropWhile_nil] at h
    rw [List.all_eq_true]
    intro c hc
    by_cases hd : isDigB c = true
    · exact hd
    · have key : ∀ m : List UInt8, c ∈ m → c ∈ m.dropWhile isDigB := by
        intro m
        induction m with
        | nil => intro h; exact h
        | cons x m ih =>
          intro hm
          rw [List.dropWhile_cons]
          split
          · rename_i hx
            rcases List.mem_cons.1 hm with rfl | hm
            · exact absurd hx hd
            · exact ih hm
          · exact hm
      exact h c (by rw [List.mem_reverse]; exact key _ (List.mem_reverse.2 hc))
  · intro h
    rw [List.all_eq_true] at h
    have : l.reverse.dropWhile isDigB = [] := by
      rw [dropWhile_nil]
      intro c hc
      exact h c (List.mem_reverse.1 hc)
    rw [this]; rfl
def strings_Trim.f (a0 a1 : ByteArray) : Option ByteArray := if a0.size ≤ 9223372036854775807 then (if a1.size < 4294967281 then (if a1.data.toList.all (fun b => decide (b.toNat < 128)) = true then some ⟨(Lib.trimS a0.data.toList a1.data.toList).toArray⟩ else none) else none) else none
theorem strings_Trim.calls (a0 a1 : ByteArray) (r : ByteArray) (w : World) (h : strings_Trim.f a0 a1 = some r) :
    Calls Tryd.prog 32 #[.string a0, .string a1] w fun e w' => e = .returned (.string r) ∧ Below w.heap.size w w' := by
  unfold strings_Trim.f at h
  split at h
  case isFalse => cases h
  rename_i h1
  split at h
  case isFalse => cases h
  rename_i h2
  split at h
  case isFalse => cases h
  rename_i h3
  obtain rfl := Option.some.inj h
  exact Any.strings_Trim_laid Tryd.lays160 (by kernel_rfl) a0 a1 w h1 h2 (ascii_of_all h3)
end Go.Proofs.YtaolcbklpdodaaaDoor.M
