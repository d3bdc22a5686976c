/- The plain law of LexNumbers: a number is a sign or none, and digits. -/
import Derived.Test.YtaolcbklpdodaaaDoorPd
import Derived.Test.YtaolcbklpdodaaaDoorQ5
import Derived.Test.YtaolcbklpdodaaaDoorAw3
namespace Go.Proofs.YtaolcbklpdodaaaDoor.M
open Go.RowKit Go.Proofs.YtaolcbklpdodaaaDoorW.PrintWords
set_option linter.unusedVariables false
theorem wrap_neg (v : Nat) (h : v ≤ 2147483648) : wrap64 (-(v : Int)) = -(v : Int) := by unfold wrap64; omega
theorem wrap_negneg (v : Nat) (h : v ≤ 2147483648) : wrap64 (-(-(v : Int))) = (v : Int) := by unfold wrap64; omega
/-- Behind the loop: the text is a number of digits. -/
theorem numbers_digits (l : List UInt8) (hs : l.length ≤ 200) (h0 : l ≠ []) (hd : l.all isDigB = true) (hv : valD 0 l ≤ 2147483647) (z : Nat) (hz : z ≤ 15) (k : Nat) :
    hornbooklaw03_LexNumbers.j1 (k + 1) ⟨l.toArray⟩ true (valD 0 l) ⟨(List.replicate z 48).toArray⟩ ⟨l.toArray⟩ (⟨#[]⟩ : ByteArray) false = some true := by
  have e1 : (⟨#[]⟩ : ByteArray) = ⟨([] : List UInt8).toArray⟩ := rfl
  have e2 : (⟨#[43]⟩ : ByteArray) = ⟨([43] : List UInt8).toArray⟩ := rfl
  have e3 : (⟨#[45]⟩ : ByteArray) = ⟨([45] : List UInt8).toArray⟩ := rfl
  have s1 := ba_size l
  have s2 := ba_size (List.replicate z (48 : UInt8))
  have s3 := ba_size (([] ++ List.replicate z (48 : UInt8)) ++ l)
  have s4 := ba_size ([] ++ List.replicate z (48 : UInt8))
  have s5 := ba_size ([43] ++ l)
  have s6 := ba_size ([45] ++ l)
  have s7 := ba_size []
  simp only [List.length_append, List.length_replicate, List.length_nil, List.length_cons] at s2 s3 s4 s5 s6 s7
  simp only [hornbooklaw03_LexNumbers.j1]
  rw [e1, e2, e3]
  simp only [ba_app]
  rw [if_neg (by decide), if_pos (by omega), if_pos (by omega)]
  have i1 : lex_Int.f ⟨(([] ++ List.replicate z (48 : UInt8)) ++ l).toArray⟩ = some ((valD 0 l : Int), 0) := by
    unfold lex_Int.f
    rw [if_pos (by omega), ba_list, List.nil_append, lexInt_digits _ (noughts_ne z l h0) (noughts_dig z l hd), valD_noughts, if_pos hv]
  have i2 : lex_Int.f ⟨([43] ++ l).toArray⟩ = some ((valD 0 l : Int), 0) := by
    unfold lex_Int.f
    rw [if_pos (by omega), ba_list]
    show some (lexInt (43 :: l)) = _
    rw [lexInt_plus l h0 hd, if_pos hv]
  have i3 : lex_Int.f ⟨([45] ++ l).toArray⟩ = some (-(valD 0 l : Int), 0) := by
    unfold lex_Int.f
    rw [if_pos (by omega), ba_list]
    show some (lexInt (45 :: l)) = _
    rw [lexInt_minus l h0 hd, if_pos (by omega)]
  rw [i1, i2, i3, ba_toList]
  simp only [Option.bind_some]
  rw [if_pos (by omega), if_pos (by omega), if_pos trivial, if_pos (by omega), if_pos (by omega), if_pos trivial, if_pos trivial, if_pos trivial, if_pos trivial, if_pos trivial, wrap_neg _ (by omega), if_pos rfl]
  rw [decide_eq_true (by omega)]
  split <;> rfl
/-- Behind the loop: the text is a sign and digits. -/
theorem numbers_signed (c : UInt8) (n : Int) (l : List UInt8) (hs : l.length ≤ 200) (h0 : l ≠ []) (hd : l.all isDigB = true)
    (hcn : (c = 43 ∧ valD 0 l ≤ 2147483647 ∧ n = valD 0 l) ∨ (c = 45 ∧ valD 0 l ≤ 2147483648 ∧ n = -(valD 0 l : Int))) (z : Nat) (hz : z ≤ 15) (k : Nat) (b u : ByteArray) :
    hornbooklaw03_LexNumbers.j1 (k + 1) ⟨(c :: l).toArray⟩ true n ⟨(List.replicate z 48).toArray⟩ b u true = some true := by
  have e2 : (⟨#[43]⟩ : ByteArray) = ⟨([43] : List UInt8).toArray⟩ := rfl
  have e3 : (⟨#[45]⟩ : ByteArray) = ⟨([45] : List UInt8).toArray⟩ := rfl
  have s1 := ba_size (c :: l)
  have x1 : (⟨(c :: l).toArray⟩ : ByteArray).extract 0 1 = ⟨[c].toArray⟩ := by rw [ext_mid]; simp
  have x2 : (⟨(c :: l).toArray⟩ : ByteArray).extract 1 (⟨(c :: l).toArray⟩ : ByteArray).size = ⟨l.toArray⟩ := by rw [ext_from]; simp
  have s2 := ba_size (List.replicate z (48 : UInt8))
  have s3 := ba_size (([c] ++ List.replicate z (48 : UInt8)) ++ l)
  have s4 := ba_size ([c] ++ List.replicate z (48 : UInt8))
  have s5 := ba_size ([43] ++ (c :: l))
  have s6 := ba_size ([45] ++ l)
  have s7 := ba_size [c]
  have s8 := ba_size l
  simp only [List.length_append, List.length_replicate, List.length_nil, List.length_cons] at s1 s2 s3 s4 s5 s6 s7
  simp only [hornbooklaw03_LexNumbers.j1]
  rw [if_pos trivial, if_pos (by omega), if_pos (by omega), x1, x2, e2, e3]
  simp only [ba_app]
  rw [if_pos (by omega), if_pos (by omega)]
  have i1 : lex_Int.f ⟨(([c] ++ List.replicate z (48 : UInt8)) ++ l).toArray⟩ = some (n, 0) := by
    unfold lex_Int.f
    rw [if_pos (by omega), ba_list, List.append_assoc]
    rcases hcn with ⟨rfl, hv, rfl⟩ | ⟨rfl, hv, rfl⟩
    · show some (lexInt (43 :: (List.replicate z 48 ++ l))) = _
      rw [lexInt_plus _ (noughts_ne z l h0) (noughts_dig z l hd), valD_noughts, if_pos hv]
    · show some (lexInt (45 :: (List.replicate z 48 ++ l))) = _
      rw [lexInt_minus _ (noughts_ne z l h0) (noughts_dig z l hd), valD_noughts, if_pos hv]
  have i2 : lex_Int.f ⟨([43] ++ (c :: l)).toArray⟩ = some (0, 3) := by
    unfold lex_Int.f
    rw [if_pos (by omega), ba_list]
    show some (lexInt (43 :: c :: l)) = _
    rw [lexInt_none]
    unfold wholeB unsign
    rcases hcn with ⟨rfl, _, _⟩ | ⟨rfl, _, _⟩
    · simp [isDigB]
    · simp [isDigB]
  have i3 : lex_Int.f ⟨([45] ++ l).toArray⟩ = some (-(valD 0 l : Int), 0) := by
    unfold lex_Int.f
    rw [if_pos (by omega), ba_list]
    show some (lexInt (45 :: l)) = _
    rw [lexInt_minus l h0 hd, if_pos (by omega)]
  have hne : ¬ [c] = ([] : List UInt8) := by simp
  rw [i1, i2, i3, ba_toList]
  simp only [Option.bind_some]
  rw [if_pos (by omega), if_pos (by omega), if_pos trivial, if_pos (by omega), if_pos (by omega), if_pos trivial, if_pos trivial, if_neg (by decide), if_neg hne, if_pos trivial]
  rw [decide_eq_true (by omega)]
  split
  · rfl
  · rename_i h
    rcases hcn with ⟨_, hv, rfl⟩ | ⟨_, hv, rfl⟩
    · rw [wrap_neg _ (by omega), if_pos rfl]
    · exact absurd rfl h
theorem numbers_loop (a0 : ByteArray) (a1 n : Int) (hN : Go.bits .and .i64 a1 15 ≤ 15) (hl : a0.data.toList.length ≤ 200)
    (fin : ∀ (z k : Nat), z ≤ 15 → (if (a0.size : Int) > 0 then (if 0 < (a0.size : Int) then (if (bt a0 0) = 43 then (hornbooklaw03_LexNumbers.j1 (k + 1) a0 true n ⟨(List.replicate z 48).toArray⟩ a0 (⟨#[]⟩ : ByteArray) true) else (hornbooklaw03_LexNumbers.j1 (k + 1) a0 true n ⟨(List.replicate z 48).toArray⟩ a0 (⟨#[]⟩ : ByteArray) ((bt a0 0) == 45))) else (none)) else (hornbooklaw03_LexNumbers.j1 (k + 1) a0 true n ⟨(List.replicate z 48).toArray⟩ a0 (⟨#[]⟩ : ByteArray) false)) = some true) (d : Nat) :
    ∀ (i k : Nat), (Go.bits .and .i64 a1 15 - i).toNat = d → i ≤ 15 → d + 4 ≤ k → hornbooklaw03_LexNumbers.l0 k a0 a1 true n ⟨(List.replicate i 48).toArray⟩ i = some true := by
  induction d with
  | zero =>
    intro i k hd hi hk
    obtain ⟨k, rfl⟩ : ∃ m, k = m + 2 := ⟨k - 2, by omega⟩
    rw [hornbooklaw03_LexNumbers.l0, if_neg (by omega)]
    exact fin i k hi
  | succ d ih =>
    intro i k hd hi hk
    obtain ⟨k, rfl⟩ : ∃ m, k = m + 1 := ⟨k - 1, by omega⟩
    have s2 := ba_size (List.replicate i (48 : UInt8))
    rw [List.length_replicate] at s2
    rw [hornbooklaw03_LexNumbers.l0, if_pos (by omega), if_pos (by omega), wrap_small (by omega) (by omega), show ((i : Int) + 1) = ((i + 1 : Nat) : Int) by omega]
    have e : ((⟨(List.replicate i 48).toArray⟩ : ByteArray) ++ (⟨#[48]⟩ : ByteArray)) = ⟨(List.replicate (i + 1) 48).toArray⟩ := by
      have e1 : (⟨#[48]⟩ : ByteArray) = ⟨([48] : List UInt8).toArray⟩ := rfl
      rw [e1, ba_app, ← List.replicate_succ']
    rw [e]
    exact ih (i + 1) k (by omega) (by omega) (by omega)
theorem LexNumbers : hornbooklaw03_LexNumbers.Pure := by
  intro a0 a1 h0 h1
  obtain ⟨k, hk⟩ : ∃ k : Nat, 4000 ≤ k := ⟨4000, Nat.le_refl _⟩
  refine ⟨k, ?_⟩
  unfold hornbooklaw03_LexNumbers.f
  rw [awake3 (by omega)]
  simp only [Option.bind_some]
  by_cases hs : (a0.size : Int) > 200
  · rw [if_pos hs]
  · rw [if_neg hs]
    obtain ⟨l, rfl⟩ : ∃ l : List UInt8, a0 = ⟨l.toArray⟩ := ⟨_, ba_eta a0⟩
    have hsz := ba_size l
    have hi : lex_Int.f ⟨l.toArray⟩ = some (lexInt l) := by unfold lex_Int.f; rw [if_pos (by omega), ba_list]
    have hN : 0 ≤ Go.bits .and .i64 a1 15 ∧ Go.bits .and .i64 a1 15 ≤ 15 := and_range a1 15 (by omega)
    have hl : l.length ≤ 200 := by omega
    have loop := fun n fin => numbers_loop ⟨l.toArray⟩ a1 n hN.2 (by rw [ba_list]; exact hl) fin _ 0 k rfl (by omega) (by omega)
    have hb : ∀ c r, l = c :: r → bt ⟨l.toArray⟩ 0 = (c.toNat : Int) := by
      rintro c r rfl
      exact bt_get ⟨(c :: r).toArray⟩ 0 (by rw [ba_size]; simp)
    rw [hi]
    simp only [Option.bind_some]
    rcases int_cases l with ⟨r, rfl, hr0, hrd⟩ | ⟨r, rfl, hr0, hrd⟩ | ⟨hr0, hrd⟩ | hw
    · rw [lexInt_plus r hr0 hrd]
      rw [List.length_cons] at hl hsz
      by_cases hv : valD 0 r ≤ 2147483647
      · rw [if_pos hv]
        simp only
        rw [if_pos trivial]
        refine loop _ fun z k hz => ?_
        rw [if_pos (by omega), if_pos (by omega), if_pos (by rw [hb _ _ rfl]; rfl)]
        exact numbers_signed 43 _ r (by omega) hr0 hrd (.inl ⟨rfl, hv, rfl⟩) z hz k _ _
      · rw [if_neg hv]; simp
    · rw [lexInt_minus r hr0 hrd]
      rw [List.length_cons] at hl hsz
      by_cases hv : valD 0 r ≤ 2147483648
      · rw [if_pos hv]
        simp only
        rw [if_pos trivial]
        refine loop _ fun z k hz => ?_
        have h45 : bt (⟨(45 :: r).toArray⟩ : ByteArray) 0 = 45 := by rw [hb _ _ rfl]; rfl
        rw [if_pos (by omega), if_pos (by omega), h45, if_neg (by decide)]
        exact numbers_signed 45 _ r (by omega) hr0 hrd (.inr ⟨rfl, hv, rfl⟩) z hz k _ _
      · rw [if_neg hv]; simp
    · rw [lexInt_digits l hr0 hrd]
      by_cases hv : valD 0 l ≤ 2147483647
      · rw [if_pos hv]
        simp only
        rw [if_pos trivial]
        refine loop _ fun z k hz => ?_
        match l, hr0, hrd with
        | c :: r, hr0, hrd =>
          rw [List.length_cons] at hsz
          have hc : isDigB c = true := by simp only [List.all_cons, Bool.and_eq_true] at hrd; exact hrd.1
          simp only [isDigB, Bool.and_eq_true, decide_eq_true_eq] at hc
          have hcc : bt (⟨(c :: r).toArray⟩ : ByteArray) 0 = (c.toNat : Int) := hb _ _ rfl
          have h45 : ((c.toNat : Int) == 45) = false := by rw [beq_eq_false_iff_ne]; omega
          rw [if_pos (by omega), if_pos (by omega), hcc, if_neg (by omega), h45]
          exact numbers_digits _ hl hr0 hrd hv z hz k
      · rw [if_neg hv]; simp
    · rw [lexInt_none l hw]; simp
end Go.Proofs.YtaolcbklpdodaaaDoor.M
