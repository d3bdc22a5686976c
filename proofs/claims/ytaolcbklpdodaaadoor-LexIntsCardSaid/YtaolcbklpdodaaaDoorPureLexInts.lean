/- The plain law of LexInts: a number that is written in ten digits is read. -/
import Derived.Test.YtaolcbklpdodaaaDoorPd
import Derived.Test.YtaolcbklpdodaaaDoorQ7
import Derived.Test.YtaolcbklpdodaaaDoorAw3
namespace Go.Proofs.YtaolcbklpdodaaaDoor.M
open Go.RowKit Go.Proofs.YtaolcbklpdodaaaDoorW.PrintWords
set_option linter.unusedVariables false
/-- The last digit of a number. -/
def digC (m : Nat) : UInt8 := UInt8.ofNat (48 + m % 10)
theorem digC_ok : ∀ n : Fin 10, isDigB (UInt8.ofNat (48 + n.val)) = true ∧ digN (UInt8.ofNat (48 + n.val)) = n.val := by decide
theorem digC_dig (m : Nat) : isDigB (digC m) = true := (digC_ok ⟨m % 10, by omega⟩).1
theorem digC_val (m : Nat) : digN (digC m) = m % 10 := (digC_ok ⟨m % 10, by omega⟩).2
theorem digC_str (m : Nat) : strOfNums [(wrap64 (48 + (Int.tmod (m : Int) 10))) % 256] = ⟨[digC m].toArray⟩ := by
  have e : Int.tmod (m : Int) 10 = ((m % 10 : Nat) : Int) := by rw [Int.tmod_eq_emod_of_nonneg (by omega)]; omega
  have e2 : (wrap64 (48 + (Int.tmod (m : Int) 10))) % 256 = ((48 + m % 10 : Nat) : Int) := by rw [e]; unfold wrap64; omega
  rw [e2]
  rfl
theorem tdiv_ten (m : Nat) (h : m < 4611686018427387904) : wrap64 (Int.tdiv (m : Int) 10) = ((m / 10 : Nat) : Int) := by
  have e : Int.tdiv (m : Int) 10 = ((m / 10 : Nat) : Int) := by rw [Int.tdiv_eq_ediv_of_nonneg (by omega)]; omega
  rw [e]; exact wrap_small (by omega) (by omega)
theorem and_rangeI (x m : Int) (h0 : 0 ≤ m) (h1 : m < 9223372036854775808) : 0 ≤ Go.bits .and .i64 x m ∧ Go.bits .and .i64 x m ≤ m := by
  obtain ⟨n, rfl⟩ := Int.eq_ofNat_of_zero_le h0
  exact and_range x n (by omega)
theorem wrap_minus (v : Nat) (h : v ≤ 2147483647) : wrap64 (-(v : Int)) = -(v : Int) := by unfold wrap64; omega
theorem ints_end (a1 : Int) (l : List UInt8) (v : Nat) (hv : v ≤ 2147483647) (h0 : l ≠ []) (hd : l.all isDigB = true) (hs : l.length ≤ 11) (he : valD 0 l = v) (k : Nat) :
    hornbooklaw03_LexInts.l0 (k + 1) a1 true v ⟨l.toArray⟩ ((0 : Nat) : Int) = some true := by
  have e3 : (⟨#[45]⟩ : ByteArray) = ⟨([45] : List UInt8).toArray⟩ := rfl
  obtain ⟨n, hn⟩ : ∃ n : Nat, Go.bits .and .i64 a1 65535 = (n : Int) := by
    have h := and_rangeI a1 65535 (by omega) (by omega)
    exact ⟨(Go.bits .and .i64 a1 65535).toNat, (Int.toNat_of_nonneg h.1).symm⟩
  have s1 := ba_size l
  have s2 := ba_size [digC n]
  have s3 := ba_size (l ++ [digC n])
  have s4 := ba_size ([45] ++ l)
  simp only [List.length_append, List.length_nil, List.length_cons] at s2 s3 s4
  simp only [hornbooklaw03_LexInts.l0]
  rw [if_neg (by omega), ba_toList, if_neg h0, hn, e3]
  simp only [Option.bind_some, digC_str, ba_app]
  have i1 : lex_Int.f ⟨l.toArray⟩ = some ((v : Int), 0) := by
    unfold lex_Int.f
    rw [if_pos (by omega), ba_list, lexInt_digits l h0 hd, he, if_pos hv]
  have i2 : lex_Int.f ⟨([45] ++ l).toArray⟩ = some (-(v : Int), 0) := by
    unfold lex_Int.f
    rw [if_pos (by omega), ba_list]
    show some (lexInt (45 :: l)) = _
    rw [lexInt_minus l h0 hd, he, if_pos (by omega)]
  have hval : valD 0 (l ++ [digC n]) = v * 10 + n % 10 := by rw [valD_append, he, valD_cons, valD_nil, digC_val]
  have i3 : lex_Int.f ⟨(l ++ [digC n]).toArray⟩ = some (if v * 10 + n % 10 ≤ 2147483647 then (((v * 10 + n % 10 : Nat) : Int), (0 : Int)) else (0, 4)) := by
    unfold lex_Int.f
    rw [if_pos (by omega), ba_list, lexInt_digits (l ++ [digC n]) (by simp) (by rw [List.all_append, hd]; simp [digC_dig]), hval]
  have hw : wrap64 ((wrap64 ((v : Int) * 10)) + (Int.tmod (n : Int) 10)) = ((v * 10 + n % 10 : Nat) : Int) := by
    have e : Int.tmod (n : Int) 10 = ((n % 10 : Nat) : Int) := by rw [Int.tmod_eq_emod_of_nonneg (by omega)]; omega
    rw [e, wrap_small (x := (v : Int) * 10) (by omega) (by omega), wrap_small (by omega) (by omega)]; omega
  have hneg : wrap64 (-(v : Int)) = -(v : Int) := wrap_minus v hv
  rw [i1, i2, i3, hw, hneg]
  simp only [Option.bind_some]
  rw [if_pos (by omega), if_pos (by omega), if_pos trivial, if_pos trivial, if_pos trivial, if_pos trivial, if_pos trivial]
  generalize hq : v * 10 + n % 10 = q
  clear hq i1 i2 i3 hw hval hn
  by_cases hle : q ≤ 2147483647
  · have c1 : ((q : Nat) : Int) ≤ 2147483647 := by omega
    simp only [if_pos hle, if_pos c1, if_true]
  · have c2 : ¬ ((q : Nat) : Int) ≤ 2147483647 := by omega
    have c3 : ((q : Nat) : Int) > 2147483647 := by omega
    simp only [if_neg hle, if_neg c2, if_pos c3, if_true]
    rfl
theorem ints_loop (a1 : Int) (v : Nat) (hv : v ≤ 2147483647) (d : Nat) : ∀ (l : List UInt8) (m k : Nat), m < 10 ^ d → m ≤ v → (l = [] → 1 ≤ d) → l.all isDigB = true → m * 10 ^ l.length + valD 0 l = v → l.length + d ≤ 11 → d + 4 ≤ k →
    hornbooklaw03_LexInts.l0 k a1 true v ⟨l.toArray⟩ (m : Int) = some true := by
  induction d with
  | zero =>
    intro l m k hm hmv hl hd he hs hk
    obtain ⟨k, rfl⟩ : ∃ j, k = j + 1 := ⟨k - 1, by omega⟩
    obtain rfl : m = 0 := by omega
    exact ints_end a1 l v hv (fun e => by have := hl e; omega) hd (by omega) (by omega) k
  | succ d ih =>
    intro l m k hm hmv hl hd he hs hk
    obtain ⟨k, rfl⟩ : ∃ j, k = j + 1 := ⟨k - 1, by omega⟩
    have step : l.length + 1 ≤ 11 → hornbooklaw03_LexInts.l0 k a1 true v ⟨(digC m :: l).toArray⟩ ((m / 10 : Nat) : Int) = some true := by
      intro hs'
      refine ih (digC m :: l) (m / 10) k ?_ (by omega) (by simp) (by simp [digC_dig, hd]) ?_ (by simp only [List.length_cons]; omega) (by omega)
      · rw [Nat.pow_succ] at hm; omega
      · rw [valD_cons, valD_split, digC_val, List.length_cons, Nat.pow_succ]
        have e1 : m / 10 * (10 ^ l.length * 10) = (m / 10 * 10) * 10 ^ l.length := by rw [Nat.mul_comm (10 ^ l.length) 10, Nat.mul_assoc]
        have e2 : (0 * 10 + m % 10) * 10 ^ l.length = (m % 10) * 10 ^ l.length := by rw [Nat.zero_mul, Nat.zero_add]
        rw [e1, e2, ← Nat.add_assoc, ← Nat.add_mul, show m / 10 * 10 + m % 10 = m by omega]
        exact he
    have s1 := ba_size l
    have s2 := ba_size [digC m]
    simp only [List.length_nil, List.length_cons] at s2
    by_cases hgo : m > 0 ∨ l = []
    · have st := step (by omega)
      simp only [hornbooklaw03_LexInts.l0]
      rw [tdiv_ten m (by omega), ba_toList]
      simp only [Option.bind_some, digC_str, ba_app]
      have hsz : (⟨[digC m].toArray⟩ : ByteArray).size + (⟨l.toArray⟩ : ByteArray).size ≤ 9223372036854775807 := by omega
      have ha : [digC m] ++ l = digC m :: l := rfl
      rw [ha, st, if_pos hsz]
      by_cases hm0 : m > 0
      · rw [if_pos (by omega)]
      · rw [if_neg (by omega), if_pos (hgo.resolve_left hm0)]
    · obtain rfl : m = 0 := by omega
      exact ints_end a1 l v hv (fun e => hgo (.inr e)) hd (by omega) (by omega) k
theorem LexInts : hornbooklaw03_LexInts.Pure := by
  intro a0 a1 h0 h1
  obtain ⟨k, hk⟩ : ∃ k : Nat, 4000 ≤ k := ⟨4000, Nat.le_refl _⟩
  refine ⟨k, ?_⟩
  unfold hornbooklaw03_LexInts.f
  rw [awake3 (by omega)]
  simp only [Option.bind_some]
  obtain ⟨v, hv, hle⟩ : ∃ v : Nat, Go.bits .and .i64 a0 2147483647 = (v : Int) ∧ v ≤ 2147483647 := by
    have h := and_rangeI a0 2147483647 (by omega) (by omega)
    generalize Go.bits .and .i64 a0 2147483647 = b at h ⊢
    exact ⟨b.toNat, (Int.toNat_of_nonneg h.1).symm, by omega⟩
  rw [hv]
  exact ints_loop a1 v hle 10 [] v k (by omega) (by omega) (fun _ => by omega) rfl (by rw [valD_nil]; simp) (by simp) (by omega)
end Go.Proofs.YtaolcbklpdodaaaDoor.M
