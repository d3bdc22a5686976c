/- For every row of names and of entries, what DiffBack says holds: what is told of two encodings leads from one to the other. -/
/- Packed by this session's program hbpack.py out of this claim's own texts (Tn, Ts, Tu, Pq, Ps, Tx, Ty, Ta, Pd, Tb0, Db, Dc, Dt, De, PureDiffBack, Op, LawDiffBack): the same declarations, without those that the claim does not use. -/
import Derived.Test.YtdcldaknmenklaaGreatDoorPkDiffBack5
import Derived.Lib.ParseIntBCases
import Derived.Laws.BitsLemmas
import Derived.Deep.Strs
import Derived.SizedLaws
import Derived.WalkKit
import Derived.ProofKit
import Derived.OpenShut
import Derived.ShutString
import Derived.ChangeOld
import Derived.Below
import Derived.LaidMore
import Derived.Lay
import Derived.Stop.Joined
import Derived.SevenTiedAt
import Derived.Test.YtdcldaknmenklaaGreatDoorRows
import Derived.Test.YtdcldaknmenklaaGreatDoorCards
import Derived.Test.YtdcldaknmenklaaGreatDoorTie
section
namespace Go.Proofs.YtdcldaknmenklaaGreatDoor.M
open Go.RowKit Go.Proofs.YtdcldaknmenklaaGreatDoorW.PrintWords
set_option linter.unusedVariables false
set_option linter.unusedSimpArgs false
def isOct (c : UInt8) : Bool := decide (48 ≤ c.toNat) && decide (c.toNat < 56)
def octs (r : List UInt8) : List UInt8 := (r.take 3).takeWhile isOct
def octFold (acc : Nat) (l : List UInt8) : Nat := l.foldl (fun a c => a * 8 + (c.toNat - 48)) acc
theorem octFold_cons (acc : Nat) (c : UInt8) (l : List UInt8) : octFold acc (c :: l) = octFold (acc * 8 + (c.toNat - 48)) l := by unfold octFold; rw [List.foldl_cons]
theorem octFold_nil (acc : Nat) : octFold acc [] = acc := by unfold octFold; rw [List.foldl_nil]
attribute [irreducible] octFold
set_option maxHeartbeats 1600000 in
theorem number_loop (s : ByteArray) (d : Nat) : ∀ (i acc k : Nat), 3 - i = d → i ≤ 3 → i ≤ s.size → acc < 8 ^ i → d + 1 ≤ k →
    tok_number.l0 k s (acc : Int) (i : Int) = some (((octFold acc (((s.data.toList.drop i).take (3 - i)).takeWhile isOct) : Nat) : Int) % 256, ((i + (((s.data.toList.drop i).take (3 - i)).takeWhile isOct).length : Nat) : Int)) := by
  induction d with
  | zero =>
    intro i acc k hd hi hs ha hk
    obtain ⟨k, rfl⟩ : ∃ k', k = k' + 1 := ⟨k - 1, by omega⟩
    have : i = 3 := by omega
    subst this
    rw [tok_number.l0, if_neg (by omega), show 3 - 3 = 0 from rfl, List.take_zero, List.takeWhile_nil, octFold_nil, List.length_nil, Nat.add_zero]
  | succ d ih =>
    intro i acc k hd hi hs ha hk
    obtain ⟨k, rfl⟩ : ∃ k', k = k' + 1 := ⟨k - 1, by omega⟩
    rw [tok_number.l0, if_pos (by omega)]
    by_cases h1 : i < s.size
    · rw [if_pos (by omega), if_pos (by omega)]
      have hL : i < s.data.toList.length := by rw [← size_list]; exact h1
      have hdr : (s.data.toList.drop i).take (3 - i) = s.data.toList[i] :: (s.data.toList.drop (i + 1)).take (3 - (i + 1)) := by
        rw [List.drop_eq_getElem_cons hL, show 3 - i = (3 - (i + 1)) + 1 by omega, List.take_succ_cons]
      rw [hdr, bt_get s i h1]
      generalize s.data.toList[i] = c
      by_cases h2 : (c.toNat : Int) ≥ 48
      · rw [if_pos h2]
        by_cases h3 : (c.toNat : Int) < 56
        · have ho : isOct c = true := by unfold isOct; rw [Bool.and_eq_true, decide_eq_true_eq, decide_eq_true_eq]; omega
          have hi3 : i = 0 ∨ i = 1 ∨ i = 2 := by omega
          have ha2 : acc * 8 + (c.toNat - 48) < 8 ^ (i + 1) := by rw [Nat.pow_succ]; omega
          have hp : (8 : Nat) ^ i ≤ 64 := by rcases hi3 with rfl | rfl | rfl <;> decide
          rw [if_pos h3, List.takeWhile_cons, if_pos ho, octFold_cons, wrap_small (x := (acc : Int) * 8) (by omega) (by omega), show ((c.toNat : Int) - 48) % 256 = (c.toNat : Int) - 48 by omega,
            wrap_small (x := (acc : Int) * 8 + ((c.toNat : Int) - 48)) (by omega) (by omega), wrap_small (x := (i : Int) + 1) (by omega) (by omega)]
          have := ih (i + 1) (acc * 8 + (c.toNat - 48)) k (by omega) (by omega) (by omega) ha2 (by omega)
          rw [show (acc : Int) * 8 + ((c.toNat : Int) - 48) = ((acc * 8 + (c.toNat - 48) : Nat) : Int) by omega, show (i : Int) + 1 = ((i + 1 : Nat) : Int) by omega, this, List.length_cons]
          congr 3
          omega
        · have ho : isOct c = false := by unfold isOct; rw [Bool.and_eq_false_iff, decide_eq_false_iff_not, decide_eq_false_iff_not]; omega
          rw [if_neg h3, List.takeWhile_cons, if_neg (by rw [ho]; decide), octFold_nil, List.length_nil, Nat.add_zero]
      · have ho : isOct c = false := by unfold isOct; rw [Bool.and_eq_false_iff, decide_eq_false_iff_not, decide_eq_false_iff_not]; omega
        rw [if_neg h2, List.takeWhile_cons, if_neg (by rw [ho]; decide), octFold_nil, List.length_nil, Nat.add_zero]
    · rw [if_neg (by omega)]
      have hdr : s.data.toList.drop i = [] := List.drop_eq_nil_of_le (by rw [← size_list]; omega)
      rw [hdr, List.take_nil, List.takeWhile_nil, octFold_nil, List.length_nil, Nat.add_zero]
theorem number_eq (s : ByteArray) {k : Nat} (hk : 4 ≤ k) : tok_number.f k s = some (((octFold 0 (octs s.data.toList) : Nat) : Int) % 256, ((octs s.data.toList).length : Int)) := by
  unfold tok_number.f octs
  have := number_loop s 3 0 0 k rfl (by omega) (by omega) (by decide) (by omega)
  rw [List.drop_zero, Nat.zero_add] at this
  exact this
def letterOf (c : UInt8) : UInt8 := if c = 110 then 10 else if c = 114 then 13 else if c = 116 then 9 else if c = 98 then 8 else if c = 102 then 12 else c
/-- What a text behind a backslash begins with: its bytes, and how many they take. -/
def escG (r : List UInt8) : List UInt8 × Nat :=
  if 0 < (octs r).length then ([(octFold 0 (octs r) % 256).toUInt8], (octs r).length)
  else match r with
  | [] => ([], 0)
  | c :: t => if [13, 10].isPrefixOf (c :: t) then ([], 2) else if c = 10 ∨ c = 13 then ([], 1) else ([letterOf c], 1)
def idxT (c : UInt8) : Int := if c = 110 then 0 else if c = 114 then 1 else if c = 116 then 2 else if c = 98 then 3 else if c = 102 then 4 else -1
theorem idx_all : ∀ n : Fin 256, strings_IndexByte.f (⟨#[110, 114, 116, 98, 102]⟩ : ByteArray) (n.val : Int) = some (idxT n.val.toUInt8) := by decide +kernel
theorem idx_eq (c : UInt8) : strings_IndexByte.f (⟨#[110, 114, 116, 98, 102]⟩ : ByteArray) (c.toNat : Int) = some (idxT c) := by
  have := idx_all ⟨c.toNat, c.toNat_lt⟩
  rw [show ((⟨c.toNat, c.toNat_lt⟩ : Fin 256).val.toUInt8) = c from UInt8.ofNat_toNat] at this
  exact this
theorem str_one (n : Nat) : strOfNums [((n : Nat) : Int) % 256] = ⟨[(n % 256).toUInt8].toArray⟩ := by
  have : ((n : Nat) : Int) % 256 = ((n % 256 : Nat) : Int) := by omega
  rw [this]
  rfl
theorem letter_eq (c : UInt8) (x : ByteArray) (hx : x = ⟨#[c]⟩) : (if idxT c ≥ 0 then (if 0 ≤ idxT c then (if idxT c ≤ wrap64 (idxT c + 1) then (if wrap64 (idxT c + 1) ≤ 5 then some ((⟨#[10, 13, 9, 8, 12]⟩ : ByteArray).extract (idxT c).toNat (wrap64 (idxT c + 1)).toNat, (1 : Int)) else none) else none) else none) else some (x, 1)) = some (⟨#[letterOf c]⟩, 1) := by
  subst hx
  by_cases h1 : c = 110
  · subst h1
    rw [show idxT 110 = 0 by decide, show letterOf 110 = 10 by decide, show wrap64 (0 + 1) = 1 from wrap_small (by decide) (by decide), if_pos (by decide), if_pos (by decide), if_pos (by decide), if_pos (by decide), ext_mid]
    rfl
  by_cases h2 : c = 114
  · subst h2
    rw [show idxT 114 = 1 by decide, show letterOf 114 = 13 by decide, show wrap64 (1 + 1) = 2 from wrap_small (by decide) (by decide), if_pos (by decide), if_pos (by decide), if_pos (by decide), if_pos (by decide), ext_mid]
    rfl
  by_cases h3 : c = 116
  · subst h3
    rw [show idxT 116 = 2 by decide, show letterOf 116 = 9 by decide, show wrap64 (2 + 1) = 3 from wrap_small (by decide) (by decide), if_pos (by decide), if_pos (by decide), if_pos (by decide), if_pos (by decide), ext_mid]
    rfl
  by_cases h4 : c = 98
  · subst h4
    rw [show idxT 98 = 3 by decide, show letterOf 98 = 8 by decide, show wrap64 (3 + 1) = 4 from wrap_small (by decide) (by decide), if_pos (by decide), if_pos (by decide), if_pos (by decide), if_pos (by decide), ext_mid]
    rfl
  by_cases h5 : c = 102
  · subst h5
    rw [show idxT 102 = 4 by decide, show letterOf 102 = 12 by decide, show wrap64 (4 + 1) = 5 from wrap_small (by decide) (by decide), if_pos (by decide), if_pos (by decide), if_pos (by decide), if_pos (by decide), ext_mid]
    rfl
  have e1 : idxT c = -1 := by unfold idxT; simp only [h1, h2, h3, h4, h5, if_false]
  have e2 : letterOf c = c := by unfold letterOf; simp only [h1, h2, h3, h4, h5, if_false]
  rw [e1, e2, if_neg (by decide)]
theorem escaped_eq (s : ByteArray) {k : Nat} (hk : 4 ≤ k) : tok_escaped.f k s = some (⟨(escG s.data.toList).1.toArray⟩, ((escG s.data.toList).2 : Int)) := by
  unfold tok_escaped.f escG
  rw [number_eq s hk, Option.bind_some]
  dsimp only
  by_cases h0 : 0 < (octs s.data.toList).length
  · rw [if_pos (by omega), if_pos h0, str_one]
  rw [if_neg (by omega), if_neg h0]
  obtain ⟨k, rfl⟩ : ∃ k', k = k' + 1 := ⟨k - 1, by omega⟩
  rw [toList_data]
  rcases hs : s.data.toList with _ | ⟨c, t⟩
  · rw [if_pos rfl]; rfl
  rw [if_neg (by simp), hasPrefix_eq, Option.bind_some]
  have hsz : s.size = t.length + 1 := by rw [size_list, hs]; rfl
  have hbt : bt s 0 = c.toNat := by
    have := bt_get s 0 (by omega)
    rw [show ((0 : Nat) : Int) = 0 from rfl] at this
    rw [this]
    congr 1
    simp [hs]
  have hex : s.extract 0 1 = ⟨#[c]⟩ := by
    rw [ext_mid, hs]
    rfl
  rw [hs, show (⟨#[13, 10]⟩ : ByteArray).data.toList = [13, 10] from rfl]
  dsimp only
  by_cases hp : [13, 10].isPrefixOf (c :: t) = true
  · rw [if_pos hp, if_pos hp]; rfl
  rw [if_neg hp, if_neg hp, if_pos (by omega), hbt]
  by_cases h10 : c = 10
  · subst h10
    rw [if_pos (show (((10 : UInt8).toNat : Nat) : Int) = 10 from rfl), if_pos (show (10 : UInt8) = 10 ∨ (10 : UInt8) = 13 from .inl rfl), tok_escaped.j0, if_pos rfl]; rfl
  have n10 : ¬ ((c.toNat : Int) = 10) := fun e => h10 (UInt8.toNat_inj.1 (by show c.toNat = 10; omega))
  rw [if_neg n10, tok_escaped.j0]
  by_cases h13 : c = 13
  · subst h13
    rw [if_pos (show ((((13 : UInt8).toNat : Nat) : Int) == 13) = true from rfl), if_pos (show (13 : UInt8) = 10 ∨ (13 : UInt8) = 13 from .inr rfl)]; rfl
  have n13 : ¬ (((c.toNat : Int) == 13) = true) := fun e => h13 (UInt8.toNat_inj.1 (by have := beq_iff_eq.1 e; show c.toNat = 13; omega))
  rw [if_neg n13, if_neg (show ¬ (c = 10 ∨ c = 13) from fun e => e.elim h10 h13), if_pos (show (0 : Int) < (s.size : Int) by omega), hbt, idx_eq, Option.bind_some, if_pos (show (0 : Nat) ≤ 1 by decide), if_pos (show (1 : Int) ≤ (s.size : Int) by omega), letter_eq c _ hex]
  rfl
end Go.Proofs.YtdcldaknmenklaaGreatDoor.M
end
section
namespace Go.Proofs.YtdcldaknmenklaaGreatDoor.M
open Go.RowKit Go.Proofs.YtdcldaknmenklaaGreatDoorW.PrintWords
set_option linter.unusedVariables false
set_option linter.unusedSimpArgs false
/-- How many bytes a new line takes that a text begins with, if it is one that begins with a carriage return. -/
def lineG (r : List UInt8) : Nat := if [13, 10].isPrefixOf r then 2 else if [13].isPrefixOf r then 1 else 0
theorem line_eq (s : ByteArray) : tok_line.f s = some (lineG s.data.toList : Int) := by
  unfold tok_line.f lineG
  rw [hasPrefix_eq, hasPrefix_eq, Option.bind_some, show (⟨#[13, 10]⟩ : ByteArray).data.toList = [13, 10] from rfl, show (⟨#[13]⟩ : ByteArray).data.toList = [13] from rfl]
  by_cases h1 : [13, 10].isPrefixOf s.data.toList = true
  · rw [if_pos h1, if_pos h1]; rfl
  rw [if_neg h1, if_neg h1, Option.bind_some]
  by_cases h2 : [13].isPrefixOf s.data.toList = true
  · rw [if_pos h2, if_pos h2]; rfl
  · rw [if_neg h2, if_neg h2]; rfl
def deepG (c : UInt8) (deep : Nat) : Nat := if c = 41 then deep - 1 else if c = 40 then deep + 1 else deep
/-- A Str behind its first bracket: the error, its bytes, and what is left. -/
def strG : Nat → Nat → List UInt8 → List UInt8 → Int × List UInt8 × List UInt8
  | 0, _, _, _ => (2, [], [])
  | _ + 1, _, _, [] => (2, [], [])
  | n + 1, deep, out, c :: t =>
    if c = 92 then (if (escG t).2 = 0 then (2, [], []) else strG n deep (out ++ (escG t).1) (t.drop (escG t).2))
    else if c = 41 ∧ deep = 1 then (0, out, t)
    else if c = 40 ∧ deep = 32 then (5, [], c :: t)
    else if 0 < lineG (c :: t) then strG n (deepG c deep) (out ++ [10]) ((c :: t).drop (lineG (c :: t)))
    else strG n (deepG c deep) (out ++ [c]) t
theorem octs_le (r : List UInt8) : (octs r).length ≤ 3 ∧ (octs r).length ≤ r.length := by
  unfold octs
  have h1 := (List.takeWhile_sublist (p := isOct) (l := r.take 3)).length_le
  rw [List.length_take] at h1
  omega
theorem escG_le (r : List UInt8) : (escG r).2 ≤ r.length ∧ (escG r).1.length ≤ 1 := by
  unfold escG
  have h := octs_le r
  split
  · exact ⟨h.2, by simp⟩
  · split
    · simp
    · rename_i c t _ _
      split
      · rename_i hp
        have := (List.isPrefixOf_iff_prefix.1 hp).length_le
        exact ⟨this, by simp⟩
      · split <;> simp
theorem lineG_le (r : List UInt8) : lineG r ≤ r.length ∧ lineG r ≤ 2 := by
  unfold lineG
  split
  · rename_i hp
    have := (List.isPrefixOf_iff_prefix.1 hp).length_le
    exact ⟨this, by omega⟩
  · split
    · rename_i hp
      have := (List.isPrefixOf_iff_prefix.1 hp).length_le
      exact ⟨this, by omega⟩
    · exact ⟨by omega, by omega⟩
theorem from_eq (a0 : ByteArray) (i : Nat) (hi : i ≤ a0.size) : tok_source_from.f a0 (i : Int) = some ⟨(a0.data.toList.drop i).toArray⟩ := by
  have hmn : mn (i : Int) (a0.size : Int) = (i : Int) := by unfold mn; split <;> omega
  unfold tok_source_from.f
  rw [hmn, if_pos (by omega), if_pos (by omega), Int.toNat_natCast, ext_from]
def strAns (a0 : ByteArray) (a1 : Int) (x : Int × List UInt8 × List UInt8) : TokR :=
  if x.1 = 0 then (5, a1, 0, ⟨x.2.1.toArray⟩, ((a0.size - x.2.2.length : Nat) : Int), 0) else (0, 0, 0, ⟨#[]⟩, ((a0.size - x.2.2.length : Nat) : Int), x.1)
set_option maxHeartbeats 1600000 in
theorem strung_loop (a0 : ByteArray) (a1 : Int) (hs : a0.size ≤ 140737488351000) (K : Nat) (hK : 4 ≤ K) : ∀ (n i deep k : Nat) (out : List UInt8), i ≤ a0.size → a0.size - i < n → n ≤ k → 1 ≤ deep → deep ≤ 32 → out.length ≤ i →
    tok_source_strung.g K a0 a1 k out (deep : Int) (i : Int) = some (strAns a0 a1 (strG n deep out (a0.data.toList.drop i)))
  | 0, i, deep, k, out => fun _ h => by omega
  | n + 1, i, deep, k, out => by
    intro hi hn hk hd1 hd2 ho
    obtain ⟨k, rfl⟩ : ∃ k', k = k' + 1 := ⟨k - 1, by omega⟩
    have ih := strung_loop a0 a1 hs K hK n
    rw [tok_source_strung.g, if_pos ⟨by omega, by omega, by omega, by omega, by omega, by omega⟩, from_eq a0 i hi, Option.bind_some]
    have hdl : (a0.data.toList.drop i).length = a0.size - i := by rw [List.length_drop, ← size_list]
    have hdd : ∀ m, (a0.data.toList.drop i).drop m = a0.data.toList.drop (i + m) := fun m => by rw [List.drop_drop]
    generalize hr : a0.data.toList.drop i = r at hdl hdd
    rcases r with _ | ⟨c, t⟩
    · rw [if_pos (show (⟨([] : List UInt8).toArray⟩ : ByteArray).size = 0 from rfl), strG]
      rfl
    have hsz : (⟨(c :: t).toArray⟩ : ByteArray).size = t.length + 1 := by rw [size_list, ba_list]; rfl
    have hbt : bt (⟨(c :: t).toArray⟩ : ByteArray) 0 = (c.toNat : Int) := by
      have := bt_get (⟨(c :: t).toArray⟩ : ByteArray) 0 (by omega)
      rw [show ((0 : Nat) : Int) = 0 from rfl] at this
      rw [this]
      simp
    have htl : (⟨(c :: t).toArray⟩ : ByteArray).extract 1 (⟨(c :: t).toArray⟩ : ByteArray).size = ⟨t.toArray⟩ := by
      have := ext_from (⟨(c :: t).toArray⟩ : ByteArray) 1
      rw [this, ba_list]
      rfl
    rw [List.length_cons] at hdl
    rw [if_neg (by omega), hbt, htl, strG]
    by_cases h92 : c = 92
    · subst h92
      rw [if_pos (show (((92 : UInt8).toNat : Nat) : Int) = 92 from rfl), if_pos (show (92 : UInt8) = 92 from rfl), escaped_eq _ hK, Option.bind_some, ba_list]
      dsimp only
      have he := escG_le t
      by_cases h0 : (escG t).2 = 0
      · rw [if_pos (by omega), if_pos h0]
        rfl
      rw [if_neg (by omega), if_neg h0, if_pos ⟨by omega, by omega, by rw [size_list, ba_list]; omega⟩]
      have := ih (i + 1 + (escG t).2) deep k (out ++ (escG t).1) (by omega) (by omega) (by omega) hd1 hd2 (by rw [List.length_append]; omega)
      rw [show (i : Int) + (1 + ((escG t).2 : Int)) = ((i + 1 + (escG t).2 : Nat) : Int) by omega, this]
      have hx := hdd (1 + (escG t).2)
      rw [show i + (1 + (escG t).2) = i + 1 + (escG t).2 by omega, ← List.drop_drop, List.drop_one, List.tail_cons] at hx
      rw [hx]
    have n92 : ¬ ((c.toNat : Int) = 92) := fun e => h92 (UInt8.toNat_inj.1 (by show c.toNat = 92; omega))
    rw [if_neg n92, if_neg h92]
    have cast : ∀ x : UInt8, ((c.toNat : Int) = (x.toNat : Int)) ↔ c = x := fun x => ⟨fun e => UInt8.toNat_inj.1 (by omega), fun e => by rw [e]⟩
    have c41 := cast 41
    have c40 := cast 40
    rw [show (((41 : UInt8).toNat : Nat) : Int) = 41 from rfl] at c41
    rw [show (((40 : UInt8).toNat : Nat) : Int) = 40 from rfl] at c40
    by_cases h41 : c = 41 ∧ deep = 1
    · rw [if_pos ⟨c41.2 h41.1, by omega⟩, if_pos h41]
      show _ = some (strAns a0 a1 ((0 : Int), out, t))
      unfold strAns
      rw [if_pos rfl]
      dsimp only
      rw [show a0.size - t.length = i + 1 by omega]
      rfl
    rw [if_neg (fun e => h41 ⟨c41.1 e.1, by have := e.2; omega⟩), if_neg h41]
    by_cases h40 : c = 40 ∧ deep = 32
    · rw [if_pos ⟨c40.2 h40.1, by omega⟩, if_pos h40]
      show _ = some (strAns a0 a1 ((5 : Int), [], c :: t))
      unfold strAns
      rw [if_neg (show ¬ (5 : Int) = 0 by decide)]
      dsimp only
      rw [List.length_cons, show a0.size - (t.length + 1) = i by omega]
    rw [if_neg (fun e => h40 ⟨c40.1 e.1, by have := e.2; omega⟩), if_neg h40]
    have hdp : deepOf (c.toNat : Int) (deep : Int) = ((deepG c deep : Nat) : Int) ∧ 1 ≤ deepG c deep ∧ deepG c deep ≤ 32 := by
      unfold deepOf deepG
      by_cases e1 : c = 41
      · have : deep ≠ 1 := fun e => h41 ⟨e1, e⟩
        rw [if_pos (c41.2 e1), if_pos e1]
        omega
      rw [if_neg (fun e => e1 (c41.1 e)), if_neg e1]
      by_cases e2 : c = 40
      · have : deep ≠ 32 := fun e => h40 ⟨e2, e⟩
        rw [if_pos (c40.2 e2), if_pos e2]
        omega
      · rw [if_neg (fun e => e2 (c40.1 e)), if_neg e2]
        omega
    have hl := lineG_le (c :: t)
    rw [List.length_cons] at hl
    rw [line_eq, Option.bind_some, ba_list, hdp.1]
    by_cases h0 : 0 < lineG (c :: t)
    · rw [if_pos ⟨by omega, by omega⟩, if_pos h0]
      have := ih (i + lineG (c :: t)) (deepG c deep) k (out ++ [10]) (by omega) (by omega) (by omega) hdp.2.1 hdp.2.2 (by rw [List.length_append, List.length_singleton]; omega)
      rw [show (i : Int) + (lineG (c :: t) : Int) = ((i + lineG (c :: t) : Nat) : Int) by omega, this, hdd]
    · rw [if_neg (fun e => h0 (by have := e.1; omega)), if_pos (by omega), if_neg h0, show (c.toNat : Int).toNat.toUInt8 = c from by rw [Int.toNat_natCast]; exact UInt8.ofNat_toNat]
      have := ih (i + 1) (deepG c deep) k (out ++ [c]) (by omega) (by omega) (by omega) hdp.2.1 hdp.2.2 (by rw [List.length_append, List.length_singleton]; omega)
      rw [show (i : Int) + 1 = ((i + 1 : Nat) : Int) by omega, this, ← hdd 1]
      rfl
end Go.Proofs.YtdcldaknmenklaaGreatDoor.M
end
section
namespace Go.Proofs.YtdcldaknmenklaaGreatDoor.M
open Go.RowKit Go.Proofs.YtdcldaknmenklaaGreatDoorW.PrintWords
set_option linter.unusedVariables false
set_option linter.unusedSimpArgs false
/-- A digit that waits for its second one stands as a byte already. -/
def rowOf (acc : List Int) : Option Int → List Int
  | none => acc
  | some h => acc ++ [h * 16]
def unhG : List Int → Option Int → List UInt8 → Int × List Int × List UInt8
  | acc, hi, [] => (0, rowOf acc hi, [])
  | acc, hi, c :: t => match hexVal c.toNat with
    | some v => (match hi with | none => unhG acc (some v) t | some h => unhG (acc ++ [h * 16 + v]) none t)
    | none => if isWhite c.toNat = true then unhG acc hi t else (1, [], c :: t)
def unhAns (s : ByteArray) (x : Int × List Int × List UInt8) : List Int × Int × Int := if x.1 = 0 then (x.2.1, (s.size : Int), 0) else ([], ((s.size - x.2.2.length : Nat) : Int), 1)
theorem hexVal_lt {c v : Int} (h : hexVal c = some v) : 0 ≤ v ∧ v < 16 := by
  unfold hexVal at h
  split at h
  · injection h; omega
  · split at h
    · injection h; omega
    · split at h
      · injection h; omega
      · cases h
theorem or_all : ∀ h v : Fin 16, Go.bits .or .u8 ((h.val : Int) * 16) (v.val : Int) = (h.val : Int) * 16 + v.val := by decide +kernel
theorem or_eq (h v : Int) (h0 : 0 ≤ h) (h1 : h < 16) (v0 : 0 ≤ v) (v1 : v < 16) : Go.bits .or .u8 (h * 16) v = h * 16 + v := by
  have := or_all ⟨h.toNat, by omega⟩ ⟨v.toNat, by omega⟩
  dsimp only at this
  rw [Int.toNat_of_nonneg h0, Int.toNat_of_nonneg v0] at this
  exact this
theorem rowOf_length (acc : List Int) (hi : Option Int) : (rowOf acc hi).length ≤ acc.length + 1 := by
  unfold rowOf; split <;> simp
set_option maxHeartbeats 1600000 in
theorem unhex_loop (s : ByteArray) (hs : s.size < 140737488355000) (d : Nat) : ∀ (i k : Nat) (acc : List Int) (hi : Option Int), s.size - i = d → i ≤ s.size → 2 * d + 4 ≤ k → acc.length + 1 ≤ i + 1 → (∀ h, hi = some h → 0 ≤ h ∧ h < 16) →
    hex_UnHex.l0 k s (rowOf acc hi) hi.isNone (s.size : Int) (i : Int) = some (unhAns s (unhG acc hi (s.data.toList.drop i))) := by
  induction d with
  | zero =>
    intro i k acc hi hd h0 hk ha hh
    obtain ⟨k, rfl⟩ : ∃ k', k = k' + 1 := ⟨k - 1, by omega⟩
    rw [hex_UnHex.l0, if_neg (by omega), List.drop_eq_nil_of_le (by rw [← size_list]; omega)]
    cases hi <;> rfl
  | succ d ih =>
    intro i k acc hi hd h0 hk ha hh
    obtain ⟨k, rfl⟩ : ∃ k', k = k' + 2 := ⟨k - 2, by omega⟩
    have hlt : i < s.size := by omega
    have hL : i < s.data.toList.length := by rw [← size_list]; exact hlt
    have hdr := List.drop_eq_getElem_cons hL
    have hrem : (s.data.toList.drop i).length = s.size - i := by rw [List.length_drop, ← size_list]
    rw [hex_UnHex.l0, if_pos (by omega), if_pos (by omega), if_pos (by omega), bt_get s i hlt]
    rw [hdr] at hrem ⊢
    generalize s.data.toList[i] = c at hrem ⊢
    have hc := c.toNat_lt
    have hnx : wrap64 ((i : Int) + 1) = ((i + 1 : Nat) : Int) := wrap_small (by omega) (by omega)
    rw [wrap_small (x := (c.toNat : Int)) (by omega) (by omega), digit_eq (by omega) _ (by omega) (by omega), Option.bind_some]
    dsimp only
    rw [unhG]
    have ih2 := ih (i + 1) k
    cases hv : hexVal c.toNat with
    | some v =>
      have hvb := hexVal_lt hv
      rw [if_pos (show (some v).isSome = true from rfl), hex_UnHex.j1, if_neg (show ¬ (false = true) by decide), if_pos (show (some v).isSome = true from rfl), hnx]
      dsimp only [Option.getD_some]
      cases hi with
      | none =>
        rw [if_pos (show (none : Option Int).isNone = true from rfl), if_pos (by have := rowOf_length acc none; omega), wrap_small (x := v * 16) (by omega) (by omega), show v * 16 % 256 = v * 16 by omega]
        have := ih2 acc (some v) (by omega) (by omega) (by omega) (by omega) (fun h e => by cases e; exact hvb)
        exact this
      | some h =>
        have hb := hh h rfl
        have hlen : (rowOf acc (some h)).length = acc.length + 1 := by simp [rowOf]
        rw [if_neg (show ¬ ((some h).isNone = true) by simp), hlen, wrap_small (x := ((acc.length + 1 : Nat) : Int) - 1) (by omega) (by omega), if_pos (by omega), if_pos (by omega), show (((acc.length + 1 : Nat) : Int) - 1) = (acc.length : Int) by omega]
        have hrd : rd (rowOf acc (some h)) (acc.length : Int) = h * 16 := by
          unfold rd rowOf
          rw [Int.toNat_natCast]
          simp
        have hset : (rowOf acc (some h)).set (acc.length : Int).toNat (h * 16 + v) = acc ++ [h * 16 + v] := by
          rw [Int.toNat_natCast]
          simp [rowOf]
        rw [hrd, show v % 256 = v by omega, or_eq h v hb.1 hb.2 hvb.1 hvb.2, hset]
        have := ih2 (acc ++ [h * 16 + v]) none (by omega) (by omega) (by omega) (by rw [List.length_append, List.length_singleton]; omega) (fun h e => by cases e)
        exact this
    | none =>
      rw [if_neg (show ¬ ((none : Option Int).isSome = true) by simp)]
      rw [show hex_White.f (c.toNat : Int) = some (isWhite c.toNat) from rfl, Option.bind_some, hex_UnHex.j1]
      by_cases hw : isWhite c.toNat = true
      · rw [if_pos hw, if_pos hw, hnx]
        exact ih2 acc hi (by omega) (by omega) (by omega) (by omega) hh
      · rw [if_neg hw, if_neg hw, if_neg (show ¬ ((none : Option Int).isSome = true) by simp)]
        unfold unhAns
        rw [if_neg (show ¬ (1 : Int) = 0 by decide)]
        dsimp only
        rw [hrem, show s.size - (s.size - i) = i by omega]
theorem unhex_eq (s : ByteArray) (hs : s.size < 140737488355000) {k : Nat} (hk : 2 * s.size + 4 ≤ k) : hex_UnHex.f k s = some (unhAns s (unhG [] none s.data.toList)) := by
  have := unhex_loop s hs s.size 0 k [] none (by omega) (by omega) hk (by simp) (fun h e => by cases e)
  rw [List.drop_zero] at this
  exact this
end Go.Proofs.YtdcldaknmenklaaGreatDoor.M
end
section
namespace Go.Proofs.YtdcldaknmenklaaGreatDoor.M
open Go.RowKit Go.Proofs.YtdcldaknmenklaaGreatDoorW.PrintWords
set_option linter.unusedVariables false
def isRegB (c : UInt8) : Bool := clsOf c.toNat == 0
def wordAt (l : List UInt8) (i : Nat) : List UInt8 := (l.drop i).takeWhile isRegB
def placeN (s : ByteArray) (a : Int) : Nat := (max 0 (min a s.size)).toNat
theorem placeN_le (s : ByteArray) (a : Int) : placeN s a ≤ s.size := by unfold placeN; omega
theorem place_eq (s : ByteArray) (a : Int) : lex_place.f s a = some (placeN s a : Int) := by
  unfold lex_place.f placeN
  congr 1
  unfold mx mn
  repeat' split
  all_goals omega
theorem wordAt_cons (l : List UInt8) (i : Nat) (h : i < l.length) (hr : isRegB l[i] = true) : wordAt l i = l[i] :: wordAt l (i + 1) := by
  unfold wordAt
  rw [List.drop_eq_getElem_cons h, List.takeWhile_cons, if_pos hr]
theorem wordAt_stop (l : List UInt8) (i : Nat) (h : i < l.length) (hr : isRegB l[i] = false) : wordAt l i = [] := by
  unfold wordAt
  rw [List.drop_eq_getElem_cons h, List.takeWhile_cons, if_neg (by simp [hr])]
theorem wordAt_end (l : List UInt8) (i : Nat) (h : l.length ≤ i) : wordAt l i = [] := by
  unfold wordAt
  rw [List.drop_of_length_le h]; rfl
theorem wordAt_le (l : List UInt8) (i : Nat) (h : i ≤ l.length) : i + (wordAt l i).length ≤ l.length := by
  have : (wordAt l i).length ≤ (l.drop i).length := by unfold wordAt; exact (List.takeWhile_prefix _).length_le
  rw [List.length_drop] at this; omega
theorem cls_get (s : ByteArray) (i : Nat) (h : i < s.size) {k : Nat} (hk : 2 ≤ k) : lex_Class.f k (wrap64 (bt s i)) = some (clsOf (s.data.toList[i]'(by simpa using h)).toNat) := by
  have hr := bt_range s i
  rw [wrap_small hr.1 (by omega), bt_get s i h, class_eq hk]
theorem word_loop (s : ByteArray) (hs : s.size < 4611686018427387904) (a : Nat) (d : Nat) : ∀ (i k : Nat), s.size - i = d → i ≤ s.size → a ≤ i → d + 4 ≤ k →
    lex_Word.l0 k s a i = some (s.extract a (i + (wordAt s.data.toList i).length), ((i + (wordAt s.data.toList i).length : Nat) : Int)) := by
  induction d with
  | zero =>
    intro i k hd hi ha hk
    obtain ⟨k, rfl⟩ : ∃ m, k = m + 1 := ⟨k - 1, by omega⟩
    simp only [lex_Word.l0]
    rw [wordAt_end _ _ (by rw [← size_list]; omega), if_neg (by omega), if_pos (by omega), if_pos (by omega), if_pos (by omega)]
    simp
  | succ d ih =>
    intro i k hd hi ha hk
    obtain ⟨k, rfl⟩ : ∃ m, k = m + 1 := ⟨k - 1, by omega⟩
    have hlt : i < s.size := by omega
    have hl : i < s.data.toList.length := by rw [← size_list]; exact hlt
    simp only [lex_Word.l0]
    rw [if_pos (by omega), if_pos (by omega), cls_get s i hlt (by omega)]
    simp only [Option.bind_some]
    by_cases hr : isRegB s.data.toList[i] = true
    · have h0 : clsOf (s.data.toList[i]).toNat = 0 := by simpa [isRegB] using hr
      rw [if_pos h0, wrap_small (by omega) (by omega)]
      have := ih (i + 1) k (by omega) (by omega) (by omega) (by omega)
      rw [show ((i : Int) + 1) = ((i + 1 : Nat) : Int) by omega, this, wordAt_cons _ _ hl hr]
      simp only [List.length_cons]
      rw [show i + 1 + (wordAt s.data.toList (i + 1)).length = i + ((wordAt s.data.toList (i + 1)).length + 1) by omega]
    · have h0 : ¬ clsOf (s.data.toList[i]).toNat = 0 := by simpa [isRegB] using hr
      have hr' : isRegB s.data.toList[i] = false := by simpa using hr
      rw [if_neg h0, wordAt_stop _ _ hl hr', if_pos (by omega), if_pos (by omega), if_pos (by omega)]
      simp
/-- What Word tells. -/
theorem word_eq (s : ByteArray) (hs : s.size < 4611686018427387904) (a : Int) {k : Nat} (hk : s.size + 4 ≤ k) :
    lex_Word.f k s a = some (⟨(wordAt s.data.toList (placeN s a)).toArray⟩, ((placeN s a + (wordAt s.data.toList (placeN s a)).length : Nat) : Int)) := by
  unfold lex_Word.f
  rw [place_eq]
  simp only [Option.bind_some]
  rw [word_loop s hs (placeN s a) _ (placeN s a) k rfl (placeN_le s a) (Nat.le_refl _) (by omega), ext_mid]
  have e : (s.data.toList.drop (placeN s a)).take (placeN s a + (wordAt s.data.toList (placeN s a)).length - placeN s a) = wordAt s.data.toList (placeN s a) := by
    rw [Nat.add_sub_cancel_left]
    unfold wordAt
    exact (List.prefix_iff_eq_take.1 (List.takeWhile_prefix _)).symm
  rw [e]
theorem hex_back : ∀ n : Fin 256, hexVal (hexDig (n.val / 16)).toNat = some ((n.val / 16 : Nat) : Int) ∧ hexVal (hexDig (n.val % 16)).toNat = some ((n.val % 16 : Nat) : Int) := by decide +kernel
theorem write_ok : ∀ n : Fin 256, (writeOf n.val.toUInt8).all (fun c => decide (33 ≤ c.toNat) && decide (c.toNat ≤ 126) && isRegB c) = true := by decide +kernel
theorem writeOf_ok (c : UInt8) : (writeOf c).all (fun c => decide (33 ≤ c.toNat) && decide (c.toNat ≤ 126) && isRegB c) = true := by
  have := write_ok ⟨c.toNat, c.toNat_lt⟩
  simpa using this
theorem writeBytes_ok (l : List UInt8) : (writeBytes l).all (fun c => decide (33 ≤ c.toNat) && decide (c.toNat ≤ 126) && isRegB c) = true := by
  unfold writeBytes
  rw [List.all_flatMap]
  exact List.all_eq_true.2 fun c _ => writeOf_ok c
theorem name_write (l : List UInt8) : nameGo (writeBytes l) = l := by
  induction l with
  | nil => rfl
  | cons c l ih =>
    simp only [writeBytes, List.flatMap_cons] at ih ⊢
    by_cases hp : isPlainB (c.toNat : Int) = true
    · have e : writeOf c = [c] := by unfold writeOf; rw [if_pos hp]
      have hc : (c == 35) = false := by
        rw [beq_eq_false_iff_ne]
        rintro rfl
        simp [isPlainB] at hp
      rw [e]
      show nameGo (c :: List.flatMap writeOf l) = _
      rw [nameGo_plain c _ hc, ih]
    · have e : writeOf c = 35 :: hexOf c.toNat := by unfold writeOf; rw [if_neg hp]
      have hb := hex_back ⟨c.toNat, c.toNat_lt⟩
      simp only at hb
      rw [e]
      simp only [hexOf, Int.toNat_natCast]
      show nameGo (35 :: hexDig (c.toNat / 16) :: hexDig (c.toNat % 16) :: List.flatMap writeOf l) = _
      rw [nameGo_yes _ _ _ _ _ hb.1 hb.2, ih]
      congr 1
      have : (((c.toNat / 16 : Nat) : Int) * 16 + ((c.toNat % 16 : Nat) : Int)).toNat = c.toNat := by omega
      rw [this]
      simp
end Go.Proofs.YtdcldaknmenklaaGreatDoor.M
end
section
namespace Go.Proofs.YtdcldaknmenklaaGreatDoor.M
open Go.RowKit Go.Proofs.YtdcldaknmenklaaGreatDoorW.PrintWords
set_option linter.unusedVariables false
def isNL (c : UInt8) : Bool := c == 10 || c == 13
/-- How many bytes are skipped; the first argument: in a remark. -/
def skipG : Bool → List UInt8 → Nat
  | _, [] => 0
  | true, c :: r => 1 + skipG (!isNL c) r
  | false, c :: r => if c == 37 then 1 + skipG true r else if clsOf c.toNat == 1 then 1 + skipG false r else 0
def nlAt (r : List UInt8) : Nat := (r.takeWhile (fun c => !isNL c)).length
theorem skipG_le : ∀ (l : List UInt8) (b : Bool), skipG b l ≤ l.length
  | [], b => by cases b <;> simp [skipG]
  | c :: r, true => by have := skipG_le r (!isNL c); simp only [skipG, List.length_cons]; omega
  | c :: r, false => by
    have h1 := skipG_le r true
    have h2 := skipG_le r false
    simp only [skipG, List.length_cons]
    split
    · omega
    · split <;> omega
theorem skipG_stable : ∀ (l : List UInt8) (b : Bool), skipG false (l.drop (skipG b l)) = 0
  | [], b => by cases b <;> simp [skipG]
  | c :: r, true => by
    have := skipG_stable r (!isNL c)
    simp only [skipG]
    rw [Nat.add_comm, List.drop_succ_cons]; exact this
  | c :: r, false => by
    have h1 := skipG_stable r true
    have h2 := skipG_stable r false
    rw [skipG]
    split
    · rw [Nat.add_comm, List.drop_succ_cons]; exact h1
    · split
      · rw [Nat.add_comm, List.drop_succ_cons]; exact h2
      · rename_i n1 n2
        rw [List.drop_zero, skipG, if_neg n1, if_neg n2]
theorem skipG_zero (c : UInt8) (r : List UInt8) (h : skipG false (c :: r) = 0) : (c == 37) = false ∧ (clsOf c.toNat == 1) = false := by
  rw [skipG] at h
  split at h
  · omega
  · split at h
    · omega
    · rename_i n1 n2
      exact ⟨by simpa using n1, by simpa using n2⟩
theorem skipG_remark : ∀ r : List UInt8, skipG true r = if nlAt r < r.length then nlAt r + 1 + skipG false (r.drop (nlAt r + 1)) else r.length
  | [] => by simp [skipG, nlAt]
  | c :: r => by
    have ih := skipG_remark r
    simp only [skipG]
    cases hc : isNL c with
    | true =>
      have e : nlAt (c :: r) = 0 := by simp [nlAt, hc]
      rw [e, if_pos (by simp)]
      simp
    | false =>
      have e : nlAt (c :: r) = nlAt r + 1 := by simp [nlAt, hc]
      rw [e, Bool.not_false, ih]
      simp only [List.length_cons, List.drop_succ_cons]
      by_cases hl : nlAt r < r.length
      · rw [if_pos hl, if_pos (by omega)]; omega
      · rw [if_neg hl, if_neg (by omega)]; omega
/-- Where the remark ends, as the program finds it. -/
def endOf (r : List UInt8) : Int := if 0 ≤ Lib.indexByte r 13 ∧ (Lib.indexByte r 10 < 0 ∨ Lib.indexByte r 13 < Lib.indexByte r 10) then Lib.indexByte r 13 else Lib.indexByte r 10
theorem indexByte_cons (c : UInt8) (r : List UInt8) (x : UInt8) : Lib.indexByte (c :: r) x = if c = x then 0 else if Lib.indexByte r x = -1 then -1 else Lib.indexByte r x + 1 := by
  simp [Lib.indexByte]
theorem endOf_eq : ∀ r : List UInt8, endOf r = if nlAt r < r.length then (nlAt r : Int) else -1
  | [] => by simp [endOf, nlAt, Lib.indexByte]
  | c :: r => by
    have ih := endOf_eq r
    have ha := Lib.indexByte_ge r 10
    have hb := Lib.indexByte_ge r 13
    have ea := indexByte_cons c r 10
    have eb := indexByte_cons c r 13
    unfold endOf at ih ⊢
    generalize Lib.indexByte (c :: r) 10 = A at ea ⊢
    generalize Lib.indexByte (c :: r) 13 = B at eb ⊢
    generalize Lib.indexByte r 10 = a at ea ih ha
    generalize Lib.indexByte r 13 = b at eb ih hb
    by_cases h10 : c = 10
    · subst h10
      have e : nlAt (10 :: r) = 0 := by simp [nlAt, isNL]
      rw [if_pos rfl] at ea
      rw [if_neg (by decide)] at eb
      have hr : (if nlAt (10 :: r) < (10 :: r).length then ((nlAt (10 :: r) : Nat) : Int) else -1) = 0 := by rw [e]; simp
      rw [hr]
      split at eb <;> (split <;> omega)
    · by_cases h13 : c = 13
      · subst h13
        have e : nlAt (13 :: r) = 0 := by simp [nlAt, isNL]
        rw [if_pos rfl] at eb
        rw [if_neg (by decide)] at ea
        have hr : (if nlAt (13 :: r) < (13 :: r).length then ((nlAt (13 :: r) : Nat) : Int) else -1) = 0 := by rw [e]; simp
        rw [hr]
        split at ea <;> (split <;> omega)
      · have e : nlAt (c :: r) = nlAt r + 1 := by simp [nlAt, isNL, h10, h13]
        rw [if_neg h10] at ea
        rw [if_neg h13] at eb
        by_cases hn : nlAt r < r.length
        · rw [if_pos hn] at ih
          have hr : (if nlAt (c :: r) < (c :: r).length then ((nlAt (c :: r) : Nat) : Int) else -1) = ((nlAt r + 1 : Nat) : Int) := by rw [e, List.length_cons, if_pos (by omega)]
          rw [hr]
          split at ih <;> split at ea <;> split at eb <;> (split <;> omega)
        · rw [if_neg hn] at ih
          have hr : (if nlAt (c :: r) < (c :: r).length then ((nlAt (c :: r) : Nat) : Int) else -1) = -1 := by rw [e, List.length_cons, if_neg (by omega)]
          rw [hr]
          split at ih <;> split at ea <;> split at eb <;> (split <;> omega)
theorem skip_loop (s : ByteArray) (hs : s.size < 4611686018427387904) (d : Nat) : ∀ (i k : Nat), s.size - i ≤ d → i ≤ s.size → 2 * d + 4 ≤ k →
    lex_Skip.l0 k s i = some ((i + skipG false (s.data.toList.drop i) : Nat) : Int) := by
  induction d with
  | zero =>
    intro i k hd hi hk
    obtain ⟨k, rfl⟩ : ∃ m, k = m + 1 := ⟨k - 1, by omega⟩
    simp only [lex_Skip.l0]
    rw [if_neg (by omega), List.drop_of_length_le (by rw [← size_list]; omega)]
    simp [skipG]
  | succ d ih =>
    intro i k hd hi hk
    obtain ⟨k, rfl⟩ : ∃ m, k = m + 1 := ⟨k - 1, by omega⟩
    by_cases hlt : i < s.size
    · have hl : i < s.data.toList.length := by rw [← size_list]; exact hlt
      simp only [lex_Skip.l0]
      rw [if_pos (by omega), if_pos (by omega), bt_get s i hlt, List.drop_eq_getElem_cons hl]
      by_cases hc : (s.data.toList[i].toNat : Int) = 37
      · have hc' : s.data.toList[i] = 37 := UInt8.toNat_inj.1 (show s.data.toList[i].toNat = (37 : UInt8).toNat by have : (37 : UInt8).toNat = 37 := rfl; omega)
        rw [if_pos hc, if_pos (by omega)]
        obtain ⟨k, rfl⟩ : ∃ m, k = m + 1 := ⟨k - 1, by omega⟩
        have hx : s.extract (i : Int).toNat s.size = ⟨(s.data.toList.drop i).toArray⟩ := by rw [Int.toNat_natCast, ext_from]
        rw [hx]
        simp only [strings_IndexByte.f, Option.bind_some, show (Int.toNat 13).toUInt8 = 13 from rfl, show (Int.toNat 10).toUInt8 = 10 from rfl]
        have hb := Lib.indexByte_ge (s.data.toList.drop i) 13
        have ha := Lib.indexByte_ge (s.data.toList.drop i) 10
        have he := endOf_eq (s.data.toList.drop i)
        have hlen : (s.data.toList.drop i).length = s.size - i := by rw [List.length_drop, ← size_list]
        have hnl : nlAt (s.data.toList.drop i) ≤ (s.data.toList.drop i).length := by unfold nlAt; exact (List.takeWhile_prefix _).length_le
        have hsk : skipG false (s.data.toList[i] :: s.data.toList.drop (i + 1)) = skipG true (s.data.toList.drop i) := by
          rw [List.drop_eq_getElem_cons hl, hc']; simp [skipG, isNL]
        rw [hsk, skipG_remark]
        have key : lex_Skip.j1 (k + 1) s i (Lib.indexByte (s.data.toList.drop i) 10) (Lib.indexByte (s.data.toList.drop i) 13) (decide (0 ≤ Lib.indexByte (s.data.toList.drop i) 13 ∧ (Lib.indexByte (s.data.toList.drop i) 10 < 0 ∨ Lib.indexByte (s.data.toList.drop i) 13 < Lib.indexByte (s.data.toList.drop i) 10))) = if endOf (s.data.toList.drop i) < 0 then some (s.size : Int) else lex_Skip.l0 k s (wrap64 ((wrap64 (i + endOf (s.data.toList.drop i))) + 1)) := by
          by_cases hcnd : 0 ≤ Lib.indexByte (s.data.toList.drop i) 13 ∧ (Lib.indexByte (s.data.toList.drop i) 10 < 0 ∨ Lib.indexByte (s.data.toList.drop i) 13 < Lib.indexByte (s.data.toList.drop i) 10)
          · have e : endOf (s.data.toList.drop i) = Lib.indexByte (s.data.toList.drop i) 13 := by unfold endOf; rw [if_pos hcnd]
            rw [e, decide_eq_true hcnd, lex_Skip.j1, if_pos rfl]
          · have e : endOf (s.data.toList.drop i) = Lib.indexByte (s.data.toList.drop i) 10 := by unfold endOf; rw [if_neg hcnd]
            rw [e, decide_eq_false hcnd, lex_Skip.j1, if_neg (by decide)]
        have key2 : (if Lib.indexByte (s.data.toList.drop i) 13 ≥ 0 then (if Lib.indexByte (s.data.toList.drop i) 10 < 0 then lex_Skip.j1 (k + 1) s i (Lib.indexByte (s.data.toList.drop i) 10) (Lib.indexByte (s.data.toList.drop i) 13) true else lex_Skip.j1 (k + 1) s i (Lib.indexByte (s.data.toList.drop i) 10) (Lib.indexByte (s.data.toList.drop i) 13) (decide (Lib.indexByte (s.data.toList.drop i) 13 < Lib.indexByte (s.data.toList.drop i) 10))) else lex_Skip.j1 (k + 1) s i (Lib.indexByte (s.data.toList.drop i) 10) (Lib.indexByte (s.data.toList.drop i) 13) false) = lex_Skip.j1 (k + 1) s i (Lib.indexByte (s.data.toList.drop i) 10) (Lib.indexByte (s.data.toList.drop i) 13) (decide (0 ≤ Lib.indexByte (s.data.toList.drop i) 13 ∧ (Lib.indexByte (s.data.toList.drop i) 10 < 0 ∨ Lib.indexByte (s.data.toList.drop i) 13 < Lib.indexByte (s.data.toList.drop i) 10))) := by
          split
          · rename_i h1
            split
            · rename_i h2
              rw [decide_eq_true (show _ ∧ _ from ⟨h1, .inl h2⟩)]
            · rename_i h2
              congr 1
              rw [decide_eq_decide]
              constructor
              · intro h3; exact ⟨h1, .inr h3⟩
              · rintro ⟨_, h3 | h3⟩
                · exact absurd h3 h2
                · exact h3
          · rename_i h1
            rw [decide_eq_false (show ¬ (_ ∧ _) from fun h3 => h1 h3.1)]
        rw [key2, key]
        clear key key2 ha hb hx hc hc' hsk
        · rw [he]
          clear he
          have hih := fun (n : Nat) (h : n < (s.data.toList.drop i).length) => ih (i + n + 1) k (by omega) (by omega) (by omega)
          clear ih
          generalize (s.data.toList.drop i).length = L at *
          generalize hnn : nlAt (s.data.toList.drop i) = n at *
          clear hnn
          by_cases hn : n < L
          · rw [if_pos hn, if_pos hn, if_neg (by omega)]
            have e1 : wrap64 ((i : Int) + (n : Int)) = (i : Int) + (n : Int) := wrap_small (by omega) (by omega)
            have e2 : wrap64 ((i : Int) + (n : Int) + 1) = ((i + n + 1 : Nat) : Int) := by
              rw [wrap_small (by omega) (by omega)]; omega
            rw [e1, e2, hih n hn, List.drop_drop, show i + n + 1 = i + (n + 1) by omega, Nat.add_assoc]
          · rw [if_neg hn, if_neg hn, if_pos (by omega)]
            congr 1
            omega
      · have hc' : (s.data.toList[i] == 37) = false := by
          rw [beq_eq_false_iff_ne]; intro e; apply hc; rw [e]; rfl
        rw [if_neg hc, ← bt_get s i hlt, cls_get s i hlt (by omega)]
        simp only [Option.bind_some]
        have hr : skipG false (s.data.toList[i] :: s.data.toList.drop (i + 1)) = if clsOf (s.data.toList[i]).toNat == 1 then 1 + skipG false (s.data.toList.drop (i + 1)) else 0 := by
          rw [skipG, hc']; rfl
        rw [hr]
        by_cases h1 : clsOf (s.data.toList[i]).toNat = 1
        · rw [if_pos h1, if_pos (by simpa using h1), wrap_small (by omega) (by omega)]
          have := ih (i + 1) k (by omega) (by omega) (by omega)
          rw [show ((i : Int) + 1) = ((i + 1 : Nat) : Int) by omega, this]
          congr 1
          omega
        · rw [if_neg h1, if_neg (by simpa using h1)]
          rfl
    · simp only [lex_Skip.l0]
      rw [if_neg (by omega), List.drop_of_length_le (by rw [← size_list]; omega)]
      simp [skipG]
/-- What Skip tells. -/
def skipN (s : ByteArray) (a : Int) : Nat := placeN s a + skipG false (s.data.toList.drop (placeN s a))
theorem skipN_le (s : ByteArray) (a : Int) : skipN s a ≤ s.size := by
  have h1 := skipG_le (s.data.toList.drop (placeN s a)) false
  have h2 := placeN_le s a
  rw [List.length_drop, ← size_list] at h1
  unfold skipN; omega
theorem skip_eq (s : ByteArray) (hs : s.size < 4611686018427387904) (a : Int) {k : Nat} (hk : 2 * s.size + 4 ≤ k) : lex_Skip.f k s a = some (skipN s a : Int) := by
  unfold lex_Skip.f
  rw [place_eq]
  simp only [Option.bind_some]
  rw [skip_loop s hs s.size _ k (by omega) (placeN_le s a) hk]
  rfl
end Go.Proofs.YtdcldaknmenklaaGreatDoor.M
end
section
namespace Go.Proofs.YtdcldaknmenklaaGreatDoor.M
open Go.RowKit Go.Proofs.YtdcldaknmenklaaGreatDoorW.PrintWords
set_option linter.unusedVariables false
set_option linter.unusedSimpArgs false
/-- Kind, number, text, length (or the error's place), error. -/
abbrev NxR := Int × Int × ByteArray × Nat × Int
def nxErr (len : Nat) (e : Int) : NxR := (0, 0, ⟨#[]⟩, len, e)
def hexedG (t : List UInt8) : NxR :=
  if (Lib.cut t [62]).2.2 = true then
    (if (unhG [] none (Lib.cut t [62]).1).1 = 0 then (4, 0, strOfNums (unhG [] none (Lib.cut t [62]).1).2.1, (Lib.cut t [62]).1.length + 2, 0)
     else nxErr (1 + ((Lib.cut t [62]).1.length - (unhG [] none (Lib.cut t [62]).1).2.2.length)) 1)
  else nxErr (t.length + 1) 2
def strungG (t : List UInt8) : NxR :=
  if (strG (t.length + 1) 1 [] t).1 = 0 then (5, 0, ⟨(strG (t.length + 1) 1 [] t).2.1.toArray⟩, t.length + 1 - (strG (t.length + 1) 1 [] t).2.2.length, 0)
  else nxErr (t.length + 1 - (strG (t.length + 1) 1 [] t).2.2.length) (strG (t.length + 1) 1 [] t).1
def wordedG (r : List UInt8) : NxR :=
  if (lexInt (wordAt r 0)).2 = 0 then (1, (lexInt (wordAt r 0)).1, ⟨#[]⟩, (wordAt r 0).length, 0)
  else if (lexInt (wordAt r 0)).2 = 3 then (3, 0, ⟨(wordAt r 0).toArray⟩, (wordAt r 0).length, 0)
  else nxErr 0 (lexInt (wordAt r 0)).2
def nextR (r : List UInt8) : NxR :=
  match signOf r with
  | some (x, m) => (x, 0, ⟨#[]⟩, m, 0)
  | none => match r with
    | [] => (0, 0, ⟨#[]⟩, 0, 0)
    | c :: t =>
      if c = 41 ∨ c = 62 then nxErr 0 3
      else if c = 47 then (2, 0, ⟨(nameGo (wordAt t 0)).toArray⟩, 1 + (wordAt t 0).length, 0)
      else if c = 60 then hexedG t
      else if c = 40 then strungG t
      else wordedG (c :: t)
def nxAns (p : Nat) (x : NxR) : TokR := if x.2.2.2.2 = 0 then (x.1, (p : Int), x.2.1, x.2.2.1, ((p + x.2.2.2.1 : Nat) : Int), 0) else (0, 0, 0, ⟨#[]⟩, ((p + x.2.2.2.1 : Nat) : Int), x.2.2.2.2)
theorem strG_rem : ∀ (n deep : Nat) (out r : List UInt8), (strG n deep out r).2.2.length ≤ r.length
  | 0, _, _, _ => by simp [strG]
  | _ + 1, _, _, [] => by simp [strG]
  | n + 1, deep, out, c :: t => by
    have ih := strG_rem n
    rw [strG]
    split
    · split
      · simp
      · refine Nat.le_trans (ih _ _ _) ?_
        rw [List.length_drop, List.length_cons]; omega
    · split
      · simp
      · split
        · simp
        · split
          · refine Nat.le_trans (ih _ _ _) ?_
            rw [List.length_drop]; omega
          · refine Nat.le_trans (ih _ _ _) ?_
            simp
theorem strung_rel (a0 : ByteArray) (p k : Nat) (t : List UInt8) (hs : a0.size ≤ 140737488351000) (hp : p < a0.size) (hk : a0.size + 4 ≤ k) (ht : a0.data.toList.drop (p + 1) = t) :
    tok_source_strung.f k a0 (p : Int) = some (nxAns p (strungG t)) := by
  have hl : t.length = a0.size - (p + 1) := by rw [← ht, List.length_drop, ← size_list]
  unfold tok_source_strung.f
  rw [if_pos ⟨by omega, by omega⟩]
  have := strung_loop a0 p hs k (by omega) (t.length + 1) (p + 1) 1 k [] (by omega) (by omega) (by omega) (by omega) (by omega) (by simp)
  rw [ht] at this
  rw [show (p : Int) + 1 = ((p + 1 : Nat) : Int) by omega, show (1 : Int) = ((1 : Nat) : Int) from rfl, this]
  congr 1
  have hr : (strG (t.length + 1) 1 [] t).2.2.length ≤ t.length := by
    exact strG_rem _ _ _ _
  unfold strAns strungG nxAns
  by_cases h0 : (strG (t.length + 1) 1 [] t).1 = 0
  · rw [if_pos h0, if_pos h0]
    dsimp only
    rw [if_pos rfl, show p + (t.length + 1 - (strG (t.length + 1) 1 [] t).2.2.length) = a0.size - (strG (t.length + 1) 1 [] t).2.2.length by omega]
  · rw [if_neg h0, if_neg h0]
    unfold nxErr
    dsimp only
    rw [if_neg h0, show p + (t.length + 1 - (strG (t.length + 1) 1 [] t).2.2.length) = a0.size - (strG (t.length + 1) 1 [] t).2.2.length by omega]
theorem worded_rel (a0 : ByteArray) (p k : Nat) (hs : a0.size ≤ 140737488351000) (hp : p ≤ a0.size) (hk : a0.size + 4 ≤ k) :
    tok_source_worded.f k a0 (p : Int) = some (nxAns p (wordedG (a0.data.toList.drop p))) := by
  have hpl : placeN a0 (p : Int) = p := by unfold placeN; omega
  have hw : wordAt (a0.data.toList.drop p) 0 = wordAt a0.data.toList p := by unfold wordAt; rw [List.drop_zero]
  have hl := wordAt_le a0.data.toList p (by rw [← size_list]; exact hp)
  unfold tok_source_worded.f
  rw [word_eq a0 (by omega) _ hk, Option.bind_some, hpl]
  unfold wordedG
  rw [hw]
  dsimp only
  rw [show lex_Int.f (⟨(wordAt a0.data.toList p).toArray⟩ : ByteArray) = some (lexInt (wordAt a0.data.toList p)) from by
    unfold lex_Int.f
    rw [if_pos (by rw [size_list, ba_list]; rw [← size_list] at hl; omega), ba_list], Option.bind_some]
  by_cases h0 : (lexInt (wordAt a0.data.toList p)).2 = 0
  · rw [if_pos h0, if_pos h0]
    rfl
  rw [if_neg h0, if_neg h0]
  by_cases h3 : (lexInt (wordAt a0.data.toList p)).2 = 3
  · rw [if_pos h3, if_pos h3]
    rfl
  rw [if_neg h3, if_neg h3]
  unfold nxAns nxErr
  dsimp only
  rw [if_neg h0, Nat.add_zero]
theorem index_gt : ∀ t : List UInt8, Lib.index t [62] = if 62 ∈ t then ((t.takeWhile (fun c => c != 62)).length : Int) else -1
  | [] => by simp [Lib.index]
  | b :: l => by
    have ih := index_gt l
    rw [Lib.index]
    by_cases hb : b = 62
    · subst hb
      rw [if_pos (by simp [List.isPrefixOf]), if_pos (by simp)]
      simp
    · rw [if_neg (by simp [List.isPrefixOf]; exact fun e => hb e.symm), ih]
      by_cases hm : 62 ∈ l
      · rw [if_pos hm, if_neg (by rw [beq_iff_eq]; omega), if_pos (List.mem_cons_of_mem _ hm), List.takeWhile_cons, if_pos (by simpa using hb), List.length_cons]
        omega
      · rw [if_neg hm, if_pos (by rfl), if_neg (by simp [hm]; exact fun e => hb e.symm)]
theorem cut_gt (t : List UInt8) : Lib.cut t [62] = if 62 ∈ t then (t.takeWhile (fun c => c != 62), t.drop ((t.takeWhile (fun c => c != 62)).length + 1), true) else (t, [], false) := by
  unfold Lib.cut
  rw [index_gt]
  by_cases hm : 62 ∈ t
  · rw [if_pos hm, if_pos (by omega), if_pos hm, Int.toNat_natCast, ← List.prefix_iff_eq_take.1 (List.takeWhile_prefix _)]
    rfl
  · rw [if_neg hm, if_neg (by decide), if_neg hm]
theorem take_gt : ∀ t : List UInt8, 62 ∈ t → (t.takeWhile (fun c => c != 62)).length + 1 ≤ t.length
  | [], h => by cases h
  | b :: l, h => by
    by_cases hb : b = 62
    · subst hb; simp
    · have hm : 62 ∈ l := by
        rcases List.mem_cons.1 h with e | e
        · exact absurd e.symm hb
        · exact e
      have := take_gt l hm
      rw [List.takeWhile_cons, if_pos (by simpa using hb), List.length_cons, List.length_cons]
      omega
theorem hexed_rel (a0 : ByteArray) (p k : Nat) (t : List UInt8) (hs : a0.size ≤ 4294967000) (hp : p < a0.size) (hk : 2 * a0.size + 4 ≤ k) (ht : a0.data.toList.drop (p + 1) = t) :
    tok_source_hexed.f k a0 (p : Int) = some (nxAns p (hexedG t)) := by
  have hl : t.length = a0.size - (p + 1) := by rw [← ht, List.length_drop, ← size_list]
  have hcl : (Lib.cut t [62]).2.2 = true → (Lib.cut t [62]).1.length + 1 ≤ t.length := by
    rw [cut_gt]
    split
    · rename_i hm
      exact fun _ => take_gt t hm
    · exact fun h => by cases h
  unfold tok_source_hexed.f
  rw [wrap_small (x := (p : Int) + 1) (by omega) (by omega), show (p : Int) + 1 = ((p + 1 : Nat) : Int) by omega, from_eq a0 (p + 1) (by omega), ht, Option.bind_some]
  have hts : (⟨t.toArray⟩ : ByteArray).size = t.length := by rw [size_list, ba_list]
  have hcs : (⟨(Lib.cut t [62]).1.toArray⟩ : ByteArray).size = (Lib.cut t [62]).1.length := by rw [size_list, ba_list]
  unfold strings_Cut.f
  rw [if_pos (by omega), Option.bind_some, ba_list, show (⟨#[62]⟩ : ByteArray).data.toList = [62] from rfl]
  unfold hexedG
  dsimp only
  by_cases hf : (Lib.cut t [62]).2.2 = true
  · have hfl := hcl hf
    rw [if_pos hf, if_pos hf, unhex_eq _ (by omega) (by omega), Option.bind_some, ba_list]
    unfold unhAns
    by_cases h0 : (unhG [] none (Lib.cut t [62]).1).1 = 0
    · rw [if_pos h0, if_pos h0]
      dsimp only
      rw [if_pos rfl, hcs, wrap_small (x := (p : Int) + ((Lib.cut t [62]).1.length : Int)) (by omega) (by omega), wrap_small (by omega) (by omega)]
      unfold nxAns
      dsimp only
      rw [if_pos rfl, show (p : Int) + ((Lib.cut t [62]).1.length : Int) + 2 = ((p + ((Lib.cut t [62]).1.length + 2) : Nat) : Int) by omega]
    · rw [if_neg h0, if_neg h0]
      dsimp only
      rw [if_neg (show ¬ (1 : Int) = 0 by decide), hcs]
      unfold nxAns nxErr
      dsimp only
      rw [if_neg (show ¬ (1 : Int) = 0 by decide), wrap_small (by omega) (by omega), show ((p + 1 : Nat) : Int) + (((Lib.cut t [62]).1.length - (unhG [] none (Lib.cut t [62]).1).2.2.length : Nat) : Int) = ((p + (1 + ((Lib.cut t [62]).1.length - (unhG [] none (Lib.cut t [62]).1).2.2.length)) : Nat) : Int) by omega]
  · rw [if_neg hf, if_neg hf]
    unfold nxAns nxErr
    dsimp only
    rw [if_neg (show ¬ (2 : Int) = 0 by decide), show p + (t.length + 1) = a0.size by omega]
end Go.Proofs.YtdcldaknmenklaaGreatDoor.M
end
section
namespace Go.Proofs.YtdcldaknmenklaaGreatDoor.M
open Go.RowKit Go.Proofs.YtdcldaknmenklaaGreatDoorW.PrintWords
set_option linter.unusedVariables false
set_option linter.unusedSimpArgs false
def nextA (s : ByteArray) (a : Int) : TokR := if skipN s a = s.size then (0, (s.size : Int), 0, ⟨#[]⟩, (s.size : Int), 0) else nxAns (skipN s a) (nextR (s.data.toList.drop (skipN s a)))
set_option maxHeartbeats 1600000 in
theorem next_eq (s : ByteArray) (a : Int) (hs : s.size ≤ 4294967000) {k : Nat} (hk : 2 * s.size + 8 ≤ k) : tok_Next.f k s a = some (nextA s a) := by
  unfold tok_Next.f nextA
  rw [skip_eq s (by omega) a (by omega), Option.bind_some]
  have hpl := skipN_le s a
  generalize skipN s a = p at hpl
  by_cases he : p = s.size
  · rw [if_pos (by omega), if_pos he, he]
  rw [if_neg (by omega), if_neg he]
  have hp : p < s.size := by omega
  have hL : p < s.data.toList.length := by rw [← size_list]; exact hp
  have hdr := List.drop_eq_getElem_cons hL
  have hbt := bt_get s p hp
  rw [show tok_source_sign.f s (p : Int) = (match signOf (s.data.toList.drop p) with | some (x, n) => some (x, (p : Int), 0, ⟨#[]⟩, (p : Int) + n, true) | none => some (0, 0, 0, ⟨#[]⟩, (p : Int), false)) from by
    unfold tok_source_sign.f
    rw [if_pos ⟨by omega, by omega, by omega⟩, Int.toNat_natCast]
    cases signOf (s.data.toList.drop p) <;> rfl]
  unfold nextR
  cases hsg : signOf (s.data.toList.drop p) with
  | some xm =>
    obtain ⟨x, m⟩ := xm
    dsimp only
    rw [Option.bind_some, if_pos rfl]
    unfold nxAns
    dsimp only
    rw [if_pos rfl, show (p : Int) + (m : Int) = ((p + m : Nat) : Int) by omega]
  | none =>
    dsimp only
    rw [Option.bind_some]
    dsimp only
    rw [if_neg (show ¬ (false = true) by decide), if_pos (by omega), if_pos (by omega), hbt]
    have ht : s.data.toList.drop (p + 1) = s.data.toList.drop (p + 1) := rfl
    have hw := worded_rel s p
    rw [hdr] at hw ⊢
    generalize s.data.toList[p] = c at hw ⊢
    generalize hT : s.data.toList.drop (p + 1) = t at hw ⊢
    have hst := fun k => strung_rel s p k t (by omega) hp
    have hhx := fun k => hexed_rel s p k t hs hp
    obtain ⟨k, rfl⟩ : ∃ k', k = k' + 1 := ⟨k - 1, by omega⟩
    have cst : ∀ x : UInt8, ((c.toNat : Int) = (x.toNat : Int)) ↔ c = x := fun x => ⟨fun e => UInt8.toNat_inj.1 (by omega), fun e => by rw [e]⟩
    have c41 : ((c.toNat : Int) = 41) ↔ c = 41 := cst 41
    have c62 : ((c.toNat : Int) = 62) ↔ c = 62 := cst 62
    have c47 : ((c.toNat : Int) = 47) ↔ c = 47 := cst 47
    have c60 : ((c.toNat : Int) = 60) ↔ c = 60 := cst 60
    have c40 : ((c.toNat : Int) = 40) ↔ c = 40 := cst 40
    have key : ∀ b : Bool, (b = true ↔ (c = 41 ∨ c = 62)) → tok_Next.j0 (k + 1) s (p : Int) s (c.toNat : Int) b = some (nxAns p (if c = 41 ∨ c = 62 then nxErr 0 3 else if c = 47 then (2, 0, ⟨(nameGo (wordAt t 0)).toArray⟩, 1 + (wordAt t 0).length, 0) else if c = 60 then hexedG t else if c = 40 then strungG t else wordedG (c :: t))) := by
      intro b hb
      rw [tok_Next.j0]
      by_cases h : c = 41 ∨ c = 62
      · rw [if_pos (hb.2 h), if_pos h]
        rfl
      rw [if_neg (fun e => h (hb.1 e)), if_neg h]
      by_cases h1 : c = 47
      · rw [if_pos (c47.2 h1), if_pos h1, wrap_small (x := (p : Int) + 1) (by omega) (by omega), word_eq s (by omega) _ (by omega), Option.bind_some]
        have hpn : placeN s ((p : Int) + 1) = p + 1 := by unfold placeN; omega
        have hwa : wordAt s.data.toList (p + 1) = wordAt t 0 := by unfold wordAt; rw [hT, List.drop_zero]
        have hwl := wordAt_le s.data.toList (p + 1) (by rw [← size_list]; omega)
        rw [← size_list, hwa] at hwl
        rw [hpn, hwa]
        dsimp only
        rw [show lex_Name.f (⟨(wordAt t 0).toArray⟩ : ByteArray) = some ⟨(nameGo (wordAt t 0)).toArray⟩ from by
          unfold lex_Name.f
          rw [if_pos (by rw [size_list, ba_list]; omega), ba_list], Option.bind_some]
        unfold nxAns
        dsimp only
        rw [if_pos rfl, show p + (1 + (wordAt t 0).length) = p + 1 + (wordAt t 0).length by omega]
      rw [if_neg (fun e => h1 (c47.1 e)), if_neg h1]
      by_cases h2 : c = 60
      · rw [if_pos (c60.2 h2), if_pos h2, hhx k (by omega) hT, Option.bind_some]
      rw [if_neg (fun e => h2 (c60.1 e)), if_neg h2]
      by_cases h3 : c = 40
      · rw [if_pos (c40.2 h3), if_pos h3, hst k (by omega) hT, Option.bind_some]
      rw [if_neg (fun e => h3 (c40.1 e)), if_neg h3, hw k (by omega) (by omega) (by omega), Option.bind_some]
    by_cases h : (c.toNat : Int) = 41
    · rw [if_pos h]
      exact key _ ⟨fun _ => .inl (c41.1 h), fun _ => beq_iff_eq.2 h⟩
    · rw [if_neg h]
      refine key _ ⟨fun e => .inr (c62.1 (beq_iff_eq.1 e)), fun e => beq_iff_eq.2 ?_⟩
      rcases e with e | e
      · exact absurd (c41.2 e) h
      · exact c62.2 e
end Go.Proofs.YtdcldaknmenklaaGreatDoor.M
end
section
namespace Go.Proofs.YtdcldaknmenklaaGreatDoor.M
open Go.RowKit Go.Proofs.YtdcldaknmenklaaGreatDoorW.PrintWords
set_option linter.unusedVariables false
set_option linter.unusedSimpArgs false
theorem nameGo_len : ∀ l : List UInt8, (nameGo l).length ≤ l.length
  | [] => Nat.le_refl _
  | [c] => by rw [nameGo_short c [] (by simp)]; simp [nameGo]
  | [c, a] => by
    rw [nameGo_short c [a] (by simp), nameGo_short a [] (by simp)]; simp [nameGo]
  | c :: a :: b :: l => by
    have h1 := nameGo_len (a :: b :: l)
    have h2 := nameGo_len l
    by_cases hc : (c == 35) = false
    · rw [nameGo_plain c _ hc]
      simp only [List.length_cons] at h1 ⊢; omega
    · cases ha : hexVal a.toNat with
      | none => rw [nameGo_no c a b l (by rw [ha]; rfl)]; simp only [List.length_cons] at h1 ⊢; omega
      | some x => cases hb : hexVal b.toNat with
        | none => rw [nameGo_no c a b l (by rw [ha, hb]; rfl)]; simp only [List.length_cons] at h1 ⊢; omega
        | some y =>
          have hc' : c = 35 := by simpa using hc
          rw [hc', nameGo_yes a b l x y ha hb]; simp only [List.length_cons] at h2 ⊢; omega
theorem strG_out : ∀ (n deep : Nat) (out r : List UInt8), (strG n deep out r).1 = 0 → (strG n deep out r).2.1.length + (strG n deep out r).2.2.length + 1 ≤ out.length + r.length
  | 0, _, _, _ => by intro h; exact absurd h (by simp [strG])
  | _ + 1, _, _, [] => by intro h; exact absurd h (by simp [strG])
  | n + 1, deep, out, c :: t => by
    have ih := strG_out n
    have he := escG_le t
    have hl := lineG_le (c :: t)
    rw [strG]
    split
    · split
      · intro h; exact absurd h (by decide)
      · intro h
        have := ih _ _ _ h
        rw [List.length_append, List.length_drop] at this
        rw [List.length_cons]; omega
    · split
      · intro _; simp only [List.length_cons]; omega
      · split
        · intro h; exact absurd (show (5 : Int) = 0 from h) (by decide)
        · split
          · intro h
            have := ih _ _ _ h
            rw [List.length_append, List.length_drop, List.length_singleton] at this
            omega
          · intro h
            have := ih _ _ _ h
            rw [List.length_append, List.length_singleton] at this
            rw [List.length_cons]; omega
theorem unhG_out : ∀ (t : List UInt8) (acc : List Int) (hi : Option Int), (unhG acc hi t).2.1.length ≤ acc.length + t.length + 1 ∧ (hi = none → (unhG acc hi t).2.1.length ≤ acc.length + t.length) ∧ (unhG acc hi t).2.2.length ≤ t.length
  | [], acc, hi => by
    rw [unhG]
    have := rowOf_length acc hi
    refine ⟨by simpa using this, ?_, by simp⟩
    rintro rfl
    simp [rowOf]
  | c :: t, acc, hi => by
    rw [unhG]
    cases hexVal c.toNat with
    | some v =>
      cases hi with
      | none =>
        have ih := unhG_out t acc (some v)
        simp only [List.length_cons]
        exact ⟨by omega, fun _ => by omega, by omega⟩
      | some h =>
        have ih := unhG_out t (acc ++ [h * 16 + v]) none
        simp only [List.length_cons, List.length_append, List.length_nil] at ih ⊢
        exact ⟨by omega, fun e => by (cases e), by omega⟩
    | none =>
      dsimp only
      split
      · have ih := unhG_out t acc hi
        simp only [List.length_cons]
        exact ⟨by omega, fun e => by have := ih.2.1 e; omega, by omega⟩
      · simp
theorem str_nums_size (l : List Int) : (strOfNums l).size = l.length := by
  unfold strOfNums
  show (List.toArray _).size = _
  simp
/-- What is told of the next token: how long it is, what kind, how long its text is. -/
def NxOk (r : List UInt8) (x : NxR) : Prop := x.2.2.2.1 ≤ r.length ∧ (x.2.2.2.2 = 0 → 1 ≤ x.2.2.2.1 ∧ 1 ≤ x.1 ∧ x.1 ≤ 11 ∧ x.2.2.1.size ≤ x.2.2.2.1)
theorem nxErr_ok (r : List UInt8) (len : Nat) (e : Int) (he : e ≠ 0) (hl : len ≤ r.length) : NxOk r (nxErr len e) := ⟨hl, fun h => absurd h he⟩
theorem hexedG_ok (c : UInt8) (t : List UInt8) : NxOk (c :: t) (hexedG t) := by
  unfold hexedG
  rw [cut_gt]
  by_cases hm : 62 ∈ t
  · rw [if_pos hm]
    dsimp only
    have ht := take_gt t hm
    have hu := unhG_out (t.takeWhile (fun c => c != 62)) [] none
    rw [if_pos rfl]
    split
    · refine ⟨by simp only [List.length_cons]; omega, fun _ => ⟨by simp, by show (1 : Int) ≤ 4; decide, by show (4 : Int) ≤ 11; decide, ?_⟩⟩
      dsimp only
      rw [str_nums_size]
      have := hu.2.1 rfl
      simp only [List.length_nil] at this
      omega
    · exact nxErr_ok _ _ _ (by decide) (by simp only [List.length_cons]; omega)
  · rw [if_neg hm]
    dsimp only
    rw [if_neg (by decide)]
    exact nxErr_ok _ _ _ (by decide) (by simp)
theorem strungG_ok (c : UInt8) (t : List UInt8) : NxOk (c :: t) (strungG t) := by
  unfold strungG
  have hr := strG_rem (t.length + 1) 1 [] t
  split
  · rename_i h
    have ho := strG_out (t.length + 1) 1 [] t h
    simp only [List.length_nil] at ho
    refine ⟨by dsimp only; rw [List.length_cons]; omega, fun _ => ⟨by dsimp only; omega, by show (1 : Int) ≤ 5; decide, by show (5 : Int) ≤ 11; decide, ?_⟩⟩
    dsimp only
    rw [ba_size]
    omega
  · rename_i h
    exact nxErr_ok _ _ _ h (by rw [List.length_cons]; omega)
theorem wordAt_zero (r : List UInt8) : wordAt r 0 = r.takeWhile isRegB := by unfold wordAt; rw [List.drop_zero]
theorem wordedG_ok (r : List UInt8) (h : 1 ≤ (wordAt r 0).length) : NxOk r (wordedG r) := by
  have hl := wordAt_le r 0 (by omega)
  unfold wordedG
  split
  · refine ⟨by dsimp only; omega, fun _ => ⟨h, by show (1 : Int) ≤ 1; decide, by show (1 : Int) ≤ 11; decide, ?_⟩⟩
    dsimp only
    show 0 ≤ _
    omega
  · split
    · refine ⟨by dsimp only; omega, fun _ => ⟨h, by show (1 : Int) ≤ 3; decide, by show (3 : Int) ≤ 11; decide, ?_⟩⟩
      dsimp only
      rw [ba_size]
      omega
    · rename_i h0 _
      exact nxErr_ok _ _ _ h0 (by omega)
theorem signOf_len (r : List UInt8) (x : Int) (m : Nat) (h : signOf r = some (x, m)) : ∃ s, isSign x s ∧ s.isPrefixOf r = true ∧ m = s.length := by
  unfold signOf at h
  have fin : ∀ (y : Int) (s : List UInt8), isSign y s → s.isPrefixOf r = true → (y, s.length) = (x, m) → ∃ s, isSign x s ∧ s.isPrefixOf r = true ∧ m = s.length := by
    intro y s hy hs e
    injection e with e1 e2
    subst e1 e2
    exact ⟨s, hy, hs, rfl⟩
  split at h
  · rename_i hp; exact fin 6 [91] (by simp [isSign]) hp (Option.some.inj h)
  split at h
  · rename_i hp; exact fin 7 [93] (by simp [isSign]) hp (Option.some.inj h)
  split at h
  · rename_i hp; exact fin 8 [60, 60] (by simp [isSign]) hp (Option.some.inj h)
  split at h
  · rename_i hp; exact fin 9 [62, 62] (by simp [isSign]) hp (Option.some.inj h)
  split at h
  · rename_i hp; exact fin 10 [123] (by simp [isSign]) hp (Option.some.inj h)
  split at h
  · rename_i hp; exact fin 11 [125] (by simp [isSign]) hp (Option.some.inj h)
  · cases h
theorem sign_ok {x : Int} {s r : List UInt8} (hs : isSign x s) (hp : s.isPrefixOf r = true) : NxOk r (x, 0, ⟨#[]⟩, s.length, 0) := by
  have hl := (List.isPrefixOf_iff_prefix.1 hp).length_le
  refine ⟨hl, fun _ => ?_⟩
  dsimp only
  refine ⟨?_, ?_, ?_, Nat.zero_le _⟩
  · rcases hs with ⟨rfl, rfl⟩ | ⟨rfl, rfl⟩ | ⟨rfl, rfl⟩ | ⟨rfl, rfl⟩ | ⟨rfl, rfl⟩ | ⟨rfl, rfl⟩ <;> decide
  · rcases hs with ⟨rfl, rfl⟩ | ⟨rfl, rfl⟩ | ⟨rfl, rfl⟩ | ⟨rfl, rfl⟩ | ⟨rfl, rfl⟩ | ⟨rfl, rfl⟩ <;> decide
  · rcases hs with ⟨rfl, rfl⟩ | ⟨rfl, rfl⟩ | ⟨rfl, rfl⟩ | ⟨rfl, rfl⟩ | ⟨rfl, rfl⟩ | ⟨rfl, rfl⟩ <;> decide
/-- A byte is regular, a blank, or one of ten. -/
theorem byte_cases : ∀ n : Fin 256, isRegB n.val.toUInt8 = true ∨ (clsOf (n.val.toUInt8).toNat == 1) = true ∨ n.val.toUInt8 ∈ ([40, 41, 60, 62, 91, 93, 123, 125, 47, 37] : List UInt8) := by decide +kernel
theorem byte_case (c : UInt8) : isRegB c = true ∨ (clsOf c.toNat == 1) = true ∨ c ∈ ([40, 41, 60, 62, 91, 93, 123, 125, 47, 37] : List UInt8) := by
  have := byte_cases ⟨c.toNat, c.toNat_lt⟩
  rw [show ((⟨c.toNat, c.toNat_lt⟩ : Fin 256).val.toUInt8) = c from UInt8.ofNat_toNat] at this
  exact this
theorem sign_first {c : UInt8} (t : List UInt8) (h : c = 91 ∨ c = 93 ∨ c = 123 ∨ c = 125) : signOf (c :: t) ≠ none := by
  rcases h with rfl | rfl | rfl | rfl <;> simp [signOf, List.isPrefixOf]
theorem nextR_ok (c : UInt8) (t : List UInt8) (hk : skipG false (c :: t) = 0) : NxOk (c :: t) (nextR (c :: t)) := by
  unfold nextR
  cases hsg : signOf (c :: t) with
  | some xm =>
    obtain ⟨x, m⟩ := xm
    obtain ⟨s, hs, hp, rfl⟩ := signOf_len _ _ _ hsg
    exact sign_ok hs hp
  | none =>
    dsimp only
    split
    · exact nxErr_ok _ _ _ (by decide) (by simp)
    rename_i n1
    split
    · have hl := wordAt_le t 0 (by omega)
      have hn := nameGo_len (wordAt t 0)
      refine ⟨by dsimp only; rw [List.length_cons]; omega, fun _ => ⟨by dsimp only; omega, by show (1 : Int) ≤ 2; decide, by show (2 : Int) ≤ 11; decide, ?_⟩⟩
      dsimp only
      rw [ba_size]
      omega
    rename_i n2
    split
    · exact hexedG_ok c t
    rename_i n3
    split
    · exact strungG_ok c t
    rename_i n4
    have hz := skipG_zero c t hk
    refine wordedG_ok _ ?_
    rcases byte_case c with h | h | h
    · rw [wordAt_zero, List.takeWhile_cons, if_pos h, List.length_cons]
      omega
    · rw [hz.2] at h; cases h
    · exfalso
      simp only [List.mem_cons, List.mem_nil_iff, or_false] at h
      have h37 : c ≠ 37 := by have := hz.1; rw [beq_eq_false_iff_ne] at this; exact this
      have hs : ¬ (c = 91 ∨ c = 93 ∨ c = 123 ∨ c = 125) := fun h => sign_first t h hsg
      rcases h with h | h | h | h | h | h | h | h | h | h
      · exact n4 h
      · exact n1 (.inl h)
      · exact n3 h
      · exact n1 (.inr h)
      · exact hs (.inl h)
      · exact hs (.inr (.inl h))
      · exact hs (.inr (.inr (.inl h)))
      · exact hs (.inr (.inr (.inr h)))
      · exact n2 h
      · exact h37 h
/-- All tokens of a text that begins at a place; the place and the error. -/
def allG : Nat → Nat → List UInt8 → List S65 × Nat × Int
  | 0, p, r => ([], p + r.length, 0)
  | n + 1, p, r =>
    if skipG false r = r.length then ([], p + r.length, 0)
    else if (nextR (r.drop (skipG false r))).2.2.2.2 = 0 then
      (if (allG n (p + skipG false r + (nextR (r.drop (skipG false r))).2.2.2.1) (r.drop (skipG false r + (nextR (r.drop (skipG false r))).2.2.2.1))).2.2 = 0 then
        ((⟨(nextR (r.drop (skipG false r))).1, ((p + skipG false r : Nat) : Int), (nextR (r.drop (skipG false r))).2.1, (nextR (r.drop (skipG false r))).2.2.1⟩ : S65) :: (allG n (p + skipG false r + (nextR (r.drop (skipG false r))).2.2.2.1) (r.drop (skipG false r + (nextR (r.drop (skipG false r))).2.2.2.1))).1,
          (allG n (p + skipG false r + (nextR (r.drop (skipG false r))).2.2.2.1) (r.drop (skipG false r + (nextR (r.drop (skipG false r))).2.2.2.1))).2)
      else ([], (allG n (p + skipG false r + (nextR (r.drop (skipG false r))).2.2.2.1) (r.drop (skipG false r + (nextR (r.drop (skipG false r))).2.2.2.1))).2))
    else ([], p + skipG false r + (nextR (r.drop (skipG false r))).2.2.2.1, (nextR (r.drop (skipG false r))).2.2.2.2)
theorem drop_skip (r : List UInt8) (h : skipG false r ≠ r.length) : ∃ c t, r.drop (skipG false r) = c :: t ∧ skipG false (c :: t) = 0 ∧ skipG false r + (t.length + 1) = r.length := by
  have hle := skipG_le r false
  have hst := skipG_stable r false
  have hdl : (r.drop (skipG false r)).length = r.length - skipG false r := List.length_drop
  generalize r.drop (skipG false r) = d at hst hdl
  rcases d with _ | ⟨c, t⟩
  · simp only [List.length_nil] at hdl; omega
  · refine ⟨c, t, rfl, hst, ?_⟩
    rw [List.length_cons] at hdl
    omega
/-- One step, spelled by its parts. -/
theorem allG_end (n p : Nat) (r : List UInt8) (h : skipG false r = r.length) : allG n p r = ([], p + r.length, 0) := by
  cases n with
  | zero => rw [allG]
  | succ n => rw [allG, if_pos h]
theorem allG_err (n p : Nat) (r d : List UInt8) (x : NxR) (h : skipG false r ≠ r.length) (hd : r.drop (skipG false r) = d) (hx : nextR d = x) (he : x.2.2.2.2 ≠ 0) : allG (n + 1) p r = ([], p + skipG false r + x.2.2.2.1, x.2.2.2.2) := by
  subst hd; subst hx
  rw [allG, if_neg h, if_neg he]
theorem allG_tok (n p : Nat) (r d : List UInt8) (x : NxR) (y : List S65 × Nat × Int) (h : skipG false r ≠ r.length) (hd : r.drop (skipG false r) = d) (hx : nextR d = x) (he : x.2.2.2.2 = 0)
    (hy : allG n (p + skipG false r + x.2.2.2.1) (d.drop x.2.2.2.1) = y) :
    allG (n + 1) p r = if y.2.2 = 0 then ((⟨x.1, ((p + skipG false r : Nat) : Int), x.2.1, x.2.2.1⟩ : S65) :: y.1, y.2) else ([], y.2) := by
  subst hd; subst hx
  rw [List.drop_drop] at hy
  subst hy
  rw [allG, if_neg h, if_pos he]
theorem nextA_at (s : ByteArray) (i : Nat) (hi : i ≤ s.size) (r : List UInt8) (hr : s.data.toList.drop i = r) :
    nextA s (i : Int) = if skipG false r = r.length then (0, (s.size : Int), 0, ⟨#[]⟩, (s.size : Int), 0) else nxAns (i + skipG false r) (nextR (r.drop (skipG false r))) := by
  have hpl : placeN s (i : Int) = i := by unfold placeN; omega
  have hrl : r.length = s.size - i := by rw [← hr, List.length_drop, ← size_list]
  have hsk : skipN s (i : Int) = i + skipG false r := by unfold skipN; rw [hpl, hr]
  unfold nextA
  rw [hsk, ← List.drop_drop, hr]
  by_cases h : skipG false r = r.length
  · rw [if_pos h, if_pos (by omega)]
  · rw [if_neg h, if_neg (by omega)]
def allOut (acc : List S65) (y : List S65 × Nat × Int) : List S65 × Int × Int := if y.2.2 = 0 then (acc ++ y.1, (y.2.1 : Int), 0) else ([], (y.2.1 : Int), y.2.2)
end Go.Proofs.YtdcldaknmenklaaGreatDoor.M
end
section
namespace Go.Proofs.YtdcldaknmenklaaGreatDoor.M
open Go.RowKit Go.Proofs.YtdcldaknmenklaaGreatDoorW.PrintWords
set_option linter.unusedVariables false
/-- The number that the digits spell, behind those that spell acc. -/
def digN (c : UInt8) : Nat := c.toNat - 48
def valD (acc : Nat) (l : List UInt8) : Nat := l.foldl (fun a c => a * 10 + digN c) acc
theorem valD_nil (acc : Nat) : valD acc [] = acc := rfl
theorem valD_cons (acc : Nat) (c : UInt8) (r : List UInt8) : valD acc (c :: r) = valD (acc * 10 + digN c) r := by
  unfold valD; rw [List.foldl_cons]
attribute [irreducible] valD
theorem valD_ge : ∀ (l : List UInt8) (acc : Nat), acc ≤ valD acc l
  | [], acc => Nat.le_of_eq (valD_nil acc).symm
  | c :: r, acc => by
    have := valD_ge r (acc * 10 + digN c)
    rw [valD_cons]; omega
theorem valD_append : ∀ (l m : List UInt8) (acc : Nat), valD acc (l ++ m) = valD (valD acc l) m
  | [], m, acc => by rw [valD_nil]; rfl
  | c :: r, m, acc => by rw [List.cons_append, valD_cons, valD_cons]; exact valD_append r m _
theorem parseUintM_val : ∀ (l : List UInt8) (acc : Nat), acc ≤ 4294967295 → l.all isDigB = true → Lib.parseUintM 4294967295 acc l = if valD acc l ≤ 4294967295 then .ok (valD acc l) else .range
  | [], acc, ha, _ => by rw [valD_nil, if_pos ha, Lib.parseUintM]
  | c :: r, acc, ha, h => by
    simp only [List.all_cons, Bool.and_eq_true] at h
    have h1 := h.1
    simp only [isDigB, Bool.and_eq_true, decide_eq_true_eq] at h1
    rw [Lib.parseUintM, valD_cons, if_pos (by omega), if_neg (by omega)]
    have hd : digN c = c.toNat - 48 := rfl
    rw [← hd]
    by_cases hle : 4294967295 < acc * 10 + digN c
    · have := valD_ge r (acc * 10 + digN c)
      rw [if_pos hle, if_neg (by omega)]
    · rw [if_neg hle]
      exact parseUintM_val r _ (by omega) h.2
theorem parseUintB_val (l : List UInt8) (h0 : l ≠ []) (h : l.all isDigB = true) : Lib.parseUintB 32 l = if valD 0 l ≤ 4294967295 then .ok (valD 0 l) else .range := by
  unfold Lib.parseUintB
  rw [if_neg h0]
  exact parseUintM_val l 0 (by omega) h
theorem whole_digits (l : List UInt8) (h0 : l ≠ []) (h : l.all isDigB = true) : wholeB l = true := by
  match l, h0 with
  | c :: r, _ =>
    have hc : isDigB c = true := by simp only [List.all_cons, Bool.and_eq_true] at h; exact h.1
    have n1 : (c == 43) = false := by rw [beq_eq_false_iff_ne]; rintro rfl; exact absurd hc (by decide)
    have n2 : (c == 45) = false := by rw [beq_eq_false_iff_ne]; rintro rfl; exact absurd hc (by decide)
    have hu : unsign (c :: r) = c :: r := by
      simp only [unsign]
      rw [if_neg (by rw [n1, n2]; decide)]
    unfold wholeB
    rw [hu, h]; rfl
theorem whole_minus (l : List UInt8) (h0 : l ≠ []) (h : l.all isDigB = true) : wholeB (45 :: l) = true := by
  unfold wholeB unsign
  simp only [beq_self_eq_true, Bool.or_true, if_true, h, Bool.and_true]
  cases l with
  | nil => exact absurd rfl h0
  | cons c r => rfl
theorem lexInt_minus (l : List UInt8) (h0 : l ≠ []) (h : l.all isDigB = true) : lexInt (45 :: l) = if valD 0 l ≤ 2147483648 then (-(valD 0 l : Int), 0) else (0, 4) := by
  unfold lexInt
  rw [if_pos (whole_minus l h0 h), Lib.parseIntB_minus, parseUintB_val l h0 h]
  by_cases h1 : valD 0 l ≤ 2147483648
  · rw [if_pos h1, if_pos (by omega)]
    simp only [Lib.signedC]
    rw [if_neg (by omega)]
  · rw [if_neg h1]
    by_cases h2 : valD 0 l ≤ 4294967295
    · rw [if_pos h2]
      simp only [Lib.signedC]
      rw [if_pos (by omega)]
    · rw [if_neg h2]
      rfl
theorem signless_val (l : List UInt8) (h0 : l ≠ []) (h : l.all isDigB = true) : (match Lib.signlessC (2 ^ (32 - 1)) (Lib.parseUintB 32 l) with | .ok v => (v, 0) | _ => (0, 4)) = if valD 0 l ≤ 2147483647 then ((valD 0 l : Int), (0 : Int)) else (0, 4) := by
  rw [parseUintB_val l h0 h]
  by_cases h1 : valD 0 l ≤ 2147483647
  · rw [if_pos h1, if_pos (by omega)]
    simp only [Lib.signlessC]
    rw [if_neg (by omega)]
  · rw [if_neg h1]
    by_cases h2 : valD 0 l ≤ 4294967295
    · rw [if_pos h2]
      simp only [Lib.signlessC]
      rw [if_pos (by omega)]
    · rw [if_neg h2]
      rfl
theorem lexInt_digits (l : List UInt8) (h0 : l ≠ []) (h : l.all isDigB = true) : lexInt l = if valD 0 l ≤ 2147483647 then ((valD 0 l : Int), (0 : Int)) else (0, 4) := by
  have hw := whole_digits l h0 h
  match l, h0 with
  | c :: r, h0 =>
    have hc : isDigB c = true := by simp only [List.all_cons, Bool.and_eq_true] at h; exact h.1
    simp only [isDigB, Bool.and_eq_true, decide_eq_true_eq] at hc
    unfold lexInt
    rw [if_pos hw, Lib.parseIntB_plain 32 c r (by omega) (by omega)]
    exact signless_val (c :: r) h0 h
end Go.Proofs.YtdcldaknmenklaaGreatDoor.M
end
section
namespace Go.Proofs.YtdcldaknmenklaaGreatDoor.M
open Go.RowKit Go.Proofs.YtdcldaknmenklaaGreatDoorW.PrintWords
set_option linter.unusedVariables false
set_option linter.unusedSimpArgs false
theorem dig_fin : ∀ d : Fin 10, isDigB (UInt8.ofNat (48 + d.val)) = true ∧ digN (UInt8.ofNat (48 + d.val)) = d.val := by decide
theorem dec_ok (u : Nat) : (Lib.decDigits u).all isDigB = true ∧ Lib.decDigits u ≠ [] ∧ valD 0 (Lib.decDigits u) = u := by
  induction u using Nat.strongRecOn with
  | _ u ih =>
    by_cases h : u < 10
    · have := dig_fin ⟨u, h⟩
      dsimp only at this
      rw [Lib.decDigits, dif_pos h]
      refine ⟨by rw [List.all_cons, this.1]; rfl, by simp, ?_⟩
      rw [valD_cons, valD_nil, this.2]; omega
    · have := dig_fin ⟨u % 10, by omega⟩
      dsimp only at this
      obtain ⟨i1, i2, i3⟩ := ih (u / 10) (by omega)
      rw [Lib.decDigits, dif_neg h]
      refine ⟨by rw [List.all_append, i1, List.all_cons, this.1]; rfl, by simp, ?_⟩
      rw [valD_append, i3, valD_cons, valD_nil, this.2]; omega
theorem lexInt_itoa (n : Int) (h0 : -2147483648 ≤ n) (h1 : n ≤ 2147483647) : lexInt (Lib.itoa n) = (n, 0) := by
  unfold Lib.itoa
  by_cases h : n < 0
  · obtain ⟨d1, d2, d3⟩ := dec_ok n.natAbs
    rw [if_pos h, lexInt_minus _ d2 d1, d3, if_pos (by omega)]
    congr 1; omega
  · obtain ⟨d1, d2, d3⟩ := dec_ok n.toNat
    rw [if_neg h, lexInt_digits _ d2 d1, d3, if_pos (by omega)]
    congr 1; omega
theorem dig_reg_fin : ∀ n : Fin 256, isDigB n.val.toUInt8 = true → isRegB n.val.toUInt8 = true := by decide +kernel
theorem dig_reg (c : UInt8) (h : isDigB c = true) : isRegB c = true := by
  have := dig_reg_fin ⟨c.toNat, c.toNat_lt⟩
  rw [show ((⟨c.toNat, c.toNat_lt⟩ : Fin 256).val.toUInt8) = c from UInt8.ofNat_toNat] at this
  exact this h
theorem itoa_reg (n : Int) : (Lib.itoa n).all isRegB = true ∧ Lib.itoa n ≠ [] := by
  have hd : ∀ l : List UInt8, l.all isDigB = true → l.all isRegB = true := fun l h => List.all_eq_true.2 fun c hc => dig_reg c (List.all_eq_true.1 h c hc)
  unfold Lib.itoa
  split
  · obtain ⟨d1, d2, d3⟩ := dec_ok n.natAbs
    refine ⟨by rw [List.all_cons, hd _ d1]; decide, by simp⟩
  · obtain ⟨d1, d2, d3⟩ := dec_ok n.toNat
    exact ⟨hd _ d1, d2⟩
theorem nDigits_le (k : Nat) : ∀ u : Nat, u < 10 ^ (k + 1) → Lib.nDigits u ≤ k + 1 := by
  induction k with
  | zero => intro u h; rw [Lib.nDigits_small (by simpa using h)]; omega
  | succ k ih =>
    intro u h
    by_cases h1 : u < 10
    · rw [Lib.nDigits_small h1]; omega
    · rw [Lib.nDigits_big h1]
      have := ih (u / 10) (by rw [Nat.pow_succ] at h; omega)
      omega
theorem itoa_len (n : Int) (h0 : -2147483648 ≤ n) (h1 : n ≤ 2147483647) : (Lib.itoa n).length ≤ 11 := by
  unfold Lib.itoa
  split
  · have := nDigits_le 9 n.natAbs (by show _ < 10000000000; omega)
    rw [List.length_cons, Lib.decDigits_length]; omega
  · have := nDigits_le 9 n.toNat (by show _ < 10000000000; omega)
    rw [Lib.decDigits_length]; omega
/-- What may stand behind a token that was written. -/
def Blanky (m : List UInt8) : Prop := m = [] ∨ ∃ b r, m = b :: r ∧ clsOf b.toNat = 1
theorem take_reg (w m : List UInt8) (hw : w.all isRegB = true) (hm : Blanky m) : wordAt (w ++ m) 0 = w := by
  rw [wordAt_zero]
  induction w with
  | nil =>
    rcases hm with rfl | ⟨b, r, rfl, hb⟩
    · rfl
    · rw [List.nil_append, List.takeWhile_cons, if_neg]
      unfold isRegB
      rw [hb]; decide
  | cons c w ih =>
    simp only [List.all_cons, Bool.and_eq_true] at hw
    rw [List.cons_append, List.takeWhile_cons, if_pos hw.1, ih hw.2]
theorem nextR_sign (r : List UInt8) (x : Int) (m : Nat) (h : signOf r = some (x, m)) : nextR r = (x, 0, ⟨#[]⟩, m, 0) := by unfold nextR; rw [h]
theorem nextR_cons (c : UInt8) (t : List UInt8) (h : signOf (c :: t) = none) : nextR (c :: t) = if c = 41 ∨ c = 62 then nxErr 0 3
      else if c = 47 then (2, 0, ⟨(nameGo (wordAt t 0)).toArray⟩, 1 + (wordAt t 0).length, 0)
      else if c = 60 then hexedG t
      else if c = 40 then strungG t
      else wordedG (c :: t) := by unfold nextR; rw [h]
theorem pre_one (a c : UInt8) (t : List UInt8) (h : c ≠ a) : [a].isPrefixOf (c :: t) = false := by
  rw [List.isPrefixOf]
  have : (a == c) = false := by rw [beq_eq_false_iff_ne]; exact fun e => h e.symm
  rw [this, Bool.false_and]
theorem pre_two (a b c : UInt8) (t : List UInt8) (h : c ≠ a) : [a, b].isPrefixOf (c :: t) = false := by
  rw [List.isPrefixOf]
  have : (a == c) = false := by rw [beq_eq_false_iff_ne]; exact fun e => h e.symm
  rw [this, Bool.false_and]
theorem no_sign (c : UInt8) (t : List UInt8) (h : c ∉ ([60, 62, 91, 93, 123, 125] : List UInt8)) : signOf (c :: t) = none := by
  simp only [List.mem_cons, List.mem_nil_iff, or_false, not_or] at h
  obtain ⟨h1, h2, h3, h4, h5, h6⟩ := h
  unfold signOf
  rw [pre_one 91 c t h3, pre_one 93 c t h4, pre_two 60 60 c t h1, pre_two 62 62 c t h2, pre_one 123 c t h5, pre_one 125 c t h6]
  rfl
theorem reg_not : ∀ n : Fin 256, isRegB n.val.toUInt8 = true → n.val.toUInt8 ∉ ([60, 62, 91, 93, 123, 125] : List UInt8) ∧ n.val.toUInt8 ∉ ([40, 41, 47, 37] : List UInt8) ∧ (clsOf (n.val.toUInt8).toNat == 1) = false := by decide +kernel
theorem reg_not' (c : UInt8) (h : isRegB c = true) : c ∉ ([60, 62, 91, 93, 123, 125] : List UInt8) ∧ c ∉ ([40, 41, 47, 37] : List UInt8) ∧ (clsOf c.toNat == 1) = false := by
  have := reg_not ⟨c.toNat, c.toNat_lt⟩
  rw [show ((⟨c.toNat, c.toNat_lt⟩ : Fin 256).val.toUInt8) = c from UInt8.ofNat_toNat] at this
  exact this h
theorem nextR_word (w m : List UInt8) (h0 : w ≠ []) (hw : w.all isRegB = true) (hm : Blanky m) : nextR (w ++ m) = wordedG (w ++ m) := by
  rcases w with _ | ⟨c, w⟩
  · exact absurd rfl h0
  have hc : isRegB c = true := by simp only [List.all_cons, Bool.and_eq_true] at hw; exact hw.1
  obtain ⟨r1, r2, r3⟩ := reg_not' c hc
  simp only [List.mem_cons, List.mem_nil_iff, or_false, not_or] at r2
  have r62 : c ≠ 62 := fun e => r1 (by rw [e]; simp)
  have r60 : c ≠ 60 := fun e => r1 (by rw [e]; simp)
  rw [List.cons_append, nextR_cons c _ (no_sign c _ r1), if_neg (fun e => e.elim r2.2.1 r62), if_neg r2.2.2.1, if_neg r60, if_neg r2.1]
theorem skip_zero (c : UInt8) (t : List UInt8) (h1 : c ≠ 37) (h2 : (clsOf c.toNat == 1) = false) : skipG false (c :: t) = 0 := by
  rw [skipG, if_neg (by rw [beq_iff_eq]; exact h1), if_neg (by rw [h2]; decide)]
theorem skip_reg (w m : List UInt8) (h0 : w ≠ []) (hw : w.all isRegB = true) : skipG false (w ++ m) = 0 := by
  rcases w with _ | ⟨c, w⟩
  · exact absurd rfl h0
  have hc : isRegB c = true := by simp only [List.all_cons, Bool.and_eq_true] at hw; exact hw.1
  obtain ⟨r1, r2, r3⟩ := reg_not' c hc
  exact skip_zero c _ (fun e => r2 (by rw [e]; simp)) r3
/-- Few tokens of a longer text. -/
theorem all_loop2 (s : ByteArray) (hs : s.size ≤ 1000000) : ∀ (n i k : Nat) (acc : List S65), i ≤ s.size → s.size - i < n → n + 2 * s.size + 8 ≤ k → (allG n i (s.data.toList.drop i)).2.2 = 0 → acc.length + (allG n i (s.data.toList.drop i)).1.length ≤ 60000 →
    tok_All.l0 k s acc (i : Int) = some (allOut acc (allG n i (s.data.toList.drop i)))
  | 0, i, k, acc => fun _ h => by omega
  | n + 1, i, k, acc => by
    intro hi hn hk hok hac
    obtain ⟨k, rfl⟩ : ∃ k', k = k' + 1 := ⟨k - 1, by omega⟩
    have ih := all_loop2 s hs n
    have hdl : (s.data.toList.drop i).length = s.size - i := by rw [List.length_drop, ← size_list]
    have hdd : ∀ m, (s.data.toList.drop i).drop m = s.data.toList.drop (i + m) := fun m => by rw [List.drop_drop]
    generalize hr : s.data.toList.drop i = r at hdl hdd hok hac
    rw [tok_All.l0, next_eq s _ (by omega) (by omega), Option.bind_some, nextA_at s i hi r hr]
    by_cases h : skipG false r = r.length
    · rw [if_pos h, allG_end _ _ _ h]
      dsimp only
      rw [if_pos rfl, if_pos rfl]
      unfold allOut
      dsimp only
      rw [if_pos rfl, List.append_nil, hdl, show i + (s.size - i) = s.size by omega]
    rw [if_neg h]
    obtain ⟨c, t, hd, hz, hlen⟩ := drop_skip r h
    have ok := nextR_ok c t hz
    have hdd2 := hdd (skipG false r)
    rw [hd] at hdd2 ⊢
    generalize hx : nextR (c :: t) = x at ok
    have ok1 := ok.1
    rw [List.length_cons] at ok1
    unfold nxAns
    by_cases he : x.2.2.2.2 = 0
    · obtain ⟨o1, o2, o3, o4⟩ := ok.2 he
      have hstep := allG_tok n i r (c :: t) x _ h hd hx he rfl
      have hdx : s.data.toList.drop (i + skipG false r + x.2.2.2.1) = (c :: t).drop x.2.2.2.1 := by rw [hdd2, List.drop_drop]
      have hy : (allG n (i + skipG false r + x.2.2.2.1) (List.drop x.2.2.2.1 (c :: t))).2.2 = 0 := by
        by_cases hy : (allG n (i + skipG false r + x.2.2.2.1) (List.drop x.2.2.2.1 (c :: t))).2.2 = 0
        · exact hy
        · rw [hstep, if_neg hy] at hok
          exact absurd hok hy
      rw [hstep, if_pos hy] at hac
      dsimp only at hac
      rw [List.length_cons] at hac
      rw [if_pos he]
      dsimp only
      have hlast := ih (i + skipG false r + x.2.2.2.1) k (acc ++ [(⟨x.1, ((i + skipG false r : Nat) : Int), x.2.1, x.2.2.1⟩ : S65)]) (by omega) (by omega) (by omega) (by rw [hdx]; exact hy) (by rw [hdx, List.length_append, List.length_singleton]; omega)
      rw [if_pos rfl, if_neg (by omega), if_neg (by omega), if_pos (by omega), hlast, hdx]
      rw [hstep]
      congr 1
      unfold allOut
      rw [if_pos hy, if_pos hy]
      dsimp only
      rw [if_pos hy, List.append_assoc]
      rfl
    · rw [allG_err n i r (c :: t) x h hd hx he] at hok
      exact absurd hok he
theorem all_eq2 (s : ByteArray) (hs : s.size ≤ 1000000) {k : Nat} (hk : 3 * s.size + 10 ≤ k) (hok : (allG (s.size + 1) 0 s.data.toList).2.2 = 0) (hac : (allG (s.size + 1) 0 s.data.toList).1.length ≤ 60000) : tok_All.f k s = some (allOut [] (allG (s.size + 1) 0 s.data.toList)) := by
  unfold tok_All.f
  have := all_loop2 s hs (s.size + 1) 0 k [] (by omega) (by omega) (by omega) (by rw [List.drop_zero]; exact hok) (by rw [List.drop_zero, List.length_nil]; omega)
  rw [List.drop_zero] at this
  exact this
end Go.Proofs.YtdcldaknmenklaaGreatDoor.M
end
section
namespace Go.Proofs.YtdcldaknmenklaaGreatDoor.M
open Go.RowKit Go.Proofs.YtdcldaknmenklaaGreatDoorW.PrintWords
set_option linter.unusedVariables false
set_option linter.unusedSimpArgs false
def toE (x : S34) : S32 := ⟨x.f0, x.f1, x.f2⟩
theorem rdE (l : List S34) (i : Nat) (h : i < l.length) : rd_T34 l (i : Int) = l[i] := by
  unfold rd_T34
  rw [Int.toNat_natCast, List.getD_eq_getElem?_getD, List.getElem?_eq_getElem h]
  rfl
theorem few_loop (l : List S34) (d : Nat) : ∀ (i k : Nat), 600 - i = d → i ≤ 600 → i ≤ l.length → (∀ x ∈ l.take i, x.f2.size ≤ 100) → 2 * d + 2 ≤ k →
    ∃ b, hornbookref17_Few.l0 k l (i : Int) = some b ∧ (b = true → l.length ≤ 600 ∧ ∀ x ∈ l, x.f2.size ≤ 100) := by
  have last : ∀ (i k : Nat), i ≤ l.length → (∀ x ∈ l.take i, x.f2.size ≤ 100) → (i = l.length ∨ 600 ≤ i) → ∃ b, hornbookref17_Few.j1 (k + 1) l (i : Int) false = some b ∧ (b = true → l.length ≤ 600 ∧ ∀ x ∈ l, x.f2.size ≤ 100) := by
    intro i k hi hx hc
    rw [hornbookref17_Few.j1, if_neg (by decide)]
    refine ⟨_, rfl, fun hb => ?_⟩
    have hl : l.length ≤ 600 := by have := of_decide_eq_true hb; omega
    refine ⟨hl, ?_⟩
    rwa [List.take_of_length_le (by omega)] at hx
  induction d with
  | zero =>
    intro i k hd h6 hi hx hk
    obtain ⟨k, rfl⟩ : ∃ k', k = k' + 2 := ⟨k - 2, by omega⟩
    have : i = 600 := by omega
    rw [hornbookref17_Few.l0]
    by_cases hl : (i : Int) < (l.length : Int)
    · rw [if_pos hl, decide_eq_false (show ¬ (i : Int) < 600 by omega)]
      exact last i k hi hx (.inr (by omega))
    · rw [if_neg hl]
      exact last i k hi hx (.inr (by omega))
  | succ d ih =>
    intro i k hd h6 hi hx hk
    obtain ⟨k, rfl⟩ : ∃ k', k = k' + 2 := ⟨k - 2, by omega⟩
    rw [hornbookref17_Few.l0]
    by_cases hl : i < l.length
    · rw [if_pos (by omega), decide_eq_true (show (i : Int) < 600 by omega), hornbookref17_Few.j1, if_pos rfl, if_pos (by omega), if_pos (by omega), rdE l i hl]
      by_cases hs : (l[i].f2.size : Int) > 100
      · rw [if_pos hs]
        exact ⟨false, rfl, fun h => by cases h⟩
      · rw [if_neg hs, wrap_small (by omega) (by omega), show (i : Int) + 1 = ((i + 1 : Nat) : Int) by omega]
        refine ih (i + 1) k (by omega) (by omega) (by omega) ?_ (by omega)
        intro x hx2
        rw [List.take_succ_eq_append_getElem hl, List.mem_append] at hx2
        rcases hx2 with h | h
        · exact hx x h
        · rw [List.mem_singleton] at h
          subst h
          omega
    · rw [if_neg (by omega)]
      exact last i k hi hx (.inl (by omega))
theorem few_eq (l : List S34) {k : Nat} (hk : 1300 ≤ k) : ∃ b, hornbookref17_Few.f k l = some b ∧ (b = true → l.length ≤ 600 ∧ ∀ x ∈ l, x.f2.size ≤ 100) := by
  unfold hornbookref17_Few.f
  exact few_loop l 600 0 k rfl (by omega) (Nat.zero_le _) (by simp) (by omega)
theorem ours_loop (l : List S34) (hn : l.length ≤ 100000) (d : Nat) : ∀ (i k : Nat) (acc : List S32), l.length - i = d → i ≤ l.length → acc.length = i → d + 1 ≤ k →
    hornbooklaw17_ours.l0 k l acc (i : Int) = some (acc ++ (l.drop i).map toE) := by
  induction d with
  | zero =>
    intro i k acc hd hi ha hk
    obtain ⟨k, rfl⟩ : ∃ k', k = k' + 1 := ⟨k - 1, by omega⟩
    rw [hornbooklaw17_ours.l0, if_neg (by omega), List.drop_eq_nil_of_le (by omega), List.map_nil, List.append_nil]
  | succ d ih =>
    intro i k acc hd hi ha hk
    obtain ⟨k, rfl⟩ : ∃ k', k = k' + 1 := ⟨k - 1, by omega⟩
    have hlt : i < l.length := by omega
    rw [hornbooklaw17_ours.l0, if_pos (by omega), if_pos (by omega), if_pos (by omega), rdE l i hlt, wrap_small (by omega) (by omega)]
    have := ih (i + 1) k (acc ++ [toE l[i]]) (by omega) (by omega) (by rw [List.length_append, List.length_singleton, ha]) (by omega)
    rw [List.drop_eq_getElem_cons hlt, List.map_cons, show (i : Int) + 1 = ((i + 1 : Nat) : Int) by omega]
    unfold toE at this ⊢
    rw [this, List.append_assoc]
    rfl
theorem ours_eq (l : List S34) (hn : l.length ≤ 100000) {k : Nat} (hk : l.length + 1 ≤ k) : hornbooklaw17_ours.f k l = some (l.map toE) := by
  unfold hornbooklaw17_ours.f
  have := ours_loop l hn l.length 0 k [] rfl (Nat.zero_le _) rfl hk
  rw [List.drop_zero, List.nil_append] at this
  exact this
end Go.Proofs.YtdcldaknmenklaaGreatDoor.M
end
section
namespace Go.Proofs.YtdcldaknmenklaaGreatDoor.M
open Go.RowKit Go.Proofs.YtdcldaknmenklaaGreatDoorW.PrintWords
set_option linter.unusedVariables false
def encThere (t : Int) : Bool := match encOf 500 t with
  | some a => decide (t = 1 → (rdOf ByteArray.empty a 67).data.toList = [67])
  | none => false
set_option maxRecDepth 100000 in
theorem encThere_0 : encThere 0 = true := by decide +kernel
set_option maxRecDepth 100000 in
theorem encThere_1 : encThere 1 = true := by decide +kernel
set_option maxRecDepth 100000 in
theorem encThere_2 : encThere 2 = true := by decide +kernel
set_option maxRecDepth 100000 in
theorem encThere_3 : encThere 3 = true := by decide +kernel
theorem enc_there (t : Int) (h0 : 0 ≤ t) (h1 : t < 4) : ∃ L : List ByteArray, L.length = 256 ∧ (∀ k, 500 ≤ k → enc_All.f k t = some L) ∧ (t = 1 → (rdOf ByteArray.empty L 67).data.toList = [67]) := by
  have h : encThere t = true := by
    have : t = 0 ∨ t = 1 ∨ t = 2 ∨ t = 3 := by omega
    rcases this with rfl | rfl | rfl | rfl
    · exact encThere_0
    · exact encThere_1
    · exact encThere_2
    · exact encThere_3
  unfold encThere at h
  split at h
  · rename_i a ha
    refine ⟨a, encOf_length ha, fun k hk => ?_, fun e => of_decide_eq_true h e⟩
    unfold enc_All.f
    rw [if_pos ⟨h0, h1⟩]
    exact le_rounds (g := fun k => encOf k t) (fun k => encOf_mono t k) ha hk
  · cases h
/-- What is made of entries over an encoding. -/
theorem make_eq (t : Int) (h0 : 0 ≤ t) (h1 : t < 4) : ∃ L : List ByteArray, L.length = 256 ∧ (∀ k, 500 ≤ k → ∀ l : List S32, l.length ≤ 1000000 → diff_Make.f k t l = some (applyOut (runG (L, -1) 0 (l.map enOf)))) ∧ (t = 1 → (rdOf ByteArray.empty L 67).data.toList = [67]) := by
  obtain ⟨L, hL, he, hc⟩ := enc_there t h0 h1
  refine ⟨L, hL, fun k hk l hl => ?_, hc⟩
  unfold diff_Make.f diff_Apply.f
  rw [he k hk, Option.bind_some, if_pos hL, if_pos hl, Option.bind_some]
theorem applyOut_ok (s : St) : applyOut (.ok s) = (s.1, 0, 0) := rfl
theorem applyOut_err (p : Nat) (e : Int) : applyOut (.error (p, e)) = ([], (p : Int), e) := rfl
def enL (x : S32) : Bool × Int × List UInt8 := (x.f0, x.f1, x.f2.data.toList)
def exE : List S32 := [⟨true, 65, ⟨#[]⟩⟩, ⟨false, 0, ⟨#[66]⟩⟩, ⟨false, 0, ⟨#[67]⟩⟩, ⟨true, 97, ⟨#[]⟩⟩, ⟨false, 0, ⟨#[97]⟩⟩]
theorem enL_inj {a b : List S32} (h : a.map enL = b.map enL) : a = b := by
  have e : ∀ l : List S32, (l.map enL).map (fun y => (⟨y.1, y.2.1, ⟨y.2.2.toArray⟩⟩ : S32)) = l := by
    intro l
    rw [List.map_map]
    conv => rhs; rw [← List.map_id l]
    exact List.map_congr_left fun x _ => by rcases x with ⟨a, b, ⟨c⟩⟩; rfl
  rw [← e a, ← e b, h]
def exB : ByteArray := ⟨#[91, 32, 54, 53, 32, 47, 66, 32, 47, 67, 32, 57, 55, 32, 47, 97, 32, 93]⟩
def exParse : Bool := match diff_Parse.f 400 exB with
  | some r => decide (r.1.map enL = exE.map enL) && decide (r.2 = (18, 0))
  | none => false
def exText : Bool := match diff_Text.f exE with
  | some r => decide (r.data.toList = exB.data.toList)
  | none => false
set_option maxRecDepth 100000 in
theorem exParse_ok : exParse = true := by decide +kernel
set_option maxRecDepth 100000 in
theorem exText_ok : exText = true := by decide +kernel
theorem ex_parse {k : Nat} (hk : 400 ≤ k) : diff_Parse.f k exB = some (exE, 18, 0) := by
  have h := exParse_ok
  unfold exParse at h
  split at h
  · rename_i r hr
    simp only [Bool.and_eq_true, decide_eq_true_eq] at h
    refine le_rounds (g := fun k => diff_Parse.f k exB) (fun k => diff_Parse.mono _ k) ?_ hk
    show diff_Parse.f 400 exB = _
    rw [hr]
    rcases r with ⟨r1, r2⟩
    have h1 : r1 = exE := enL_inj h.1
    have h2 : r2 = (18, 0) := h.2
    rw [h1, h2]
  · cases h
theorem ex_text : ∃ r, diff_Text.f exE = some r ∧ r.data.toList = exB.data.toList := by
  have h := exText_ok
  unfold exText at h
  split at h
  · rename_i r hr
    exact ⟨r, hr, of_decide_eq_true h⟩
  · cases h
theorem awake17 {k : Nat} (hk : 500 ≤ k) : hornbooklaw17_awake.f k = some true := by
  unfold hornbooklaw17_awake.f
  obtain ⟨L, hL, hm, hc⟩ := make_eq 1 (by decide) (by decide)
  obtain ⟨r, hr, hr2⟩ := ex_text
  have hp := ex_parse (k := k) (by omega)
  unfold exB at hp
  rw [hp, Option.bind_some, hm k hk exE (by decide), Option.bind_some]
  have hrun : runG (L, -1) 0 (exE.map enOf) = .ok (((L.set 65 ⟨#[66]⟩).set 66 ⟨#[67]⟩).set 97 ⟨#[97]⟩, 98) := by
    simp [exE, enOf, runG, stepG]
  have hc2 : (rdOf ByteArray.empty L 67).toList = [67] := by rw [toList_data, hc rfl]
  have hlen : (((L.set 65 ⟨#[66]⟩).set 66 ⟨#[67]⟩).set 97 ⟨#[97]⟩).length = 256 := by simp [hL]
  have g65 : rdOf ByteArray.empty (((L.set 65 ⟨#[66]⟩).set 66 ⟨#[67]⟩).set 97 ⟨#[97]⟩) 65 = ⟨#[66]⟩ := by
    unfold rdOf
    rw [show (65 : Int).toNat = 65 from rfl, List.getD_eq_getElem?_getD, List.getElem?_set_ne (by decide), List.getElem?_set_ne (by decide), List.getElem?_set_self (by omega)]
    rfl
  have g66 : rdOf ByteArray.empty (((L.set 65 ⟨#[66]⟩).set 66 ⟨#[67]⟩).set 97 ⟨#[97]⟩) 66 = ⟨#[67]⟩ := by
    unfold rdOf
    rw [show (66 : Int).toNat = 66 from rfl, List.getD_eq_getElem?_getD, List.getElem?_set_ne (by decide), List.getElem?_set_self (by rw [List.length_set]; omega)]
    rfl
  have g67 : rdOf ByteArray.empty (((L.set 65 ⟨#[66]⟩).set 66 ⟨#[67]⟩).set 97 ⟨#[97]⟩) 67 = rdOf ByteArray.empty L 67 := by
    unfold rdOf
    rw [show (67 : Int).toNat = 67 from rfl, List.getD_eq_getElem?_getD, List.getElem?_set_ne (by decide), List.getElem?_set_ne (by decide), List.getElem?_set_ne (by decide), List.getD_eq_getElem?_getD]
  rw [hrun, applyOut_ok]
  dsimp only
  rw [if_pos rfl, if_pos rfl, if_pos rfl, hlen, if_pos (show ((256 : Nat) : Int) = 256 from rfl), if_pos (by decide), g65, if_pos (by rw [toList_data]), if_pos (by decide), g66, if_pos (by rw [toList_data]), if_pos (by decide), g67, if_pos hc2, hr, Option.bind_some, toList_data, hr2]
  rfl
end Go.Proofs.YtdcldaknmenklaaGreatDoor.M
end
section
namespace Go.Proofs.YtdcldaknmenklaaGreatDoor.M
open Go.RowKit Go.Proofs.YtdcldaknmenklaaGreatDoorW.PrintWords
set_option linter.unusedVariables false
set_option linter.unusedSimpArgs false
abbrev TkT := S65
abbrev EnT := S32
/-- A number, a name, or a bracket, written. -/
def showD (t : TkT) : List UInt8 := if t.f0 = 1 then Lib.itoa t.f2 else if t.f0 = 2 then 47 :: writeBytes t.f3.data.toList else if t.f0 = 6 then [91] else [93]
def OkD (t : TkT) : Prop := (t.f0 = 1 ∧ -2147483648 ≤ t.f2 ∧ t.f2 ≤ 2147483647 ∧ t.f3 = ⟨#[]⟩) ∨ (t.f0 = 2 ∧ t.f2 = 0) ∨ (t.f0 = 6 ∧ t.f2 = 0 ∧ t.f3 = ⟨#[]⟩) ∨ (t.f0 = 7 ∧ t.f2 = 0 ∧ t.f3 = ⟨#[]⟩)
theorem show_nextD (t : TkT) (h : OkD t) (m : List UInt8) (hm : Blanky m) :
    showD t ≠ [] ∧ skipG false (showD t ++ m) = 0 ∧ nextR (showD t ++ m) = (t.f0, t.f2, t.f3, (showD t).length, 0) := by
  rcases t with ⟨kind, at_, n, s⟩
  rcases h with ⟨h, h0, h1, h2⟩ | ⟨h, h2⟩ | ⟨h, h1, h2⟩ | ⟨h, h1, h2⟩
  · dsimp only at h h0 h1 h2
    subst h h2
    have e : showD ⟨1, at_, n, ⟨#[]⟩⟩ = Lib.itoa n := by unfold showD; rw [if_pos rfl]
    obtain ⟨r1, r2⟩ := itoa_reg n
    rw [e]
    refine ⟨r2, skip_reg _ _ r2 r1, ?_⟩
    rw [nextR_word _ _ r2 r1 hm]
    unfold wordedG
    rw [take_reg _ _ r1 hm, lexInt_itoa n h0 h1, if_pos rfl]
  · dsimp only at h h2
    subst h h2
    have e : showD ⟨2, at_, 0, s⟩ = 47 :: writeBytes s.data.toList := by unfold showD; rw [if_neg (by simp), if_pos rfl]
    have hr : (writeBytes s.data.toList).all isRegB = true := by
      refine List.all_eq_true.2 fun c hc => ?_
      have := List.all_eq_true.1 (writeBytes_ok s.data.toList) c hc
      simp only [Bool.and_eq_true] at this
      exact this.2
    rw [e, List.cons_append]
    refine ⟨by simp, skip_zero _ _ (by decide) (by decide), ?_⟩
    rw [nextR_cons _ _ (no_sign _ _ (by decide)), if_neg (by decide), if_pos rfl, take_reg _ _ hr hm, name_write, ← ba_eta, List.length_cons, Nat.add_comm]
  · dsimp only at h h1 h2
    subst h h1 h2
    have e : showD ⟨6, at_, 0, ⟨#[]⟩⟩ = [91] := by unfold showD; rw [if_neg (by simp), if_neg (by simp), if_pos rfl]
    rw [e]
    have ht : isSign 6 [91] := .inl ⟨rfl, rfl⟩
    exact ⟨by simp, skip_zero _ _ (by decide) (by decide), nextR_sign _ _ _ (signOf_hit ht (List.isPrefixOf_iff_prefix.2 (List.prefix_append _ m)))⟩
  · dsimp only at h h1 h2
    subst h h1 h2
    have e : showD ⟨7, at_, 0, ⟨#[]⟩⟩ = [93] := by unfold showD; rw [if_neg (by simp), if_neg (by simp), if_neg (by simp)]
    rw [e]
    have ht : isSign 7 [93] := .inr (.inl ⟨rfl, rfl⟩)
    exact ⟨by simp, skip_zero _ _ (by decide) (by decide), nextR_sign _ _ _ (signOf_hit ht (List.isPrefixOf_iff_prefix.2 (List.prefix_append _ m)))⟩
def tailD (l : List TkT) : List UInt8 := Lib.joinTail [32] (l.map showD)
theorem tailD_nil : tailD [] = [] := rfl
theorem tailD_cons (t : TkT) (l : List TkT) : tailD (t :: l) = 32 :: (showD t ++ tailD l) := by
  unfold tailD Lib.joinTail
  simp
def textD (l : List TkT) : List UInt8 := Lib.join (l.map showD) [32]
theorem textD_cons (t : TkT) (l : List TkT) : textD (t :: l) = showD t ++ tailD l := by
  unfold textD tailD
  rw [List.map_cons, Lib.join_cons]
theorem tailD_blanky (l : List TkT) : Blanky (tailD l) := by
  rcases l with _ | ⟨t, l⟩
  · exact .inl rfl
  · exact .inr ⟨32, showD t ++ tailD l, tailD_cons t l, by decide⟩
def keyD (t : TkT) : Int × Int × ByteArray := (t.f0, t.f2, t.f3)
theorem allG_stepD (t : TkT) (ht : OkD t) (sp m : List UInt8) (hsp : ∀ r, skipG false (sp ++ r) = sp.length + skipG false r) (hm : Blanky m) (n p : Nat) :
    allG (n + 1) p (sp ++ (showD t ++ m)) = (let y := allG n (p + sp.length + (showD t).length) m
      if y.2.2 = 0 then ((⟨t.f0, ((p + sp.length : Nat) : Int), t.f2, t.f3⟩ : TkT) :: y.1, y.2) else ([], y.2)) := by
  obtain ⟨h0, h1, h2⟩ := show_nextD t ht m hm
  have hsk : skipG false (sp ++ (showD t ++ m)) = sp.length := by rw [hsp, h1, Nat.add_zero]
  have hne : 1 ≤ (showD t).length := by
    rcases hh : showD t with _ | ⟨c, r⟩
    · exact absurd hh h0
    · rw [List.length_cons]; omega
  have hd : (sp ++ (showD t ++ m)).drop (skipG false (sp ++ (showD t ++ m))) = showD t ++ m := by rw [hsk, List.drop_left]
  have hd2 : (showD t ++ m).drop (showD t).length = m := List.drop_left
  have := allG_tok n p (sp ++ (showD t ++ m)) (showD t ++ m) _ (allG n (p + sp.length + (showD t).length) m) (by rw [hsk, List.length_append, List.length_append]; omega) hd h2 rfl (by
    dsimp only
    rw [hsk]
    show allG n _ ((showD t ++ m).drop (showD t).length) = _
    rw [hd2])
  rw [this, hsk]
theorem tail_allD : ∀ (l : List TkT) (n p : Nat), (∀ t ∈ l, OkD t) → (tailD l).length < n → ∃ m, allG n p (tailD l) = (m, p + (tailD l).length, 0) ∧ m.map keyD = l.map keyD
  | [], n, p, _, _ => ⟨[], by rw [tailD_nil]; exact allG_end n p [] rfl, rfl⟩
  | t :: l, n, p, h, hn => by
    obtain ⟨n, rfl⟩ : ∃ n', n = n' + 1 := ⟨n - 1, by omega⟩
    rw [tailD_cons, List.length_cons, List.length_append] at hn
    obtain ⟨m, e1, e2⟩ := tail_allD l n (p + 1 + (showD t).length) (fun t ht => h t (List.mem_cons_of_mem _ ht)) (by omega)
    have := allG_stepD t (h t (by simp)) [32] (tailD l) (fun r => by rw [List.singleton_append, skipG, if_neg (by decide), if_pos (by decide)]; rfl) (tailD_blanky l) n p
    rw [List.singleton_append, List.length_singleton, e1] at this
    dsimp only at this
    rw [if_pos rfl] at this
    refine ⟨_, by rw [tailD_cons, this, List.length_cons, List.length_append]; congr 2; omega, ?_⟩
    rw [List.map_cons, List.map_cons, e2]
    rfl
/-- Tokens that are written are read. -/
theorem text_allD (t : TkT) (l : List TkT) (n : Nat) (h : ∀ x ∈ t :: l, OkD x) (hn : (textD (t :: l)).length < n) : ∃ m, allG n 0 (textD (t :: l)) = (m, (textD (t :: l)).length, 0) ∧ m.map keyD = (t :: l).map keyD := by
  obtain ⟨n, rfl⟩ : ∃ n', n = n' + 1 := ⟨n - 1, by omega⟩
  have hne : 1 ≤ (showD t).length := by
    have h0 := (show_nextD t (h t (by simp)) [] (.inl rfl)).1
    rcases hh : showD t with _ | ⟨c, r⟩
    · exact absurd hh h0
    · rw [List.length_cons]; omega
  rw [textD_cons, List.length_append] at hn
  obtain ⟨m, e1, e2⟩ := tail_allD l n (0 + 0 + (showD t).length) (fun t ht => h t (List.mem_cons_of_mem _ ht)) (by omega)
  have := allG_stepD t (h t (by simp)) [] (tailD l) (fun r => by simp) (tailD_blanky l) n 0
  rw [List.nil_append, List.length_nil, e1] at this
  dsimp only at this
  rw [if_pos rfl] at this
  refine ⟨_, by rw [textD_cons, this, List.length_append]; congr 2; omega, ?_⟩
  rw [List.map_cons, List.map_cons, e2]
  rfl
def tokE (x : EnT) : TkT := if x.f0 = true then ⟨1, 0, x.f1, ⟨#[]⟩⟩ else ⟨2, 0, 0, x.f2⟩
def tokL : TkT := ⟨6, 0, 0, ⟨#[]⟩⟩
def tokR : TkT := ⟨7, 0, 0, ⟨#[]⟩⟩
/-- An entry as it is read again: a byte has no name, a name no byte. -/
def OkE (x : EnT) : Prop := (x.f0 = true → -2147483648 ≤ x.f1 ∧ x.f1 ≤ 2147483647 ∧ x.f2 = ⟨#[]⟩) ∧ (x.f0 = false → x.f1 = 0 ∧ x.f2.size ≤ 100)
theorem okE_tok (x : EnT) (h : OkE x) : OkD (tokE x) := by
  rcases x with ⟨b, n, s⟩
  cases b with
  | true =>
    obtain ⟨h1, h2, h3⟩ := h.1 rfl
    exact .inl ⟨rfl, h1, h2, rfl⟩
  | false => exact .inr (.inl ⟨rfl, rfl⟩)
theorem showD_tokE (x : EnT) : showD (tokE x) = shownL x := by
  rcases x with ⟨b, n, s⟩
  cases b <;> rfl
def entsD (l : List EnT) : List TkT := l.map tokE ++ [tokR]
theorem words_eq (l : List EnT) : wordsOf l = (tokL :: entsD l).map (fun t => (⟨(showD t).toArray⟩ : ByteArray)) := by
  unfold wordsOf entsD
  rw [List.map_cons, List.map_append, List.map_map, List.map_cons, List.map_nil]
  congr 2
  refine List.map_congr_left fun x _ => ?_
  show shownB x = ⟨(showD (tokE x)).toArray⟩
  rw [showD_tokE]
  rfl
theorem shownL_len (x : EnT) (h : OkE x) : (shownL x).length ≤ 301 := by
  rcases x with ⟨b, n, s⟩
  cases b with
  | true =>
    obtain ⟨h1, h2, h3⟩ := h.1 rfl
    have := itoa_len n h1 h2
    show (Lib.itoa n).length ≤ 301
    omega
  | false =>
    have := (writeBytes_length s.data.toList).2
    have h2 := (h.2 rfl).2
    have h3 : s.data.toList.length = s.size := rfl
    dsimp only at h2
    show (47 :: writeBytes s.data.toList).length ≤ 301
    rw [List.length_cons]
    omega
theorem tailD_len : ∀ (l : List TkT), (∀ t ∈ l, (showD t).length ≤ 301) → (tailD l).length ≤ 302 * l.length
  | [], _ => by rw [tailD_nil]; simp
  | t :: l, h => by
    have h1 := h t (by simp)
    have h2 := tailD_len l (fun x hx => h x (List.mem_cons_of_mem _ hx))
    rw [tailD_cons, List.length_cons, List.length_append, List.length_cons]
    omega
theorem entsD_len (l : List EnT) (h : ∀ x ∈ l, OkE x) : (textD (tokL :: entsD l)).length ≤ 302 * l.length + 400 := by
  rw [textD_cons, List.length_append]
  have h1 : ∀ t ∈ entsD l, (showD t).length ≤ 301 := by
    intro t ht
    unfold entsD at ht
    rcases List.mem_append.1 ht with h2 | h2
    · obtain ⟨x, hx, rfl⟩ := List.mem_map.1 h2
      rw [showD_tokE]
      exact shownL_len x (h x hx)
    · rw [List.mem_singleton] at h2
      subst h2
      decide
  have := tailD_len (entsD l) h1
  have h3 : (entsD l).length = l.length + 1 := by unfold entsD; rw [List.length_append, List.length_map, List.length_singleton]
  have h4 : (showD tokL).length = 1 := rfl
  omega
/-- What diff.Text writes. -/
theorem text_eqD (l : List EnT) (hl : l.length ≤ 1000) (h : ∀ x ∈ l, OkE x) : diff_Text.f l = some ⟨(textD (tokL :: entsD l)).toArray⟩ := by
  have hlen := entsD_len l h
  have hok : ∀ x ∈ l, okShown x := by
    intro x hx
    have := h x hx
    unfold okShown
    rcases x with ⟨b, n, s⟩
    cases b with
    | true =>
      obtain ⟨h1, h2, h3⟩ := this.1 rfl
      dsimp only at h1 h2 h3 ⊢
      subst h3
      exact ⟨by omega, by omega, by decide⟩
    | false =>
      obtain ⟨h1, h2⟩ := this.2 rfl
      dsimp only at h1 h2 ⊢
      subst h1
      exact ⟨by omega, by omega, by omega⟩
  unfold diff_Text.f
  rw [if_pos ⟨by omega, hok⟩, words_eq]
  unfold strings_Join.f
  have e : joinB ((tokL :: entsD l).map (fun t => (⟨(showD t).toArray⟩ : ByteArray))) ⟨#[32]⟩ = textD (tokL :: entsD l) := by
    unfold joinB textD
    rw [List.map_map]
    congr 1
  have h3 : (entsD l).length = l.length + 1 := by unfold entsD; rw [List.length_append, List.length_map, List.length_singleton]
  rw [e, List.length_map, List.length_cons, if_pos ⟨by omega, by omega⟩]
/-- The entries' loop: all tokens of entries, and the bracket is left. -/
def entE (t : TkT) : EnT := if t.f0 = 1 then ⟨true, t.f2, ⟨#[]⟩⟩ else ⟨false, 0, t.f3⟩
theorem entries_loop : ∀ (m rest : List TkT) (acc : List EnT) (k : Nat), (∀ t ∈ m, t.f0 = 1 ∨ t.f0 = 2) → (∀ t r, rest = t :: r → t.f0 ≠ 1 ∧ t.f0 ≠ 2) → m.length < k → acc.length + m.length ≤ 1000000 →
    diff_entries.l0 k (m ++ rest) acc = some (acc ++ m.map entE, rest)
  | [], rest, acc, k => by
    intro _ hr hk _
    obtain ⟨k, rfl⟩ : ∃ k', k = k' + 1 := ⟨k - 1, by rw [List.length_nil] at hk; omega⟩
    rw [List.nil_append, List.map_nil, List.append_nil, diff_entries.l0]
    rcases rest with _ | ⟨t, r⟩
    · rw [if_neg (by simp)]
    · obtain ⟨h1, h2⟩ := hr t r rfl
      have e0 : rd_T65 (t :: r) 0 = t := rfl
      rw [if_pos (by rw [List.length_cons]; omega), if_pos (by rw [List.length_cons]; omega), e0, if_neg h1, if_neg h2]
  | t :: m, rest, acc, k => by
    intro hm hr hk ha
    rw [List.length_cons] at hk ha
    obtain ⟨k, rfl⟩ : ∃ k', k = k' + 1 := ⟨k - 1, by omega⟩
    have e0 : rd_T65 (t :: m ++ rest) 0 = t := rfl
    have e1 : (t :: m ++ rest).drop 1 = m ++ rest := rfl
    have hl : 0 < (((t :: m ++ rest).length : Nat) : Int) := by rw [List.cons_append, List.length_cons]; omega
    have ih := entries_loop m rest (acc ++ [entE t]) k (fun x hx => hm x (List.mem_cons_of_mem _ hx)) hr (by omega) (by rw [List.length_append, List.length_singleton]; omega)
    rw [diff_entries.l0, if_pos hl, if_pos hl, e0, e1, if_pos (show acc.length < 4398046511104 by omega), if_pos (show 1 ≤ (((t :: m ++ rest).length : Nat) : Int) by omega)]
    rw [List.append_assoc, List.singleton_append] at ih
    rw [List.map_cons]
    rcases hm t (by simp) with h1 | h2
    · have he : entE t = ⟨true, t.f2, ⟨#[]⟩⟩ := by unfold entE; rw [if_pos h1]
      rw [if_pos h1, ← he]
      exact ih
    · have h1 : ¬ t.f0 = 1 := by rw [h2]; decide
      have he : entE t = ⟨false, 0, t.f3⟩ := by unfold entE; rw [if_neg h1]
      rw [if_neg h1, if_pos h2, if_pos (show acc.length < 4398046511104 by omega), if_pos (show 1 ≤ (((t :: m ++ rest).length : Nat) : Int) by omega), ← he]
      exact ih
theorem entE_key {a b : TkT} (h : keyD a = keyD b) : entE a = entE b ∧ a.f0 = b.f0 := by
  unfold keyD at h
  injection h with h1 h
  injection h with h2 h3
  unfold entE
  rw [h1, h2, h3]
  exact ⟨rfl, rfl⟩
theorem keys_map : ∀ {a b : List TkT}, a.map keyD = b.map keyD → a.map entE = b.map entE ∧ a.map (fun t => t.f0) = b.map (fun t => t.f0)
  | [], [], _ => ⟨rfl, rfl⟩
  | [], _ :: _, h => by cases h
  | _ :: _, [], h => by cases h
  | x :: a, y :: b, h => by
    rw [List.map_cons, List.map_cons] at h
    injection h with h1 h2
    obtain ⟨i1, i2⟩ := keys_map h2
    obtain ⟨j1, j2⟩ := entE_key h1
    exact ⟨by rw [List.map_cons, List.map_cons, i1, j1], by rw [List.map_cons, List.map_cons, i2, j2]⟩
theorem entE_tokE (x : EnT) (h : OkE x) : entE (tokE x) = x := by
  rcases x with ⟨b, n, s⟩
  cases b with
  | true =>
    obtain ⟨h1, h2, h3⟩ := h.1 rfl
    dsimp only at h3
    subst h3
    rfl
  | false =>
    obtain ⟨h1, h2⟩ := h.2 rfl
    dsimp only at h1
    subst h1
    rfl
/-- What is written of entries is read as these. -/
theorem parse_textD (l : List EnT) (hl : l.length ≤ 1000) (h : ∀ x ∈ l, OkE x) {k : Nat} (hk : 2000000 ≤ k) :
    ∃ s : ByteArray, diff_Text.f l = some s ∧ diff_Parse.f k s = some (l, (s.size : Int), 0) := by
  have hlen := entsD_len l h
  refine ⟨_, text_eqD l hl h, ?_⟩
  have hsz : (⟨(textD (tokL :: entsD l)).toArray⟩ : ByteArray).size = (textD (tokL :: entsD l)).length := by
    show (List.toArray _).size = _
    simp
  have hok : ∀ x ∈ tokL :: entsD l, OkD x := by
    intro x hx
    unfold entsD at hx
    rcases List.mem_cons.1 hx with rfl | hx
    · exact .inr (.inr (.inl ⟨rfl, rfl, rfl⟩))
    rcases List.mem_append.1 hx with h2 | h2
    · obtain ⟨y, hy, rfl⟩ := List.mem_map.1 h2
      exact okE_tok y (h y hy)
    · rw [List.mem_singleton] at h2
      subst h2
      exact .inr (.inr (.inr ⟨rfl, rfl, rfl⟩))
  obtain ⟨m, hm, hkey⟩ := text_allD tokL (entsD l) ((⟨(textD (tokL :: entsD l)).toArray⟩ : ByteArray).size + 1) hok (by omega)
  have hd : (⟨(textD (tokL :: entsD l)).toArray⟩ : ByteArray).data.toList = textD (tokL :: entsD l) := by simp
  have hml : m.length = l.length + 2 := by
    have := congrArg List.length hkey
    rw [List.length_map, List.length_map, List.length_cons] at this
    unfold entsD at this
    rw [List.length_append, List.length_map, List.length_singleton] at this
    exact this
  have hall := all_eq2 ⟨(textD (tokL :: entsD l)).toArray⟩ (by omega) (k := k) (by omega) (by rw [hd, hm]) (by rw [hd, hm]; show m.length ≤ _; omega)
  rw [hd, hm] at hall
  unfold allOut at hall
  dsimp only at hall
  rw [if_pos rfl, List.nil_append] at hall
  unfold diff_Parse.f
  rw [hall, Option.bind_some]
  dsimp only
  rw [if_pos rfl]
  rcases m with _ | ⟨x, m⟩
  · cases hkey
  rw [List.map_cons, List.map_cons] at hkey
  injection hkey with hx hmk
  have hx6 : x.f0 = 6 := (entE_key hx).2
  dsimp only
  rw [if_pos hx6]
  -- the last of m is the bracket
  unfold entsD at hmk
  rw [List.map_append] at hmk
  obtain ⟨m1, m2, rfl, hk1, hk2⟩ := List.map_eq_append_iff.1 hmk
  rcases m2 with _ | ⟨y, m2⟩
  · cases hk2
  rw [List.map_cons, List.map_cons, List.map_nil] at hk2
  injection hk2 with hy hm2
  obtain rfl : m2 = [] := List.map_eq_nil_iff.1 hm2
  have hy7 : y.f0 = 7 := (entE_key hy).2
  obtain ⟨k1, k2⟩ := keys_map hk1
  have hl1 : m1.length = l.length := by
    have := congrArg List.length hk1
    rw [List.length_map, List.length_map, List.length_map] at this
    exact this
  have hkinds : ∀ t ∈ m1, t.f0 = 1 ∨ t.f0 = 2 := by
    intro t ht
    have : t.f0 ∈ m1.map (fun t => t.f0) := List.mem_map_of_mem ht
    rw [k2] at this
    obtain ⟨u, hu, hue⟩ := List.mem_map.1 this
    obtain ⟨v, hv, rfl⟩ := List.mem_map.1 hu
    rw [← hue]
    rcases v with ⟨b, n, s⟩
    cases b
    · exact .inr rfl
    · exact .inl rfl
  have hents : m1.map entE = l := by
    rw [k1, List.map_map]
    conv => rhs; rw [← List.map_id l]
    exact List.map_congr_left fun v hv => entE_tokE v (h v hv)
  have := entries_loop m1 [y] [] k hkinds (fun t r e => by injection e with e1 e2; rw [← e1, hy7]; exact ⟨by decide, by decide⟩) (by omega) (by rw [List.length_nil]; omega)
  rw [List.nil_append, hents] at this
  unfold diff_entries.f
  rw [this, Option.bind_some]
  unfold parseRest
  dsimp only
  rw [if_pos hy7]
end Go.Proofs.YtdcldaknmenklaaGreatDoor.M
end
section
namespace Go.Proofs.YtdcldaknmenklaaGreatDoor.M
open Go.RowKit Go.Proofs.YtdcldaknmenklaaGreatDoorW.PrintWords
set_option linter.unusedVariables false
set_option linter.unusedSimpArgs false
abbrev EnR := S34
def toR (x : EnT) : EnR := ⟨x.f0, x.f1, x.f2⟩
def unEn (x : En) : EnT := ⟨x.1, x.2.1, x.2.2⟩
theorem map_enOf_unEn (l : List En) : (l.map unEn).map enOf = l := by
  rw [List.map_map]
  conv => rhs; rw [← List.map_id l]
  rfl
theorem rdO {l : List ByteArray} {i : Nat} (h : i < l.length) : rdOf ByteArray.empty l (i : Int) = l[i] := by
  unfold rdOf
  rw [Int.toNat_natCast, List.getD_eq_getElem?_getD, List.getElem?_eq_getElem h]
  rfl
theorem rdT (l : List EnT) (i : Nat) (h : i < l.length) : rd_T32 l (i : Int) = l[i] := by
  unfold rd_T32
  rw [Int.toNat_natCast, List.getD_eq_getElem?_getD, List.getElem?_eq_getElem h]
  rfl
theorem toList_iff {a b : ByteArray} : a.toList = b.toList ↔ a = b := by
  constructor
  · intro h
    rw [toList_data, toList_data] at h
    rcases a with ⟨⟨a⟩⟩
    rcases b with ⟨⟨b⟩⟩
    have : a = b := h
    rw [this]
  · intro h; rw [h]
theorem of_loop (bs ns : List ByteArray) (hb : bs.length = 256) (hn : ns.length = 256) (d : Nat) : ∀ (i k : Nat) (row : Bool) (acc : List EnT), 256 - i = d → i ≤ 256 → acc.length ≤ 2 * i → 2 * d < k →
    diff_Of.l0 k bs acc row ns 256 (i : Int) = some (acc ++ (ofG i row (bs.drop i) (ns.drop i)).map unEn) := by
  induction d with
  | zero =>
    intro i k row acc hd hi ha hk
    obtain ⟨k, rfl⟩ : ∃ m, k = m + 1 := ⟨k - 1, by omega⟩
    rw [diff_Of.l0, if_neg (by omega), List.drop_eq_nil_of_le (by omega), List.drop_eq_nil_of_le (by omega), ofG, List.map_nil, List.append_nil]
    · intro b bs n ns h; cases h
  | succ d ih =>
    intro i k row acc hd hi ha hk
    obtain ⟨k, rfl⟩ : ∃ m, k = m + 2 := ⟨k - 2, by omega⟩
    have h1 : i < bs.length := by omega
    have h2 : i < ns.length := by omega
    have hw : wrap64 ((i : Int) + 1) = ((i + 1 : Nat) : Int) := by rw [wrap_small (by omega) (by omega)]; omega
    rw [diff_Of.l0, if_pos (by omega), if_pos (by omega), if_pos (by omega), if_pos (by omega), rdO h1, rdO h2, List.drop_eq_getElem_cons h1, List.drop_eq_getElem_cons h2, ofG]
    by_cases he : bs[i] = ns[i]
    · have hx : (bs[i].toList != ns[i].toList) = false := by rw [he]; simp
      rw [if_pos (toList_iff.2 he), if_pos he, diff_Of.j2, if_neg (by simp), hx, if_neg (by simp), hw]
      exact ih (i + 1) k false acc (by omega) (by omega) (by omega) (by omega)
    · have hx : (bs[i].toList != ns[i].toList) = true := by rw [bne_iff_ne]; exact fun e => he (toList_iff.1 e)
      rw [if_neg (fun e => he (toList_iff.1 e)), if_neg he, diff_Of.j2, hx]
      cases row with
      | true =>
        rw [if_neg (by simp), if_pos rfl, if_pos (by omega), hw, if_pos rfl]
        have := ih (i + 1) k true (acc ++ [⟨false, 0, ns[i]⟩]) (by omega) (by omega) (by rw [List.length_append, List.length_singleton]; omega) (by omega)
        rw [this, List.append_assoc]
        rfl
      | false =>
        rw [if_pos (by simp), if_pos (by omega), Option.bind_some, if_pos rfl, if_pos (by rw [List.length_append, List.length_singleton]; omega), hw, if_neg (by simp)]
        have := ih (i + 1) k true (acc ++ [⟨true, (i : Int), ⟨#[]⟩⟩] ++ [⟨false, 0, ns[i]⟩]) (by omega) (by omega) (by rw [List.length_append, List.length_append, List.length_singleton, List.length_singleton]; omega) (by omega)
        rw [this, List.append_assoc, List.append_assoc]
        rfl
theorem of_eq (bs ns : List ByteArray) (hb : bs.length = 256) (hn : ns.length = 256) {k : Nat} (hk : 600 ≤ k) : diff_Of.f k bs ns = some ((ofG 0 false bs ns).map unEn) := by
  obtain ⟨k, rfl⟩ : ∃ m, k = m + 1 := ⟨k - 1, by omega⟩
  have h := of_loop bs ns hb hn 256 0 k false [] rfl (by omega) (by simp) (by omega)
  rw [List.drop_zero, List.drop_zero, List.nil_append] at h
  unfold diff_Of.f
  rw [if_pos (by omega), hn, diff_Of.j0, if_neg (by decide), hn]
  exact h
theorem theirs_loop (l : List EnT) (hn : l.length ≤ 100000) (d : Nat) : ∀ (i k : Nat) (acc : List EnR), l.length - i = d → i ≤ l.length → acc.length = i → d + 1 ≤ k →
    hornbooklaw17_theirs.l0 k l acc (i : Int) = some (acc ++ (l.drop i).map toR) := by
  induction d with
  | zero =>
    intro i k acc hd hi ha hk
    obtain ⟨k, rfl⟩ : ∃ k', k = k' + 1 := ⟨k - 1, by omega⟩
    rw [hornbooklaw17_theirs.l0, if_neg (by omega), List.drop_eq_nil_of_le (by omega), List.map_nil, List.append_nil]
  | succ d ih =>
    intro i k acc hd hi ha hk
    obtain ⟨k, rfl⟩ : ∃ k', k = k' + 1 := ⟨k - 1, by omega⟩
    have hlt : i < l.length := by omega
    rw [hornbooklaw17_theirs.l0, if_pos (by omega), if_pos (by omega), if_pos (by omega), rdT l i hlt, wrap_small (by omega) (by omega)]
    have := ih (i + 1) k (acc ++ [toR l[i]]) (by omega) (by omega) (by rw [List.length_append, List.length_singleton, ha]) (by omega)
    rw [List.drop_eq_getElem_cons hlt, List.map_cons, show (i : Int) + 1 = ((i + 1 : Nat) : Int) by omega]
    unfold toR at this ⊢
    rw [this, List.append_assoc]
    rfl
theorem theirs_eq (l : List EnT) (hn : l.length ≤ 100000) {k : Nat} (hk : l.length + 1 ≤ k) : hornbooklaw17_theirs.f k l = some (l.map toR) := by
  unfold hornbooklaw17_theirs.f
  have := theirs_loop l hn l.length 0 k [] rfl (Nat.zero_le _) rfl hk
  rw [List.drop_zero, List.nil_append] at this
  exact this
theorem same17_loop (l : List EnR) (hl : l.length ≤ 100000) (d : Nat) : ∀ (i k : Nat), l.length - i = d → i ≤ l.length → d < k → hornbookref17_Same.l0 k l l (i : Int) = some true := by
  induction d with
  | zero =>
    intro i k hd hi hk
    obtain ⟨k, rfl⟩ : ∃ m, k = m + 1 := ⟨k - 1, by omega⟩
    rw [hornbookref17_Same.l0, if_neg (by omega)]
  | succ d ih =>
    intro i k hd hi hk
    obtain ⟨k, rfl⟩ : ∃ m, k = m + 1 := ⟨k - 1, by omega⟩
    have hn := ih (i + 1) k (by omega) (by omega) (by omega)
    rw [show (((i + 1 : Nat) : Int)) = (i : Int) + 1 by omega] at hn
    rw [hornbookref17_Same.l0, if_pos (by omega), if_pos (by omega), if_pos (by omega), if_neg (by simp), wrap_small (by omega) (by omega), hn]
theorem same17_refl (l : List EnR) (hl : l.length ≤ 100000) {k : Nat} (hk : l.length < k) : hornbookref17_Same.f k l l = some true := by
  unfold hornbookref17_Same.f
  rw [if_pos rfl]
  exact same17_loop l hl l.length 0 k rfl (Nat.zero_le _) hk
theorem same15_loop (l : List ByteArray) (hl : l.length ≤ 100000) (d : Nat) : ∀ (i k : Nat), l.length - i = d → i ≤ l.length → d < k → hornbookref15_Same.l0 k l l (i : Int) = some true := by
  induction d with
  | zero =>
    intro i k hd hi hk
    obtain ⟨k, rfl⟩ : ∃ m, k = m + 1 := ⟨k - 1, by omega⟩
    rw [hornbookref15_Same.l0, if_neg (by omega)]
  | succ d ih =>
    intro i k hd hi hk
    obtain ⟨k, rfl⟩ : ∃ m, k = m + 1 := ⟨k - 1, by omega⟩
    have hn := ih (i + 1) k (by omega) (by omega) (by omega)
    rw [show (((i + 1 : Nat) : Int)) = (i : Int) + 1 by omega] at hn
    rw [hornbookref15_Same.l0, if_pos (by omega), if_pos (by omega), if_pos (by omega), if_pos rfl, wrap_small (by omega) (by omega), hn]
theorem same15_refl (l : List ByteArray) (hl : l.length ≤ 100000) {k : Nat} (hk : l.length < k) : hornbookref15_Same.f k l l = some true := by
  unfold hornbookref15_Same.f
  rw [if_pos rfl]
  exact same15_loop l hl l.length 0 k rfl (Nat.zero_le _) hk
theorem apply17 (b : List ByteArray) (hb : b.length = 256) (l : List EnT) (hl : l.length ≤ 1000000) : diff_Apply.f b l = some (applyOut (runG (b, -1) 0 (l.map enOf))) := by
  unfold diff_Apply.f
  rw [if_pos hb, if_pos hl]
theorem apply17_none (b : List ByteArray) (hb : ¬ b.length = 256) (l : List EnT) : diff_Apply.f b l = some ([], 0, 11) := by
  unfold diff_Apply.f
  rw [if_neg hb]
/-- What is told of two encodings leads from one to the other. -/
theorem of_run (bs ns : List ByteArray) (hb : bs.length = 256) (hn : ns.length = 256) : diff_Apply.f bs ((ofG 0 false bs ns).map unEn) = some (ns, 0, 0) := by
  have hl := (ofG_like bs ns 0 false (by omega) (by omega)).2.2
  obtain ⟨a', h⟩ := ofG_run bs ns [] 0 false (-1) 0 (by omega) rfl (by omega) (fun h => by cases h)
  rw [List.nil_append, List.nil_append] at h
  rw [apply17 bs hb _ (by rw [List.length_map]; omega), map_enOf_unEn, h]
  rfl
end Go.Proofs.YtdcldaknmenklaaGreatDoor.M
end
section
namespace Go.Proofs.YtdcldaknmenklaaGreatDoor.M
open Go.RowKit Go.Proofs.YtdcldaknmenklaaGreatDoorW.PrintWords
set_option linter.unusedVariables false
/-- A name that an encoding has behind its entries is the one it had, or an entry's. -/
theorem stepG_names {st s : St} {x : En} (h : stepG st x = .ok s) (i : Nat) (n : ByteArray) (hi : s.1[i]? = some n) : st.1[i]? = some n ∨ n = x.2.2 := by
  unfold stepG at h
  split at h
  · split at h
    · cases h
    · injection h with h; subst h; exact .inl hi
  · split at h
    · cases h
    · split at h
      · cases h
      · injection h with h
        subst h
        dsimp only at hi
        rw [List.getElem?_set] at hi
        split at hi
        · split at hi
          · injection hi with hi; exact .inr hi.symm
          · cases hi
        · exact .inl hi
theorem runG_names : ∀ (l : List En) (st s : St) (k : Nat), runG st k l = .ok s → ∀ (i : Nat) (n : ByteArray), s.1[i]? = some n → st.1[i]? = some n ∨ ∃ x ∈ l, n = x.2.2
  | [], st, s, k, h, i, n, hi => by injection h with h; subst h; exact .inl hi
  | x :: l, st, s, k, h, i, n, hi => by
    rw [runG] at h
    cases hs : stepG st x with
    | error e => rw [hs] at h; cases h
    | ok s1 =>
      rw [hs] at h
      rcases runG_names l s1 s (k + 1) h i n hi with h1 | ⟨y, hy, e⟩
      · rcases stepG_names hs i n h1 with h2 | h2
        · exact .inl h2
        · exact .inr ⟨x, by simp, h2⟩
      · exact .inr ⟨y, List.mem_cons_of_mem _ hy, e⟩
theorem ofG_names : ∀ (bs ns : List ByteArray) (c : Nat) (row : Bool), ∀ x ∈ ofG c row bs ns, x.1 = false → ∃ (i : Nat) (b n : ByteArray), bs[i]? = some b ∧ ns[i]? = some n ∧ b ≠ n ∧ x.2.2 = n
  | [], ns, c, row, x, hx => by rw [ofG] at hx; cases hx; intro b bs n ns h; cases h
  | b :: bs, [], c, row, x, hx => by rw [ofG] at hx; cases hx; intro b bs n ns _ h; cases h
  | b :: bs, n :: ns, c, row, x, hx => by
    intro hf
    have tl : ∀ row', x ∈ ofG (c + 1) row' bs ns → ∃ (i : Nat) (b' n' : ByteArray), (b :: bs)[i]? = some b' ∧ (n :: ns)[i]? = some n' ∧ b' ≠ n' ∧ x.2.2 = n' := by
      intro row' h
      obtain ⟨i, b', n', h1, h2, h3, h4⟩ := ofG_names bs ns (c + 1) row' x h hf
      exact ⟨i + 1, b', n', by simpa using h1, by simpa using h2, h3, h4⟩
    rw [ofG] at hx
    by_cases hbn : b = n
    · rw [if_pos hbn] at hx
      exact tl _ hx
    · rw [if_neg hbn] at hx
      have hd : ∃ (i : Nat) (b' n' : ByteArray), (b :: bs)[i]? = some b' ∧ (n :: ns)[i]? = some n' ∧ b' ≠ n' ∧ n = n' := ⟨0, b, n, rfl, rfl, hbn, rfl⟩
      by_cases hr : row = true
      · rw [if_pos hr] at hx
        rcases List.mem_cons.1 hx with rfl | hx
        · exact hd
        · exact tl _ hx
      · rw [if_neg hr] at hx
        rcases List.mem_cons.1 hx with rfl | hx
        · cases hf
        · rcases List.mem_cons.1 hx with rfl | hx
          · exact hd
          · exact tl _ hx
def cntN (l : List EnT) : Nat := (l.filter (fun x => !x.f0)).length
theorem back_l0 (x0 : List ByteArray) (x5 : Bool) (x6 : List ByteArray) (d : List EnT) (x10 : List ByteArray) (x12 : Int) (x13 : List EnT) (x15 : Int) (hd : d.length ≤ 1000) (m : Nat) : ∀ (i k c : Nat), d.length - i = m → i ≤ d.length → c ≤ i →
    hornbooklaw17_DiffBack.l0 (k + m) x0 x5 x6 d x10 x12 x13 x15 (c : Int) (i : Int) = hornbooklaw17_DiffBack.l0 k x0 x5 x6 d x10 x12 x13 x15 ((c + cntN (d.drop i) : Nat) : Int) (d.length : Int) := by
  induction m with
  | zero =>
    intro i k c hm hi hc
    have : i = d.length := by omega
    subst this
    rw [List.drop_length]
    rfl
  | succ m ih =>
    intro i k c hm hi hc
    have hlt : i < d.length := by omega
    have hw : wrap64 ((i : Int) + 1) = ((i + 1 : Nat) : Int) := by rw [wrap_small (by omega) (by omega)]; omega
    have hw2 : wrap64 ((c : Int) + 1) = ((c + 1 : Nat) : Int) := by rw [wrap_small (by omega) (by omega)]; omega
    rw [show k + (m + 1) = (k + m) + 1 by omega]
    conv => lhs; rw [hornbooklaw17_DiffBack.l0]
    rw [if_pos (by omega), if_pos (by omega), rdT d i hlt, hw, hw2, List.drop_eq_getElem_cons hlt]
    unfold cntN
    by_cases hb : d[i].f0 = true
    · rw [if_pos hb, ih (i + 1) k c (by omega) (by omega) (by omega), List.filter_cons_of_neg (by simp [hb])]
      rfl
    · rw [if_neg hb, ih (i + 1) k (c + 1) (by omega) (by omega) (by omega), List.filter_cons_of_pos (by simpa using hb), List.length_cons]
      unfold cntN
      rw [show c + 1 + (List.filter (fun x => !x.f0) (List.drop (i + 1) d)).length = c + ((List.filter (fun x => !x.f0) (List.drop (i + 1) d)).length + 1) by omega]
def cntZ (bs ns : List ByteArray) : Nat := ((bs.zip ns).filter (fun x => decide (x.1 ≠ x.2))).length
theorem back_l1 (bs ns : List ByteArray) (hb : bs.length = 256) (hn : ns.length = 256) (x9 : List EnT) (x10 : List ByteArray) (x12 : Int) (x13 : List EnT) (x15 x16 : Int) (d : Nat) : ∀ (i k c : Nat), 256 - i = d → i ≤ 256 → c ≤ i →
    hornbooklaw17_DiffBack.l1 (k + 2 * d) bs true ns x9 x10 x12 x13 x15 x16 (c : Int) (i : Int) = hornbooklaw17_DiffBack.l1 k bs true ns x9 x10 x12 x13 x15 x16 ((c + cntZ (bs.drop i) (ns.drop i) : Nat) : Int) 256 := by
  induction d with
  | zero =>
    intro i k c hd hi hc
    have : i = 256 := by omega
    subst this
    rw [List.drop_eq_nil_of_le (by omega), List.drop_eq_nil_of_le (by omega)]
    rfl
  | succ d ih =>
    intro i k c hd hi hc
    have h1 : i < bs.length := by omega
    have h2 : i < ns.length := by omega
    have hw : wrap64 ((i : Int) + 1) = ((i + 1 : Nat) : Int) := by rw [wrap_small (by omega) (by omega)]; omega
    have hw2 : wrap64 ((c : Int) + 1) = ((c + 1 : Nat) : Int) := by rw [wrap_small (by omega) (by omega)]; omega
    rw [show k + 2 * (d + 1) = (k + 2 * d) + 1 + 1 by omega]
    conv => lhs; rw [hornbooklaw17_DiffBack.l1]
    rw [if_pos (by omega), decide_eq_true (show (i : Int) < (bs.length : Int) by omega), hornbooklaw17_DiffBack.j3, if_pos rfl, if_pos (by omega), if_pos (by omega), if_pos (by omega), rdO h1, rdO h2, hw, hw2, List.drop_eq_getElem_cons h1, List.drop_eq_getElem_cons h2]
    unfold cntZ
    rw [List.zip_cons_cons]
    by_cases he : ns[i] = bs[i]
    · rw [if_pos (toList_iff.2 he), ih (i + 1) k c (by omega) (by omega) (by omega), List.filter_cons_of_neg (by simp [he])]
      rfl
    · rw [if_neg (fun e => he (toList_iff.1 e)), ih (i + 1) k (c + 1) (by omega) (by omega) (by omega), List.filter_cons_of_pos (by simpa using fun e => he (Eq.symm e)), List.length_cons]
      unfold cntZ
      rw [show ∀ q : Nat, c + 1 + q = c + (q + 1) from fun q => by omega]
theorem DiffBack : hornbooklaw17_DiffBack.Pure := by
  intro bs l _ _ _ _ _ _
  refine ⟨2010001, ?_⟩
  unfold hornbooklaw17_DiffBack.f
  obtain ⟨b, hb, hb2⟩ := few_eq l (k := 2010001) (by omega)
  have hend : hornbooklaw17_DiffBack.j0 2010001 bs l true true = some true := by rw [hornbooklaw17_DiffBack.j0, if_pos rfl]
  rw [awake17 (by omega), Option.bind_some, hb, Option.bind_some]
  cases b with
  | false => rw [if_neg (by decide)]; exact hend
  | true =>
    obtain ⟨hl, hs⟩ := hb2 rfl
    rw [if_pos rfl]
    cases h3 : decide ((bs.length : Int) > 300) with
    | true => exact hend
    | false =>
      rw [hornbooklaw17_DiffBack.j0, if_neg (by decide), ours_eq l (by omega) (by omega), Option.bind_some]
      by_cases h256 : bs.length = 256
      · rw [apply17 bs h256 _ (by rw [List.length_map]; omega), Option.bind_some]
        cases hr : runG (bs, -1) 0 ((l.map toE).map enOf) with
        | error pe =>
          obtain ⟨p, e⟩ := pe
          obtain ⟨j, rfl, hj, he, -, -, -⟩ := runG_err _ _ _ _ _ hr
          have he2 : e ≠ 0 := by rcases he with rfl | rfl <;> decide
          rw [applyOut_err]
          dsimp only
          rw [if_neg he2, if_pos rfl]
          rfl
        | ok s =>
          have hns : s.1.length = 256 := (runG_size _ _ _ _ hr).trans h256
          rw [applyOut_ok]
          dsimp only
          rw [if_pos rfl, of_eq bs s.1 h256 hns (by omega), Option.bind_some, of_run bs s.1 h256 hns, Option.bind_some]
          obtain ⟨hlike, hcnt, hlen⟩ := ofG_like bs s.1 0 false (by omega) (by omega)
          have hok : ∀ x ∈ (ofG 0 false bs s.1).map unEn, OkE x := by
            intro x hx
            obtain ⟨y, hy, rfl⟩ := List.mem_map.1 hx
            refine ⟨fun e => ?_, fun e => ?_⟩
            · obtain ⟨h1, h2, h3⟩ := (hlike y hy).1 e
              refine ⟨?_, ?_, h3⟩
              · show -2147483648 ≤ y.2.1
                omega
              · show y.2.1 ≤ 2147483647
                omega
            · obtain ⟨h1, -⟩ := (hlike y hy).2 e
              refine ⟨h1, ?_⟩
              show y.2.2.size ≤ 100
              obtain ⟨i, b, n, g1, g2, g3, g4⟩ := ofG_names bs s.1 0 false y hy e
              rw [g4]
              rcases runG_names _ _ _ _ hr i n g2 with g | ⟨z, hz, g⟩
              · dsimp only at g
                rw [g1] at g
                injection g with g
                exact absurd g g3
              · rw [List.map_map] at hz
                obtain ⟨u, hu, rfl⟩ := List.mem_map.1 hz
                rw [g]
                exact hs u hu
          obtain ⟨tx, hT, hP⟩ := parse_textD ((ofG 0 false bs s.1).map unEn) (by rw [List.length_map]; omega) hok (k := 2010000) (by omega)
          rw [hT, Option.bind_some, hP, Option.bind_some]
          dsimp only
          generalize hd : (ofG 0 false bs s.1).map unEn = d
          have hdl : d.length ≤ 512 := by rw [← hd, List.length_map]; omega
          have hcd : cntN d = cntZ bs s.1 := by
            unfold cntZ
            rw [← hcnt, ← hd]
            unfold cntN
            rw [List.filter_map, List.length_map]
            rfl
          obtain ⟨K, hK⟩ : ∃ K, 2010000 = (K + 2 + 2 * 256 + 1) + d.length := ⟨2010000 - d.length - 515, by omega⟩
          have h0 := back_l0 bs true s.1 d s.1 0 d 0 (by omega) d.length 0 (K + 2 + 2 * 256 + 1) 0 (by omega) (by omega) (by omega)
          rw [← hK, List.drop_zero, Nat.zero_add, show ((0 : Nat) : Int) = 0 from rfl] at h0
          have h1 := back_l1 bs s.1 h256 hns d s.1 0 d 0 (cntN d : Int) 256 0 (K + 2) 0 (by omega) (by omega) (by omega)
          rw [List.drop_zero, List.drop_zero, Nat.zero_add, show ((0 : Nat) : Int) = 0 from rfl] at h1
          have hth := theirs_eq d (k := K) (by omega) (by omega)
          rw [h0, hornbooklaw17_DiffBack.l0, if_neg (by omega), h1, hornbooklaw17_DiffBack.l1, if_neg (by omega), hornbooklaw17_DiffBack.j3, if_neg (by decide), if_pos rfl, if_pos rfl, same15_refl s.1 (by omega) (by omega), Option.bind_some, if_pos rfl, if_pos rfl, hth, Option.bind_some, Option.bind_some, same17_refl _ (by rw [List.length_map]; omega) (by rw [List.length_map]; omega), Option.bind_some, if_pos rfl, hcd]
          simp
      · rw [apply17_none bs h256, Option.bind_some]
        dsimp only
        rw [if_neg (by decide), if_pos rfl]
        rfl
end Go.Proofs.YtdcldaknmenklaaGreatDoor.M
end
section
namespace Go.Proofs.YtdcldaknmenklaaGreatDoor.M
open Go Go.ChangeShapes Go.WideShapes Go.RowKit Go.Proofs.YtdcldaknmenklaaGreatDoorW.PrintWords
set_option linter.unusedVariables false
theorem weights_all {H : Type} {P : Program} {e : TypeId} {l : List (DataW H)} {y : DataW H} (hy : y ∈ l) {q : Nat} (hq : q ∈ DataW.weights P e y) : q ∈ DataW.weightsAll P e l := by
  induction l with
  | nil => cases hy
  | cons z r ih =>
    rw [DataW.weightsAll, List.mem_append]
    rcases List.mem_cons.1 hy with rfl | h
    · exact .inl hq
    · exact .inr (ih h)
section
variable {H α : Type} {enc : TypeId × Value → H} {P : Program} {W : World} {base : Nat} {spare : Nat → Bool} {held : Bool} {t e : TypeId}
/-- A slice's one cell, opened: its elements by their kind. -/
theorem open_cells (d : Kd α) (Q : α → Prop) (hu : P.underlying t = some (.slice e)) (hc : P.cellsOf e = d.sz)
    (he : ∀ n cs y, DataW.trod enc P W base spare held n e cs = some y → (∀ q ∈ DataW.weights P e y.1, q ≤ reachBytes) → ∃ x : α, d.K W x cs ∧ Q x)
    {n : Nat} {cs : List Value} {y : DataW H × List MemPlace} (h : DataW.trod enc P W base spare held n t cs = some y) (hw : ∀ q ∈ DataW.weights P t y.1, q ≤ reachBytes) :
    ∃ (a : Option Addr) (len cap : Nat) (l : List α), cs = [.slice a len cap] ∧ l.length = len ∧ l.length ≤ cap ∧ l.length ≤ maxLen ∧ d.C W a l.length l ∧ l.length * P.bytesOf e ≤ reachBytes ∧ ∀ x ∈ l, Q x := by
  rcases Go.Deep.open_slice hu h with ⟨rfl, rfl⟩ | ⟨a, len, cap, m, n', D, Pl, rfl, hb, hl, hm, hmm, rfl, hx⟩
  · exact ⟨none, 0, 0, [], rfl, rfl, Nat.le_refl _, Nat.zero_le _, Kd.C_nil _ _, by simp, fun x h => by cases h⟩
  have hle : len ≤ m := by
    rw [hmm]
    split <;> omega
  have hws : ∀ i, i < len → ∀ q ∈ DataW.weights P e (D i), q ≤ reachBytes := by
    intro i hi q hq
    refine hw q ?_
    show q ∈ DataW.weights P t (DataW.slice _ _)
    rw [DataW.weights, hu]
    exact List.mem_cons_of_mem _ (List.mem_append_left _ (weights_all (List.mem_map.2 ⟨i, List.mem_range.2 hi, rfl⟩) hq))
  have each : ∀ i, i < len → ∃ x : α, (∃ cs', W.cells? base (a.add (i * P.cellsOf e)) (P.cellsOf e) = some cs' ∧ d.K W x cs') ∧ Q x := by
    intro i hi
    obtain ⟨cs', h1, h2⟩ := hx i (Nat.lt_of_lt_of_le hi hle)
    obtain ⟨x, h3, h4⟩ := he _ _ _ h2 (hws i hi)
    exact ⟨x, ⟨cs', h1, h3⟩, h4⟩
  have build : ∀ k, k ≤ len → ∃ l : List α, l.length = k ∧ ∀ i x, l[i]? = some x → (∃ cs', W.cells? base (a.add (i * P.cellsOf e)) (P.cellsOf e) = some cs' ∧ d.K W x cs') ∧ Q x := by
    intro k
    induction k with
    | zero => exact fun _ => ⟨[], rfl, fun i x h => by simp at h⟩
    | succ k ih =>
      intro hk
      obtain ⟨l, hl1, hl2⟩ := ih (by omega)
      obtain ⟨x, hx1⟩ := each k (by omega)
      refine ⟨l ++ [x], by simp [hl1], fun i z hz => ?_⟩
      rcases Nat.lt_or_ge i l.length with h0 | h0
      · rw [List.getElem?_append_left h0] at hz
        exact hl2 i z hz
      · rw [List.getElem?_append_right h0] at hz
        have h1 : i - l.length < 1 := by
          have := (List.getElem?_eq_some_iff.1 hz).1
          simpa using this
        have h2 : i = k := by omega
        subst h2
        have h3 : x = z := by
          rw [show i - l.length = 0 by omega] at hz
          simpa using hz
        subst h3
        exact hx1
  obtain ⟨l, hl1, hl2⟩ := build len (Nat.le_refl _)
  subst hl1
  refine ⟨some a, l.length, cap, l, rfl, rfl, hl, Nat.le_trans hl hm, ⟨rfl, Nat.le_trans (Nat.le_trans hl hm) (by decide), fun _ => ⟨a, rfl, fun j p hj => ?_⟩⟩, ?_, fun x hx' => ?_⟩
  · obtain ⟨⟨cs', h1, h2⟩, _⟩ := hl2 j p hj
    rw [hc] at h1
    obtain ⟨_, h3, h4⟩ := World.cells?_some h1
    refine ⟨cs', h3, h2, fun i u hi => ?_⟩
    have h5 : i < d.sz := by
      have := (List.getElem?_eq_some_iff.1 hi).1
      omega
    rw [← Go.Deep.add_add, h4 i h5, hi]
  · refine Nat.le_trans ?_ (hw ((((List.range l.length).map D).length + ((List.range (m - l.length)).map fun j => D (l.length + j)).length) * P.bytesOf e) ?_)
    · refine Nat.mul_le_mul_right _ ?_
      simp
    · show _ ∈ DataW.weights P t (DataW.slice _ _)
      rw [DataW.weights, hu]
      exact List.mem_cons_self
  · obtain ⟨i, hi⟩ := List.getElem?_of_mem hx'
    exact (hl2 i x hi).2
/-- .. as an argument of a law. -/
theorem open_rows (d : Kd α) (Q : α → Prop) {a : Option Addr} {len cap : Nat} {dt : DataW H} {ps : List MemPlace} {ts : List TypeId} {ds : List (DataW H)} {j : Nat}
    (hsz : (DataW.weightsEach P ts ds).all (· ≤ reachBytes) = true) (ht : ts[j]? = some t) (hd : ds[j]? = some dt) (hu : P.underlying t = some (.slice e)) (hc : P.cellsOf e = d.sz) {B : Nat} (hB : P.bytesOf e = B)
    (he : ∀ n cs y, DataW.trod enc P W base spare held n e cs = some y → (∀ q ∈ DataW.weights P e y.1, q ≤ reachBytes) → ∃ x : α, d.K W x cs ∧ Q x)
    (h : DataW.Trod enc P W base spare held t (.slice a len cap) dt ps) :
    ∃ l : List α, l.length = len ∧ l.length ≤ cap ∧ l.length ≤ maxLen ∧ d.C W a l.length l ∧ l.length * B ≤ 140737488351232 ∧ ∀ x ∈ l, Q x := by
  obtain ⟨fuel, hf⟩ := h
  obtain ⟨a', len', cap', l, hcs, h1, h2, h3, h4, h5, h6⟩ := open_cells d Q hu hc he hf (fun q hq => by
    have := List.all_eq_true.1 hsz _ (DataW.weights_mem_each ht hd q hq)
    simpa using this)
  simp [Value.cells] at hcs
  obtain ⟨rfl, rfl, rfl⟩ := hcs
  rw [hB] at h5
  exact ⟨l, h1, h2, h3, h4, h5, h6⟩
theorem el_string (he : P.underlying e = some .string) : ∀ n cs (y : DataW H × List MemPlace), DataW.trod enc P W base spare held n e cs = some y → (∀ q ∈ DataW.weights P e y.1, q ≤ reachBytes) → ∃ x : ByteArray, Kd.string.K W x cs ∧ x.size ≤ 140737488351232 := by
  intro n cs y h hw
  obtain ⟨s, rfl, rfl, hs⟩ := DataW.trod_string he h
  refine ⟨s, rfl, ?_⟩
  have := hw s.data.toList.length (by simp [DataW.weights])
  rwa [data_length] at this
theorem el_int {k : IntKind} (he : P.underlying e = some (.int k)) : ∀ n cs (y : DataW H × List MemPlace), DataW.trod enc P W base spare held n e cs = some y → (∀ q ∈ DataW.weights P e y.1, q ≤ reachBytes) → ∃ x : Int, (Kd.int k).K W x cs ∧ (Lit.int k x).wf = true := by
  intro n cs y h hw
  obtain ⟨s, rfl, rfl, hs⟩ := DataW.trod_int he h
  exact ⟨s, rfl, hs⟩
theorem el_bool (he : P.underlying e = some .bool) : ∀ n cs (y : DataW H × List MemPlace), DataW.trod enc P W base spare held n e cs = some y → (∀ q ∈ DataW.weights P e y.1, q ≤ reachBytes) → ∃ x : Bool, Kd.bool.K W x cs ∧ True := by
  intro n cs y h hw
  obtain ⟨s, rfl, rfl⟩ := DataW.trod_bool he h
  exact ⟨s, rfl, trivial⟩
/-- A struct: fields are opened one by one; a field's cells and weights. -/
theorem struct_len {fs : Array Field} {n : Nat} {cs : List Value} {y : DataW H × List MemPlace} (ht : P.underlying t = some (.struct fs)) (h : DataW.trod enc P W base spare held n t cs = some y) {c : Nat} (hc : P.cellsOf t = c) : cs.length = c := by
  obtain ⟨xs, n', _, rfl, hl, hlen, hf⟩ := DataW.trod_struct ht h
  rw [hl, hc]
theorem struct_field {fs : Array Field} {n : Nat} {cs : List Value} {y : DataW H × List MemPlace} (ht : P.underlying t = some (.struct fs)) (h : DataW.trod enc P W base spare held n t cs = some y) (hw : ∀ q ∈ DataW.weights P t y.1, q ≤ reachBytes)
    (i : Nat) (f : Field) (hi : fs[i]? = some f) (ft : TypeId) (o s : Nat) (hft : f.type = ft) (ho : f.offset = o) (hs : P.cellsOf ft = s) :
    ∃ n' y', DataW.trod enc P W base spare held n' ft ((cs.drop o).take s) = some y' ∧ ∀ q ∈ DataW.weights P ft y'.1, q ≤ reachBytes := by
  obtain ⟨xs, n', _, rfl, hl, hlen, hf⟩ := DataW.trod_struct ht h
  have h1 := hf i f hi
  have h2 : i < xs.length := by
    rw [hlen]
    exact (Array.getElem?_eq_some_iff.1 hi).1
  rw [List.getElem?_eq_getElem h2, hft, ho, hs] at h1
  refine ⟨n', _, h1, fun q hq => hw q ?_⟩
  show q ∈ DataW.weights P t (DataW.agg _)
  rw [DataW.weights, ht]
  refine DataW.weights_mem_each (j := i) (t := ft) (d := xs[i].1) ?_ ?_ q hq
  · rw [List.getElem?_map, Array.getElem?_toList, hi]
    exact congrArg some hft
  · rw [List.getElem?_map, List.getElem?_eq_getElem h2]
    rfl
end
end Go.Proofs.YtdcldaknmenklaaGreatDoor.M
end
section
/- For every row of names and of entries, what DiffBack says holds: what is told of two encodings leads from one to the other. -/
namespace Go.Proofs.YtdcldaknmenklaaGreatDoor.diffBack
open Go Go.ChangeShapes Go.WideShapes Go.ChangeAt Go.RowKit
open Go.ChangeMaps (open_string shut_string)
set_option linter.unusedVariables false
open Go.Proofs.YtdcldaknmenklaaGreatDoorW.PrintWords
theorem own : ownKnob Tryz.prog.godebug = none := by kernel_rfl
theorem laidOut : laidOutB Tryz.prog = true := by kernel_rfl
theorem el_S34 {H : Type} {enc : TypeId × Value → H} {W : World} {base : Nat} {spare : Nat → Bool} {held : Bool} : ∀ n cs (y : DataW H × List MemPlace), DataW.trod enc Tryz.prog W base spare held n 34 cs = some y → (∀ q ∈ DataW.weights Tryz.prog 34 y.1, q ≤ reachBytes) → ∃ x : M.S34, M.k34.K W x cs ∧ (True ∧ (Lit.int .i64 x.f1).wf = true ∧ x.f2.size ≤ 140737488351232) := by
  intro n cs y h hw
  have hl := M.struct_len Tryz.underlying34 h (c := 3) (by kernel_rfl)
  obtain ⟨n0, y0, h0, w0⟩ := M.struct_field Tryz.underlying34 h hw 0 _ rfl 4 0 1 rfl rfl (by kernel_rfl)
  obtain ⟨x0, kx0, q0⟩ := (M.el_bool Tryz.underlying4) _ _ _ h0 w0
  obtain ⟨n1, y1, h1, w1⟩ := M.struct_field Tryz.underlying34 h hw 1 _ rfl 3 1 1 rfl rfl (by kernel_rfl)
  obtain ⟨x1, kx1, q1⟩ := (M.el_int Tryz.underlying3) _ _ _ h1 w1
  obtain ⟨n2, y2, h2, w2⟩ := M.struct_field Tryz.underlying34 h hw 2 _ rfl 9 2 1 rfl rfl (by kernel_rfl)
  obtain ⟨x2, kx2, q2⟩ := (M.el_string Tryz.underlying9) _ _ _ h2 w2
  have hcs : cs = (cs.drop 0).take 1 ++ ((cs.drop 1).take 1 ++ ((cs.drop 2).take 1)) := by
    match cs, hl with
    | [c0, c1, c2], _ => rfl
  exact ⟨⟨x0, x1, x2⟩, ⟨_, _, hcs, kx0, _, _, rfl, kx1, kx2⟩, q0, q1, q2⟩
set_option maxRecDepth 100000 in
theorem lifted (os : Os) (started : os.Started) (H : Type) (enc : TypeId × Value → H) :
    ReturnsInHanded {} Tryz.checked os 7 .any (fun w args => (Rows.diffBackSpec.pre enc Tryz.prog Tryz.f7 Rows.diffBackRow.domain false w args ∧ laidMetH Tryz.prog Rows.diffBackRow.laid w) ∧ sizedMet enc Tryz.prog Tryz.f7 (OpenSpec.ofChange Rows.diffBackSpec) false w args)
      (Rows.diffBackSpec.post enc Tryz.prog Tryz.f7 false true false false) := by
  refine M.returns_both (C := Tryz.checked) (X := fun w _ => laidMetH Tryz.prog Rows.diffBackRow.laid w) (fun _ _ _ hh h => h.of_heap hh) own started (by kernel_rfl) Tryz.func7
    (ChangeSpec.witness_shaped (enc := enc) (C := Tryz.checked) (os := os) (X := fun w _ => laidMetH Tryz.prog Rows.diffBackRow.laid w) false (World.laidAll Tryz.prog os Rows.diffBackRow.laid) #[.slice none 0 0, .slice none 0 0] 8 (World.laidAll_os _ _ _)
      (World.shaped_of_ZipB (by kernel_rfl) (by kernel_rfl)) (by kernel_rfl) (by kernel_rfl) (by kernel_rfl)
      (by rw [MakeChecks.laidMetH_plain _ _ _ (by kernel_rfl)]; exact laidMet_laidAll _ (by kernel_rfl) (by kernel_rfl))) ?_
  intro W base args ds gs before hval0 hW hcnd hsz0 hL hshape
  have hsz : (DataW.weightsEach Tryz.prog (Tryz.f7.params.toList ++ Rows.diffBackSpec.plain.varTypes Tryz.prog) (ds ++ gs)).all (· ≤ reachBytes) = true := hsz0
  have hval : ∀ (j : Nat) t v, Tryz.f7.params[j]? = some t → args[j]? = some v → Value.okWide Tryz.prog W .any base t v := hval0
  have hLp := hL
  rw [MakeChecks.laidMetH_plain _ _ _ (by kernel_rfl)] at hLp
  have hG : M.GW W := M.GW.of_mets (hLp.tail.tail.tail.tail) (hLp.tail.tail.tail.tail.tail) (hLp.tail.tail.tail.tail.tail.tail.tail) (hLp.tail.tail) hshape
  have hW' := hW
  obtain ⟨p, q, hA0, hV, rfl, hfz, hnd⟩ := hW
  have hA : DataW.TrodAll enc Tryz.prog W 0 (fun _ => true) true Tryz.f7.params.toList args.toList ds p := hA0
  rw [Tryz.params7] at hA hval hsz
  obtain ⟨v0, vs0, d0, ds0, p0, q0, hargs, rfl, rfl, h0, r0⟩ := trodAll_cons hA
  obtain ⟨v1, vs1, d1, ds1, p1, q1, rfl, rfl, rfl, h1, r1⟩ := trodAll_cons r0
  obtain ⟨rfl, rfl, rfl⟩ := trodAll_nil r1
  obtain rfl : args = #[v0, v1] := by cases args; simp_all
  obtain ⟨rfl, rfl⟩ := trodVars_none hV
  obtain ⟨a0, len0, cap0, rfl⟩ := okWide_slice Tryz.underlying25 (hval 0 25 v0 rfl rfl)
  have k0 := h0
  have lt0 : ∀ x ∈ p0, x.block < W.heap.size := by obtain ⟨m, hm⟩ := k0; exact DataW.trod_lt m _ _ _ hm
  obtain ⟨l0, el0, hc0, w0, hr0, y0, q0⟩ := M.open_rows Kd.string (fun z => z.size ≤ 140737488351232) hsz (j := 0) (t := 25) rfl rfl Tryz.underlying25 (by kernel_rfl) (B := 16) (by kernel_rfl) (M.el_string Tryz.underlying9) h0
  subst el0
  obtain ⟨a1, len1, cap1, rfl⟩ := okWide_slice Tryz.underlying22 (hval 1 22 v1 rfl rfl)
  have k1 := h1
  have lt1 : ∀ x ∈ p1, x.block < W.heap.size := by obtain ⟨m, hm⟩ := k1; exact DataW.trod_lt m _ _ _ hm
  obtain ⟨l1, el1, hc1, w1, hr1, y1, q1⟩ := M.open_rows M.k34 (fun z => (True ∧ (Lit.int .i64 z.f1).wf = true ∧ z.f2.size ≤ 140737488351232)) hsz (j := 1) (t := 22) rfl rfl Tryz.underlying22 (by kernel_rfl) (B := 32) (by kernel_rfl) el_S34 h1
  subst el1
  clear hA0 hval0 hsz0 hsz
  refine (M.hornbooklaw17_DiffBack.walk M.DiffBack a0 cap0 l0 a1 cap1 l1 W hr0 hc0 w0 y0 q0 hr1 hc1 w1 y1 q1 hG).mono fun e W' ⟨he, bel⟩ => ?_
  subst he
  exact ⟨_, rfl, _, _, _, [], _, [], hW', trodAll_mk1 (shut_bool Tryz.underlying4 _), (trodAll_cons_mk (Below.trod laidOut (by kernel_rfl) (of_decide_eq_true (by kernel_rfl)) k0 bel lt0) (trodAll_cons_mk (Below.trod laidOut (by kernel_rfl) (of_decide_eq_true (by kernel_rfl)) k1 bel lt1) trodAll_mk0)), rfl, bel.frame _, fun h => by cases h⟩
theorem over : Rows.diffBackRow.holds Tryz.pinned (OpenSpec.ofChange Rows.diffBackSpec) :=
  OpenClaim.holds_of_wide 7 Tryz.f7 rfl rfl rfl rfl rfl rfl rfl ⟨rfl, rfl, rfl, rfl, rfl⟩ rfl rfl rfl rfl rfl (by kernel_rfl) Tryz.func7 (by kernel_rfl)
    (of_decide_eq_true (by kernel_rfl)) (by unfold Func.isWrapper; first | (rw [if_pos (by decide +kernel)]; kernel_rfl) | (rw [if_neg (by decide +kernel)]; exact ⟨rfl, rfl⟩))
    (fun os started H enc _ => lifted os started H enc)
theorem proved : Rows.DiffBackSaid := over
theorem card : Rows.DiffBackCardSaid :=
  Claim7.holds_tied_plain_at .later [] [.data, .data, .data, .data, .sentinel, .sentinel, .listed, .data, .pinned] true (true, "0afd4bafc3317950a78f067166de83fbf789a8e3cacd5b6c49203b0034216e5a") true
    proved (fun _ h => by cases h) (by kernel_rfl) (fun _ h => by cases h) diffBack_row_tie rfl ⟨rfl, rfl⟩ (by kernel_rfl) rfl
    (fun f fn hf hfn => by
      obtain rfl : f = 7 := Option.some.inj ((show Tryz.prog.funcNamed "hornbook/hornbooklaw17.DiffBack" = some 7 by kernel_rfl).symm.trans hf) |>.symm
      obtain rfl : fn = Tryz.f7 := (Option.some.inj (Tryz.func7.symm.trans hfn)).symm
      exact ⟨by kernel_rfl, fun j t ht => by
        rw [Tryz.params7] at ht
        have hm : t ∈ [25, 22] := by simpa using Array.mem_of_getElem? ht
        have hall : ([25, 22].all fun u => !Tryz.prog.wantsStandIn u) = true := by kernel_rfl
        exact (show Tryz.prog.wantsStandIn t = false by simpa using List.all_eq_true.1 hall t hm)⟩)
    (by kernel_rfl)
end Go.Proofs.YtdcldaknmenklaaGreatDoor.diffBack
namespace Go.Proofs.YtdcldaknmenklaaGreatDoor
/-- The statement, under a short name, for the claim. -/
theorem diffBack_holds : Rows.DiffBackCardSaid := diffBack.card
#print axioms diffBack_holds
end Go.Proofs.YtdcldaknmenklaaGreatDoor
end
