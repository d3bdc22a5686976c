/- Plain facts on layer 3: what Word and place tell, in lists; what is written of a name is read as it. -/
import Derived.Test.YtaolcbklpdodaaaDoorPl
import Derived.Test.YtaolcbklpdodaaaDoorQ11
import Derived.Test.YtaolcbklpdodaaaDoorQ10
import Derived.Test.YtaolcbklpdodaaaDoorQ13
namespace Go.Proofs.YtaolcbklpdodaaaDoor.M
open Go.RowKit Go.Proofs.YtaolcbklpdodaaaDoorW.PrintWords
set_option linter.unusedVariables false
def isRegB (c : UInt8) : Bool := clsOf c.toNat == 0
def wordAt (l : List UInt8) (i : Nat) : List UInt8 := (l.drop i).takeWhile isRegB
def placeN (s : ByteArray) (a : Int) : Nat := (max 0 (min a s.size)).toNat
theorem placeN_le (s : ByteArray) (a : Int) : placeN s a ≤ s.size := by unfold placeN; omega
theorem place_eq (s : ByteArray) (a : Int) : lex_place.f s a = some (placeN s a : Int) := by
  unfold lex_place.f placeN
  congr 1
  unfold mx mn
  repeat' split
  all_goals omega
theorem ba_size (l : List UInt8) : (⟨l.toArray⟩ : ByteArray).size = l.length := by show l.toArray.size = _; simp
theorem ba_list (l : List UInt8) : (⟨l.toArray⟩ : ByteArray).data.toList = l := by simp
theorem ba_toList (l : List UInt8) : (⟨l.toArray⟩ : ByteArray).toList = l := by rw [toList_data, ba_list]
theorem size_list (s : ByteArray) : s.size = s.data.toList.length := rfl
theorem ext_mid (s : ByteArray) (i j : Nat) : s.extract i j = ⟨((s.data.toList.drop i).take (j - i)).toArray⟩ := by
  rw [ba_eta (s.extract i j), Lib.extract_data]
theorem wrap_small {x : Int} (h0 : 0 ≤ x) (h1 : x < 9223372036854775808) : wrap64 x = x := by unfold wrap64; omega
theorem wordAt_cons (l : List UInt8) (i : Nat) (h : i < l.length) (hr : isRegB l[i] = true) : wordAt l i = l[i] :: wordAt l (i + 1) := by
  unfold wordAt
  rw [List.drop_eq_getElem_cons h, List.takeWhile_cons, if_pos hr]
theorem wordAt_stop (l : List UInt8) (i : Nat) (h : i < l.length) (hr : isRegB l[i] = false) : wordAt l i = [] := by
  unfold wordAt
  rw [List.drop_eq_getElem_cons h, List.takeWhile_cons, if_neg (by simp [hr])]
theorem wordAt_end (l : List UInt8) (i : Nat) (h : l.length ≤ i) : wordAt l i = [] := by
  unfold wordAt
  rw [List.drop_of_length_le h]; rfl
theorem wordAt_le (l : List UInt8) (i : Nat) (h : i ≤ l.length) : i + (wordAt l i).length ≤ l.length := by
  have : (wordAt l i).length ≤ (l.drop i).length := by unfold wordAt; exact (List.takeWhile_prefix _).length_le
  rw [List.length_drop] at this; omega
theorem cls_get (s : ByteArray) (i : Nat) (h : i < s.size) {k : Nat} (hk : 2 ≤ k) : lex_Class.f k (wrap64 (bt s i)) = some (clsOf (s.data.toList[i]'(by simpa using h)).toNat) := by
  have hr := bt_range s i
  rw [wrap_small hr.1 (by omega), bt_get s i h, class_eq hk]
theorem word_loop (s : ByteArray) (hs : s.size < 4611686018427387904) (a : Nat) (d : Nat) : ∀ (i k : Nat), s.size - i = d → i ≤ s.size → a ≤ i → d + 4 ≤ k →
    lex_Word.l0 k s a i = some (s.extract a (i + (wordAt s.data.toList i).length), ((i + (wordAt s.data.toList i).length : Nat) : Int)) := by
  induction d with
  | zero =>
    intro i k hd hi ha hk
    obtain ⟨k, rfl⟩ : ∃ m, k = m + 1 := ⟨k - 1, by omega⟩
    simp only [lex_Word.l0]
    rw [wordAt_end _ _ (by rw [← size_list]; omega), if_neg (by omega), if_pos (by omega), if_pos (by omega), if_pos (by omega)]
    simp
  | succ d ih =>
    intro i k hd hi ha hk
    obtain ⟨k, rfl⟩ : ∃ m, k = m + 1 := ⟨k - 1, by omega⟩
    have hlt : i < s.size := by omega
    have hl : i < s.data.toList.length := by rw [← size_list]; exact hlt
    simp only [lex_Word.l0]
    rw [if_pos (by omega), if_pos (by omega), cls_get s i hlt (by omega)]
    simp only [Option.bind_some]
    by_cases hr : isRegB s.data.toList[i] = true
    · have h0 : clsOf (s.data.toList[i]).toNat = 0 := by simpa [isRegB] using hr
      rw [if_pos h0, wrap_small (by omega) (by omega)]
      have := ih (i + 1) k (by omega) (by omega) (by omega) (by omega)
      rw [show ((i : Int) + 1) = ((i + 1 : Nat) : Int) by omega, this, wordAt_cons _ _ hl hr]
      simp only [List.length_cons]
      rw [show i + 1 + (wordAt s.data.toList (i + 1)).length = i + ((wordAt s.data.toList (i + 1)).length + 1) by omega]
    · have h0 : ¬ clsOf (s.data.toList[i]).toNat = 0 := by simpa [isRegB] using hr
      have hr' : isRegB s.data.toList[i] = false := by simpa using hr
      rw [if_neg h0, wordAt_stop _ _ hl hr', if_pos (by omega), if_pos (by omega), if_pos (by omega)]
      simp
/-- What Word tells. -/
theorem word_eq (s : ByteArray) (hs : s.size < 4611686018427387904) (a : Int) {k : Nat} (hk : s.size + 4 ≤ k) :
    lex_Word.f k s a = some (⟨(wordAt s.data.toList (placeN s a)).toArray⟩, ((placeN s a + (wordAt s.data.toList (placeN s a)).length : Nat) : Int)) := by
  unfold lex_Word.f
  rw [place_eq]
  simp only [Option.bind_some]
  rw [word_loop s hs (placeN s a) _ (placeN s a) k rfl (placeN_le s a) (Nat.le_refl _) (by omega), ext_mid]
  have e : (s.data.toList.drop (placeN s a)).take (placeN s a + (wordAt s.data.toList (placeN s a)).length - placeN s a) = wordAt s.data.toList (placeN s a) := by
    rw [Nat.add_sub_cancel_left]
    unfold wordAt
    exact (List.prefix_iff_eq_take.1 (List.takeWhile_prefix _)).symm
  rw [e]
theorem hex_back : ∀ n : Fin 256, hexVal (hexDig (n.val / 16)).toNat = some ((n.val / 16 : Nat) : Int) ∧ hexVal (hexDig (n.val % 16)).toNat = some ((n.val % 16 : Nat) : Int) := by decide +kernel
theorem write_ok : ∀ n : Fin 256, (writeOf n.val.toUInt8).all (fun c => decide (33 ≤ c.toNat) && decide (c.toNat ≤ 126) && isRegB c) = true := by decide +kernel
theorem writeOf_ok (c : UInt8) : (writeOf c).all (fun c => decide (33 ≤ c.toNat) && decide (c.toNat ≤ 126) && isRegB c) = true := by
  have := write_ok ⟨c.toNat, c.toNat_lt⟩
  simpa using this
theorem writeBytes_ok (l : List UInt8) : (writeBytes l).all (fun c => decide (33 ≤ c.toNat) && decide (c.toNat ≤ 126) && isRegB c) = true := by
  unfold writeBytes
  rw [List.all_flatMap]
  exact List.all_eq_true.2 fun c _ => writeOf_ok c
theorem name_write (l : List UInt8) : nameGo (writeBytes l) = l := by
  induction l with
  | nil => rfl
  | cons c l ih =>
    simp only [writeBytes, List.flatMap_cons] at ih ⊢
    by_cases hp : isPlainB (c.toNat : Int) = true
    · have e : writeOf c = [c] := by unfold writeOf; rw [if_pos hp]
      have hc : (c == 35) = false := by
        rw [beq_eq_false_iff_ne]
        rintro rfl
        simp [isPlainB] at hp
      rw [e]
      show nameGo (c :: List.flatMap writeOf l) = _
      rw [nameGo_plain c _ hc, ih]
    · have e : writeOf c = 35 :: hexOf c.toNat := by unfold writeOf; rw [if_neg hp]
      have hb := hex_back ⟨c.toNat, c.toNat_lt⟩
      simp only at hb
      rw [e]
      simp only [hexOf, Int.toNat_natCast]
      show nameGo (35 :: hexDig (c.toNat / 16) :: hexDig (c.toNat % 16) :: List.flatMap writeOf l) = _
      rw [nameGo_yes _ _ _ _ _ hb.1 hb.2, ih]
      congr 1
      have : (((c.toNat / 16 : Nat) : Int) * 16 + ((c.toNat % 16 : Nat) : Int)).toNat = c.toNat := by omega
      rw [this]
      simp
end Go.Proofs.YtaolcbklpdodaaaDoor.M
