/- Packed by this session's program hbpack.py out of this claim's own texts (Tx, Ty, Ta, Pd, Tb, Tc, PureTokStrings, WSized): the same declarations, without those that the claim does not use. -/
import Derived.Test.YtfdikkdbmlcjiaaGreatDoorPkTokStrings4
import Derived.Lib.ParseIntBCases
import Derived.Laws.BitsLemmas
import Derived.SizedLaws
import Derived.ChangeSlices
section
namespace Go.Proofs.YtfdikkdbmlcjiaaGreatDoor.M
open Go.RowKit Go.Proofs.YtfdikkdbmlcjiaaGreatDoorW.PrintWords
set_option linter.unusedVariables false
set_option linter.unusedSimpArgs false
/-- Kind, number, text, length (or the error's place), error. -/
abbrev NxR := Int × Int × ByteArray × Nat × Int
def nxErr (len : Nat) (e : Int) : NxR := (0, 0, ⟨#[]⟩, len, e)
def hexedG (t : List UInt8) : NxR :=
  if (Lib.cut t [62]).2.2 = true then
    (if (unhG [] none (Lib.cut t [62]).1).1 = 0 then (4, 0, strOfNums (unhG [] none (Lib.cut t [62]).1).2.1, (Lib.cut t [62]).1.length + 2, 0)
     else nxErr (1 + ((Lib.cut t [62]).1.length - (unhG [] none (Lib.cut t [62]).1).2.2.length)) 1)
  else nxErr (t.length + 1) 2
def strungG (t : List UInt8) : NxR :=
  if (strG (t.length + 1) 1 [] t).1 = 0 then (5, 0, ⟨(strG (t.length + 1) 1 [] t).2.1.toArray⟩, t.length + 1 - (strG (t.length + 1) 1 [] t).2.2.length, 0)
  else nxErr (t.length + 1 - (strG (t.length + 1) 1 [] t).2.2.length) (strG (t.length + 1) 1 [] t).1
def wordedG (r : List UInt8) : NxR :=
  if (lexInt (wordAt r 0)).2 = 0 then (1, (lexInt (wordAt r 0)).1, ⟨#[]⟩, (wordAt r 0).length, 0)
  else if (lexInt (wordAt r 0)).2 = 3 then (3, 0, ⟨(wordAt r 0).toArray⟩, (wordAt r 0).length, 0)
  else nxErr 0 (lexInt (wordAt r 0)).2
def nextR (r : List UInt8) : NxR :=
  match signOf r with
  | some (x, m) => (x, 0, ⟨#[]⟩, m, 0)
  | none => match r with
    | [] => (0, 0, ⟨#[]⟩, 0, 0)
    | c :: t =>
      if c = 41 ∨ c = 62 then nxErr 0 3
      else if c = 47 then (2, 0, ⟨(nameGo (wordAt t 0)).toArray⟩, 1 + (wordAt t 0).length, 0)
      else if c = 60 then hexedG t
      else if c = 40 then strungG t
      else wordedG (c :: t)
def nxAns (p : Nat) (x : NxR) : TokR := if x.2.2.2.2 = 0 then (x.1, (p : Int), x.2.1, x.2.2.1, ((p + x.2.2.2.1 : Nat) : Int), 0) else (0, 0, 0, ⟨#[]⟩, ((p + x.2.2.2.1 : Nat) : Int), x.2.2.2.2)
theorem strG_rem : ∀ (n deep : Nat) (out r : List UInt8), (strG n deep out r).2.2.length ≤ r.length
  | 0, _, _, _ => by simp [strG]
  | _ + 1, _, _, [] => by simp [strG]
  | n + 1, deep, out, c :: t => by
    have ih := strG_rem n
    rw [strG]
    split
    · split
      · simp
      · refine Nat.le_trans (ih _ _ _) ?_
        rw [List.length_drop, List.length_cons]; omega
    · split
      · simp
      · split
        · simp
        · split
          · refine Nat.le_trans (ih _ _ _) ?_
            rw [List.length_drop]; omega
          · refine Nat.le_trans (ih _ _ _) ?_
            simp
theorem strung_rel (a0 : ByteArray) (p k : Nat) (t : List UInt8) (hs : a0.size ≤ 140737488351000) (hp : p < a0.size) (hk : a0.size + 4 ≤ k) (ht : a0.data.toList.drop (p + 1) = t) :
    tok_source_strung.f k a0 (p : Int) = some (nxAns p (strungG t)) := by
  have hl : t.length = a0.size - (p + 1) := by rw [← ht, List.length_drop, ← size_list]
  unfold tok_source_strung.f
  rw [if_pos ⟨by omega, by omega⟩]
  have := strung_loop a0 p hs k (by omega) (t.length + 1) (p + 1) 1 k [] (by omega) (by omega) (by omega) (by omega) (by omega) (by simp)
  rw [ht] at this
  rw [show (p : Int) + 1 = ((p + 1 : Nat) : Int) by omega, show (1 : Int) = ((1 : Nat) : Int) from rfl, this]
  congr 1
  have hr : (strG (t.length + 1) 1 [] t).2.2.length ≤ t.length := by
    exact strG_rem _ _ _ _
  unfold strAns strungG nxAns
  by_cases h0 : (strG (t.length + 1) 1 [] t).1 = 0
  · rw [if_pos h0, if_pos h0]
    dsimp only
    rw [if_pos rfl, show p + (t.length + 1 - (strG (t.length + 1) 1 [] t).2.2.length) = a0.size - (strG (t.length + 1) 1 [] t).2.2.length by omega]
  · rw [if_neg h0, if_neg h0]
    unfold nxErr
    dsimp only
    rw [if_neg h0, show p + (t.length + 1 - (strG (t.length + 1) 1 [] t).2.2.length) = a0.size - (strG (t.length + 1) 1 [] t).2.2.length by omega]
theorem worded_rel (a0 : ByteArray) (p k : Nat) (hs : a0.size ≤ 140737488351000) (hp : p ≤ a0.size) (hk : a0.size + 4 ≤ k) :
    tok_source_worded.f k a0 (p : Int) = some (nxAns p (wordedG (a0.data.toList.drop p))) := by
  have hpl : placeN a0 (p : Int) = p := by unfold placeN; omega
  have hw : wordAt (a0.data.toList.drop p) 0 = wordAt a0.data.toList p := by unfold wordAt; rw [List.drop_zero]
  have hl := wordAt_le a0.data.toList p (by rw [← size_list]; exact hp)
  unfold tok_source_worded.f
  rw [word_eq a0 (by omega) _ hk, Option.bind_some, hpl]
  unfold wordedG
  rw [hw]
  dsimp only
  rw [show lex_Int.f (⟨(wordAt a0.data.toList p).toArray⟩ : ByteArray) = some (lexInt (wordAt a0.data.toList p)) from by
    unfold lex_Int.f
    rw [if_pos (by rw [size_list, ba_list]; rw [← size_list] at hl; omega), ba_list], Option.bind_some]
  by_cases h0 : (lexInt (wordAt a0.data.toList p)).2 = 0
  · rw [if_pos h0, if_pos h0]
    rfl
  rw [if_neg h0, if_neg h0]
  by_cases h3 : (lexInt (wordAt a0.data.toList p)).2 = 3
  · rw [if_pos h3, if_pos h3]
    rfl
  rw [if_neg h3, if_neg h3]
  unfold nxAns nxErr
  dsimp only
  rw [if_neg h0, Nat.add_zero]
theorem index_gt : ∀ t : List UInt8, Lib.index t [62] = if 62 ∈ t then ((t.takeWhile (fun c => c != 62)).length : Int) else -1
  | [] => by simp [Lib.index]
  | b :: l => by
    have ih := index_gt l
    rw [Lib.index]
    by_cases hb : b = 62
    · subst hb
      rw [if_pos (by simp [List.isPrefixOf]), if_pos (by simp)]
      simp
    · rw [if_neg (by simp [List.isPrefixOf]; exact fun e => hb e.symm), ih]
      by_cases hm : 62 ∈ l
      · rw [if_pos hm, if_neg (by rw [beq_iff_eq]; omega), if_pos (List.mem_cons_of_mem _ hm), List.takeWhile_cons, if_pos (by simpa using hb), List.length_cons]
        omega
      · rw [if_neg hm, if_pos (by rfl), if_neg (by simp [hm]; exact fun e => hb e.symm)]
theorem cut_gt (t : List UInt8) : Lib.cut t [62] = if 62 ∈ t then (t.takeWhile (fun c => c != 62), t.drop ((t.takeWhile (fun c => c != 62)).length + 1), true) else (t, [], false) := by
  unfold Lib.cut
  rw [index_gt]
  by_cases hm : 62 ∈ t
  · rw [if_pos hm, if_pos (by omega), if_pos hm, Int.toNat_natCast, ← List.prefix_iff_eq_take.1 (List.takeWhile_prefix _)]
    rfl
  · rw [if_neg hm, if_neg (by decide), if_neg hm]
theorem take_gt : ∀ t : List UInt8, 62 ∈ t → (t.takeWhile (fun c => c != 62)).length + 1 ≤ t.length
  | [], h => by cases h
  | b :: l, h => by
    by_cases hb : b = 62
    · subst hb; simp
    · have hm : 62 ∈ l := by
        rcases List.mem_cons.1 h with e | e
        · exact absurd e.symm hb
        · exact e
      have := take_gt l hm
      rw [List.takeWhile_cons, if_pos (by simpa using hb), List.length_cons, List.length_cons]
      omega
theorem hexed_rel (a0 : ByteArray) (p k : Nat) (t : List UInt8) (hs : a0.size ≤ 4294967000) (hp : p < a0.size) (hk : 2 * a0.size + 4 ≤ k) (ht : a0.data.toList.drop (p + 1) = t) :
    tok_source_hexed.f k a0 (p : Int) = some (nxAns p (hexedG t)) := by
  have hl : t.length = a0.size - (p + 1) := by rw [← ht, List.length_drop, ← size_list]
  have hcl : (Lib.cut t [62]).2.2 = true → (Lib.cut t [62]).1.length + 1 ≤ t.length := by
    rw [cut_gt]
    split
    · rename_i hm
      exact fun _ => take_gt t hm
    · exact fun h => by cases h
  unfold tok_source_hexed.f
  rw [wrap_small (x := (p : Int) + 1) (by omega) (by omega), show (p : Int) + 1 = ((p + 1 : Nat) : Int) by omega, from_eq a0 (p + 1) (by omega), ht, Option.bind_some]
  have hts : (⟨t.toArray⟩ : ByteArray).size = t.length := by rw [size_list, ba_list]
  have hcs : (⟨(Lib.cut t [62]).1.toArray⟩ : ByteArray).size = (Lib.cut t [62]).1.length := by rw [size_list, ba_list]
  unfold strings_Cut.f
  rw [if_pos (by omega), Option.bind_some, ba_list, show (⟨#[62]⟩ : ByteArray).data.toList = [62] from rfl]
  unfold hexedG
  dsimp only
  by_cases hf : (Lib.cut t [62]).2.2 = true
  · have hfl := hcl hf
    rw [if_pos hf, if_pos hf, unhex_eq _ (by omega) (by omega), Option.bind_some, ba_list]
    unfold unhAns
    by_cases h0 : (unhG [] none (Lib.cut t [62]).1).1 = 0
    · rw [if_pos h0, if_pos h0]
      dsimp only
      rw [if_pos rfl, hcs, wrap_small (x := (p : Int) + ((Lib.cut t [62]).1.length : Int)) (by omega) (by omega), wrap_small (by omega) (by omega)]
      unfold nxAns
      dsimp only
      rw [if_pos rfl, show (p : Int) + ((Lib.cut t [62]).1.length : Int) + 2 = ((p + ((Lib.cut t [62]).1.length + 2) : Nat) : Int) by omega]
    · rw [if_neg h0, if_neg h0]
      dsimp only
      rw [if_neg (show ¬ (1 : Int) = 0 by decide), hcs]
      unfold nxAns nxErr
      dsimp only
      rw [if_neg (show ¬ (1 : Int) = 0 by decide), wrap_small (by omega) (by omega), show ((p + 1 : Nat) : Int) + (((Lib.cut t [62]).1.length - (unhG [] none (Lib.cut t [62]).1).2.2.length : Nat) : Int) = ((p + (1 + ((Lib.cut t [62]).1.length - (unhG [] none (Lib.cut t [62]).1).2.2.length)) : Nat) : Int) by omega]
  · rw [if_neg hf, if_neg hf]
    unfold nxAns nxErr
    dsimp only
    rw [if_neg (show ¬ (2 : Int) = 0 by decide), show p + (t.length + 1) = a0.size by omega]
end Go.Proofs.YtfdikkdbmlcjiaaGreatDoor.M
end
section
namespace Go.Proofs.YtfdikkdbmlcjiaaGreatDoor.M
open Go.RowKit Go.Proofs.YtfdikkdbmlcjiaaGreatDoorW.PrintWords
set_option linter.unusedVariables false
set_option linter.unusedSimpArgs false
def nextA (s : ByteArray) (a : Int) : TokR := if skipN s a = s.size then (0, (s.size : Int), 0, ⟨#[]⟩, (s.size : Int), 0) else nxAns (skipN s a) (nextR (s.data.toList.drop (skipN s a)))
set_option maxHeartbeats 1600000 in
theorem next_eq (s : ByteArray) (a : Int) (hs : s.size ≤ 4294967000) {k : Nat} (hk : 2 * s.size + 8 ≤ k) : tok_Next.f k s a = some (nextA s a) := by
  unfold tok_Next.f nextA
  rw [skip_eq s (by omega) a (by omega), Option.bind_some]
  have hpl := skipN_le s a
  generalize skipN s a = p at hpl
  by_cases he : p = s.size
  · rw [if_pos (by omega), if_pos he, he]
  rw [if_neg (by omega), if_neg he]
  have hp : p < s.size := by omega
  have hL : p < s.data.toList.length := by rw [← size_list]; exact hp
  have hdr := List.drop_eq_getElem_cons hL
  have hbt := bt_get s p hp
  rw [show tok_source_sign.f s (p : Int) = (match signOf (s.data.toList.drop p) with | some (x, n) => some (x, (p : Int), 0, ⟨#[]⟩, (p : Int) + n, true) | none => some (0, 0, 0, ⟨#[]⟩, (p : Int), false)) from by
    unfold tok_source_sign.f
    rw [if_pos ⟨by omega, by omega, by omega⟩, Int.toNat_natCast]
    cases signOf (s.data.toList.drop p) <;> rfl]
  unfold nextR
  cases hsg : signOf (s.data.toList.drop p) with
  | some xm =>
    obtain ⟨x, m⟩ := xm
    dsimp only
    rw [Option.bind_some, if_pos rfl]
    unfold nxAns
    dsimp only
    rw [if_pos rfl, show (p : Int) + (m : Int) = ((p + m : Nat) : Int) by omega]
  | none =>
    dsimp only
    rw [Option.bind_some]
    dsimp only
    rw [if_neg (show ¬ (false = true) by decide), if_pos (by omega), if_pos (by omega), hbt]
    have ht : s.data.toList.drop (p + 1) = s.data.toList.drop (p + 1) := rfl
    have hw := worded_rel s p
    rw [hdr] at hw ⊢
    generalize s.data.toList[p] = c at hw ⊢
    generalize hT : s.data.toList.drop (p + 1) = t at hw ⊢
    have hst := fun k => strung_rel s p k t (by omega) hp
    have hhx := fun k => hexed_rel s p k t hs hp
    obtain ⟨k, rfl⟩ : ∃ k', k = k' + 1 := ⟨k - 1, by omega⟩
    have cst : ∀ x : UInt8, ((c.toNat : Int) = (x.toNat : Int)) ↔ c = x := fun x => ⟨fun e => UInt8.toNat_inj.1 (by omega), fun e => by rw [e]⟩
    have c41 : ((c.toNat : Int) = 41) ↔ c = 41 := cst 41
    have c62 : ((c.toNat : Int) = 62) ↔ c = 62 := cst 62
    have c47 : ((c.toNat : Int) = 47) ↔ c = 47 := cst 47
    have c60 : ((c.toNat : Int) = 60) ↔ c = 60 := cst 60
    have c40 : ((c.toNat : Int) = 40) ↔ c = 40 := cst 40
    have key : ∀ b : Bool, (b = true ↔ (c = 41 ∨ c = 62)) → tok_Next.j0 (k + 1) s (p : Int) s (c.toNat : Int) b = some (nxAns p (if c = 41 ∨ c = 62 then nxErr 0 3 else if c = 47 then (2, 0, ⟨(nameGo (wordAt t 0)).toArray⟩, 1 + (wordAt t 0).length, 0) else if c = 60 then hexedG t else if c = 40 then strungG t else wordedG (c :: t))) := by
      intro b hb
      rw [tok_Next.j0]
      by_cases h : c = 41 ∨ c = 62
      · rw [if_pos (hb.2 h), if_pos h]
        rfl
      rw [if_neg (fun e => h (hb.1 e)), if_neg h]
      by_cases h1 : c = 47
      · rw [if_pos (c47.2 h1), if_pos h1, wrap_small (x := (p : Int) + 1) (by omega) (by omega), word_eq s (by omega) _ (by omega), Option.bind_some]
        have hpn : placeN s ((p : Int) + 1) = p + 1 := by unfold placeN; omega
        have hwa : wordAt s.data.toList (p + 1) = wordAt t 0 := by unfold wordAt; rw [hT, List.drop_zero]
        have hwl := wordAt_le s.data.toList (p + 1) (by rw [← size_list]; omega)
        rw [← size_list, hwa] at hwl
        rw [hpn, hwa]
        dsimp only
        rw [show lex_Name.f (⟨(wordAt t 0).toArray⟩ : ByteArray) = some ⟨(nameGo (wordAt t 0)).toArray⟩ from by
          unfold lex_Name.f
          rw [if_pos (by rw [size_list, ba_list]; omega), ba_list], Option.bind_some]
        unfold nxAns
        dsimp only
        rw [if_pos rfl, show p + (1 + (wordAt t 0).length) = p + 1 + (wordAt t 0).length by omega]
      rw [if_neg (fun e => h1 (c47.1 e)), if_neg h1]
      by_cases h2 : c = 60
      · rw [if_pos (c60.2 h2), if_pos h2, hhx k (by omega) hT, Option.bind_some]
      rw [if_neg (fun e => h2 (c60.1 e)), if_neg h2]
      by_cases h3 : c = 40
      · rw [if_pos (c40.2 h3), if_pos h3, hst k (by omega) hT, Option.bind_some]
      rw [if_neg (fun e => h3 (c40.1 e)), if_neg h3, hw k (by omega) (by omega) (by omega), Option.bind_some]
    by_cases h : (c.toNat : Int) = 41
    · rw [if_pos h]
      exact key _ ⟨fun _ => .inl (c41.1 h), fun _ => beq_iff_eq.2 h⟩
    · rw [if_neg h]
      refine key _ ⟨fun e => .inr (c62.1 (beq_iff_eq.1 e)), fun e => beq_iff_eq.2 ?_⟩
      rcases e with e | e
      · exact absurd (c41.2 e) h
      · exact c62.2 e
end Go.Proofs.YtfdikkdbmlcjiaaGreatDoor.M
end
section
namespace Go.Proofs.YtfdikkdbmlcjiaaGreatDoor.M
open Go.RowKit Go.Proofs.YtfdikkdbmlcjiaaGreatDoorW.PrintWords
set_option linter.unusedVariables false
set_option linter.unusedSimpArgs false
theorem str_nums_size (l : List Int) : (strOfNums l).size = l.length := by
  unfold strOfNums
  show (List.toArray _).size = _
  simp
theorem wordAt_zero (r : List UInt8) : wordAt r 0 = r.takeWhile isRegB := by unfold wordAt; rw [List.drop_zero]
theorem nextA_at (s : ByteArray) (i : Nat) (hi : i ≤ s.size) (r : List UInt8) (hr : s.data.toList.drop i = r) :
    nextA s (i : Int) = if skipG false r = r.length then (0, (s.size : Int), 0, ⟨#[]⟩, (s.size : Int), 0) else nxAns (i + skipG false r) (nextR (r.drop (skipG false r))) := by
  have hpl : placeN s (i : Int) = i := by unfold placeN; omega
  have hrl : r.length = s.size - i := by rw [← hr, List.length_drop, ← size_list]
  have hsk : skipN s (i : Int) = i + skipG false r := by unfold skipN; rw [hpl, hr]
  unfold nextA
  rw [hsk, ← List.drop_drop, hr]
  by_cases h : skipG false r = r.length
  · rw [if_pos h, if_pos (by omega)]
  · rw [if_neg h, if_neg (by omega)]
end Go.Proofs.YtfdikkdbmlcjiaaGreatDoor.M
end
section
namespace Go.Proofs.YtfdikkdbmlcjiaaGreatDoor.M
open Go.RowKit Go.Proofs.YtfdikkdbmlcjiaaGreatDoorW.PrintWords
set_option linter.unusedVariables false
/-- The number that the digits spell, behind those that spell acc. -/
def digN (c : UInt8) : Nat := c.toNat - 48
def valD (acc : Nat) (l : List UInt8) : Nat := l.foldl (fun a c => a * 10 + digN c) acc
theorem valD_nil (acc : Nat) : valD acc [] = acc := rfl
theorem valD_cons (acc : Nat) (c : UInt8) (r : List UInt8) : valD acc (c :: r) = valD (acc * 10 + digN c) r := by
  unfold valD; rw [List.foldl_cons]
attribute [irreducible] valD
theorem valD_ge : ∀ (l : List UInt8) (acc : Nat), acc ≤ valD acc l
  | [], acc => Nat.le_of_eq (valD_nil acc).symm
  | c :: r, acc => by
    have := valD_ge r (acc * 10 + digN c)
    rw [valD_cons]; omega
theorem valD_append : ∀ (l m : List UInt8) (acc : Nat), valD acc (l ++ m) = valD (valD acc l) m
  | [], m, acc => by rw [valD_nil]; rfl
  | c :: r, m, acc => by rw [List.cons_append, valD_cons, valD_cons]; exact valD_append r m _
theorem parseUintM_val : ∀ (l : List UInt8) (acc : Nat), acc ≤ 4294967295 → l.all isDigB = true → Lib.parseUintM 4294967295 acc l = if valD acc l ≤ 4294967295 then .ok (valD acc l) else .range
  | [], acc, ha, _ => by rw [valD_nil, if_pos ha, Lib.parseUintM]
  | c :: r, acc, ha, h => by
    simp only [List.all_cons, Bool.and_eq_true] at h
    have h1 := h.1
    simp only [isDigB, Bool.and_eq_true, decide_eq_true_eq] at h1
    rw [Lib.parseUintM, valD_cons, if_pos (by omega), if_neg (by omega)]
    have hd : digN c = c.toNat - 48 := rfl
    rw [← hd]
    by_cases hle : 4294967295 < acc * 10 + digN c
    · have := valD_ge r (acc * 10 + digN c)
      rw [if_pos hle, if_neg (by omega)]
    · rw [if_neg hle]
      exact parseUintM_val r _ (by omega) h.2
theorem parseUintB_val (l : List UInt8) (h0 : l ≠ []) (h : l.all isDigB = true) : Lib.parseUintB 32 l = if valD 0 l ≤ 4294967295 then .ok (valD 0 l) else .range := by
  unfold Lib.parseUintB
  rw [if_neg h0]
  exact parseUintM_val l 0 (by omega) h
theorem whole_digits (l : List UInt8) (h0 : l ≠ []) (h : l.all isDigB = true) : wholeB l = true := by
  match l, h0 with
  | c :: r, _ =>
    have hc : isDigB c = true := by simp only [List.all_cons, Bool.and_eq_true] at h; exact h.1
    have n1 : (c == 43) = false := by rw [beq_eq_false_iff_ne]; rintro rfl; exact absurd hc (by decide)
    have n2 : (c == 45) = false := by rw [beq_eq_false_iff_ne]; rintro rfl; exact absurd hc (by decide)
    have hu : unsign (c :: r) = c :: r := by
      simp only [unsign]
      rw [if_neg (by rw [n1, n2]; decide)]
    unfold wholeB
    rw [hu, h]; rfl
theorem whole_minus (l : List UInt8) (h0 : l ≠ []) (h : l.all isDigB = true) : wholeB (45 :: l) = true := by
  unfold wholeB unsign
  simp only [beq_self_eq_true, Bool.or_true, if_true, h, Bool.and_true]
  cases l with
  | nil => exact absurd rfl h0
  | cons c r => rfl
theorem lexInt_minus (l : List UInt8) (h0 : l ≠ []) (h : l.all isDigB = true) : lexInt (45 :: l) = if valD 0 l ≤ 2147483648 then (-(valD 0 l : Int), 0) else (0, 4) := by
  unfold lexInt
  rw [if_pos (whole_minus l h0 h), Lib.parseIntB_minus, parseUintB_val l h0 h]
  by_cases h1 : valD 0 l ≤ 2147483648
  · rw [if_pos h1, if_pos (by omega)]
    simp only [Lib.signedC]
    rw [if_neg (by omega)]
  · rw [if_neg h1]
    by_cases h2 : valD 0 l ≤ 4294967295
    · rw [if_pos h2]
      simp only [Lib.signedC]
      rw [if_pos (by omega)]
    · rw [if_neg h2]
      rfl
theorem signless_val (l : List UInt8) (h0 : l ≠ []) (h : l.all isDigB = true) : (match Lib.signlessC (2 ^ (32 - 1)) (Lib.parseUintB 32 l) with | .ok v => (v, 0) | _ => (0, 4)) = if valD 0 l ≤ 2147483647 then ((valD 0 l : Int), (0 : Int)) else (0, 4) := by
  rw [parseUintB_val l h0 h]
  by_cases h1 : valD 0 l ≤ 2147483647
  · rw [if_pos h1, if_pos (by omega)]
    simp only [Lib.signlessC]
    rw [if_neg (by omega)]
  · rw [if_neg h1]
    by_cases h2 : valD 0 l ≤ 4294967295
    · rw [if_pos h2]
      simp only [Lib.signlessC]
      rw [if_pos (by omega)]
    · rw [if_neg h2]
      rfl
theorem lexInt_digits (l : List UInt8) (h0 : l ≠ []) (h : l.all isDigB = true) : lexInt l = if valD 0 l ≤ 2147483647 then ((valD 0 l : Int), (0 : Int)) else (0, 4) := by
  have hw := whole_digits l h0 h
  match l, h0 with
  | c :: r, h0 =>
    have hc : isDigB c = true := by simp only [List.all_cons, Bool.and_eq_true] at h; exact h.1
    simp only [isDigB, Bool.and_eq_true, decide_eq_true_eq] at hc
    unfold lexInt
    rw [if_pos hw, Lib.parseIntB_plain 32 c r (by omega) (by omega)]
    exact signless_val (c :: r) h0 h
theorem ba_app (x y : List UInt8) : ((⟨x.toArray⟩ : ByteArray) ++ (⟨y.toArray⟩ : ByteArray)) = ⟨(x ++ y).toArray⟩ := by
  rw [ba_eta (_ ++ _)]; simp
end Go.Proofs.YtfdikkdbmlcjiaaGreatDoor.M
end
section
namespace Go.Proofs.YtfdikkdbmlcjiaaGreatDoor.M
open Go.RowKit Go.Proofs.YtfdikkdbmlcjiaaGreatDoorW.PrintWords
set_option linter.unusedVariables false
set_option linter.unusedSimpArgs false
theorem dig_fin : ∀ d : Fin 10, isDigB (UInt8.ofNat (48 + d.val)) = true ∧ digN (UInt8.ofNat (48 + d.val)) = d.val := by decide
theorem dec_ok (u : Nat) : (Lib.decDigits u).all isDigB = true ∧ Lib.decDigits u ≠ [] ∧ valD 0 (Lib.decDigits u) = u := by
  induction u using Nat.strongRecOn with
  | _ u ih =>
    by_cases h : u < 10
    · have := dig_fin ⟨u, h⟩
      dsimp only at this
      rw [Lib.decDigits, dif_pos h]
      refine ⟨by rw [List.all_cons, this.1]; rfl, by simp, ?_⟩
      rw [valD_cons, valD_nil, this.2]; omega
    · have := dig_fin ⟨u % 10, by omega⟩
      dsimp only at this
      obtain ⟨i1, i2, i3⟩ := ih (u / 10) (by omega)
      rw [Lib.decDigits, dif_neg h]
      refine ⟨by rw [List.all_append, i1, List.all_cons, this.1]; rfl, by simp, ?_⟩
      rw [valD_append, i3, valD_cons, valD_nil, this.2]; omega
theorem lexInt_itoa (n : Int) (h0 : -2147483648 ≤ n) (h1 : n ≤ 2147483647) : lexInt (Lib.itoa n) = (n, 0) := by
  unfold Lib.itoa
  by_cases h : n < 0
  · obtain ⟨d1, d2, d3⟩ := dec_ok n.natAbs
    rw [if_pos h, lexInt_minus _ d2 d1, d3, if_pos (by omega)]
    congr 1; omega
  · obtain ⟨d1, d2, d3⟩ := dec_ok n.toNat
    rw [if_neg h, lexInt_digits _ d2 d1, d3, if_pos (by omega)]
    congr 1; omega
theorem dig_reg_fin : ∀ n : Fin 256, isDigB n.val.toUInt8 = true → isRegB n.val.toUInt8 = true := by decide +kernel
theorem dig_reg (c : UInt8) (h : isDigB c = true) : isRegB c = true := by
  have := dig_reg_fin ⟨c.toNat, c.toNat_lt⟩
  rw [show ((⟨c.toNat, c.toNat_lt⟩ : Fin 256).val.toUInt8) = c from UInt8.ofNat_toNat] at this
  exact this h
theorem itoa_reg (n : Int) : (Lib.itoa n).all isRegB = true ∧ Lib.itoa n ≠ [] := by
  have hd : ∀ l : List UInt8, l.all isDigB = true → l.all isRegB = true := fun l h => List.all_eq_true.2 fun c hc => dig_reg c (List.all_eq_true.1 h c hc)
  unfold Lib.itoa
  split
  · obtain ⟨d1, d2, d3⟩ := dec_ok n.natAbs
    refine ⟨by rw [List.all_cons, hd _ d1]; decide, by simp⟩
  · obtain ⟨d1, d2, d3⟩ := dec_ok n.toNat
    exact ⟨hd _ d1, d2⟩
theorem nDigits_le (k : Nat) : ∀ u : Nat, u < 10 ^ (k + 1) → Lib.nDigits u ≤ k + 1 := by
  induction k with
  | zero => intro u h; rw [Lib.nDigits_small (by simpa using h)]; omega
  | succ k ih =>
    intro u h
    by_cases h1 : u < 10
    · rw [Lib.nDigits_small h1]; omega
    · rw [Lib.nDigits_big h1]
      have := ih (u / 10) (by rw [Nat.pow_succ] at h; omega)
      omega
theorem itoa_len (n : Int) (h0 : -2147483648 ≤ n) (h1 : n ≤ 2147483647) : (Lib.itoa n).length ≤ 11 := by
  unfold Lib.itoa
  split
  · have := nDigits_le 9 n.natAbs (by show _ < 10000000000; omega)
    rw [List.length_cons, Lib.decDigits_length]; omega
  · have := nDigits_le 9 n.toNat (by show _ < 10000000000; omega)
    rw [Lib.decDigits_length]; omega
/-- What may stand behind a token that was written. -/
def Blanky (m : List UInt8) : Prop := m = [] ∨ ∃ b r, m = b :: r ∧ clsOf b.toNat = 1
theorem take_reg (w m : List UInt8) (hw : w.all isRegB = true) (hm : Blanky m) : wordAt (w ++ m) 0 = w := by
  rw [wordAt_zero]
  induction w with
  | nil =>
    rcases hm with rfl | ⟨b, r, rfl, hb⟩
    · rfl
    · rw [List.nil_append, List.takeWhile_cons, if_neg]
      unfold isRegB
      rw [hb]; decide
  | cons c w ih =>
    simp only [List.all_cons, Bool.and_eq_true] at hw
    rw [List.cons_append, List.takeWhile_cons, if_pos hw.1, ih hw.2]
theorem unhG_back : ∀ (l : List UInt8) (acc : List Int), unhG acc none (hexBytes (l.map fun b => (b.toNat : Int))) = (0, acc ++ l.map (fun b => (b.toNat : Int)), [])
  | [], acc => by simp [hexBytes, unhG, rowOf]
  | c :: l, acc => by
    have hb := hex_back ⟨c.toNat, c.toNat_lt⟩
    dsimp only at hb
    have ih := unhG_back l (acc ++ [(c.toNat : Int)])
    rw [List.map_cons]
    unfold hexBytes at ih ⊢
    rw [List.flatMap_cons]
    unfold hexOf
    rw [Int.toNat_natCast]
    show unhG acc none (hexDig (c.toNat / 16) :: hexDig (c.toNat % 16) :: List.flatMap _ _) = _
    rw [unhG, hb.1]
    dsimp only
    rw [unhG, hb.2]
    dsimp only
    have e : ((c.toNat / 16 : Nat) : Int) * 16 + ((c.toNat % 16 : Nat) : Int) = (c.toNat : Int) := by omega
    rw [e]
    unfold hexOf at ih
    rw [ih, List.append_assoc]
    rfl
theorem hexDig_ne : ∀ n : Fin 16, hexDig n.val ≠ 62 ∧ hexDig n.val ≠ 60 := by decide +kernel
theorem hex_no_gt (l : List UInt8) : ∀ c ∈ hexBytes (l.map fun b => (b.toNat : Int)), c ≠ 62 ∧ c ≠ 60 := by
  intro c hc
  unfold hexBytes at hc
  rw [List.mem_flatMap] at hc
  obtain ⟨x, hx, hc⟩ := hc
  rw [List.mem_map] at hx
  obtain ⟨b, _, rfl⟩ := hx
  have := b.toNat_lt
  unfold hexOf at hc
  rw [Int.toNat_natCast] at hc
  simp only [List.mem_cons, List.mem_nil_iff, or_false] at hc
  rcases hc with rfl | rfl
  · exact hexDig_ne ⟨b.toNat / 16, by omega⟩
  · exact hexDig_ne ⟨b.toNat % 16, by omega⟩
theorem take_no (l m : List UInt8) (h : ∀ c ∈ l, c ≠ 62) : (l ++ 62 :: m).takeWhile (fun c => c != 62) = l := by
  induction l with
  | nil => simp
  | cons c l ih =>
    have hc : (c != 62) = true := by rw [bne_iff_ne]; exact h c (by simp)
    rw [List.cons_append, List.takeWhile_cons, if_pos hc, ih (fun d hd => h d (by simp [hd]))]
theorem nums_back (l : List UInt8) : strOfNums (l.map fun b => (b.toNat : Int)) = ⟨l.toArray⟩ := by
  unfold strOfNums
  rw [List.map_map]
  congr 1
  congr 1
  refine List.map_id'' (fun b => ?_) l
  show UInt8.ofNat ((b.toNat : Int).toNat) = b
  rw [Int.toNat_natCast]
  exact UInt8.ofNat_toNat
theorem hexed_back (l m : List UInt8) : hexedG (hexBytes (l.map fun b => (b.toNat : Int)) ++ 62 :: m) = (4, 0, ⟨l.toArray⟩, (hexBytes (l.map fun b => (b.toNat : Int))).length + 2, 0) := by
  have hm : (62 : UInt8) ∈ hexBytes (l.map fun b => (b.toNat : Int)) ++ 62 :: m := by simp
  have hc := cut_gt (hexBytes (l.map fun b => (b.toNat : Int)) ++ 62 :: m)
  rw [if_pos hm, take_no _ _ (fun c hc => (hex_no_gt l c hc).1)] at hc
  unfold hexedG
  rw [hc]
  dsimp only
  rw [if_pos rfl, unhG_back l []]
  dsimp only
  rw [if_pos rfl, List.nil_append, nums_back]
theorem oct_fin : ∀ n : Fin 256, (oct3 n.val.toUInt8).all isOct = true ∧ (octFold 0 (oct3 n.val.toUInt8) % 256).toUInt8 = n.val.toUInt8 := by
  unfold octFold
  decide +kernel
theorem oct_ok (c : UInt8) : (oct3 c).all isOct = true ∧ (octFold 0 (oct3 c) % 256).toUInt8 = c := by
  have := oct_fin ⟨c.toNat, c.toNat_lt⟩
  rw [show ((⟨c.toNat, c.toNat_lt⟩ : Fin 256).val.toUInt8) = c from UInt8.ofNat_toNat] at this
  exact this
theorem take_all {p : UInt8 → Bool} : ∀ {l : List UInt8}, l.all p = true → l.takeWhile p = l
  | [], _ => rfl
  | c :: l, h => by
    rw [List.all_cons, Bool.and_eq_true] at h
    rw [List.takeWhile_cons, if_pos h.1, take_all h.2]
theorem escG_back (c : UInt8) (m : List UInt8) : escG (oct3 c ++ m) = ([c], 3) := by
  have ho := oct_ok c
  have e : octs (oct3 c ++ m) = oct3 c := by
    unfold octs
    have h3 : (oct3 c ++ m).take 3 = oct3 c := by
      rw [List.take_append_of_le_length (by simp [oct3]), List.take_of_length_le (by simp [oct3])]
    rw [h3]
    exact take_all ho.1
  unfold escG
  rw [e, if_pos (by simp [oct3]), ho.2]
  rfl
theorem strG_back : ∀ (l : List UInt8) (n : Nat) (out m : List UInt8), (quoteBytes l).length + 1 ≤ n → strG n 1 out (quoteBytes l ++ 41 :: m) = (0, out ++ l, m)
  | [], n, out, m, hn => by
    obtain ⟨n, rfl⟩ : ∃ n', n = n' + 1 := ⟨n - 1, by omega⟩
    show strG (n + 1) 1 out (41 :: m) = _
    rw [strG, if_neg (by decide), if_pos ⟨rfl, rfl⟩, List.append_nil]
  | c :: l, n, out, m, hn => by
    obtain ⟨n, rfl⟩ : ∃ n', n = n' + 1 := ⟨n - 1, by omega⟩
    have hq : quoteBytes (c :: l) = quoteOf c ++ quoteBytes l := by unfold quoteBytes; rw [List.flatMap_cons]
    rw [hq, List.length_append] at hn
    have hl := quoteOf_length c
    have ih := strG_back l n (out ++ [c]) m (by omega)
    rw [hq, List.append_assoc]
    unfold quoteOf
    by_cases hp : plainQ c = true
    · rw [if_pos hp]
      simp only [plainQ, Bool.and_eq_true, bne_iff_ne, decide_eq_true_eq] at hp
      obtain ⟨⟨⟨⟨q1, q2⟩, q3⟩, q4⟩, q5⟩ := hp
      have h13 : c ≠ 13 := by rintro rfl; exact absurd q4 (by decide)
      show strG (n + 1) 1 out (c :: (quoteBytes l ++ 41 :: m)) = _
      rw [strG, if_neg q3, if_neg (fun e => q2 e.1), if_neg (fun e => q1 e.1)]
      have hz : lineG (c :: (quoteBytes l ++ 41 :: m)) = 0 := by
        unfold lineG
        have h1 : [13, 10].isPrefixOf (c :: (quoteBytes l ++ 41 :: m)) = false := by
          rw [List.isPrefixOf]
          have : ((13 : UInt8) == c) = false := by rw [beq_eq_false_iff_ne]; exact fun e => h13 e.symm
          rw [this, Bool.false_and]
        have h2 : [13].isPrefixOf (c :: (quoteBytes l ++ 41 :: m)) = false := by
          rw [List.isPrefixOf]
          have : ((13 : UInt8) == c) = false := by rw [beq_eq_false_iff_ne]; exact fun e => h13 e.symm
          rw [this, Bool.false_and]
        rw [h1, h2]
        rfl
      have hdp : deepG c 1 = 1 := by unfold deepG; rw [if_neg q2, if_neg q1]
      rw [hz, if_neg (by omega), hdp, ih, List.append_assoc]
      rfl
    · rw [if_neg hp]
      show strG (n + 1) 1 out (92 :: (oct3 c ++ (quoteBytes l ++ 41 :: m))) = _
      rw [strG, if_pos rfl, escG_back]
      dsimp only
      rw [if_neg (by decide)]
      have hd : (oct3 c ++ (quoteBytes l ++ 41 :: m)).drop 3 = quoteBytes l ++ 41 :: m := rfl
      rw [hd, ih, List.append_assoc]
      rfl
theorem strung_back (l m : List UInt8) : strungG (quoteBytes l ++ 41 :: m) = (5, 0, ⟨l.toArray⟩, (quoteBytes l).length + 2, 0) := by
  unfold strungG
  rw [strG_back l _ [] m (by rw [List.length_append]; omega)]
  dsimp only
  rw [if_pos rfl, List.nil_append, List.length_append, List.length_cons, show (quoteBytes l).length + (m.length + 1) + 1 - m.length = (quoteBytes l).length + 2 by omega]
/-- A token, written. -/
def showG (kind n : Int) (s : ByteArray) : List UInt8 :=
  if kind = 1 then Lib.itoa n else if kind = 2 then 47 :: writeBytes s.data.toList else if kind = 3 then s.data.toList
  else if kind = 4 then 60 :: (hexBytes (bytesOf s) ++ [62]) else if kind = 5 then 40 :: (quoteBytes s.data.toList ++ [41]) else signText kind
/-- A token that may be read. -/
def OkTok (kind n : Int) (s : ByteArray) : Prop :=
  (kind = 1 ∧ -2147483648 ≤ n ∧ n ≤ 2147483647 ∧ s = ⟨#[]⟩) ∨ (kind = 2 ∧ n = 0) ∨ (kind = 3 ∧ n = 0 ∧ s.data.toList ≠ [] ∧ s.data.toList.all isRegB = true ∧ (lexInt s.data.toList).2 = 3) ∨
  (kind = 4 ∧ n = 0) ∨ (kind = 5 ∧ n = 0) ∨ ((∃ t, isSign kind t) ∧ n = 0 ∧ s = ⟨#[]⟩)
theorem nextR_sign (r : List UInt8) (x : Int) (m : Nat) (h : signOf r = some (x, m)) : nextR r = (x, 0, ⟨#[]⟩, m, 0) := by unfold nextR; rw [h]
theorem nextR_cons (c : UInt8) (t : List UInt8) (h : signOf (c :: t) = none) : nextR (c :: t) = if c = 41 ∨ c = 62 then nxErr 0 3
      else if c = 47 then (2, 0, ⟨(nameGo (wordAt t 0)).toArray⟩, 1 + (wordAt t 0).length, 0)
      else if c = 60 then hexedG t
      else if c = 40 then strungG t
      else wordedG (c :: t) := by unfold nextR; rw [h]
theorem pre_one (a c : UInt8) (t : List UInt8) (h : c ≠ a) : [a].isPrefixOf (c :: t) = false := by
  rw [List.isPrefixOf]
  have : (a == c) = false := by rw [beq_eq_false_iff_ne]; exact fun e => h e.symm
  rw [this, Bool.false_and]
theorem pre_two (a b c : UInt8) (t : List UInt8) (h : c ≠ a) : [a, b].isPrefixOf (c :: t) = false := by
  rw [List.isPrefixOf]
  have : (a == c) = false := by rw [beq_eq_false_iff_ne]; exact fun e => h e.symm
  rw [this, Bool.false_and]
theorem no_sign (c : UInt8) (t : List UInt8) (h : c ∉ ([60, 62, 91, 93, 123, 125] : List UInt8)) : signOf (c :: t) = none := by
  simp only [List.mem_cons, List.mem_nil_iff, or_false, not_or] at h
  obtain ⟨h1, h2, h3, h4, h5, h6⟩ := h
  unfold signOf
  rw [pre_one 91 c t h3, pre_one 93 c t h4, pre_two 60 60 c t h1, pre_two 62 62 c t h2, pre_one 123 c t h5, pre_one 125 c t h6]
  rfl
theorem no_sign_lt (d : UInt8) (t : List UInt8) (h : d ≠ 60) : signOf (60 :: d :: t) = none := by
  unfold signOf
  have e : [60, 60].isPrefixOf (60 :: d :: t) = false := by
    rw [List.isPrefixOf, pre_one 60 d t h, Bool.and_false]
  rw [pre_one 91 60 _ (by decide), pre_one 93 60 _ (by decide), e, pre_two 62 62 60 _ (by decide), pre_one 123 60 _ (by decide), pre_one 125 60 _ (by decide)]
  rfl
theorem reg_not : ∀ n : Fin 256, isRegB n.val.toUInt8 = true → n.val.toUInt8 ∉ ([60, 62, 91, 93, 123, 125] : List UInt8) ∧ n.val.toUInt8 ∉ ([40, 41, 47, 37] : List UInt8) ∧ (clsOf (n.val.toUInt8).toNat == 1) = false := by decide +kernel
theorem reg_not' (c : UInt8) (h : isRegB c = true) : c ∉ ([60, 62, 91, 93, 123, 125] : List UInt8) ∧ c ∉ ([40, 41, 47, 37] : List UInt8) ∧ (clsOf c.toNat == 1) = false := by
  have := reg_not ⟨c.toNat, c.toNat_lt⟩
  rw [show ((⟨c.toNat, c.toNat_lt⟩ : Fin 256).val.toUInt8) = c from UInt8.ofNat_toNat] at this
  exact this h
theorem nextR_word (w m : List UInt8) (h0 : w ≠ []) (hw : w.all isRegB = true) (hm : Blanky m) : nextR (w ++ m) = wordedG (w ++ m) := by
  rcases w with _ | ⟨c, w⟩
  · exact absurd rfl h0
  have hc : isRegB c = true := by simp only [List.all_cons, Bool.and_eq_true] at hw; exact hw.1
  obtain ⟨r1, r2, r3⟩ := reg_not' c hc
  simp only [List.mem_cons, List.mem_nil_iff, or_false, not_or] at r2
  have r62 : c ≠ 62 := fun e => r1 (by rw [e]; simp)
  have r60 : c ≠ 60 := fun e => r1 (by rw [e]; simp)
  rw [List.cons_append, nextR_cons c _ (no_sign c _ r1), if_neg (fun e => e.elim r2.2.1 r62), if_neg r2.2.2.1, if_neg r60, if_neg r2.1]
theorem skip_zero (c : UInt8) (t : List UInt8) (h1 : c ≠ 37) (h2 : (clsOf c.toNat == 1) = false) : skipG false (c :: t) = 0 := by
  rw [skipG, if_neg (by rw [beq_iff_eq]; exact h1), if_neg (by rw [h2]; decide)]
theorem skip_reg (w m : List UInt8) (h0 : w ≠ []) (hw : w.all isRegB = true) : skipG false (w ++ m) = 0 := by
  rcases w with _ | ⟨c, w⟩
  · exact absurd rfl h0
  have hc : isRegB c = true := by simp only [List.all_cons, Bool.and_eq_true] at hw; exact hw.1
  obtain ⟨r1, r2, r3⟩ := reg_not' c hc
  exact skip_zero c _ (fun e => r2 (by rw [e]; simp)) r3
theorem signText_eq {x : Int} {t : List UInt8} (h : isSign x t) : signText x = t ∧ x ≠ 1 ∧ x ≠ 2 ∧ x ≠ 3 ∧ x ≠ 4 ∧ x ≠ 5 := by
  rcases h with ⟨rfl, rfl⟩ | ⟨rfl, rfl⟩ | ⟨rfl, rfl⟩ | ⟨rfl, rfl⟩ | ⟨rfl, rfl⟩ | ⟨rfl, rfl⟩ <;> exact ⟨rfl, by decide, by decide, by decide, by decide, by decide⟩
/-- What is shown of a token is read as it. -/
theorem show_next (kind n : Int) (s : ByteArray) (h : OkTok kind n s) (m : List UInt8) (hm : Blanky m) :
    showG kind n s ≠ [] ∧ skipG false (showG kind n s ++ m) = 0 ∧ nextR (showG kind n s ++ m) = (kind, n, s, (showG kind n s).length, 0) := by
  rcases h with ⟨rfl, h0, h1, rfl⟩ | ⟨rfl, rfl⟩ | ⟨rfl, rfl, h0, hw, h3⟩ | ⟨rfl, rfl⟩ | ⟨rfl, rfl⟩ | ⟨⟨t, ht⟩, rfl, rfl⟩
  · have e : showG 1 n ⟨#[]⟩ = Lib.itoa n := by unfold showG; rw [if_pos rfl]
    obtain ⟨r1, r2⟩ := itoa_reg n
    rw [e]
    refine ⟨r2, skip_reg _ _ r2 r1, ?_⟩
    rw [nextR_word _ _ r2 r1 hm]
    unfold wordedG
    rw [take_reg _ _ r1 hm, lexInt_itoa n h0 h1, if_pos rfl]
  · have e : showG 2 0 s = 47 :: writeBytes s.data.toList := by unfold showG; rw [if_neg (by decide), if_pos rfl]
    have hr : (writeBytes s.data.toList).all isRegB = true := by
      refine List.all_eq_true.2 fun c hc => ?_
      have := List.all_eq_true.1 (writeBytes_ok s.data.toList) c hc
      simp only [Bool.and_eq_true] at this
      exact this.2
    rw [e, List.cons_append]
    refine ⟨by simp, skip_zero _ _ (by decide) (by decide), ?_⟩
    rw [nextR_cons _ _ (no_sign _ _ (by decide)), if_neg (by decide), if_pos rfl, take_reg _ _ hr hm, name_write, ← ba_eta, List.length_cons, Nat.add_comm]
  · have e : showG 3 0 s = s.data.toList := by unfold showG; rw [if_neg (by decide), if_neg (by decide), if_pos rfl]
    rw [e]
    refine ⟨h0, skip_reg _ _ h0 hw, ?_⟩
    rw [nextR_word _ _ h0 hw hm]
    unfold wordedG
    rw [take_reg _ _ hw hm, h3, if_neg (by decide), if_pos rfl, ← ba_eta]
  · have e : showG 4 0 s = 60 :: (hexBytes (bytesOf s) ++ [62]) := by unfold showG; rw [if_neg (by decide), if_neg (by decide), if_neg (by decide), if_pos rfl]
    rw [e, List.cons_append]
    refine ⟨by simp, skip_zero _ _ (by decide) (by decide), ?_⟩
    have hs : signOf (60 :: (hexBytes (bytesOf s) ++ [62] ++ m)) = none := by
      have hh : ∃ d t, hexBytes (bytesOf s) ++ [62] ++ m = d :: t ∧ d ≠ 60 := by
        have hne := hex_no_gt s.data.toList
        unfold bytesOf
        generalize hexBytes (s.data.toList.map fun b => (b.toNat : Int)) = l at hne
        rcases l with _ | ⟨d, l⟩
        · exact ⟨62, m, rfl, by decide⟩
        · exact ⟨d, l ++ [62] ++ m, rfl, (hne d (by simp)).2⟩
      obtain ⟨d, t, ht, hd⟩ := hh
      rw [ht]
      exact no_sign_lt d t hd
    rw [nextR_cons _ _ hs, if_neg (by decide), if_neg (by decide), if_pos rfl, List.append_assoc]
    unfold bytesOf
    show hexedG (_ ++ 62 :: m) = _
    rw [hexed_back, ← ba_eta, List.length_cons, List.length_append, List.length_singleton]
  · have e : showG 5 0 s = 40 :: (quoteBytes s.data.toList ++ [41]) := by unfold showG; rw [if_neg (by decide), if_neg (by decide), if_neg (by decide), if_neg (by decide), if_pos rfl]
    rw [e, List.cons_append]
    refine ⟨by simp, skip_zero _ _ (by decide) (by decide), ?_⟩
    rw [nextR_cons _ _ (no_sign _ _ (by decide)), if_neg (by decide), if_neg (by decide), if_neg (by decide), if_pos rfl, List.append_assoc]
    show strungG (_ ++ 41 :: m) = _
    rw [strung_back, ← ba_eta, List.length_cons, List.length_append, List.length_singleton]
  · obtain ⟨e1, n1, n2, n3, n4, n5⟩ := signText_eq ht
    have e : showG kind 0 ⟨#[]⟩ = t := by unfold showG; rw [if_neg n1, if_neg n2, if_neg n3, if_neg n4, if_neg n5, e1]
    rw [e]
    have hp : t.isPrefixOf (t ++ m) = true := List.isPrefixOf_iff_prefix.2 (List.prefix_append t m)
    refine ⟨?_, ?_, ?_⟩
    · rcases ht with ⟨rfl, rfl⟩ | ⟨rfl, rfl⟩ | ⟨rfl, rfl⟩ | ⟨rfl, rfl⟩ | ⟨rfl, rfl⟩ | ⟨rfl, rfl⟩ <;> simp
    · rcases ht with ⟨rfl, rfl⟩ | ⟨rfl, rfl⟩ | ⟨rfl, rfl⟩ | ⟨rfl, rfl⟩ | ⟨rfl, rfl⟩ | ⟨rfl, rfl⟩ <;> exact skip_zero _ _ (by decide) (by decide)
    · rw [nextR_sign _ _ _ (signOf_hit ht hp)]
end Go.Proofs.YtfdikkdbmlcjiaaGreatDoor.M
end
section
namespace Go.Proofs.YtfdikkdbmlcjiaaGreatDoor.M
open Go.RowKit Go.Proofs.YtfdikkdbmlcjiaaGreatDoorW.PrintWords
set_option linter.unusedVariables false
set_option linter.unusedSimpArgs false
theorem awake4_at : hornbooklaw04_awake.f 60 = some true := by decide +kernel
theorem awake4 {k : Nat} (hk : 60 ≤ k) : hornbooklaw04_awake.f k = some true := le_rounds (g := fun k => hornbooklaw04_awake.f k) (fun k => hornbooklaw04_awake.mono k) awake4_at hk
theorem all_bytes (s : ByteArray) : (bytesOf s).all isByte = true := by
  unfold bytesOf
  rw [List.all_map]
  refine List.all_eq_true.2 fun b _ => ?_
  have := b.toNat_lt
  simp only [Function.comp, isByte, Bool.and_eq_true, decide_eq_true_eq]
  omega
theorem show_eq (kind at_ n : Int) (s : ByteArray) (h : OkTok kind n s) (hs : s.size ≤ 1000000) : tok_Show.f kind at_ n s = some ⟨(showG kind n s).toArray⟩ := by
  have one : ∀ (c : UInt8) (l : List UInt8), (⟨#[c]⟩ : ByteArray) ++ ⟨l.toArray⟩ = ⟨(c :: l).toArray⟩ := fun c l => ba_app [c] l
  unfold tok_Show.f showG
  rcases h with ⟨rfl, h0, h1, rfl⟩ | ⟨rfl, rfl⟩ | ⟨rfl, rfl, h0, hw, h3⟩ | ⟨rfl, rfl⟩ | ⟨rfl, rfl⟩ | ⟨⟨t, ht⟩, rfl, rfl⟩
  · rw [if_pos rfl, if_pos rfl]
    unfold strconv_Itoa.f
    rw [if_pos (by omega)]
  · rw [if_neg (by decide), if_pos rfl, if_neg (by decide), if_pos rfl]
    unfold lex_Write.f
    rw [if_pos (by omega), Option.bind_some, one]
  · rw [if_neg (by decide), if_neg (by decide), if_pos rfl, if_neg (by decide), if_neg (by decide), if_pos rfl, ← ba_eta]
  · rw [if_neg (by decide), if_neg (by decide), if_neg (by decide), if_pos rfl, if_neg (by decide), if_neg (by decide), if_neg (by decide), if_pos rfl]
    unfold hex_Hex.f
    rw [if_pos (all_bytes s), if_pos (by rw [bytesOf_length]; omega), Option.bind_some, one]
    exact congrArg some (ba_app (60 :: hexBytes (bytesOf s)) [62])
  · rw [if_neg (by decide), if_neg (by decide), if_neg (by decide), if_neg (by decide), if_pos rfl, if_neg (by decide), if_neg (by decide), if_neg (by decide), if_neg (by decide), if_pos rfl]
    unfold tok_quoted.f
    rw [if_pos (by omega), Option.bind_some, one]
    exact congrArg some (ba_app (40 :: quoteBytes s.data.toList) [41])
  · obtain ⟨e1, n1, n2, n3, n4, n5⟩ := signText_eq ht
    rw [if_neg n1, if_neg n2, if_neg n3, if_neg n4, if_neg n5, if_neg n1, if_neg n2, if_neg n3, if_neg n4, if_neg n5, if_pos]
    rcases ht with ⟨rfl, rfl⟩ | ⟨rfl, rfl⟩ | ⟨rfl, rfl⟩ | ⟨rfl, rfl⟩ | ⟨rfl, rfl⟩ | ⟨rfl, rfl⟩ <;> decide
theorem hexBytes_bytes (s : ByteArray) : (hexBytes (bytesOf s)).length = 2 * s.size := by rw [hexBytes_length, bytesOf_length]
theorem show_len (kind n : Int) (s : ByteArray) (h : OkTok kind n s) : (showG kind n s).length ≤ 4 * s.size + 11 := by
  unfold showG
  rcases h with ⟨rfl, h0, h1, rfl⟩ | ⟨rfl, rfl⟩ | ⟨rfl, rfl, h0, hw, h3⟩ | ⟨rfl, rfl⟩ | ⟨rfl, rfl⟩ | ⟨⟨t, ht⟩, rfl, rfl⟩
  · rw [if_pos rfl]
    have := itoa_len n h0 h1
    omega
  · rw [if_neg (by decide), if_pos rfl, List.length_cons]
    have := writeBytes_length s.data.toList
    rw [← size_list] at this
    omega
  · rw [if_neg (by decide), if_neg (by decide), if_pos rfl, ← size_list]; omega
  · rw [if_neg (by decide), if_neg (by decide), if_neg (by decide), if_pos rfl, List.length_cons, List.length_append, List.length_singleton, hexBytes_bytes]; omega
  · rw [if_neg (by decide), if_neg (by decide), if_neg (by decide), if_neg (by decide), if_pos rfl, List.length_cons, List.length_append, List.length_singleton]
    have := quoteBytes_length s.data.toList
    rw [← size_list] at this
    omega
  · obtain ⟨e1, n1, n2, n3, n4, n5⟩ := signText_eq ht
    rw [if_neg n1, if_neg n2, if_neg n3, if_neg n4, if_neg n5, e1]
    rcases ht with ⟨rfl, rfl⟩ | ⟨rfl, rfl⟩ | ⟨rfl, rfl⟩ | ⟨rfl, rfl⟩ | ⟨rfl, rfl⟩ | ⟨rfl, rfl⟩ <;> simp
end Go.Proofs.YtfdikkdbmlcjiaaGreatDoor.M
end
section
namespace Go.Proofs.YtfdikkdbmlcjiaaGreatDoor.M
open Go.RowKit Go.Proofs.YtfdikkdbmlcjiaaGreatDoorW.PrintWords
set_option linter.unusedVariables false
set_option linter.unusedSimpArgs false
theorem next_show (kind n : Int) (s : ByteArray) (h : OkTok kind n s) (hs : (showG kind n s).length ≤ 100000) {k : Nat} (hk : 300000 ≤ k) :
    tok_Next.f k ⟨(showG kind n s).toArray⟩ 0 = some (kind, 0, n, s, ((showG kind n s).length : Int), 0) := by
  have hsz := ba_size (showG kind n s)
  obtain ⟨h0, h1, h2⟩ := show_next kind n s h [] (.inl rfl)
  rw [List.append_nil] at h1 h2
  rw [next_eq _ _ (by omega) (by omega)]
  have := nextA_at ⟨(showG kind n s).toArray⟩ 0 (by omega) (showG kind n s) (by rw [ba_list, List.drop_zero])
  rw [show ((0 : Nat) : Int) = 0 from rfl] at this
  have hne : ¬ (0 = (showG kind n s).length) := fun e => h0 (List.length_eq_zero_iff.1 e.symm)
  rw [this, h1, if_neg hne, List.drop_zero, h2]
  unfold nxAns
  dsimp only
  rw [if_pos rfl]
  simp only [Nat.zero_add]
  rfl
def rep (i : Nat) (c : UInt8) : ByteArray := ⟨(List.replicate i c).toArray⟩
theorem rep_size (i : Nat) (c : UInt8) : (rep i c).size = i := by unfold rep; rw [ba_size, List.length_replicate]
theorem rep_succ (i : Nat) (c : UInt8) : rep i c ++ (⟨#[c]⟩ : ByteArray) = rep (i + 1) c := by
  unfold rep
  rw [List.replicate_succ']
  exact ba_app (List.replicate i c) [c]
theorem strings_loop (x5 : Bool) (x7 : ByteArray) (x9 x10 x14 : Int) (n : Nat) (hn : n ≤ 63) (y0 y1 y2 : Int) (y3 : ByteArray) (z0 z1 z2 : Int) (z3 : ByteArray) (u0 u1 u2 : Int) (u3 : ByteArray) (v0 v1 v2 : Int) (v3 : ByteArray) (k d : Nat) :
    ∀ i : Nat, n - i = d → i ≤ n →
    hornbooklaw04_TokStrings.l0 (k + d) x5 x7 x9 x10 x14 (n : Int) (rep i 40) (rep i 41) (i : Int) y0 y1 y2 y3 z0 z1 z2 z3 u0 u1 u2 u3 v0 v1 v2 v3
    = hornbooklaw04_TokStrings.l0 k x5 x7 x9 x10 x14 (n : Int) (rep n 40) (rep n 41) (n : Int) y0 y1 y2 y3 z0 z1 z2 z3 u0 u1 u2 u3 v0 v1 v2 v3 := by
  induction d with
  | zero =>
    intro i hd hi
    have : i = n := by omega
    rw [this]; rfl
  | succ d ih =>
    intro i hd hi
    have s1 := rep_size i 40
    have s2 := rep_size i 41
    rw [← Nat.add_assoc, hornbooklaw04_TokStrings.l0, if_pos (by omega), if_pos (by omega), if_pos (by omega), rep_succ, rep_succ, wrap_small (by omega) (by omega)]
    have := ih (i + 1) (by omega) (by omega)
    rw [show (i : Int) + 1 = ((i + 1 : Nat) : Int) by omega]
    exact this
theorem lineG_no (c : UInt8) (t : List UInt8) (h : c ≠ 13) : lineG (c :: t) = 0 := by
  unfold lineG
  rw [pre_two 13 10 c t h, pre_one 13 c t h]
  rfl
theorem strG_open : ∀ (a n deep : Nat) (out r : List UInt8), deep + a ≤ 32 → 1 ≤ deep → strG (n + a) deep out (List.replicate a 40 ++ r) = strG n (deep + a) (out ++ List.replicate a 40) r
  | 0, n, deep, out, r, _, _ => by simp
  | a + 1, n, deep, out, r, h, h1 => by
    have ih := strG_open a n (deep + 1) (out ++ [40]) r (by omega) (by omega)
    have hd : deepG 40 deep = deep + 1 := rfl
    rw [List.replicate_succ, List.cons_append, ← Nat.add_assoc, strG, if_neg (by decide), if_neg (fun e => absurd e.1 (by decide)), if_neg (fun e => by have := e.2; omega), lineG_no 40 _ (by decide), if_neg (by omega), hd, ih, List.append_assoc, show deep + 1 + a = deep + a + 1 by omega]
    rfl
theorem strG_deep : ∀ (a n deep : Nat) (out r : List UInt8), 32 < deep + a → 1 ≤ deep → deep ≤ 32 → (strG (n + a) deep out (List.replicate a 40 ++ r)).1 = 5
  | 0, n, deep, out, r, h, h1, h2 => by omega
  | a + 1, n, deep, out, r, h, h1, h2 => by
    have hd : deepG 40 deep = deep + 1 := rfl
    rw [List.replicate_succ, List.cons_append, ← Nat.add_assoc, strG, if_neg (by decide), if_neg (fun e => absurd e.1 (by decide))]
    by_cases h3 : deep = 32
    · rw [if_pos ⟨rfl, h3⟩]
    · rw [if_neg (fun e => h3 e.2), lineG_no 40 _ (by decide), if_neg (by omega), hd]
      exact strG_deep a n (deep + 1) (out ++ [40]) r (by omega) (by omega) (by omega)
theorem strG_shut : ∀ (b n : Nat) (out r : List UInt8), strG (n + (b + 1)) (b + 1) out (List.replicate (b + 1) 41 ++ r) = (0, out ++ List.replicate b 41, r)
  | 0, n, out, r => by
    show strG (n + 1) 1 out (41 :: r) = _
    rw [strG, if_neg (by decide), if_pos ⟨rfl, rfl⟩]
    simp
  | b + 1, n, out, r => by
    have ih := strG_shut b n (out ++ [41]) r
    have hd : deepG 41 (b + 1 + 1) = b + 1 := rfl
    rw [List.replicate_succ, List.cons_append, ← Nat.add_assoc n, strG, if_neg (by decide), if_neg (fun e => by have := e.2; omega), if_neg (fun e => absurd e.1 (by decide)), lineG_no 41 _ (by decide), if_neg (by omega), hd, ih, List.append_assoc]
    rfl
/-- k brackets that open, and k that shut. -/
theorem brackets (a : Nat) : (a + 1 ≤ 32 → nextR (List.replicate (a + 1) 40 ++ List.replicate (a + 1) 41) = (5, 0, ⟨(List.replicate a (40 : UInt8) ++ List.replicate a 41).toArray⟩, 2 * a + 2, 0)) ∧
    (32 < a + 1 → (nextR (List.replicate (a + 1) 40 ++ List.replicate (a + 1) 41)).2.2.2.2 = 5) := by
  have hl : (List.replicate a (40 : UInt8) ++ List.replicate (a + 1) 41).length = 2 * a + 1 := by rw [List.length_append, List.length_replicate, List.length_replicate]; omega
  have hN : nextR (List.replicate (a + 1) 40 ++ List.replicate (a + 1) 41) = strungG (List.replicate a 40 ++ List.replicate (a + 1) 41) := by
    rw [List.replicate_succ (n := a) (a := (40 : UInt8)), List.cons_append, nextR_cons _ _ (no_sign _ _ (by decide)), if_neg (by decide), if_neg (by decide), if_neg (by decide), if_pos rfl]
  rw [hN]
  unfold strungG
  rw [hl]
  constructor
  · intro h
    have e1 := strG_open a (2 * a + 1 + 1 - a) 1 [] (List.replicate (a + 1) 41) (by omega) (by omega)
    have e2 := strG_shut a 1 ([] ++ List.replicate a 40) []
    rw [show 2 * a + 1 + 1 - a + a = 2 * a + 1 + 1 by omega, show 2 * a + 1 + 1 - a = 1 + (a + 1) by omega, show 1 + a = a + 1 by omega] at e1
    rw [List.append_nil] at e2
    rw [show 1 + (a + 1) = a + 1 + 1 by omega] at e1 e2
    rw [e1, e2]
    dsimp only
    rw [if_pos rfl, List.nil_append, List.length_nil, Nat.sub_zero]
  · intro h
    have e1 := strG_deep a (2 * a + 1 + 1 - a) 1 [] (List.replicate (a + 1) 41) (by omega) (by omega) (by omega)
    rw [show 2 * a + 1 + 1 - a + a = 2 * a + 1 + 1 by omega] at e1
    rw [e1, if_neg (by decide)]
    rfl
theorem skip_open (a : Nat) (r : List UInt8) : skipG false (List.replicate (a + 1) 40 ++ r) = 0 := by
  rw [List.replicate_succ, List.cons_append]
  exact skip_zero _ _ (by decide) (by decide)
theorem TokStrings : hornbooklaw04_TokStrings.Pure := by
  intro l0 a1 h0 h1 hb ha
  obtain ⟨k, hk⟩ : ∃ k : Nat, 400000 ≤ k := ⟨400000, Nat.le_refl _⟩
  refine ⟨k, ?_⟩
  unfold hornbooklaw04_TokStrings.f
  rw [awake4 (by omega), Option.bind_some]
  by_cases hs : (l0.length : Int) > 200
  · rw [if_pos hs]
  have hsz := str_nums_size l0
  rw [if_neg hs]
  generalize strOfNums l0 = s at hsz
  have o5 : OkTok 5 0 s := .inr (.inr (.inr (.inr (.inl ⟨rfl, rfl⟩))))
  have o4 : OkTok 4 0 s := .inr (.inr (.inr (.inl ⟨rfl, rfl⟩)))
  have l5 := show_len 5 0 s o5
  have l4 := show_len 4 0 s o4
  have sz5 := ba_size (showG 5 0 s)
  rw [show_eq 5 0 0 s o5 (by omega), Option.bind_some, next_show 5 0 s o5 (by omega) (by omega), Option.bind_some, show_eq 4 0 0 s o4 (by omega), Option.bind_some, next_show 4 0 s o4 (by omega) (by omega), Option.bind_some,
    and_mask a1 6 (by decide) 63 (by decide)]
  dsimp only
  obtain ⟨n, hn, hn2⟩ : ∃ n : Nat, a1 % 2 ^ 6 = (n : Int) ∧ n ≤ 63 := ⟨(a1 % 2 ^ 6).toNat, by omega, by omega⟩
  rw [hn]
  obtain ⟨k, rfl⟩ : ∃ k', k = k' + 2 + n := ⟨k - 2 - n, by omega⟩
  have hlp := strings_loop true ⟨(showG 5 0 s).toArray⟩ ((showG 5 0 s).length : Int) 0 0 n hn2 5 0 0 s 5 0 0 s 4 0 0 s 4 0 0 s (k + 2) n 0 (by omega) (by omega)
  rw [show rep 0 40 = (⟨#[]⟩ : ByteArray) from rfl, show rep 0 41 = (⟨#[]⟩ : ByteArray) from rfl, show ((0 : Nat) : Int) = 0 from rfl] at hlp
  rw [hlp]
  have r40 := rep_size n 40
  have r41 := rep_size n 41
  have happ : rep n 40 ++ rep n 41 = ⟨(List.replicate n (40 : UInt8) ++ List.replicate n 41).toArray⟩ := ba_app _ _
  have hasz := ba_size (List.replicate n (40 : UInt8) ++ List.replicate n 41)
  rw [List.length_append, List.length_replicate, List.length_replicate] at hasz
  have hnx : tok_Next.f (k + 1) (rep n 40 ++ rep n 41) 0 = some (nextA ⟨(List.replicate n (40 : UInt8) ++ List.replicate n 41).toArray⟩ 0) := by
    rw [happ]; exact next_eq _ _ (by omega) (by omega)
  have hat := nextA_at ⟨(List.replicate n (40 : UInt8) ++ List.replicate n 41).toArray⟩ 0 (by omega) (List.replicate n 40 ++ List.replicate n 41) (by rw [ba_list, List.drop_zero])
  rw [show ((0 : Nat) : Int) = 0 from rfl] at hat
  rw [hat] at hnx
  rw [hornbooklaw04_TokStrings.l0, if_neg (by omega), if_pos (by omega), hnx, Option.bind_some, if_pos rfl]
  rw [if_neg (by simp), if_pos (by omega), if_pos rfl]
  rw [show (!((4 : Int) == 4) || (!((0 : Int) == 0) || (!((0 : Int) == 0) || (!(s.toList == s.toList))))) = false by simp]
  rw [hornbooklaw04_TokStrings.j1, if_neg (by decide)]
  rcases n with _ | a
  · rw [if_pos rfl, if_pos rfl]
    rfl
  have hne : ¬ ((0 : Nat) = (List.replicate (a + 1) (40 : UInt8) ++ List.replicate (a + 1) 41).length) := by rw [List.length_append, List.length_replicate]; omega
  rw [if_neg (show ¬ (((a + 1 : Nat) : Int) = 0) by omega), skip_open, if_neg hne, List.drop_zero, Nat.zero_add]
  obtain ⟨b1, b2⟩ := brackets a
  unfold nxAns
  by_cases hle : a + 1 ≤ 32
  · rw [if_neg (by omega), if_pos rfl, b1 hle]
    dsimp only
    rw [if_pos rfl, if_pos rfl]
    dsimp only
    have e1 : (rep (a + 1) 40).extract 1 (rep (a + 1) 40).size = rep a 40 := by
      rw [ext_from]; unfold rep; rw [ba_list, List.drop_replicate]; rfl
    have e2 : (rep (a + 1) 41).extract 1 (rep (a + 1) 41).size = rep a 41 := by
      rw [ext_from]; unfold rep; rw [ba_list, List.drop_replicate]; rfl
    have s40 := rep_size a 40
    have s41 := rep_size a 41
    rw [if_pos rfl, if_pos (by omega), if_pos (by omega), e1, e2, if_pos (by omega)]
    unfold rep
    rw [ba_app, beq_self_eq_true]
  · rw [if_pos (by omega), if_pos rfl, if_neg (by rw [b2 (by omega)]; decide)]
    dsimp only
    rw [b2 (by omega)]
    rfl
end Go.Proofs.YtfdikkdbmlcjiaaGreatDoor.M
end
section
-- PRINTED BY print.sh 35421559b90ae4d0a3588c463048766b98c2df88dd9212a6774a882060cdf62d: not written by this session
-- PRINTED WORDS (module Derived/Print/Sized.lean): go-gate-2's, for the rows of laws over slices: an AI agent of Go's test side, Tue Nov 17 2026; no person has read it. Lean checks it.
namespace Go.Proofs.YtfdikkdbmlcjiaaGreatDoorW.PrintWords
open Go.ChangeShapes Go.WideShapes
/-- A row's slice of whole numbers is no longer than its weight allows. -/
theorem sized_ints {H : Type} {enc : TypeId × Value → H} {P : Program} {W : World} {base : Nat} {spare : Nat → Bool} {held : Bool} {t e : TypeId} {k : IntKind} {a : Option Addr} {len cap : Nat} {d : DataW H} {ps : List MemPlace} {ts : List TypeId} {ds : List (DataW H)} {j : Nat}
    (hsz : (DataW.weightsEach P ts ds).all (· ≤ reachBytes) = true) (ht : ts[j]? = some t) (hd : ds[j]? = some d) (hu : P.underlying t = some (.slice e)) (he : P.underlying e = some (.int k)) (hc : P.cellsOf e = 1) {B : Nat} (hB : P.bytesOf e = B)
    (h : DataW.Trod enc P W base spare held t (.slice a len cap) d ps) : len * B ≤ 140737488351232 := by
  obtain ⟨fuel, hf⟩ := h
  rcases open_ints hu he hc hf with ⟨hcs, _⟩ | ⟨x, l, c, zs, hcs, _, hl, _, hz, hx, _, _⟩
  · simp [Value.cells] at hcs
    obtain ⟨rfl, rfl, rfl⟩ := hcs
    simp
  · simp [Value.cells] at hcs
    obtain ⟨rfl, rfl, rfl⟩ := hcs
    obtain ⟨hx, _⟩ := Prod.mk.inj hx
    subst hx
    have z := sized_slice hsz ht hd hu
    rw [hB] at z
    have hl2 : len ≤ zs.length := by
      rw [hz]
      split
      · exact hl
      · exact Nat.le_refl _
    have h1 : (lits (H := H) k (zs.take len)).length + (lits (H := H) k (zs.drop len)).length = zs.length := by
      simp [lits]
      omega
    rw [h1] at z
    exact Nat.le_trans (Nat.mul_le_mul_right _ hl2) z
end Go.Proofs.YtfdikkdbmlcjiaaGreatDoorW.PrintWords
end
