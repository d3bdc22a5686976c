/- lex.Name reads a written name: # and two digits are one byte, each other byte is itself, for every string. -/
import Derived.Test.YtaolcbklpdodaaaDoorBd
import Derived.Test.YtaolcbklpdodaaaDoorPl
namespace Go.Proofs.YtaolcbklpdodaaaDoor.M
open Go.RowKit Go.Proofs.YtaolcbklpdodaaaDoorW.PrintWords
set_option linter.unusedVariables false
/-- A written name's bytes. -/
def nameGo : List UInt8 → List UInt8
  | [] => []
  | c :: [] => [c]
  | c :: a :: [] => [c, a]
  | c :: a :: b :: r => if c == 35 && (hexVal a.toNat).isSome && (hexVal b.toNat).isSome then (((hexVal a.toNat).getD 0 * 16 + (hexVal b.toNat).getD 0).toNat.toUInt8) :: nameGo r else c :: nameGo (a :: b :: r)
def lex_Name.f (a0 : ByteArray) : Option ByteArray := if a0.size ≤ 140737488355328 then some ⟨(nameGo a0.data.toList).toArray⟩ else none
theorem nameGo_plain (c : UInt8) (l : List UInt8) (h : (c == 35) = false) : nameGo (c :: l) = c :: nameGo l := by
  match l with
  | [] => rfl
  | [a] => rfl
  | a :: b :: r => rw [nameGo, h]; rfl
theorem nameGo_short (c : UInt8) (l : List UInt8) (h : l.length < 2) : nameGo (c :: l) = c :: nameGo l := by
  match l, h with
  | [], _ => rfl
  | [a], _ => rfl
theorem nameGo_no (c a b : UInt8) (l : List UInt8) (h : ((hexVal a.toNat).isSome && (hexVal b.toNat).isSome) = false) : nameGo (c :: a :: b :: l) = c :: nameGo (a :: b :: l) := by
  rw [nameGo, Bool.and_assoc, h, Bool.and_false]; rfl
theorem nameGo_yes (a b : UInt8) (l : List UInt8) (x y : Int) (ha : hexVal a.toNat = some x) (hb : hexVal b.toNat = some y) : nameGo (35 :: a :: b :: l) = (x * 16 + y).toNat.toUInt8 :: nameGo l := by
  rw [nameGo, ha, hb]; rfl
theorem drop_cons (s : ByteArray) (i : Nat) (h : i < s.size) : s.data.toList.drop i = s[i] :: s.data.toList.drop (i + 1) := by
  rw [List.drop_eq_getElem_cons (by simpa using h)]; rfl
theorem hexVal_range (c : Int) (x : Int) (h : hexVal c = some x) : 0 ≤ x ∧ x ≤ 15 := by
  unfold hexVal at h
  split at h
  · simp at h; omega
  · split at h
    · simp at h; omega
    · split at h
      · simp at h; omega
      · cases h
theorem or_digits (x y : Int) (hx : 0 ≤ x ∧ x ≤ 15) (hy : 0 ≤ y ∧ y ≤ 15) : Go.bits .or .i64 (x * 16) y = x * 16 + y := by
  have : ∀ a b : Fin 16, Go.bits .or .i64 ((a.val : Int) * 16) (b.val : Int) = (a.val : Int) * 16 + (b.val : Int) := by decide +kernel
  have h := this ⟨x.toNat, by omega⟩ ⟨y.toNat, by omega⟩
  have e1 : ((x.toNat : Nat) : Int) = x := by omega
  have e2 : ((y.toNat : Nat) : Int) = y := by omega
  simpa [e1, e2] using h
set_option maxHeartbeats 1000000 in
set_option maxRecDepth 1000000 in
theorem lex_Name.calls (a0 : ByteArray) (r : ByteArray) (w : World) (h : lex_Name.f a0 = some r) :
    Calls Tryd.prog 13 #[.string a0] w fun e w' => e = .returned (.string r) ∧ Below w.heap.size w w' := by
  unfold lex_Name.f at h
  split at h
  case isFalse => cases h
  rename_i hl
  obtain rfl := Option.some.inj h
  clear h
  go_enter Tryd.func13, Tryd.ntmps13
  go_wp2
  go_loopw [4] (fun i wr => ∃ (k : Nat) (acc : List UInt8), k ≤ a0.size ∧ acc.length ≤ k ∧ i = .int .i64 k ∧ Aside0 (acc ++ nameGo (a0.data.toList.drop k) = nameGo a0.data.toList) ∧ IsBd w.heap.size w.heap.size acc wr ∧ Below w.heap.size w wr) (fun i wr => a0.size - (intOf i).toNat)
  case atStart =>
    refine ⟨0, [], Nat.zero_le _, Nat.le_refl _, rfl, ⟨rfl⟩, (Lib.IsBuilderF.of (Lib.fresh_isBuilder _ _ w)), (Below.refl _ w).alloc (Nat.le_refl _) _⟩
  case round =>
    obtain ⟨k, acc, hk, hal, rfl, HA, hI, hbw⟩ := hrel
    by_cases hlt : k < a0.size
    · have HD := Aside0.mk (drop_cons a0 k hlt)
      by_cases hc : (a0[k].toNat : Int) = 35
      · have t1 : ((a0[k].toNat : Int) == 35) = true := by simpa using hc
        have hc' : a0[k] = 35 := by
          have : a0[k].toNat = 35 := by omega
          exact UInt8.toNat_inj.1 (by simpa using this)
        have HC := Aside0.mk hc'
        clear hc hc'
        by_cases hi2 : k + 2 < a0.size
        · have hlt1 : k + 1 < a0.size := by omega
          have d1 := a0[k + 1].toNat_lt
          have d2 := a0[k + 2].toNat_lt
          have HD1 := Aside0.mk (drop_cons a0 (k + 1) hlt1)
          have HD2 := Aside0.mk (drop_cons a0 (k + 2) hi2)
          have c1 := digit_eq (Nat.le_refl 1) (a0[k + 1].toNat : Int) (by omega) (by omega)
          have c2 := digit_eq (Nat.le_refl 1) (a0[k + 2].toNat : Int) (by omega) (by omega)
          cases hv1 : hexVal (a0[k + 1].toNat : Int) with
          | none =>
            have hn := nameGo_no a0[k] a0[k + 1] a0[k + 2] (a0.data.toList.drop (k + 2 + 1)) (by rw [hv1]; rfl)
            rw [← HD2.out, ← HD1.out, ← HD.out] at hn
            have HN := Aside0.mk hn
            rw [hv1] at c1
            simp only [Option.getD_none, Option.isSome_none] at c1
            have C1 := Aside0.mk c1
            have C2 := Aside0.mk c2
            clear c1 c2 hn hv1
            go_wp2_with (go_at_call 23; with_reducible refine (hex_Digit.calls 1 _ _ _ _ C1.out).mono ?_)
            rintro e w1 ⟨rfl, hd⟩
            replace hI := hI.below hd
            replace hbw := below_then hbw hbw.size hd
            clear hd
            go_wp2_with (go_at_call 23; with_reducible refine (hex_Digit.calls 1 _ _ _ _ C2.out).mono ?_)
            rintro e w1 ⟨rfl, hd⟩
            replace hI := hI.below hd
            replace hbw := below_then hbw hbw.size hd
            clear hd
            go_wp2_with (go_at_call 17; with_reducible refine (WriteByte_k w.heap.size w.heap.size _ _ _ hI ?_ ?_).mono ?_)
            · rw [Lib.byteCells_length]; omega
            · exact hbw.size
            rintro e W2 ⟨rfl, h2, b2, k2⟩
            go_wp2
            go_roundw
            case rel => exact ⟨k + 1, acc ++ [a0[k]], by omega, by simp; omega, by go_num, ⟨by rw [← HA.out, HN.out]; simp⟩, by rw [IsBd, Lib.byteCells_append]; exact .inr h2, hbw.trans b2⟩
            case measure => simp [intOf]; omega
          | some x =>
            cases hv2 : hexVal (a0[k + 2].toNat : Int) with
            | none =>
              have hn := nameGo_no a0[k] a0[k + 1] a0[k + 2] (a0.data.toList.drop (k + 2 + 1)) (by rw [hv2]; exact Bool.and_false _)
              rw [← HD2.out, ← HD1.out, ← HD.out] at hn
              have HN := Aside0.mk hn
              rw [hv1] at c1
              rw [hv2] at c2
              simp only [Option.getD_none, Option.isSome_none] at c2
              simp only [Option.getD_some, Option.isSome_some] at c1
              have C1 := Aside0.mk c1
              have C2 := Aside0.mk c2
              clear c1 c2 hn hv1 hv2
              go_wp2_with (go_at_call 23; with_reducible refine (hex_Digit.calls 1 _ _ _ _ C1.out).mono ?_)
              rintro e w1 ⟨rfl, hd⟩
              replace hI := hI.below hd
              replace hbw := below_then hbw hbw.size hd
              clear hd
              go_wp2_with (go_at_call 23; with_reducible refine (hex_Digit.calls 1 _ _ _ _ C2.out).mono ?_)
              rintro e w1 ⟨rfl, hd⟩
              replace hI := hI.below hd
              replace hbw := below_then hbw hbw.size hd
              clear hd
              go_wp2_with (go_at_call 17; with_reducible refine (WriteByte_k w.heap.size w.heap.size _ _ _ hI ?_ ?_).mono ?_)
              · rw [Lib.byteCells_length]; omega
              · exact hbw.size
              rintro e W2 ⟨rfl, h2, b2, k2⟩
              go_wp2
              go_roundw
              case rel => exact ⟨k + 1, acc ++ [a0[k]], by omega, by simp; omega, by go_num, ⟨by rw [← HA.out, HN.out]; simp⟩, by rw [IsBd, Lib.byteCells_append]; exact .inr h2, hbw.trans b2⟩
              case measure => simp [intOf]; omega
            | some y =>
              have hn := nameGo_yes a0[k + 1] a0[k + 2] (a0.data.toList.drop (k + 2 + 1)) x y hv1 hv2
              rw [← HD2.out, ← HD1.out, ← HC.out, ← HD.out] at hn
              have HN := Aside0.mk hn
              have rx := hexVal_range _ _ hv1
              have ry := hexVal_range _ _ hv2
              have ho := or_digits x y rx ry
              rw [hv1] at c1
              rw [hv2] at c2
              simp only [Option.getD_some, Option.isSome_some] at c1 c2
              have C1 := Aside0.mk c1
              have C2 := Aside0.mk c2
              clear c1 c2 hn hv1 hv2
              go_wp2_with (go_at_call 23; with_reducible refine (hex_Digit.calls 1 _ _ _ _ C1.out).mono ?_)
              rintro e w1 ⟨rfl, hd⟩
              replace hI := hI.below hd
              replace hbw := below_then hbw hbw.size hd
              clear hd
              go_wp2_with (go_at_call 23; with_reducible refine (hex_Digit.calls 1 _ _ _ _ C2.out).mono ?_)
              rintro e w1 ⟨rfl, hd⟩
              replace hI := hI.below hd
              replace hbw := below_then hbw hbw.size hd
              clear hd
              go_wp2_with (go_at_call 17; with_reducible refine (WriteByte_k w.heap.size w.heap.size _ _ _ hI ?_ ?_).mono ?_)
              · rw [Lib.byteCells_length]; omega
              · exact hbw.size
              rintro e W2 ⟨rfl, h2, b2, k2⟩
              go_wp2
              go_roundw
              case rel =>
                refine ⟨k + 3, acc ++ [(x * 16 + y).toNat.toUInt8], by omega, by simp; omega, by go_num, ⟨by rw [← HA.out, HN.out]; simp⟩, ?_, hbw.trans b2⟩
                rw [IsBd, Lib.byteCells_append]
                have e8 : Lib.byteCells [(x * 16 + y).toNat.toUInt8] = [.int .u8 (x * 16 + y)] := by
                  simp [Lib.byteCells]; omega
                rw [e8]
                exact .inr h2
              case measure => simp [intOf]; omega
        · have hn := nameGo_short a0[k] (a0.data.toList.drop (k + 1)) (by rw [List.length_drop, Array.length_toList]; have : a0.data.size = a0.size := rfl; omega)
          rw [← HD.out] at hn
          have HN := Aside0.mk hn
          clear hn
          go_wp2_with (go_at_call 17; with_reducible refine (WriteByte_k w.heap.size w.heap.size _ _ _ hI ?_ ?_).mono ?_)
          · rw [Lib.byteCells_length]; omega
          · exact hbw.size
          rintro e W2 ⟨rfl, h2, b2, k2⟩
          go_wp2
          go_roundw
          case rel => exact ⟨k + 1, acc ++ [a0[k]], by omega, by simp; omega, by go_num, ⟨by rw [← HA.out, HN.out]; simp⟩, by rw [IsBd, Lib.byteCells_append]; exact .inr h2, hbw.trans b2⟩
          case measure => simp [intOf]; omega
      · have t1 : ((a0[k].toNat : Int) == 35) = false := by simpa using hc
        have hn := nameGo_plain a0[k] (a0.data.toList.drop (k + 1)) (by
          rw [beq_eq_false_iff_ne]; intro e; apply hc; rw [e]; rfl)
        rw [← HD.out] at hn
        have HN := Aside0.mk hn
        clear hn hc
        go_wp2_with (go_at_call 17; with_reducible refine (WriteByte_k w.heap.size w.heap.size _ _ _ hI ?_ ?_).mono ?_)
        · rw [Lib.byteCells_length]; omega
        · exact hbw.size
        rintro e W2 ⟨rfl, h2, b2, k2⟩
        go_wp2
        go_roundw
        case rel => exact ⟨k + 1, acc ++ [a0[k]], by omega, by simp; omega, by go_num, ⟨by rw [← HA.out, HN.out]; simp⟩, by rw [IsBd, Lib.byteCells_append]; exact .inr h2, hbw.trans b2⟩
        case measure => simp [intOf]; omega
    · go_wp2_with (go_at_call 20; refine (Tryd.Builder_String_any_k w.heap.size w.heap.size _ _ hI hbw.size).mono ?_)
      rintro e W1 ⟨rfl, _, b1, _⟩
      go_wp2
      go_ret
      have ha := HA.out
      rw [List.drop_of_length_le (by simp; omega)] at ha
      rw [← ha]
      simp only [nameGo, List.append_nil]
      exact ⟨rfl, hbw.trans b1⟩
end Go.Proofs.YtaolcbklpdodaaaDoor.M
