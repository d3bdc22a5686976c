/- Packed by this session's program hbpack.py out of this claim's own texts (Yt, Yu, Yv, Yw, Yy, Yz, Za, Ym, Zb, Q10, Q18, Q59, Sh, Q60, Sh2, Q91, Q61, Q39, Mp, Q64, Q63, Q40, Q41): the same declarations, without those that the claim does not use. -/
import Derived.Test.YtjplnhdplpiogaaGreatDoorPkSynSound2
import Derived.Deep.RegionLaw
import Derived.Deep.RegionWith
import Derived.Deep.RegionHeld3
import Derived.Shelf.Strings.Builder1
import Derived.Shelf.Strings.Trim
import Derived.Shelf.Small.Utf8
import Derived.Shelf.Small.Strs
import Derived.Shelf.Strings.BuilderF
import Derived.Shelf.Strings.BuilderK
import Derived.Shelf.Strconv.Itoa0
import Derived.Shelf.Strconv.Itoa1
import Derived.Shelf.LaysM
import Derived.Shelf.Strconv.Itoa2
import Derived.Shelf.Strconv.Itoa3
import Derived.Shelf.Strconv.ParseIntEmpty
import Derived.Shelf.Strconv.Clone
import Derived.Shelf.Strconv.SyntaxError
import Derived.Shelf.LaysC
import Derived.Shelf.Strconv.ToError
import Derived.Shelf.Strconv.Lower
import Derived.Shelf.Strconv.ParseUint10
import Derived.Shelf.Strconv.ParseUint10Empty
import Derived.Shelf.Strconv.ParseUint10Any
import Derived.Shelf.Strconv.ParseInt10
import Derived.Shelf.Strconv.RangeError
import Derived.Shelf.Strconv.ToErrorRange
import Derived.Shelf.Strconv.ParseUintEmpty
import Derived.Shelf.Strconv.ParseUint10b64
import Derived.Shelf.Strconv.ParseUint10b32
import Derived.Shelf.Strconv.ParseUint10b16
import Derived.Shelf.Strconv.ParseUint10b8
import Derived.Shelf.Strconv.ParseUint10At
import Derived.Shelf.Strconv.ParseInt10At64
import Derived.Shelf.Strconv.ParseInt10At32
import Derived.Shelf.Strconv.ParseInt10At16
import Derived.Shelf.Strconv.ParseInt10At8
import Derived.Shelf.Strconv.ParseInt10All
import Derived.Shelf.Strconv.ParseIntPublic10
import Derived.Shelf.Strings.Search1
import Derived.Shelf.Strings.Search2
import Derived.Shelf.Strings.Cut
import Derived.Shelf.Strings.Shaped
import Derived.Shelf.Strings.Prefix
import Derived.Shelf.Unicode.Decode
import Derived.Shelf.Strings.Runes
import Derived.Shelf.Strings.AsciiSet
import Derived.Shelf.Unicode.DecodeSlow
import Derived.Shelf.Unicode.DecodeAny
import Derived.Shelf.Strings.BuilderCap
import Derived.Shelf.Slices.Turned
import Derived.Test.YtjplnhdplpiogaaGreatDoorProg
import Derived.Maps.RangeWalk
import Derived.Maps.StringElems
import Derived.Maps.OwnOps
import Derived.Laws.Rows
import Derived.Laws.Tables
import Derived.Laws.CopyOwn
section
namespace Go.Proofs.YtjplnhdplpiogaaGreatDoor.M
open Go.RowKit Go.Proofs.YtjplnhdplpiogaaGreatDoorW.PrintWords Go.Proofs.YtjplnhdplpiogaaGreatDoorW.PrintLast Go.Proofs.YtjplnhdplpiogaaGreatDoorW.PrintMore
set_option linter.unusedVariables false
set_option linter.unusedSimpArgs false
set_option maxRecDepth 100000
set_option maxHeartbeats 8000000
theorem info47 : (Tryz.prog.info? 47).map (fun i => (i.zero, i.size, i.bytes)) = some (some (.slice none 0 0), 1, 24) := by kernel_rfl
def listL (L : List S40) (e : Int) : Nat → Int → List (List Int) → Ex (List (List Int) × Int)
 | 0, _, _ => none
 | k + 1, i, out => if (peekF L i e).f0 = 7 then some (.ok (out, i)) else if out.length < 1000000 then bX (unitsF L e i) fun u => listL L e k (i + 1) (out ++ [u.1]) else none
def listF (L : List S40) (e i n : Int) : Ex (List (List Int) × Int) :=
 bX (takeF L e i 6) fun _ => bX (listL L e (L.length + 2) (i + 1) []) fun r => if (r.1.length : Int) = n then some (.ok (r.1, r.2 + 1)) else some (.error ((peekF L r.2 e).f1, 6))
section
variable {w0 w : World} {g : Nat} {A : Option Addr} {c : Nat} {L : List S40} {i e : Int} {ov iv : Value}
theorem peek_calls (hC : Kd.C k40 w0 A L.length L) (hS : St w0 w g A c L i e ov iv) (h0 : 0 ≤ i) :
  Calls Tryz.prog 83 #[.pointer (some ⟨g, 0, none⟩)] w fun x w' => x = .returned (.agg #[.int .i64 (peekF L i e).f0, .int .i64 (peekF L i e).f1, .int .i64 (peekF L i e).f2, .string (peekF L i e).f3]) ∧ Below w.heap.size w w' := by
 unfold peekF
 split
 ·rename_i h
  exact peek_some hC hS h0 h
 ·rename_i h
  exact peek_end hS h
theorem peek_in {i e : Int} (h : (peekF L i e).f0 ≠ 0) : i < L.length := by
 unfold peekF at h
 split at h
 ·assumption
 ·exact absurd rfl h
theorem list_calls (hC : Kd.C k40 w0 A L.length L) (hS : St w0 w g A c L i e ov iv) (h0 : 0 ≤ i) (n : Int) (r : Except (Int × Int) (List (List Int) × Int)) (h : listF L e i n = some r) :
  Calls Tryz.prog 126 #[.pointer (some ⟨g, 0, none⟩), .int .i64 n] w (Out w0 w g A c L e ov iv (fun w' t v => (Kd.slice 3 (Kd.int .i64)).R 47 w' w0.heap.size (fun k => w.heap.size ≤ k) v t.1) (fun t => t.2) r) := by
 have hu40 := Tryz.underlying40
 have hu58 := Tryz.underlying58
 have hL : (L.length : Int) ≤ 9223372036854775807 := by have := Kd.C_max hC; omega
 have hf0 : ∀ (a b c : Int) (s : ByteArray) (W : World), (Instr.field 40 (.agg #[.int .i64 a, .int .i64 b, .int .i64 c, .string s]) 0).run Tryz.prog W = .ok (.int .i64 a) W := fun _ _ _ _ _ => rfl
 have hf1 : ∀ (a b c : Int) (s : ByteArray) (W : World), (Instr.field 40 (.agg #[.int .i64 a, .int .i64 b, .int .i64 c, .string s]) 1).run Tryz.prog W = .ok (.int .i64 b) W := fun _ _ _ _ _ => rfl
 unfold listF at h
 obtain ⟨p, ht, rfl⟩ | ⟨t, ht, h⟩ := bX_ok h
 ·have HS := aM hS
  clear hS
  go_enter Tryz.func126, Tryz.ntmps126
  go_wp2_with (first | (go_at_call 148; (with_reducible refine (take_calls hC (stC HS) h0 6 _ ht).mono ?_); rintro x' w2 ⟨rfl, hk2, hbe⟩))
  exact ⟨rfl, rfl, hk2, hbe⟩
 obtain ⟨rr, hrr, hfin⟩ : ∃ rr, listL L e (L.length + 2) (i + 1) [] = some rr ∧ (match rr with | .error p => r = .error p | .ok q => (if (q.1.length : Int) = n then some (.ok (q.1, q.2 + 1)) else some (.error ((peekF L q.2 e).f1, 6))) = some r) := by
  obtain ⟨p, h1, h2⟩ | ⟨q, h1, h2⟩ := bX_ok h
  ·exact ⟨_, h1, h2⟩
  ·exact ⟨_, h1, h2⟩
 have HS := aM hS
 have HF := aM hrr
 have HE := aM hfin
 clear hS h hrr hfin
 go_enter Tryz.func126, Tryz.ntmps126
 go_wp2_with (first | (go_at_call 148; (with_reducible refine (take_calls hC (stC HS) h0 6 _ ht).mono ?_); rintro x' w2 ⟨v, rfl, rfl, hs2, hk2⟩; replace HS := aM hs2; have HK := aM hk2; clear hs2 hk2))
 go_loopg [5] (L.length + 2) (fun kq v5 w' => ∃ (jj : Int) (xs : List (List Int)), Aside0 (listL L e kq jj xs = some rr) ∧ Aside0 (kq ≤ L.length + 2) ∧ Aside0 (0 ≤ jj) ∧ Aside0 (St w0 w' g A c L jj e ov iv) ∧ Aside0 (KeepBut w w' g none) ∧ Aside0 ((Kd.slice 3 (Kd.int .i64)).R 47 w' w0.heap.size (fun k => w.heap.size ≤ k) v5 xs))
 case atStart => exact ⟨i + 1, [], HF, ⟨Nat.le_refl _⟩, ⟨by omega⟩, HS, HK, ⟨Kd.R_nil _ _ _ _ _⟩⟩
 case round =>
  clear HF HS HK
  obtain ⟨jj, xs, HF, HQ, HJ, HS, HK, HR⟩ := hrel
  cases gk with
  | zero => exact absurd HF.out (by simp [listL])
  | succ k1 =>
   have hF := HF.out
   have hj0 := HJ.out
   clear HF
   rw [listL] at hF
   split at hF
   ·rename_i h7
    obtain rfl := Option.some.inj hF
    have hin := peek_in (L := L) (i := jj) (e := e) (by rw [h7]; decide)
    have b7 : ((peekF L jj e).f0 != 7) = false := bne_eq_false_iff_eq.mpr h7
    have hw : wrap64 (jj + 1) = jj + 1 := by unfold wrap64; omega
    have hE := HE.out
    dsimp only at hE
    obtain ⟨Ao, co, hvo⟩ := Kd.R_slice HR.out
    subst hvo
    clear hF h7 HE
    split at hE
    ·rename_i hn
     obtain rfl := Option.some.inj hE
     have d1 : (((xs.length : Nat) : Int) != n) = false := bne_eq_false_iff_eq.mpr hn
     clear hE hn
     go_wp2_with (first | (go_at_call 83; (with_reducible refine (peek_calls hC (stC HS) hj0).mono ?_); rintro x' wp ⟨rfl, hbp⟩; replace HS := stQ HS hbp; replace HK := keepQ HK hbp; replace HR := rK HR hbp; clear hbp; obtain ⟨sc0, sc1, sc2, sc3, sc4, sf0, sf1, sf2, sf3, sf4⟩ := b5 HS.out.blk))
     have HB := aM HS.out.below
     have HB2 := aM HS.out.blk
     have GE := aM HS.out.ge
     have hrow : (Kd.slice 3 (Kd.int .i64)).R 47 (wp.setCell ⟨g, 1, none⟩ (.int .i64 (jj + 1))) w0.heap.size (fun k => w.heap.size ≤ k) (.slice Ao xs.length co) xs := R_keepT HR.out HS.out.blk (by decide) (KeepBut.set_ (KeepBut.refl wp g none) 1 (.int .i64 (jj + 1)))
     go_ret
     exact ⟨_, rfl, hrow, ⟨bQ, GE.out, kQ⟩, KeepBut.set_ HK.out 1 _⟩
    ·rename_i hn
     obtain rfl := Option.some.inj hE
     have d1 : (((xs.length : Nat) : Int) != n) = true := bne_iff_ne.mpr hn
     clear hE hn
     go_wp2_with (first | (go_at_call 83; (with_reducible refine (peek_calls hC (stC HS) hj0).mono ?_); rintro x' wp ⟨rfl, hbp⟩; replace HS := stQ HS hbp; replace HK := keepQ HK hbp; replace HR := rK HR hbp; clear hbp) | (go_at_call 33; (with_reducible refine (fail_calls _ _ _).mono ?_); rintro x' wf ⟨rfl, hbf⟩))
     exact ⟨rfl, rfl, KeepBut.trans HK.out (KeepBut.of_below hbf g none) (.inl rfl), below_step HS.out.below hbf⟩
   ·rename_i h7
    have b7 : ((peekF L jj e).f0 != 7) = true := bne_iff_ne.mpr h7
    split at hF
    rotate_left
    ·cases hF
    rename_i hcap
    obtain ⟨p, hu, rfl⟩ | ⟨u, hu, hF⟩ := bX_ok hF
    ·have hE := HE.out
     dsimp only at hE
     subst hE
     clear hF h7 HE
     go_wp2_with (first | (go_at_call 83; (with_reducible refine (peek_calls hC (stC HS) hj0).mono ?_); rintro x' wp ⟨rfl, hbp⟩; replace HS := stQ HS hbp; replace HK := keepQ HK hbp; replace HR := rK HR hbp; clear hbp) | (go_at_call 127; (with_reducible refine (units_calls hC (stC HS) hj0 _ hu).mono ?_); rintro x' w3 ⟨rfl, hk3, hbe⟩))
     exact ⟨rfl, rfl, KeepBut.trans HK.out hk3 (.inl rfl), hbe⟩
    ·clear h7
     obtain ⟨Ao, co, hvo⟩ := Kd.R_slice HR.out
     subst hvo
     have HF := aM hF
     clear hF
     go_wp2_with (first | (go_at_call 83; (with_reducible refine (peek_calls hC (stC HS) hj0).mono ?_); rintro x' wp ⟨rfl, hbp⟩; replace HS := stQ HS hbp; replace HK := keepQ HK hbp; replace HR := rK HR hbp; clear hbp) | (go_at_call 127; (with_reducible refine (units_calls hC (stC HS) hj0 _ hu).mono ?_); rintro x' w3 ⟨v, rfl, ⟨vu, rfl, hr3⟩, hs3, hk3⟩; obtain ⟨Au, cu, hvu⟩ := Kd.R_slice hr3; subst hvu; have HOL := aM (Kd.R_lt HR.out); have HW := aM (keep_size HK.out); have HW0 := aM (below_size HS.out.below); have HU := aM (Kd.R_mono (ok' := fun k => w.heap.size ≤ k ∧ some k ≠ (Value.slice Ao xs.length co).ownBlock) (Kd.R_lower hr3 HW0.out) (fun k hk => ⟨Nat.le_trans HW.out hk, fun he => absurd (HOL.out k he.symm) (by omega)⟩)); have HO := aM (R_keepT HR.out HS.out.blk (by decide) hk3); replace HS := aM hs3; replace HK := aM (KeepBut.trans HK.out hk3 (.inl rfl)); have hgo := aM (Kd.R_ne HO.out hs3.blk (by decide)); clear hs3 hk3 hr3) | ((with_reducible refine gate_builtin (b := .append) (xs := #[.tmp 19, .tmp 21]) rfl ?_); (try (refine gate_guard (by rfl) ?_; dsimp only)); at_builtin; refine Kd.R_append (Kd.slice 3 (Kd.int .i64)) (w0 := w0) w0.heap.size rfl (.tmp 19) (.tmp 21) 48 47 (.slice none 0 0) 24 rfl Tryz.underlying48 info47 rfl (by decide) (by omega) (.slice Ao xs.length co) xs u.1 [.slice Au u.1.length cu] (fun k => w.heap.size ≤ k) (fun k => w.heap.size ≤ k ∧ some k ≠ (Value.slice Ao xs.length co).ownBlock) rfl rfl ?aP (fun _ hk => hk) ?aF ?aO ?aB ?aS ?aL ?_; (case aP => exact ⟨_, rfl, HU.out⟩); (case aF => exact (fun k hk => Nat.le_trans (keep_size HK.out) hk)); (case aO => exact HO.out); (case aB => exact HS.out.below); (case aS => exact below_size HS.out.below); (case aL => omega); intro v6 w6 ho6 hb6 hg6 hat6; have HR6 := aM ho6; have HS6 := aM (⟨hb6, HS.out.ge, blk_grown HS.out.blk hg6 hgo.out⟩ : St w0 w6 g A c L (jj + 1) e ov iv); have HK6 := aM (KeepBut.trans HK.out (KeepBut.of_grown hg6 g) (ownrow HO.out (fun _ h => h))); clear ho6 hb6 hg6 hat6))
     go_roundg k1
     case measure => have := HQ.out; omega
     case rel => exact ⟨jj + 1, xs ++ [u.1], HF, ⟨by have := HQ.out; omega⟩, ⟨by omega⟩, HS6, HK6, HR6⟩
end
end Go.Proofs.YtjplnhdplpiogaaGreatDoor.M
end
section
namespace Go.Proofs.YtjplnhdplpiogaaGreatDoor.M
open Go.RowKit Go.Proofs.YtjplnhdplpiogaaGreatDoorW.PrintWords Go.Proofs.YtjplnhdplpiogaaGreatDoorW.PrintLast Go.Proofs.YtjplnhdplpiogaaGreatDoorW.PrintMore
set_option linter.unusedVariables false
set_option linter.unusedSimpArgs false
set_option maxRecDepth 100000
set_option maxHeartbeats 8000000
def lastI (l : List Int) : Int := rd l (((l.length : Nat) : Int) - 1)
def bfRangeF (L : List S40) (e i : Int) : Ex (S50 × Int) :=
 bX (pairF L e i turnedB) fun x => if (peekF L (i + 2) e).f0 = 6 then bX (listF L e (i + 2) (x.f1.f1 - x.f0.f1 + 1)) fun r => some (.ok (⟨x.f0, x.f1, x.f2, [], r.1⟩, r.2))
  else bX (unitsF L e (i + 2)) fun u => if lastI u.1 > 65535 - (x.f1.f1 - x.f0.f1) then some (.error (u.2, 7)) else some (.ok (⟨x.f0, x.f1, x.f2, u.1, []⟩, i + 3))
section
variable {w0 w : World} {g : Nat} {A : Option Addr} {c : Nat} {L : List S40} {i e : Int} {ov iv : Value}
theorem units_in {u : List Int × Int} (h : unitsF L e i = some (.ok u)) : 1 ≤ u.1.length ∧ u.1.length ≤ 64 := by
 unfold unitsF at h
 obtain ⟨p, ht, hr⟩ | ⟨t, ht, h⟩ := bX_ok h
 ·cases hr
 split at h
 ·split at h
  ·injection h with h; cases h
  ·rename_i hc
   injection h with h; injection h with h; subst h
   have : (unitsB t.f3).1.length ≠ 0 := fun hh => hc (.inr (.inl hh))
   have : ¬ (unitsB t.f3).1.length > 64 := fun hh => hc (.inr (.inr hh))
   dsimp only
   omega
 ·cases h
theorem bfRange_calls (hC : Kd.C k40 w0 A L.length L) (hS : St w0 w g A c L i e ov iv) (h0 : 0 ≤ i) (r : Except (Int × Int) (S50 × Int)) (h : bfRangeF L e i = some r) :
  Calls Tryz.prog 105 #[.pointer (some ⟨g, 0, none⟩)] w (Out w0 w g A c L e ov iv (fun w' t v => ∃ cs, v = .agg cs ∧ k50.M w' w0.heap.size (fun k => w.heap.size ≤ k) t.1 cs.toList) (fun t => t.2) r) := by
 have hu40 := Tryz.underlying40
 have hu46 := Tryz.underlying46
 have hu47 := Tryz.underlying47
 have hu50 := Tryz.underlying50
 have hf0 : ∀ (a b c : Int) (s : ByteArray) (W : World), (Instr.field 40 (.agg #[.int .i64 a, .int .i64 b, .int .i64 c, .string s]) 0).run Tryz.prog W = .ok (.int .i64 a) W := fun _ _ _ _ _ => rfl
 have hi0 : 0 ≤ i + 2 := by omega
 unfold bfRangeF at h
 obtain ⟨p, h1, rfl⟩ | ⟨x, h1, h⟩ := bX_ok h
 ·skip
  have HS := aM hS
  have HK := aM (KeepBut.refl w g none)
  clear hS
  go_enter Tryz.func105, Tryz.ntmps105
  go_wp2_with (first | ((with_reducible refine gD 2 ?_); refine bE 2 (cs := #[.int .i64 0, .int .i64 0, .int .i64 0, .int .i64 0, .int .i64 0, .slice none 0 0, .slice none 0 0]) (t := 50) ?_; intro gb hg w1 hbox hb; have BKgb := aM hbox; have NEgb := aM (show g ≠ gb by rw [hg]; exact Nat.ne_of_lt (blk_lt HS.out.blk)); have NFgb := aM (Ne.symm NEgb.out); have GEgb := aM (show w0.heap.size ≤ gb by rw [hg]; exact HS.out.below.size); replace HS := aM (HS.out.of_below hb); replace HK := aM (KeepBut.trans HK.out (KeepBut.of_below hb g none) (.inl rfl)); have GW := aM (show w.heap.size ≤ gb by rw [hg]; exact Nat.le_refl _); clear hb hbox hg; obtain ⟨sc0, sc1, sc2, sc3, sc4, sf0, sf1, sf2, sf3, sf4⟩ := b5 HS.out.blk; obtain ⟨gbk0, gbk1, gbk2, gbk3, gbk4, gbk5, gbk6, gbm0, gbm1, gbm2, gbm3, gbm4, gbm5, gbm6⟩ := b7 BKgb; have nqgb := NEgb.out; have nrgb := NFgb.out) | (go_at_call 122; (with_reducible refine (pairT_calls hC (stC HS) h0 _ h1).mono ?_); rintro x' w2 ⟨rfl, hk2, hbe⟩))
  exact ⟨rfl, rfl, KeepBut.trans HK.out hk2 (.inl rfl), hbe⟩
 have hm : 0 ≤ x.f1.f1 - x.f0.f1 ∧ x.f1.f1 - x.f0.f1 ≤ 4294967296 := pairT_range h1
 have hw : wrap64 (x.f1.f1 - x.f0.f1) = x.f1.f1 - x.f0.f1 := by unfold wrap64; omega
 have hw1 : wrap64 (x.f1.f1 - x.f0.f1 + 1) = x.f1.f1 - x.f0.f1 + 1 := by unfold wrap64; omega
 have hw2 : wrap64 (65535 - (x.f1.f1 - x.f0.f1)) = 65535 - (x.f1.f1 - x.f0.f1) := by unfold wrap64; omega
 split at h
 ·rename_i h6
  have b6 : ((peekF L (i + 2) e).f0 == 6) = true := beq_iff_eq.mpr h6
  clear h6
  obtain ⟨p, h2, rfl⟩ | ⟨u, h2, h⟩ := bX_ok h
  ·skip
   have HS := aM hS
   have HK := aM (KeepBut.refl w g none)
   clear hS
   go_enter Tryz.func105, Tryz.ntmps105
   go_wp2_with (first | ((with_reducible refine gD 2 ?_); refine bE 2 (cs := #[.int .i64 0, .int .i64 0, .int .i64 0, .int .i64 0, .int .i64 0, .slice none 0 0, .slice none 0 0]) (t := 50) ?_; intro gb hg w1 hbox hb; have BKgb := aM hbox; have NEgb := aM (show g ≠ gb by rw [hg]; exact Nat.ne_of_lt (blk_lt HS.out.blk)); have NFgb := aM (Ne.symm NEgb.out); have GEgb := aM (show w0.heap.size ≤ gb by rw [hg]; exact HS.out.below.size); replace HS := aM (HS.out.of_below hb); replace HK := aM (KeepBut.trans HK.out (KeepBut.of_below hb g none) (.inl rfl)); have GW := aM (show w.heap.size ≤ gb by rw [hg]; exact Nat.le_refl _); clear hb hbox hg; obtain ⟨sc0, sc1, sc2, sc3, sc4, sf0, sf1, sf2, sf3, sf4⟩ := b5 HS.out.blk; obtain ⟨gbk0, gbk1, gbk2, gbk3, gbk4, gbk5, gbk6, gbm0, gbm1, gbm2, gbm3, gbm4, gbm5, gbm6⟩ := b7 BKgb; have nqgb := NEgb.out; have nrgb := NFgb.out) | (go_at_call 122; (with_reducible refine (pairT_calls hC (stC HS) h0 _ h1).mono ?_); rintro x' w2 ⟨v, rfl, rfl, hs2, hk2⟩; have NX := aM (Nat.ne_of_gt (blk_lt hs2.blk)); replace HS := aM (hs2.alloc (.cells (ent7 x (.slice none 0 0) (.slice none 0 0)) 50)); have BK2 := KeepBut.blk hk2 BKgb.out NFgb.out (by simp); have NXB := aM (Nat.ne_of_gt (blk_lt BK2)); replace BKgb := aM (blk_alloc BK2 (.cells (ent7 x (.slice none 0 0) (.slice none 0 0)) 50)); replace HK := aM (KeepBut.trans HK.out hk2 (.inl rfl)); have HW := aM (keep_size HK.out); replace HK := aM (keepA (o := (.cells (ent7 x (.slice none 0 0) (.slice none 0 0)) 50)) HK.out); have BX := aM (blk_new w2 (.cells (ent7 x (.slice none 0 0) (.slice none 0 0)) 50)); have HW0 := aM (below_size hs2.below); obtain ⟨xk0, xk1, xk2, xk3, xk4, xk5, xk6, xm0, xm1, xm2, xm3, xm4, xm5, xm6⟩ := b7 BX; clear hs2 hk2 BK2) | (go_at_call 83; (with_reducible refine (peek_calls hC (stC HS) hi0).mono ?_); rintro x' wp ⟨rfl, hbp⟩; replace HS := stQ HS hbp; replace HK := keepQ HK hbp; replace BX := kK2 BX hbp; replace BKgb := kK2 BKgb hbp; clear xk0 xk1 xk2 xk3 xk4 xk5 xk6 xm0 xm1 xm2 xm3 xm4 xm5 xm6; obtain ⟨xk0, xk1, xk2, xk3, xk4, xk5, xk6, xm0, xm1, xm2, xm3, xm4, xm5, xm6⟩ := b7 BX; clear hbp) | (go_at_call 126; (with_reducible refine (list_calls hC (stC HS) hi0 (x.f1.f1 - x.f0.f1 + 1) _ h2).mono ?_); rintro x' w3 ⟨rfl, hk3, hbe⟩))
   exact ⟨rfl, rfl, KeepBut.trans HK.out hk3 (.inl rfl), hbe⟩
  obtain rfl := Option.some.inj h
  have HS := aM hS
  have HK := aM (KeepBut.refl w g none)
  clear hS
  go_enter Tryz.func105, Tryz.ntmps105
  go_wp2_with (first | ((with_reducible refine gD 2 ?_); refine bE 2 (cs := #[.int .i64 0, .int .i64 0, .int .i64 0, .int .i64 0, .int .i64 0, .slice none 0 0, .slice none 0 0]) (t := 50) ?_; intro gb hg w1 hbox hb; have BKgb := aM hbox; have NEgb := aM (show g ≠ gb by rw [hg]; exact Nat.ne_of_lt (blk_lt HS.out.blk)); have NFgb := aM (Ne.symm NEgb.out); have GEgb := aM (show w0.heap.size ≤ gb by rw [hg]; exact HS.out.below.size); replace HS := aM (HS.out.of_below hb); replace HK := aM (KeepBut.trans HK.out (KeepBut.of_below hb g none) (.inl rfl)); have GW := aM (show w.heap.size ≤ gb by rw [hg]; exact Nat.le_refl _); clear hb hbox hg; obtain ⟨sc0, sc1, sc2, sc3, sc4, sf0, sf1, sf2, sf3, sf4⟩ := b5 HS.out.blk; obtain ⟨gbk0, gbk1, gbk2, gbk3, gbk4, gbk5, gbk6, gbm0, gbm1, gbm2, gbm3, gbm4, gbm5, gbm6⟩ := b7 BKgb; have nqgb := NEgb.out; have nrgb := NFgb.out) | (go_at_call 122; (with_reducible refine (pairT_calls hC (stC HS) h0 _ h1).mono ?_); rintro x' w2 ⟨v, rfl, rfl, hs2, hk2⟩; have NX := aM (Nat.ne_of_gt (blk_lt hs2.blk)); replace HS := aM (hs2.alloc (.cells (ent7 x (.slice none 0 0) (.slice none 0 0)) 50)); have BK2 := KeepBut.blk hk2 BKgb.out NFgb.out (by simp); have NXB := aM (Nat.ne_of_gt (blk_lt BK2)); replace BKgb := aM (blk_alloc BK2 (.cells (ent7 x (.slice none 0 0) (.slice none 0 0)) 50)); replace HK := aM (KeepBut.trans HK.out hk2 (.inl rfl)); have HW := aM (keep_size HK.out); replace HK := aM (keepA (o := (.cells (ent7 x (.slice none 0 0) (.slice none 0 0)) 50)) HK.out); have BX := aM (blk_new w2 (.cells (ent7 x (.slice none 0 0) (.slice none 0 0)) 50)); have HW0 := aM (below_size hs2.below); obtain ⟨xk0, xk1, xk2, xk3, xk4, xk5, xk6, xm0, xm1, xm2, xm3, xm4, xm5, xm6⟩ := b7 BX; clear hs2 hk2 BK2) | (go_at_call 83; (with_reducible refine (peek_calls hC (stC HS) hi0).mono ?_); rintro x' wp ⟨rfl, hbp⟩; replace HS := stQ HS hbp; replace HK := keepQ HK hbp; replace BX := kK2 BX hbp; replace BKgb := kK2 BKgb hbp; clear xk0 xk1 xk2 xk3 xk4 xk5 xk6 xm0 xm1 xm2 xm3 xm4 xm5 xm6; obtain ⟨xk0, xk1, xk2, xk3, xk4, xk5, xk6, xm0, xm1, xm2, xm3, xm4, xm5, xm6⟩ := b7 BX; clear hbp) | (go_at_call 126; (with_reducible refine (list_calls hC (stC HS) hi0 (x.f1.f1 - x.f0.f1 + 1) _ h2).mono ?_); rintro x' w3 ⟨v, rfl, hr3, hs3, hk3⟩; obtain ⟨Au, cu, hvu⟩ := Kd.R_slice hr3; subst hvu; have HR := aM (Kd.R_mono (ok' := fun k => w.heap.size ≤ k) hr3 (fun k hk => Nat.le_trans (keep_size HK.out) hk)); replace BX := aM (KeepBut.blk hk3 BX.out NX.out (by simp)); replace BKgb := aM (KeepBut.blk hk3 BKgb.out NFgb.out (by simp)); replace HS := aM hs3; replace HK := aM (KeepBut.trans HK.out hk3 (.inl rfl)); clear xk0 xk1 xk2 xk3 xk4 xk5 xk6 xm0 xm1 xm2 xm3 xm4 xm5 xm6; clear gbk0 gbk1 gbk2 gbk3 gbk4 gbk5 gbk6 gbm0 gbm1 gbm2 gbm3 gbm4 gbm5 gbm6; obtain ⟨xk0, xk1, xk2, xk3, xk4, xk5, xk6, xm0, xm1, xm2, xm3, xm4, xm5, xm6⟩ := b7 BX; obtain ⟨gbk0, gbk1, gbk2, gbk3, gbk4, gbk5, gbk6, gbm0, gbm1, gbm2, gbm3, gbm4, gbm5, gbm6⟩ := b7 BKgb; have n1 := NXB.out; have n2 := Ne.symm NXB.out; clear hs3 hk3 hr3))
  have HB := aM HS.out.below
  have HB2 := aM HS.out.blk
  have GE := aM HS.out.ge
  have NX2 := aM (Ne.symm NX.out)
  have n3 := aM n1
  have n4 := aM n2
  have GX := aM (show w0.heap.size ≤ w2.heap.size from HW0.out)
  have GY := aM (show w.heap.size ≤ w2.heap.size from HW.out)
  refine bodyPost_ret (results_cell_row rfl _ _ gb 50 #[.int .i64 x.f0.f0, .int .i64 x.f0.f1, .int .i64 x.f1.f0, .int .i64 x.f1.f1, .int .i64 x.f2, .slice none 0 0, .slice Au u.1.length cu] (0, 0) _ rfl kQ Tryz.underlying50 rfl (by kernel_rfl)) rfl ?_
  refine ⟨_, rfl, ⟨_, rfl, ?_⟩, ⟨bQ, GE.out, kQ⟩, kpQ⟩
  have hz : (w3.setCell ⟨w2.heap.size, 6, none⟩ (.slice Au u.1.length cu)).heap[gb]? = some (.cells #[.int .i64 0, .int .i64 0, .int .i64 0, .int .i64 0, .int .i64 0, .slice none 0 0, .slice none 0 0] 50 (0, 0)) := kQ
  have h1 := R_keepT HR.out BX.out (by decide) (KeepBut.set_ (KeepBut.refl w3 w2.heap.size none) 6 (.slice Au u.1.length cu))
  have h2 := R_keepT h1 hz (by decide) (KeepBut.set_ (KeepBut.set_ (KeepBut.set_ (KeepBut.set_ (KeepBut.set_ (KeepBut.set_ (KeepBut.set_ (KeepBut.refl _ gb none) 0 (.int .i64 x.f0.f0)) 1 (.int .i64 x.f0.f1)) 2 (.int .i64 x.f1.f0)) 3 (.int .i64 x.f1.f1)) 4 (.int .i64 x.f2)) 5 (.slice none 0 0)) 6 (.slice Au u.1.length cu))
  exact k50_mkM _ _ _ (⟨x.f0, x.f1, x.f2, [], u.1⟩ : S50) (Kd.R_nil _ _ _ _ _) h2
 ·rename_i h6
  have b6 : ((peekF L (i + 2) e).f0 == 6) = false := beq_eq_false_iff_ne.mpr h6
  clear h6
  obtain ⟨p, h2, rfl⟩ | ⟨u, h2, h⟩ := bX_ok h
  ·skip
   have HS := aM hS
   have HK := aM (KeepBut.refl w g none)
   clear hS
   go_enter Tryz.func105, Tryz.ntmps105
   go_wp2_with (first | ((with_reducible refine gD 2 ?_); refine bE 2 (cs := #[.int .i64 0, .int .i64 0, .int .i64 0, .int .i64 0, .int .i64 0, .slice none 0 0, .slice none 0 0]) (t := 50) ?_; intro gb hg w1 hbox hb; have BKgb := aM hbox; have NEgb := aM (show g ≠ gb by rw [hg]; exact Nat.ne_of_lt (blk_lt HS.out.blk)); have NFgb := aM (Ne.symm NEgb.out); have GEgb := aM (show w0.heap.size ≤ gb by rw [hg]; exact HS.out.below.size); replace HS := aM (HS.out.of_below hb); replace HK := aM (KeepBut.trans HK.out (KeepBut.of_below hb g none) (.inl rfl)); have GW := aM (show w.heap.size ≤ gb by rw [hg]; exact Nat.le_refl _); clear hb hbox hg; obtain ⟨sc0, sc1, sc2, sc3, sc4, sf0, sf1, sf2, sf3, sf4⟩ := b5 HS.out.blk; obtain ⟨gbk0, gbk1, gbk2, gbk3, gbk4, gbk5, gbk6, gbm0, gbm1, gbm2, gbm3, gbm4, gbm5, gbm6⟩ := b7 BKgb; have nqgb := NEgb.out; have nrgb := NFgb.out) | (go_at_call 122; (with_reducible refine (pairT_calls hC (stC HS) h0 _ h1).mono ?_); rintro x' w2 ⟨v, rfl, rfl, hs2, hk2⟩; have NX := aM (Nat.ne_of_gt (blk_lt hs2.blk)); replace HS := aM (hs2.alloc (.cells (ent7 x (.slice none 0 0) (.slice none 0 0)) 50)); have BK2 := KeepBut.blk hk2 BKgb.out NFgb.out (by simp); have NXB := aM (Nat.ne_of_gt (blk_lt BK2)); replace BKgb := aM (blk_alloc BK2 (.cells (ent7 x (.slice none 0 0) (.slice none 0 0)) 50)); replace HK := aM (KeepBut.trans HK.out hk2 (.inl rfl)); have HW := aM (keep_size HK.out); replace HK := aM (keepA (o := (.cells (ent7 x (.slice none 0 0) (.slice none 0 0)) 50)) HK.out); have BX := aM (blk_new w2 (.cells (ent7 x (.slice none 0 0) (.slice none 0 0)) 50)); have HW0 := aM (below_size hs2.below); obtain ⟨xk0, xk1, xk2, xk3, xk4, xk5, xk6, xm0, xm1, xm2, xm3, xm4, xm5, xm6⟩ := b7 BX; clear hs2 hk2 BK2) | (go_at_call 83; (with_reducible refine (peek_calls hC (stC HS) hi0).mono ?_); rintro x' wp ⟨rfl, hbp⟩; replace HS := stQ HS hbp; replace HK := keepQ HK hbp; replace BX := kK2 BX hbp; replace BKgb := kK2 BKgb hbp; clear xk0 xk1 xk2 xk3 xk4 xk5 xk6 xm0 xm1 xm2 xm3 xm4 xm5 xm6; obtain ⟨xk0, xk1, xk2, xk3, xk4, xk5, xk6, xm0, xm1, xm2, xm3, xm4, xm5, xm6⟩ := b7 BX; clear hbp) | (go_at_call 127; (with_reducible refine (units_calls hC (stC HS) hi0 _ h2).mono ?_); rintro x' w3 ⟨rfl, hk3, hbe⟩))
   exact ⟨rfl, rfl, KeepBut.trans HK.out hk3 (.inl rfl), hbe⟩
  have hul := units_in h2
  have hw3 : wrap64 (((u.1.length : Nat) : Int) - 1) = ((u.1.length : Nat) : Int) - 1 := by unfold wrap64; omega
  have p9 := eq_true (show (0 : Int) ≤ ((u.1.length : Nat) : Int) - 1 by omega)
  have q9 := eq_true (show ((u.1.length : Nat) : Int) - 1 < ((u.1.length : Nat) : Int) by omega)
  split at h
  ·rename_i hl
   obtain rfl := Option.some.inj h
   have d1 : decide (65535 - (x.f1.f1 - x.f0.f1) < rd u.1 (((u.1.length : Nat) : Int) - 1)) = true := decide_eq_true hl
   clear hl
   have HS := aM hS
   have HK := aM (KeepBut.refl w g none)
   clear hS
   go_enter Tryz.func105, Tryz.ntmps105
   go_wp2_with (first | ((with_reducible refine gD 2 ?_); refine bE 2 (cs := #[.int .i64 0, .int .i64 0, .int .i64 0, .int .i64 0, .int .i64 0, .slice none 0 0, .slice none 0 0]) (t := 50) ?_; intro gb hg w1 hbox hb; have BKgb := aM hbox; have NEgb := aM (show g ≠ gb by rw [hg]; exact Nat.ne_of_lt (blk_lt HS.out.blk)); have NFgb := aM (Ne.symm NEgb.out); have GEgb := aM (show w0.heap.size ≤ gb by rw [hg]; exact HS.out.below.size); replace HS := aM (HS.out.of_below hb); replace HK := aM (KeepBut.trans HK.out (KeepBut.of_below hb g none) (.inl rfl)); have GW := aM (show w.heap.size ≤ gb by rw [hg]; exact Nat.le_refl _); clear hb hbox hg; obtain ⟨sc0, sc1, sc2, sc3, sc4, sf0, sf1, sf2, sf3, sf4⟩ := b5 HS.out.blk; obtain ⟨gbk0, gbk1, gbk2, gbk3, gbk4, gbk5, gbk6, gbm0, gbm1, gbm2, gbm3, gbm4, gbm5, gbm6⟩ := b7 BKgb; have nqgb := NEgb.out; have nrgb := NFgb.out) | (go_at_call 122; (with_reducible refine (pairT_calls hC (stC HS) h0 _ h1).mono ?_); rintro x' w2 ⟨v, rfl, rfl, hs2, hk2⟩; have NX := aM (Nat.ne_of_gt (blk_lt hs2.blk)); replace HS := aM (hs2.alloc (.cells (ent7 x (.slice none 0 0) (.slice none 0 0)) 50)); have BK2 := KeepBut.blk hk2 BKgb.out NFgb.out (by simp); have NXB := aM (Nat.ne_of_gt (blk_lt BK2)); replace BKgb := aM (blk_alloc BK2 (.cells (ent7 x (.slice none 0 0) (.slice none 0 0)) 50)); replace HK := aM (KeepBut.trans HK.out hk2 (.inl rfl)); have HW := aM (keep_size HK.out); replace HK := aM (keepA (o := (.cells (ent7 x (.slice none 0 0) (.slice none 0 0)) 50)) HK.out); have BX := aM (blk_new w2 (.cells (ent7 x (.slice none 0 0) (.slice none 0 0)) 50)); have HW0 := aM (below_size hs2.below); obtain ⟨xk0, xk1, xk2, xk3, xk4, xk5, xk6, xm0, xm1, xm2, xm3, xm4, xm5, xm6⟩ := b7 BX; clear hs2 hk2 BK2) | (go_at_call 83; (with_reducible refine (peek_calls hC (stC HS) hi0).mono ?_); rintro x' wp ⟨rfl, hbp⟩; replace HS := stQ HS hbp; replace HK := keepQ HK hbp; replace BX := kK2 BX hbp; replace BKgb := kK2 BKgb hbp; clear xk0 xk1 xk2 xk3 xk4 xk5 xk6 xm0 xm1 xm2 xm3 xm4 xm5 xm6; obtain ⟨xk0, xk1, xk2, xk3, xk4, xk5, xk6, xm0, xm1, xm2, xm3, xm4, xm5, xm6⟩ := b7 BX; clear hbp) | (go_at_call 127; (with_reducible refine (units_calls hC (stC HS) hi0 _ h2).mono ?_); rintro x' w3 ⟨v, rfl, ⟨vu, rfl, hr3⟩, hs3, hk3⟩; obtain ⟨Au, cu, hvu⟩ := Kd.R_slice hr3; subst hvu; obtain ⟨ad, hA, hxl⟩ := Kd.at_int (Kd.R_reads' hr3).2.2 (((u.1.length : Nat) : Int) - 1) (by omega) (by omega); subst hA; rw [show (((u.1.length : Nat) : Int) - 1).toNat = u.1.length - 1 by omega] at hxl; have HR := aM (Kd.R_mono (ok' := fun k => w.heap.size ≤ k) (Kd.R_lower hr3 (below_size HS.out.below)) (fun k hk => Nat.le_trans (keep_size HK.out) hk)); replace BX := aM (KeepBut.blk hk3 BX.out NX.out (by simp)); replace BKgb := aM (KeepBut.blk hk3 BKgb.out NFgb.out (by simp)); replace HS := aM hs3; replace HK := aM (KeepBut.trans HK.out hk3 (.inl rfl)); clear xk0 xk1 xk2 xk3 xk4 xk5 xk6 xm0 xm1 xm2 xm3 xm4 xm5 xm6; clear gbk0 gbk1 gbk2 gbk3 gbk4 gbk5 gbk6 gbm0 gbm1 gbm2 gbm3 gbm4 gbm5 gbm6; obtain ⟨xk0, xk1, xk2, xk3, xk4, xk5, xk6, xm0, xm1, xm2, xm3, xm4, xm5, xm6⟩ := b7 BX; obtain ⟨gbk0, gbk1, gbk2, gbk3, gbk4, gbk5, gbk6, gbm0, gbm1, gbm2, gbm3, gbm4, gbm5, gbm6⟩ := b7 BKgb; have n1 := NXB.out; have n2 := Ne.symm NXB.out; clear hs3 hk3 hr3) | (go_at_call 33; (with_reducible refine (fail_calls _ _ _).mono ?_); rintro x' wf ⟨rfl, hbf⟩))
   exact ⟨rfl, rfl, KeepBut.trans HK.out (KeepBut.of_below hbf g none) (.inl rfl), below_step HS.out.below hbf⟩
  ·rename_i hl
   obtain rfl := Option.some.inj h
   have d1 : decide (65535 - (x.f1.f1 - x.f0.f1) < rd u.1 (((u.1.length : Nat) : Int) - 1)) = false := decide_eq_false hl
   clear hl
   have HS := aM hS
   have HK := aM (KeepBut.refl w g none)
   clear hS
   go_enter Tryz.func105, Tryz.ntmps105
   go_wp2_with (first | ((with_reducible refine gD 2 ?_); refine bE 2 (cs := #[.int .i64 0, .int .i64 0, .int .i64 0, .int .i64 0, .int .i64 0, .slice none 0 0, .slice none 0 0]) (t := 50) ?_; intro gb hg w1 hbox hb; have BKgb := aM hbox; have NEgb := aM (show g ≠ gb by rw [hg]; exact Nat.ne_of_lt (blk_lt HS.out.blk)); have NFgb := aM (Ne.symm NEgb.out); have GEgb := aM (show w0.heap.size ≤ gb by rw [hg]; exact HS.out.below.size); replace HS := aM (HS.out.of_below hb); replace HK := aM (KeepBut.trans HK.out (KeepBut.of_below hb g none) (.inl rfl)); have GW := aM (show w.heap.size ≤ gb by rw [hg]; exact Nat.le_refl _); clear hb hbox hg; obtain ⟨sc0, sc1, sc2, sc3, sc4, sf0, sf1, sf2, sf3, sf4⟩ := b5 HS.out.blk; obtain ⟨gbk0, gbk1, gbk2, gbk3, gbk4, gbk5, gbk6, gbm0, gbm1, gbm2, gbm3, gbm4, gbm5, gbm6⟩ := b7 BKgb; have nqgb := NEgb.out; have nrgb := NFgb.out) | (go_at_call 122; (with_reducible refine (pairT_calls hC (stC HS) h0 _ h1).mono ?_); rintro x' w2 ⟨v, rfl, rfl, hs2, hk2⟩; have NX := aM (Nat.ne_of_gt (blk_lt hs2.blk)); replace HS := aM (hs2.alloc (.cells (ent7 x (.slice none 0 0) (.slice none 0 0)) 50)); have BK2 := KeepBut.blk hk2 BKgb.out NFgb.out (by simp); have NXB := aM (Nat.ne_of_gt (blk_lt BK2)); replace BKgb := aM (blk_alloc BK2 (.cells (ent7 x (.slice none 0 0) (.slice none 0 0)) 50)); replace HK := aM (KeepBut.trans HK.out hk2 (.inl rfl)); have HW := aM (keep_size HK.out); replace HK := aM (keepA (o := (.cells (ent7 x (.slice none 0 0) (.slice none 0 0)) 50)) HK.out); have BX := aM (blk_new w2 (.cells (ent7 x (.slice none 0 0) (.slice none 0 0)) 50)); have HW0 := aM (below_size hs2.below); obtain ⟨xk0, xk1, xk2, xk3, xk4, xk5, xk6, xm0, xm1, xm2, xm3, xm4, xm5, xm6⟩ := b7 BX; clear hs2 hk2 BK2) | (go_at_call 83; (with_reducible refine (peek_calls hC (stC HS) hi0).mono ?_); rintro x' wp ⟨rfl, hbp⟩; replace HS := stQ HS hbp; replace HK := keepQ HK hbp; replace BX := kK2 BX hbp; replace BKgb := kK2 BKgb hbp; clear xk0 xk1 xk2 xk3 xk4 xk5 xk6 xm0 xm1 xm2 xm3 xm4 xm5 xm6; obtain ⟨xk0, xk1, xk2, xk3, xk4, xk5, xk6, xm0, xm1, xm2, xm3, xm4, xm5, xm6⟩ := b7 BX; clear hbp) | (go_at_call 127; (with_reducible refine (units_calls hC (stC HS) hi0 _ h2).mono ?_); rintro x' w3 ⟨v, rfl, ⟨vu, rfl, hr3⟩, hs3, hk3⟩; obtain ⟨Au, cu, hvu⟩ := Kd.R_slice hr3; subst hvu; obtain ⟨ad, hA, hxl⟩ := Kd.at_int (Kd.R_reads' hr3).2.2 (((u.1.length : Nat) : Int) - 1) (by omega) (by omega); subst hA; rw [show (((u.1.length : Nat) : Int) - 1).toNat = u.1.length - 1 by omega] at hxl; have HR := aM (Kd.R_mono (ok' := fun k => w.heap.size ≤ k) (Kd.R_lower hr3 (below_size HS.out.below)) (fun k hk => Nat.le_trans (keep_size HK.out) hk)); replace BX := aM (KeepBut.blk hk3 BX.out NX.out (by simp)); replace BKgb := aM (KeepBut.blk hk3 BKgb.out NFgb.out (by simp)); replace HS := aM hs3; replace HK := aM (KeepBut.trans HK.out hk3 (.inl rfl)); clear xk0 xk1 xk2 xk3 xk4 xk5 xk6 xm0 xm1 xm2 xm3 xm4 xm5 xm6; clear gbk0 gbk1 gbk2 gbk3 gbk4 gbk5 gbk6 gbm0 gbm1 gbm2 gbm3 gbm4 gbm5 gbm6; obtain ⟨xk0, xk1, xk2, xk3, xk4, xk5, xk6, xm0, xm1, xm2, xm3, xm4, xm5, xm6⟩ := b7 BX; obtain ⟨gbk0, gbk1, gbk2, gbk3, gbk4, gbk5, gbk6, gbm0, gbm1, gbm2, gbm3, gbm4, gbm5, gbm6⟩ := b7 BKgb; have n1 := NXB.out; have n2 := Ne.symm NXB.out; clear hs3 hk3 hr3))
   have e2 : i + 2 + 1 = i + 3 := by omega
   have HB := aM HS.out.below
   have HB2 := aM HS.out.blk
   have GE := aM HS.out.ge
   have NX2 := aM (Ne.symm NX.out)
   have n3 := aM n1
   have n4 := aM n2
   have GX := aM (show w0.heap.size ≤ w2.heap.size from HW0.out)
   have GY := aM (show w.heap.size ≤ w2.heap.size from HW.out)
   refine bodyPost_ret (results_cell_row rfl _ _ gb 50 #[.int .i64 x.f0.f0, .int .i64 x.f0.f1, .int .i64 x.f1.f0, .int .i64 x.f1.f1, .int .i64 x.f2, .slice (some ad) u.1.length cu, .slice none 0 0] (0, 0) _ rfl kQ Tryz.underlying50 rfl (by kernel_rfl)) rfl ?_
   refine ⟨_, rfl, ⟨_, rfl, ?_⟩, ⟨bQ, GE.out, e2 ▸ kQ⟩, kpQ⟩
   have hz : (w3.setCell ⟨w2.heap.size, 5, none⟩ (.slice (some ad) u.1.length cu)).heap[gb]? = some (.cells #[.int .i64 0, .int .i64 0, .int .i64 0, .int .i64 0, .int .i64 0, .slice none 0 0, .slice none 0 0] 50 (0, 0)) := kQ
   have h1 := R_keepT HR.out BX.out (by decide) (KeepBut.set_ (KeepBut.refl w3 w2.heap.size none) 5 (.slice (some ad) u.1.length cu))
   have h2 := R_keepT h1 hz (by decide) (KeepBut.set_ (KeepBut.set_ (KeepBut.set_ (KeepBut.set_ (KeepBut.set_ (KeepBut.set_ (KeepBut.set_ (KeepBut.refl _ gb none) 0 (.int .i64 x.f0.f0)) 1 (.int .i64 x.f0.f1)) 2 (.int .i64 x.f1.f0)) 3 (.int .i64 x.f1.f1)) 4 (.int .i64 x.f2)) 5 (.slice (some ad) u.1.length cu)) 6 (.slice none 0 0))
   exact k50_mkM _ _ _ (⟨x.f0, x.f1, x.f2, u.1, []⟩ : S50) h2 (Kd.R_nil _ _ _ _ _)
end
end Go.Proofs.YtjplnhdplpiogaaGreatDoor.M
end
section
namespace Go.Proofs.YtjplnhdplpiogaaGreatDoor.M
open Go.RowKit Go.Proofs.YtjplnhdplpiogaaGreatDoorW.PrintWords Go.Proofs.YtjplnhdplpiogaaGreatDoorW.PrintLast Go.Proofs.YtjplnhdplpiogaaGreatDoorW.PrintMore
set_option linter.unusedVariables false
set_option linter.unusedSimpArgs false
set_option maxRecDepth 100000
set_option maxHeartbeats 8000000
/-- An entry of a section, and where the next one begins. -/
def nxX (n : Int) (x : Ex S50) : Ex (S50 × Int) := bX x fun a => some (.ok (a, n))
def entG (kind : Int) (L : List S40) (e i : Int) : Ex (S50 × Int) :=
 if kind = 2 then nxX (i + 2) (spaceF L e i) else if kind = 3 then nxX (i + 3) (cidRangeF L e i) else if kind = 5 then nxX (i + 3) (notRangeF L e i) else if kind = 7 then bfRangeF L e i else if kind = 8 then nxX (i + 2) (bfCharF L e i) else nxX (i + 2) (toCharF L e i)
theorem nxX_out {n : Int} {x : Ex S50} {r : Except (Int × Int) (S50 × Int)} (h : nxX n x = some r) : (∃ p, x = some (.error p) ∧ r = .error p) ∨ ∃ a, x = some (.ok a) ∧ r = .ok (a, n) := by
 obtain ⟨p, h1, h2⟩ | ⟨a, h1, h2⟩ := bX_ok h
 ·exact .inl ⟨p, h1, h2⟩
 ·exact .inr ⟨a, h1, (Option.some.inj h2).symm⟩
section
variable {w0 w : World} {g : Nat} {A : Option Addr} {c : Nat} {L : List S40} {i e : Int} {ov iv : Value}
/-- What an entry's function leaves behind. -/
abbrev EntOut (w0 w : World) (g : Nat) (A : Option Addr) (c : Nat) (L : List S40) (e : Int) (ov iv : Value) (r : Except (Int × Int) (S50 × Int)) (x : Ending) (w' : World) : Prop :=
 Out w0 w g A c L e ov iv (fun w' (t : S50 × Int) v => ∃ A5 c5 A6 c6, v = .agg (ent7 t.1 (.slice A5 t.1.f3.length c5) (.slice A6 t.1.f4.length c6)) ∧ (Kd.int .i64).R 3 w' w0.heap.size (fun k => w.heap.size ≤ k) (.slice A5 t.1.f3.length c5) t.1.f3 ∧ (Kd.slice 3 (Kd.int .i64)).R 47 w' w0.heap.size (fun k => w.heap.size ≤ k) (.slice A6 t.1.f4.length c6) t.1.f4) (fun t => t.2) r x w'
theorem ent_open {W : World} {base : Nat} {ok : Nat → Prop} {x : S50} {cs : Array Value} (h : k50.M W base ok x cs.toList) : ∃ A5 c5 A6 c6, Value.agg cs = .agg (ent7 x (.slice A5 x.f3.length c5) (.slice A6 x.f4.length c6)) ∧ (Kd.int .i64).R 3 W base ok (.slice A5 x.f3.length c5) x.f3 ∧ (Kd.slice 3 (Kd.int .i64)).R 47 W base ok (.slice A6 x.f4.length c6) x.f4 := by
 obtain ⟨v5, v6, hcs, h5, h6⟩ := k50_openM h
 obtain ⟨A5, c5, rfl⟩ := Kd.R_slice h5
 obtain ⟨A6, c6, rfl⟩ := Kd.R_slice h6
 refine ⟨A5, c5, A6, c6, ?_, h5, h6⟩
 have : cs = ent7 x (.slice A5 x.f3.length c5) (.slice A6 x.f4.length c6) := by
  cases cs
  exact congrArg Array.mk hcs
 rw [this]
theorem out_ent {n : Int} {r : Except (Int × Int) S50} {r' : Except (Int × Int) (S50 × Int)} (hr : (∃ p, r = .error p ∧ r' = .error p) ∨ ∃ a, r = .ok a ∧ r' = .ok (a, n)) {x : Ending} {w' : World} (h : Out w0 w g A c L e ov iv (fun w' t v => ∃ cs, v = .agg cs ∧ k50.M w' w0.heap.size (fun k => w.heap.size ≤ k) t cs.toList) (fun _ => n) r x w') : EntOut w0 w g A c L e ov iv r' x w' := by
 obtain ⟨p, rfl, rfl⟩ | ⟨a, rfl, rfl⟩ := hr
 ·exact h
 ·obtain ⟨v, rfl, ⟨cs, rfl, hm⟩, hs, hk⟩ := h
  obtain ⟨A5, c5, A6, c6, h1, h2, h3⟩ := ent_open hm
  exact ⟨_, rfl, ⟨A5, c5, A6, c6, h1, h2, h3⟩, hs, hk⟩
theorem ent_calls (hC : Kd.C k40 w0 A L.length L) (hS : St w0 w g A c L i e ov iv) (h0 : 0 ≤ i) (kind : Int) (hkk : kind = 2 ∨ kind = 3 ∨ kind = 4 ∨ kind = 5 ∨ kind = 6 ∨ kind = 7 ∨ kind = 8) (r : Except (Int × Int) (S50 × Int)) (h : entG kind L e i = some r) :
  Calls Tryz.prog (entryFn kind) #[.pointer (some ⟨g, 0, none⟩)] w (EntOut w0 w g A c L e ov iv r) := by
 have go : ∀ {n : Int} {x : Ex S50}, nxX n x = some r → ∃ q, x = some q ∧ ((∃ p, q = .error p ∧ r = .error p) ∨ ∃ a, q = .ok a ∧ r = .ok (a, n)) := fun hx => by
  obtain ⟨p, h1, h2⟩ | ⟨a, h1, h2⟩ := nxX_out hx
  ·exact ⟨_, h1, .inl ⟨p, rfl, h2⟩⟩
  ·exact ⟨_, h1, .inr ⟨a, rfl, h2⟩⟩
 rcases hkk with rfl | rfl | rfl | rfl | rfl | rfl | rfl
 ·obtain ⟨q, hq, ho⟩ := go (show nxX (i + 2) (spaceF L e i) = some r from h)
  exact (space_calls hC hS h0 q hq).mono fun x w' hx => out_ent ho hx
 ·obtain ⟨q, hq, ho⟩ := go (show nxX (i + 3) (cidRangeF L e i) = some r from h)
  exact (cidRange_calls hC hS h0 q hq).mono fun x w' hx => out_ent ho hx
 ·obtain ⟨q, hq, ho⟩ := go (show nxX (i + 2) (toCharF L e i) = some r from h)
  exact (toChar_calls hC hS h0 q hq).mono fun x w' hx => out_ent ho hx
 ·obtain ⟨q, hq, ho⟩ := go (show nxX (i + 3) (notRangeF L e i) = some r from h)
  exact (notRange_calls hC hS h0 q hq).mono fun x w' hx => out_ent ho hx
 ·obtain ⟨q, hq, ho⟩ := go (show nxX (i + 2) (toCharF L e i) = some r from h)
  exact (toChar_calls hC hS h0 q hq).mono fun x w' hx => out_ent ho hx
 ·refine (bfRange_calls hC hS h0 r h).mono fun x w' hx => ?_
  match r, hx with
  | .error p, hx => exact hx
  | .ok a, hx =>
   obtain ⟨v, rfl, ⟨cs, rfl, hm⟩, hs, hk⟩ := hx
   obtain ⟨A5, c5, A6, c6, h1, h2, h3⟩ := ent_open hm
   exact ⟨_, rfl, ⟨A5, c5, A6, c6, h1, h2, h3⟩, hs, hk⟩
 ·obtain ⟨q, hq, ho⟩ := go (show nxX (i + 2) (bfCharF L e i) = some r from h)
  exact (bfChar_calls hC hS h0 q hq).mono fun x w' hx => out_ent ho hx
theorem cf_entry (kind : Int) (hkk : kind = 2 ∨ kind = 3 ∨ kind = 4 ∨ kind = 5 ∨ kind = 6 ∨ kind = 7 ∨ kind = 8) (args : Array Value) (W : World) : Sem.run Tryz.prog (callFunc (entryFn kind) args) W = .ok (.enter (entryFn kind) args) W := by
 rcases hkk with rfl | rfl | rfl | rfl | rfl | rfl | rfl <;> rfl
end
end Go.Proofs.YtjplnhdplpiogaaGreatDoor.M
end
section
namespace Go.Proofs.YtjplnhdplpiogaaGreatDoor.M
open Go.RowKit Go.Proofs.YtjplnhdplpiogaaGreatDoorW.PrintWords Go.Proofs.YtjplnhdplpiogaaGreatDoorW.PrintLast Go.Proofs.YtjplnhdplpiogaaGreatDoorW.PrintMore
set_option linter.unusedVariables false
set_option linter.unusedSimpArgs false
set_option maxRecDepth 100000
set_option maxHeartbeats 8000000
/-- The entries of a section, and where it ends. -/
def secL (kind : Int) (L : List S40) (e : Int) : Nat → Int → List S50 → Ex (List S50 × Int)
 | 0, _, _ => none
 | k + 1, i, es => if (peekF L i e).f0 = 3 ∧ (peekF L i e).f3.toList = (endOf kind).toList then some (.ok (es, i))
   else if es.length < 1000000 then bX (entG kind L e i) fun x => secL kind L e k x.2 (es ++ [x.1]) else none
def sectionF (kind : Int) (L : List S40) (e i n : Int) : Ex (List S50 × Int) :=
 bX (secL kind L e (L.length + 2) i []) fun r => if (r.1.length : Int) = n then some (.ok (r.1, r.2 + 1)) else some (.error ((peekF L r.2 e).f1, 6))
/-- What a section, or a word, leaves behind: the next place, and the items. -/
def ItOut (w0 w : World) (g : Nat) (A : Option Addr) (c : Nat) (L : List S40) (e : Int) (ov iv : Value) : Except (Int × Int) (Int × List S43) → Ending → World → Prop
 | .error p, x, w' => x = .panicked [wrongE p.1 p.2 false] ∧ KeepBut w w' g none ∧ Below w0.heap.size w0 w'
 | .ok q, x, w' => x = .returned (.tuple #[]) ∧ ∃ iv', St w0 w' g A c L q.1 e ov iv' ∧ k43.R 43 w' w0.heap.size (fun k => some k ≠ ov.ownBlock) iv' q.2 ∧ KeepBut w w' g iv.ownBlock ∧ (iv'.ownBlock = iv.ownBlock ∨ ∃ b, iv'.ownBlock = some b ∧ w.heap.size ≤ b)
def secR (kind at' : Int) (its : List S43) : Except (Int × Int) (List S50 × Int) → Except (Int × Int) (Int × List S43)
 | .error p => .error p
 | .ok q => .ok (q.2, its ++ [⟨kind, at', (⟨#[]⟩ : ByteArray), z40, q.1⟩])
theorem entG_pos {L : List S40} {kind e i : Int} {x : S50 × Int} (h0 : 0 ≤ i) (h : entG kind L e i = some (.ok x)) : 0 ≤ x.2 := by
 have go : ∀ {n : Int} {y : Ex S50}, 0 ≤ n → nxX n y = some (.ok x) → 0 ≤ x.2 := fun hn hx => by
  obtain ⟨p, h1, h2⟩ | ⟨a, h1, h2⟩ := nxX_out hx
  ·cases h2
  ·injection h2 with h2; rw [h2]; exact hn
 unfold entG at h
 split at h
 ·exact go (by omega) h
 split at h
 ·exact go (by omega) h
 split at h
 ·exact go (by omega) h
 split at h
 ·unfold bfRangeF at h
  obtain ⟨p, h1, h2⟩ | ⟨a, h1, h⟩ := bX_ok h
  ·cases h2
  split at h
  ·obtain ⟨p, h1, h2⟩ | ⟨b, h1, h⟩ := bX_ok h
   ·cases h2
   injection h with h; injection h with h
   rw [← h]
   unfold listF at h1
   obtain ⟨p, h1, h2⟩ | ⟨d, h1, h2⟩ := bX_ok h1
   ·cases h2
   obtain ⟨p, h3, h4⟩ | ⟨f, h3, h4⟩ := bX_ok h2
   ·cases h4
   split at h4
   ·injection h4 with h4; injection h4 with h4
    rw [← h4]
    have : ∀ (k : Nat) (j : Int) (o : List (List Int)), 0 ≤ j → listL L e k j o = some (.ok f) → 0 ≤ f.2 := by
     intro k
     induction k with
     | zero => intro j o hj hl; cases hl
     | succ k ih =>
      intro j o hj hl
      rw [listL] at hl
      split at hl
      ·injection hl with hl; injection hl with hl; rw [← hl]; exact hj
      ·split at hl
       ·obtain ⟨p, h5, h6⟩ | ⟨u, h5, h6⟩ := bX_ok hl
        ·cases h6
        ·exact ih _ _ (by omega) h6
       ·cases hl
    have := this _ _ _ (by omega) h3
    show 0 ≤ f.2 + 1
    omega
   ·injection h4 with h4; cases h4
  ·obtain ⟨p, h1, h2⟩ | ⟨b, h1, h⟩ := bX_ok h
   ·cases h2
   split at h
   ·injection h with h; cases h
   ·injection h with h; injection h with h; rw [← h]; show 0 ≤ i + 3; omega
 split at h
 ·exact go (by omega) h
 ·exact go (by omega) h
section
variable {w0 w : World} {g : Nat} {A : Option Addr} {c : Nat} {L : List S40} {i e : Int} {ov iv : Value}
theorem section_calls (hC : Kd.C k40 w0 A L.length L) (hS : St w0 w g A c L i e ov iv) (h0 : 0 ≤ i) (kind at' n : Int) (hkk : kind = 2 ∨ kind = 3 ∨ kind = 4 ∨ kind = 5 ∨ kind = 6 ∨ kind = 7 ∨ kind = 8) (r : Except (Int × Int) (List S50 × Int)) (h : sectionF kind L e i n = some r) (its : List S43) (hI : k43.R 43 w w0.heap.size (fun k => some k ≠ ov.ownBlock) iv its) (hlen : its.length < 1000000) (hO : ∀ b, ov.ownBlock = some b → b < w.heap.size) :
  Calls Tryz.prog 57 #[.pointer (some ⟨g, 0, none⟩), .int .i64 kind, .int .i64 at', .int .i64 n] w (ItOut w0 w g A c L e ov iv (secR kind at' its r)) := by
 obtain ⟨Ai, ci, hiv⟩ := Kd.R_slice hI
 have HIV := aM hiv
 clear hiv
 have hL : (L.length : Int) ≤ 9223372036854775807 := by have := Kd.C_max hC; omega
 have hu40 := Tryz.underlying40
 have hu43 := Tryz.underlying43
 have hu50 := Tryz.underlying50
 have hu58 := Tryz.underlying58
 have hix := index_names kind hkk
 have hf0 : ∀ (a b c : Int) (s : ByteArray) (W : World), (Instr.field 40 (.agg #[.int .i64 a, .int .i64 b, .int .i64 c, .string s]) 0).run Tryz.prog W = .ok (.int .i64 a) W := fun _ _ _ _ _ => rfl
 have hf1 : ∀ (a b c : Int) (s : ByteArray) (W : World), (Instr.field 40 (.agg #[.int .i64 a, .int .i64 b, .int .i64 c, .string s]) 1).run Tryz.prog W = .ok (.int .i64 b) W := fun _ _ _ _ _ => rfl
 have hcat : ∀ w : World, (Op.stringOp .add (⟨#[101, 110, 100]⟩ : ByteArray) (nameOf kind)).run Tryz.prog w = .ok (.string ((⟨#[101, 110, 100]⟩ : ByteArray) ++ nameOf kind)) w := fun w => run_string_add_sum w _ _ (by rcases hkk with rfl | rfl | rfl | rfl | rfl | rfl | rfl <;> decide)
 have hb : Below w.heap.size w (w.alloc (.cells #[.int .i64 kind, .int .i64 at', .string (⟨#[]⟩ : ByteArray), .int .i64 0, .int .i64 0, .int .i64 0, .string (⟨#[]⟩ : ByteArray), .slice none 0 0] 43)) := below_alloc (Below.refl _ _) _
 obtain ⟨rr, hrr, hfin⟩ : ∃ rr, secL kind L e (L.length + 2) i [] = some rr ∧ (match rr with | .error p => r = .error p | .ok q => (if (q.1.length : Int) = n then some (.ok (q.1, q.2 + 1)) else some (.error ((peekF L q.2 e).f1, 6))) = some r) := by
  unfold sectionF at h
  obtain ⟨p, h1, h2⟩ | ⟨q, h1, h2⟩ := bX_ok h
  ·exact ⟨_, h1, h2⟩
  ·exact ⟨_, h1, h2⟩
 have hcf := cf_entry kind hkk
 obtain ⟨fn, hfn⟩ : ∃ fn, entryFn kind = fn := ⟨_, rfl⟩
 have hent := fun {W : World} {j : Int} (hs : St w0 W g A c L j e ov iv) (hj : 0 ≤ j) (q : Except (Int × Int) (S50 × Int)) (hq : entG kind L e j = some q) => ent_calls hC hs hj kind hkk q hq
 have hev : ∀ W, Calls Tryz.prog 82 #[.pointer (some ⟨g, 0, none⟩), .int .i64 kind] W fun e w' => e = .returned (.func (.func fn) #[.pointer (some ⟨g, 0, none⟩)] #[]) ∧ w' = W := fun W => hfn ▸ entry_calls _ _ hkk W
 rw [hfn] at hcf hent
 have hS0 := aM hS.blk
 have hIlt := aM (Kd.R_lt hI)
 have GX0 := aM hS.below.size
 have HS := aM (hS.of_below hb)
 have BX := aM (blk_new w (.cells #[.int .i64 kind, .int .i64 at', .string (⟨#[]⟩ : ByteArray), .int .i64 0, .int .i64 0, .int .i64 0, .string (⟨#[]⟩ : ByteArray), .slice none 0 0] 43))
 have HK := aM (KeepBut.of_below hb g none)
 have HI := aM hI
 have HF := aM hrr
 have HE := aM hfin
 clear hS hI hb hrr hfin h
 go_enter Tryz.func57, Tryz.ntmps57
 go_upto_region 1 with (fail)
 refine norm_w (F := fun W => St w0 W g A c L i e ov iv ∧ W.heap[w.heap.size]? = some (.cells #[.int .i64 kind, .int .i64 at', .string (⟨#[]⟩ : ByteArray), .int .i64 0, .int .i64 0, .int .i64 0, .string (⟨#[]⟩ : ByteArray), .slice none 0 0] 43 (0, 0)) ∧ KeepBut w W g none) ⟨HS.out, BX.out, HK.out⟩ ?_
 clear HS BX HK
 rintro w1 ⟨hs1, bx1, hk1⟩
 have HS := aM hs1
 have BX := aM bx1
 have HK := aM hk1
 clear hs1 bx1 hk1
 go_cut [9, 10] from 15 to 21 (fun v9 v10 wx => v9 = .string (endOf kind) ∧ v10 = .func (.func fn) #[.pointer (some ⟨g, 0, none⟩)] #[] ∧ Aside0 (St w0 wx g A c L i e ov iv) ∧ Aside0 (wx.heap[w.heap.size]? = some (.cells #[.int .i64 kind, .int .i64 at', .string (⟨#[]⟩ : ByteArray), .int .i64 0, .int .i64 0, .int .i64 0, .string (⟨#[]⟩ : ByteArray), .slice none 0 0] 43 (0, 0))) ∧ Aside0 (KeepBut w wx g none))
 case first =>
  go_region_with (first | (go_at_call 25; refine (names_calls _).mono ?_; rintro x wn ⟨rfl, hbn⟩; replace HS := stQ HS hbn; replace BX := kK BX hbn; replace HK := keepQ HK hbn; clear hbn) | (go_at_call 82; refine (hev _).mono ?_; rintro x wn ⟨rfl, rfl⟩))
  all_goals (go_wp2_with (fail); go_meet; exact ⟨rfl, rfl, HS, BX, HK⟩)
 case rest =>
 clear HS BX HK hev
 obtain ⟨rfl, rfl, HS, BX, HK⟩ := hcut
 go_wp2_with (first | (go_at_call 83; (with_reducible refine (peek_calls hC (stC HS) h0).mono ?_); rintro x wp ⟨rfl, hbp⟩; replace HS := stQ HS hbp; replace BX := kK BX hbp; replace HK := keepQ HK hbp; clear hbp))
 go_loopg [11] (L.length + 2) (fun kq v11 w' => ∃ (jj : Int) (xs : List S50) (gt : Nat) (ev : Value), v11 = .pointer (some ⟨gt, 0, none⟩) ∧ Aside0 (secL kind L e kq jj xs = some rr) ∧ Aside0 (kq ≤ L.length + 2) ∧ Aside0 (0 ≤ jj) ∧ Aside0 (St w0 w' g A c L jj e ov iv) ∧ Aside0 (w'.heap[w.heap.size]? = some (.cells #[.int .i64 kind, .int .i64 at', .string (⟨#[]⟩ : ByteArray), .int .i64 0, .int .i64 0, .int .i64 0, .string (⟨#[]⟩ : ByteArray), ev] 43 (0, 0))) ∧ Aside0 (w'.heap[gt]? = some (.cells (tok4 (peekF L jj e)) 40 (0, 0))) ∧ Aside0 (w.heap.size < gt) ∧ Aside0 (k50.R 50 w' w0.heap.size (fun k => w.heap.size ≤ k) ev xs) ∧ Aside0 (KeepBut w w' g none))
 case atStart => exact ⟨i, [], _, .slice none 0 0, rfl, HF, ⟨Nat.le_refl _⟩, ⟨h0⟩, ⟨stC HS⟩, ⟨kQ⟩, ⟨blk_new _ _⟩, ⟨blk_lt BX.out⟩, ⟨Kd.R_nil _ _ _ _ _⟩, ⟨kpQ⟩⟩
 case round =>
  clear HF HS BX HK
  obtain ⟨jj, xs, gt, ev, rfl, HF, HQ, HJ, HS, BX, BT, HGT, HR, HK⟩ := hrel
  cases gk with
  | zero => exact absurd HF.out (by simp [secL])
  | succ k1 =>
   have hF := HF.out
   have h0j := HJ.out
   clear HF
   rw [secL] at hF
   obtain ⟨Ae, ce, he⟩ := Kd.R_slice HR.out
   subst he
   split at hF
   ·rename_i hend
    obtain rfl := Option.some.inj hF
    have hE := HE.out
    dsimp only at hE
    clear HE hF
    have hin := peek_in (L := L) (i := jj) (e := e) (by rw [hend.1]; decide)
    have hk3 : ((peekF L jj e).f0 != 3) = false := bne_eq_false_iff_eq.mpr hend.1
    have hs3 : ((peekF L jj e).f3.toList != (endOf kind).toList) = false := bne_eq_false_iff_eq.mpr hend.2
    have hs4 : ((peekF L jj e).f3.toList == (endOf kind).toList) = true := beq_iff_eq.mpr hend.2
    have hw : wrap64 (jj + 1) = jj + 1 := by unfold wrap64; omega
    have NG := aM (show w.heap.size ≠ g from Nat.ne_of_gt (by have := blk_lt hS0.out; exact this))
    clear hend
    obtain ⟨xk0, xk1, xk2, xk3, xk4, xk5, xk6, xk7, xm0, xm1, xm2, xm3, xm4, xm5, xm6, xm7⟩ := b8 BX
    obtain ⟨tk0, tk1, tk2, tk3, tm0, tm1, tm2, tm3⟩ := b4 BT
    split at hE
    rotate_left
    ·rename_i hn
     obtain rfl := Option.some.inj hE
     have d1 : (((xs.length : Nat) : Int) != n) = true := bne_iff_ne.mpr hn
     clear hE hn
     go_wp2_with (first | (go_at_call 83; (with_reducible refine (peek_calls hC (stC HS) h0j).mono ?_); rintro x wp ⟨rfl, hbp⟩; replace HK := keepQ HK hbp; replace HS := stQ HS hbp; clear hbp) | (go_at_call 33; (with_reducible refine (fail_calls _ _ _).mono ?_); rintro x wf ⟨rfl, hbf⟩))
     exact ⟨rfl, rfl, KeepBut.trans HK.out (KeepBut.of_below hbf g none) (.inl rfl), below_step HS.out.below hbf⟩
    rename_i hn
    obtain rfl := hn
    obtain rfl := HIV.out
    obtain rfl := Option.some.inj hE
    clear hE
    obtain ⟨sc0, sc1, sc2, sc3, sc4, sf0, sf1, sf2, sf3, sf4⟩ := b5 HS.out.blk
    have ng1 := NG.out
    have ng2 := Ne.symm NG.out
    go_wp2_with (fail)
    have HIr := aM (R_keepT HI.out hS0.out (by decide) HK.out)
    have GE := aM HS.out.ge
    have HB := aM HS.out.below
    have BG := aM HS.out.blk
    have NG2 := aM ng1
    have NG3 := aM ng2
    have HKs := aM (KeepBut.set_ (KeepBut.refl wr g none) 1 (.int .i64 (jj + 1)))
    refine norm_w (F := fun W => St w0 W g A c L (jj + 1) e ov (.slice Ai its.length ci) ∧ W.heap[w.heap.size]? = some (.cells #[.int .i64 kind, .int .i64 at', .string (⟨#[]⟩ : ByteArray), .int .i64 0, .int .i64 0, .int .i64 0, .string (⟨#[]⟩ : ByteArray), .slice Ae xs.length ce] 43 (0, 0)) ∧ k43.R 43 W w0.heap.size (fun k => some k ≠ ov.ownBlock) (.slice Ai its.length ci) its ∧ k50.R 50 W w0.heap.size (fun k => w.heap.size ≤ k) (.slice Ae xs.length ce) xs ∧ KeepBut w W g none) ⟨⟨bQ, HS.out.ge, kQ⟩, kQ, R_keepT HIr.out HS.out.blk (by decide) HKs.out, R_keepT HR.out HS.out.blk (by decide) HKs.out, KeepBut.set_ HK.out 1 _⟩ ?_
    clear HS BX BT HIr HR HK HB BG HKs HI xk0 xk1 xk2 xk3 xk4 xk5 xk6 xk7 xm0 xm1 xm2 xm3 xm4 xm5 xm6 xm7 tk0 tk1 tk2 tk3 tm0 tm1 tm2 tm3 sc0 sc1 sc2 sc3 sc4 sf0 sf1 sf2 sf3 sf4
    rintro w4 ⟨hs4, bx4, hi4, hr4, hk4⟩
    have HS := aM hs4
    have BX := aM bx4
    have HI := aM hi4
    have HR := aM hr4
    have HK := aM hk4
    have HB := aM hs4.below
    have BG := aM hs4.blk
    have hgo := aM (Kd.R_ne hi4 hs4.blk (by decide))
    obtain ⟨sc0, sc1, sc2, sc3, sc4, sf0, sf1, sf2, sf3, sf4⟩ := b5 HS.out.blk
    obtain ⟨xk0, xk1, xk2, xk3, xk4, xk5, xk6, xk7, xm0, xm1, xm2, xm3, xm4, xm5, xm6, xm7⟩ := b8 BX
    have hfr := aM (fun (q : Nat) (hq : w.heap.size ≤ q) => (show some q ≠ ov.ownBlock from fun he => absurd (hO q he.symm) (by omega)))
    have hfi := aM (fun (q : Nat) (hq : w.heap.size ≤ q) => (show some q ≠ (Value.slice Ai its.length ci).ownBlock from fun he => absurd (hIlt.out q he.symm) (by omega)))
    clear hs4 bx4 hi4 hr4 hk4
    have ax0 := al_cell0 (.cells #[.int .i64 kind, .int .i64 at', .string (⟨#[]⟩ : ByteArray), .int .i64 0, .int .i64 0, .int .i64 0, .string (⟨#[]⟩ : ByteArray), .slice Ae xs.length ce] 43) xk0
    have ax1 := al_cell0 (.cells #[.int .i64 kind, .int .i64 at', .string (⟨#[]⟩ : ByteArray), .int .i64 0, .int .i64 0, .int .i64 0, .string (⟨#[]⟩ : ByteArray), .slice Ae xs.length ce] 43) xk1
    have ax2 := al_cell0 (.cells #[.int .i64 kind, .int .i64 at', .string (⟨#[]⟩ : ByteArray), .int .i64 0, .int .i64 0, .int .i64 0, .string (⟨#[]⟩ : ByteArray), .slice Ae xs.length ce] 43) xk2
    have ax3 := al_cell0 (.cells #[.int .i64 kind, .int .i64 at', .string (⟨#[]⟩ : ByteArray), .int .i64 0, .int .i64 0, .int .i64 0, .string (⟨#[]⟩ : ByteArray), .slice Ae xs.length ce] 43) xk3
    have ax4 := al_cell0 (.cells #[.int .i64 kind, .int .i64 at', .string (⟨#[]⟩ : ByteArray), .int .i64 0, .int .i64 0, .int .i64 0, .string (⟨#[]⟩ : ByteArray), .slice Ae xs.length ce] 43) xk4
    have ax5 := al_cell0 (.cells #[.int .i64 kind, .int .i64 at', .string (⟨#[]⟩ : ByteArray), .int .i64 0, .int .i64 0, .int .i64 0, .string (⟨#[]⟩ : ByteArray), .slice Ae xs.length ce] 43) xk5
    have ax6 := al_cell0 (.cells #[.int .i64 kind, .int .i64 at', .string (⟨#[]⟩ : ByteArray), .int .i64 0, .int .i64 0, .int .i64 0, .string (⟨#[]⟩ : ByteArray), .slice Ae xs.length ce] 43) xk6
    have ax7 := al_cell0 (.cells #[.int .i64 kind, .int .i64 at', .string (⟨#[]⟩ : ByteArray), .int .i64 0, .int .i64 0, .int .i64 0, .string (⟨#[]⟩ : ByteArray), .slice Ae xs.length ce] 43) xk7
    have as4 := al_cell0 (.cells #[.int .i64 kind, .int .i64 at', .string (⟨#[]⟩ : ByteArray), .int .i64 0, .int .i64 0, .int .i64 0, .string (⟨#[]⟩ : ByteArray), .slice Ae xs.length ce] 43) sc4
    go_region_law (refine Kd.R_append_step k43 (w0 := w0) (W := w4.drew) w0.heap.size (by rfl) (.tmp 63) (.tmp 65) 25 43 (.agg #[.int .i64 0, .int .i64 0, .string (⟨#[]⟩ : ByteArray), .int .i64 0, .int .i64 0, .int .i64 0, .string (⟨#[]⟩ : ByteArray), .slice none 0 0]) 96 rfl Tryz.underlying25 info43 rfl (by decide) (by omega) (.slice Ai its.length ci) its (⟨kind, at', (⟨#[]⟩ : ByteArray), z40, xs⟩ : S43) [.int .i64 kind, .int .i64 at', .string (⟨#[]⟩ : ByteArray), .int .i64 0, .int .i64 0, .int .i64 0, .string (⟨#[]⟩ : ByteArray), .slice Ae xs.length ce] (fun k => some k ≠ ov.ownBlock) (fun k => w.heap.size ≤ k) rfl rfl ?aP ?aK ?aF ?aO ?aB ?aS ?aL ?_; (case aP => exact k43_mkM _ _ _ _ (Kd.R_drew HR.out)); (case aK => exact (fun k hk => ⟨hfr.out k hk, hfi.out k hk⟩)); (case aF => exact (fun k hk => hfr.out k (Nat.le_trans HK.out.1 hk))); (case aO => exact Kd.R_drew HI.out); (case aB => exact below_drew1 HB.out); (case aS => exact HB.out.size); (case aL => omega); intro v6 w6 ho6 hb6 hg6 hat6; obtain ⟨A6, m6, e6⟩ := Kd.R_slice ho6; subst e6; have BG6 := aM (blk_grown (blk_drew BG.out) hg6 hgo.out); have HR6 := aM ho6; have HB6 := aM hb6; have HG6 := aM hg6; have HT6 := aM hat6; obtain ⟨yk0, yk1, yk2, yk3, yk4, ym0, ym1, ym2, ym3, ym4⟩ := b5 BG6.out; clear ho6 hb6 hg6 hat6)
    all_goals try go_wp2_with (fail)
    all_goals go_end0
    all_goals (replace HB := HB6; have GE2 := aM HS.out.ge; have HKg := aM (KeepBut.set_ (KeepBut.refl w6 g none) 4 (.slice A6 (its.length + 1) m6)))
    all_goals exact ⟨rfl, .slice A6 (its.length + 1) m6, ⟨bQ, GE2.out, kQ⟩, (by have := R_keepT HR6.out BG6.out (by decide) HKg.out; rw [List.length_append] at this; exact this), KeepBut.set_ (KeepBut.trans (KeepBut.weak HK.out _) (KeepBut.of_grown HG6.out g) (.inl rfl)) 4 _, HT6.out.imp (fun h => (by rw [List.length_append] at h; exact h)) (fun ⟨b, h1, h2⟩ => ⟨b, (by rw [List.length_append] at h1; exact h1), Nat.le_trans HK.out.1 h2⟩)⟩
   ·rename_i hend
    split at hF
    rotate_left
    ·cases hF
    rename_i hcap
    have hge := aM (Kd.R_ne HR.out BX.out (by decide))
    have NG := aM (show w.heap.size ≠ g from Nat.ne_of_gt (by have := blk_lt hS0.out; exact this))
    have NGT := aM (show gt ≠ g from fun hh => by have h1 := BT.out; rw [hh, HS.out.blk] at h1; injection h1 with h1; injection h1 with _ h2; exact absurd h2 (by decide))
    have ALT : ((peekF L jj e).f0 != 3) = true ∨ ((peekF L jj e).f0 != 3) = false ∧ ((peekF L jj e).f3.toList != (endOf kind).toList) = true ∧ ((peekF L jj e).f3.toList == (endOf kind).toList) = false := by
     by_cases hq : (peekF L jj e).f0 = 3
     ·exact .inr ⟨bne_eq_false_iff_eq.mpr hq, bne_iff_ne.mpr (fun h => hend ⟨hq, h⟩), beq_eq_false_iff_ne.mpr (fun h => hend ⟨hq, h⟩)⟩
     ·exact .inl (bne_iff_ne.mpr hq)
    clear hend
    obtain ⟨xk0, xk1, xk2, xk3, xk4, xk5, xk6, xk7, xm0, xm1, xm2, xm3, xm4, xm5, xm6, xm7⟩ := b8 BX
    obtain ⟨tk0, tk1, tk2, tk3, tm0, tm1, tm2, tm3⟩ := b4 BT
    obtain ⟨p, hx, rfl⟩ | ⟨x, hx, hF⟩ := bX_ok hF
    ·have hE := HE.out
     dsimp only at hE
     subst hE
     clear HE hF
     have HX := aM hx
     clear hx
     rcases ALT with hk3 | ⟨hk3, hs3, hs4⟩
     ·go_upto_region 5 with (fail)
      refine wp_region_any (by kernel_rfl) ?_
      (try (change wpAny _ _ _ _ _ _ _ (World.drew _)))
      refine wpAny_take (i := 0) (v := ?v0) rfl (by kernel_rfl) (by kernel_rfl) (by kernel_rfl) (fun _ _ _ h => h) (Or.inl ⟨by rfl, ?y0⟩) ?r0
      case y0 => (intro w; go_simp; (try with_reducible rfl))
      refine wpAny_take (i := 2) (v := ?v2) rfl (by kernel_rfl) (by kernel_rfl) (by kernel_rfl) (fun _ _ _ h => h) (Or.inl ⟨by rfl, ?y2⟩) ?r2
      case y2 => (intro w; go_simp; (try with_reducible rfl))
      refine wpAny_ready (rs := [1, 3]) (by kernel_rfl) (by simp) ?_
      refine AllReady.cons (o := _) rfl (fun K hK => ?_) ?_
      ·go_simp
       refine hK _ _ ?_
       clear hK K
       refine wpAny_ready (rs := [3]) (by kernel_rfl) (by simp) ?_
       refine AllReady.cons (o := _) rfl (fun K hK => ?_) ?_
       ·go_simp
        (with_reducible refine (hent (stC HS) h0j _ HX.out).mono ?_)
        rintro x5 w5 ⟨rfl, hk5, hbe⟩
        exact ⟨rfl, rfl, KeepBut.trans (keep_drew HK.out) hk5 (.inl rfl), hbe⟩
       exact AllReady.nil
      refine AllReady.cons (o := _) rfl (fun K hK => ?_) ?_
      ·go_simp
       (with_reducible refine (hent (stC HS) h0j _ HX.out).mono ?_)
       rintro x5 w5 ⟨rfl, hk5, hbe⟩
       exact ⟨rfl, rfl, KeepBut.trans (keep_drew HK.out) hk5 (.inl rfl), hbe⟩
      exact AllReady.nil
     ·go_upto_region 5 with (fail)
      refine wp_region_any (by kernel_rfl) ?_
      (try (change wpAny _ _ _ _ _ _ _ (World.drew _)))
      refine wpAny_take (i := 0) (v := ?v0b) rfl (by kernel_rfl) (by kernel_rfl) (by kernel_rfl) (fun _ _ _ h => h) (Or.inl ⟨by rfl, ?y0b⟩) ?r0b
      case y0b => (intro w; go_simp; (try with_reducible rfl))
      refine wpAny_take (i := 2) (v := ?v2b) rfl (by kernel_rfl) (by kernel_rfl) (by kernel_rfl) (fun _ _ _ h => h) (Or.inl ⟨by rfl, ?y2b⟩) ?r2b
      case y2b => (intro w; go_simp; (try with_reducible rfl))
      refine wpAny_ready (rs := [1, 3]) (by kernel_rfl) (by simp) ?_
      refine AllReady.cons (o := _) rfl (fun K hK => ?_) ?_
      ·go_simp
       refine hK _ _ ?_
       clear hK K
       refine wpAny_ready (rs := [3]) (by kernel_rfl) (by simp) ?_
       refine AllReady.cons (o := _) rfl (fun K hK => ?_) ?_
       ·go_simp
        (with_reducible refine (hent (stC HS) h0j _ HX.out).mono ?_)
        rintro x5 w5 ⟨rfl, hk5, hbe⟩
        exact ⟨rfl, rfl, KeepBut.trans (keep_drew HK.out) hk5 (.inl rfl), hbe⟩
       exact AllReady.nil
      refine AllReady.cons (o := _) rfl (fun K hK => ?_) ?_
      ·go_simp
       (with_reducible refine (hent (stC HS) h0j _ HX.out).mono ?_)
       rintro x5 w5 ⟨rfl, hk5, hbe⟩
       exact ⟨rfl, rfl, KeepBut.trans (keep_drew HK.out) hk5 (.inl rfl), hbe⟩
      exact AllReady.nil
    ·have HF := aM hF
     have HX := aM hx
     clear hx hF
     have hx0 := aM (entG_pos h0j HX.out)
     rcases ALT with hk3 | ⟨hk3, hs3, hs4⟩
     all_goals go_upto_region 5 with (fail)
     all_goals go_region_law (first | (refine Kd.R_append_step k50 (w0 := w0) (W := w5) w0.heap.size (by rfl) (.tmp 36) (.tmp 39) 41 50 (.agg #[.int .i64 0, .int .i64 0, .int .i64 0, .int .i64 0, .int .i64 0, .slice none 0 0, .slice none 0 0]) 88 rfl Tryz.underlying41 info50 rfl (by decide) (by omega) (.slice Ae xs.length ce) xs x.1 [.int .i64 x.1.f0.f0, .int .i64 x.1.f0.f1, .int .i64 x.1.f1.f0, .int .i64 x.1.f1.f1, .int .i64 x.1.f2, .slice A5 x.1.f3.length c5, .slice A6 x.1.f4.length c6] (fun k => w.heap.size ≤ k) (fun k => w.heap.size ≤ k ∧ some k ≠ (Value.slice Ae xs.length ce).ownBlock) rfl rfl ?aP (fun _ hk => hk) ?aF ?aO ?aB ?aS ?aL ?_; (case aP => exact k50_mkM _ _ _ _ HU5.out HU6.out); (case aF => exact (fun k hk => Nat.le_trans HK5.out.1 hk)); (case aO => exact HR5.out); (case aB => exact HS5.out.below); (case aS => exact HS5.out.below.size); (case aL => omega); intro v6 w6 ho6 hb6 hg6 hat6; obtain ⟨A6', m6, e6⟩ := Kd.R_slice ho6; subst e6; have BX6 := aM (blk_grown BX5.out hg6 hge5.out); have BG6 := aM (blk_grown HS5.out.blk hg6 hgg5.out); have BT6 := aM (blk_grown BT5.out hg6 hgt5.out); have HR6 := aM ho6; have HB6 := aM hb6; have HG6 := aM hg6; obtain ⟨yk0, yk1, yk2, yk3, yk4, yk5, yk6, yk7, ym0, ym1, ym2, ym3, ym4, ym5, ym6, ym7⟩ := b8 BX6; clear ho6 hb6 hg6 hat6) | (go_simp; (with_reducible refine (hent (stC HS) h0j _ HX.out).mono ?_); rintro x5 w5 ⟨v, rfl, ⟨A5, c5, A6, c6, rfl, hu5, hu6⟩, hs5, hk5⟩; have HS5 := aM hs5; have BX5 := aM (KeepBut.blk hk5 (blk_drew BX.out) NG.out (by simp)); have BT5 := aM (KeepBut.blk hk5 (blk_drew BT.out) NGT.out (by simp)); have HR5 := aM (R_keepT (Kd.R_drew HR.out) (blk_drew HS.out.blk) (by decide) hk5); have HK5 := aM (KeepBut.trans (keep_drew HK.out) hk5 (.inl rfl)); have HU5 := aM (Kd.R_mono (ok' := fun k => w.heap.size ≤ k ∧ some k ≠ (Value.slice Ae xs.length ce).ownBlock) hu5 (fun k hk => ⟨Nat.le_trans (keep_size HK.out) hk, fun he => absurd (Kd.R_lt HR.out k he.symm) (Nat.not_lt.2 hk)⟩)); have HU6 := aM (Kd.R_mono (ok' := fun k => w.heap.size ≤ k ∧ some k ≠ (Value.slice Ae xs.length ce).ownBlock) hu6 (fun k hk => ⟨Nat.le_trans (keep_size HK.out) hk, fun he => absurd (Kd.R_lt HR.out k he.symm) (Nat.not_lt.2 hk)⟩)); have hge5 := aM (Kd.R_ne HR5.out BX5.out (by decide)); have hgg5 := aM (Kd.R_ne HR5.out HS5.out.blk (by decide)); have hgt5 := aM (Kd.R_ne HR5.out BT5.out (by decide)); obtain ⟨zk0, zk1, zk2, zk3, zk4, zk5, zk6, zk7, zm0, zm1, zm2, zm3, zm4, zm5, zm6, zm7⟩ := b8 BX5; have az7 := al_cell0 (.cells #[.int .i64 x.1.f0.f0, .int .i64 x.1.f0.f1, .int .i64 x.1.f1.f0, .int .i64 x.1.f1.f1, .int .i64 x.1.f2, .slice A5 x.1.f3.length c5, .slice A6 x.1.f4.length c6] 50) zk7; clear hs5 hk5 hu5 hu6))
     all_goals (have HB := HB6; have NGX := aM (Ne.symm NG.out); have NTX := aM (Nat.ne_of_gt HGT.out); have HKs := aM (KeepBut.set_ (KeepBut.refl w6 w.heap.size none) 7 (.slice A6' (xs.length + 1) m6)))
     all_goals refine norm_w (F := fun wx => ∃ ev', St w0 wx g A c L x.2 e ov iv ∧ wx.heap[w.heap.size]? = some (.cells #[.int .i64 kind, .int .i64 at', .string (⟨#[]⟩ : ByteArray), .int .i64 0, .int .i64 0, .int .i64 0, .string (⟨#[]⟩ : ByteArray), ev'] 43 (0, 0)) ∧ wx.heap[gt]? = some (.cells (tok4 (peekF L jj e)) 40 (0, 0)) ∧ k50.R 50 wx w0.heap.size (fun k => w.heap.size ≤ k) ev' (xs ++ [x.1]) ∧ KeepBut w wx g none) ⟨.slice A6' (xs.length + 1) m6, ⟨bQ, HS5.out.ge, kQ⟩, kQ, kQ, (by have := R_keepT HR6.out BX6.out (by decide) HKs.out; rw [List.length_append] at this; exact this), keep_far (KeepBut.trans HK5.out (KeepBut.of_grown HG6.out g) (ownrow HR5.out (fun _ h => h))) (Nat.le_refl _) _⟩ ?_
     all_goals clear HB HB6 HG6 BX6 BG6 BT6 HR6 HKs HS5 BX5 BT5 HR5 HK5 HU5 HU6 hge5 hgg5 hgt5 zk0 zk1 zk2 zk3 zk4 zk5 zk6 zk7 zm0 zm1 zm2 zm3 zm4 zm5 zm6 zm7 yk0 yk1 yk2 yk3 yk4 yk5 yk6 yk7 ym0 ym1 ym2 ym3 ym4 ym5 ym6 ym7 xk0 xk1 xk2 xk3 xk4 xk5 xk6 xk7 xm0 xm1 xm2 xm3 xm4 xm5 xm6 xm7 tk0 tk1 tk2 tk3 tm0 tm1 tm2 tm3 az7 HS BX BT HR HK
     all_goals rintro wc ⟨ev', hsc, bxc, btc, hrc, hkc⟩
     all_goals have BN := aM (blk_new wc (.cells (tok4 (peekF L jj e)) 40))
     all_goals have HS := aM (hsc.alloc (.cells (tok4 (peekF L jj e)) 40))
     all_goals have BX := aM (blk_alloc bxc (.cells (tok4 (peekF L jj e)) 40))
     all_goals have HK := aM (keep_alloc hkc (.cells (tok4 (peekF L jj e)) 40))
     all_goals have HR := aM (Kd.R_alloc hrc (.cells (tok4 (peekF L jj e)) 40))
     all_goals obtain ⟨tk0, tk1, tk2, tk3, tm0, tm1, tm2, tm3⟩ := b4 (aM btc)
     all_goals have HGN := aM (blk_lt bxc)
     all_goals have NGN := aM (Nat.ne_of_lt (blk_lt hsc.blk))
     all_goals have GN0 := aM hsc.below.size
     all_goals have GNw := aM hkc.1
     all_goals clear hsc bxc btc hkc hrc
     all_goals go_wp2_with (first | (go_at_call 83; (with_reducible refine (peek_calls hC (stC HS) hx0.out).mono ?_); rintro x' wp ⟨rfl, hbp⟩; replace HS := stQ HS hbp; replace BX := kK2 BX hbp; replace BN := kK2 BN hbp; replace HK := keepQ HK hbp; replace HR := aM (Kd.R_below HR.out hbp); obtain ⟨nk0, nk1, nk2, nk3, nm0, nm1, nm2, nm3⟩ := b4 BN; clear hbp))
     all_goals go_roundg k1
     all_goals first | (case measure => have := HQ.out; omega) | skip
     all_goals have NXN := aM (Nat.ne_of_lt HGN.out)
     all_goals have HB := aM HS.out.below
     all_goals have BG := aM HS.out.blk
     all_goals (case rel => exact ⟨x.2, _, wc.heap.size, ev', rfl, HF, ⟨by have := HQ.out; omega⟩, hx0, ⟨⟨bQ, HS.out.ge, kQ⟩⟩, ⟨kQ⟩, ⟨kQ⟩, HGN, ⟨R_keepT HR.out BN.out (by decide) (KeepBut.set_ (KeepBut.set_ (KeepBut.set_ (KeepBut.set_ (KeepBut.refl _ _ _) 0 _) 1 _) 2 _) 3 _)⟩, ⟨kpQ⟩⟩)
end
end Go.Proofs.YtjplnhdplpiogaaGreatDoor.M
end
section
namespace Go.Proofs.YtjplnhdplpiogaaGreatDoor.M
open Go.RowKit Go.Proofs.YtjplnhdplpiogaaGreatDoorW.PrintWords Go.Proofs.YtjplnhdplpiogaaGreatDoorW.PrintLast Go.Proofs.YtjplnhdplpiogaaGreatDoorW.PrintMore
set_option linter.unusedVariables false
set_option linter.unusedSimpArgs false
set_option maxRecDepth 100000
set_option maxHeartbeats 8000000
section
variable {w0 w : World} {g : Nat} {A : Option Addr} {c : Nat} {L : List S40} {i e : Int} {ov iv : Value}
theorem val_f (a : S40) : syn_value.f a.f0 a.f1 a.f2 a.f3 = some (decide (a.f0 = 1 ∨ a.f0 = 2 ∨ a.f0 = 5)) := by
 unfold syn_value.f
 by_cases h1 : a.f0 = 1
 ·rw [h1]; rfl
 by_cases h2 : a.f0 = 2
 ·rw [h2]; rfl
 by_cases h5 : a.f0 = 5
 ·rw [h5]; rfl
 rw [decide_eq_false (by omega)]
 simp [h1, h2, h5]
/-- A word whose kind of error is known. -/
theorem word_fail (hC : Kd.C k40 w0 A L.length L) (hS : St w0 w g A c L i e ov iv) (h0 : 0 ≤ i) (hi1 : i < L.length) (t : S40) (its : List S43) (hI : k43.R 43 w w0.heap.size (fun k => some k ≠ ov.ownBlock) iv its) (hlen : its.length < 1000000) (hO : ∀ b, ov.ownBlock = some b → b < w.heap.size) (p : Int × Int) (hp : (t.f3.toList = [117, 115, 101, 99, 109, 97, 112] ∧ (aheadF L i 1).f0 ≠ 2 ∧ p = (t.f1, 3)) ∨ (t.f3.toList ≠ [100, 101, 102] ∧ t.f3.toList ≠ [117, 115, 101, 99, 109, 97, 112] ∧ (begunF t.f3).2 = true ∧ (aheadF L i 1).f0 ≠ 1 ∧ p = (t.f1, 3)) ∨ (t.f3.toList ≠ [100, 101, 102] ∧ t.f3.toList ≠ [117, 115, 101, 99, 109, 97, 112] ∧ (begunF t.f3).2 = true ∧ (aheadF L i 1).f0 = 1 ∧ (aheadF L i 1).f2 < 0 ∧ p = ((aheadF L i 1).f1, 6)) ∨ (t.f3.toList ≠ [100, 101, 102] ∧ t.f3.toList ≠ [117, 115, 101, 99, 109, 97, 112] ∧ (begunF t.f3).2 = true ∧ (aheadF L i 1).f0 = 1 ∧ 0 ≤ (aheadF L i 1).f2 ∧ 100 < (aheadF L i 1).f2 ∧ p = ((aheadF L i 1).f1, 6))) :
  Calls Tryz.prog 31 #[.pointer (some ⟨g, 0, none⟩), .agg (tok4 t)] w (ItOut w0 w g A c L e ov iv (.error p)) := by
 have hu40 := Tryz.underlying40
 have hu43 := Tryz.underlying43
 have hu58 := Tryz.underlying58
 have hL : (L.length : Int) ≤ 9223372036854775807 := by have := Kd.C_max hC; omega
 have hw : wrap64 (i + 1) = i + 1 := by unfold wrap64; omega
 have hS0 := aM hS.blk
 have hS0' := aM hS.below.size
 have hIlt := aM (Kd.R_lt hI)
 obtain ⟨Ai, ci, hiv⟩ := Kd.R_slice hI
 subst hiv
 obtain ⟨kd, bgg, hbg⟩ : ∃ k b, begunF t.f3 = (k, b) := ⟨_, _, rfl⟩
 rw [hbg] at hp
 have hdd : (t.f3.toList == [100, 101, 102]) = false := by
  rcases hp with ⟨h, _⟩ | ⟨h, _⟩ | ⟨h, _⟩ | ⟨h, _⟩
  ·rw [h]; rfl
  ·exact beq_eq_false_iff_ne.mpr h
  ·exact beq_eq_false_iff_ne.mpr h
  ·exact beq_eq_false_iff_ne.mpr h
 have hb : Below w.heap.size w (w.alloc (.cells #[.int .i64 t.f0, .int .i64 t.f1, .int .i64 t.f2, .string t.f3] 40)) := below_alloc (Below.refl _ _) _
 have HS := aM (hS.of_below hb)
 have BT := aM (blk_new w (.cells #[.int .i64 t.f0, .int .i64 t.f1, .int .i64 t.f2, .string t.f3] 40))
 have HK := aM (KeepBut.of_below hb g none)
 have HI := aM hI
 clear hS hI hb
 have hq : ((t.f3.toList == [117, 115, 101, 99, 109, 97, 112]) = true ∧ ((aheadF L i 1).f0 == 2) = false ∧ p = (t.f1, 3)) ∨ ((t.f3.toList == [117, 115, 101, 99, 109, 97, 112]) = false ∧ bgg = true ∧ ((aheadF L i 1).f0 != 1) = true ∧ p = (t.f1, 3)) ∨ ((t.f3.toList == [117, 115, 101, 99, 109, 97, 112]) = false ∧ bgg = true ∧ ((aheadF L i 1).f0 != 1) = false ∧ decide ((aheadF L i 1).f2 < 0) = true ∧ p = ((aheadF L i 1).f1, 6)) ∨ ((t.f3.toList == [117, 115, 101, 99, 109, 97, 112]) = false ∧ bgg = true ∧ ((aheadF L i 1).f0 != 1) = false ∧ decide ((aheadF L i 1).f2 < 0) = false ∧ decide (100 < (aheadF L i 1).f2) = true ∧ p = ((aheadF L i 1).f1, 6)) := by
  rcases hp with ⟨h1, h2, h3⟩ | ⟨-, h2, h3, h4, h5⟩ | ⟨-, h2, h3, h4, h5, h6⟩ | ⟨-, h2, h3, h4, h5, h6, h7⟩
  ·exact .inl ⟨beq_iff_eq.mpr h1, beq_eq_false_iff_ne.mpr h2, h3⟩
  ·exact .inr (.inl ⟨beq_eq_false_iff_ne.mpr h2, h3, bne_iff_ne.mpr h4, h5⟩)
  ·exact .inr (.inr (.inl ⟨beq_eq_false_iff_ne.mpr h2, h3, bne_eq_false_iff_eq.mpr h4, decide_eq_true h5, h6⟩))
  ·exact .inr (.inr (.inr ⟨beq_eq_false_iff_ne.mpr h2, h3, bne_eq_false_iff_eq.mpr h4, decide_eq_false (by omega), decide_eq_true h6, h7⟩))
 clear hp
 rcases hq with ⟨huu, ha2, rfl⟩ | ⟨huu, rfl, ha1, rfl⟩ | ⟨huu, rfl, ha1, ha4, rfl⟩ | ⟨huu, rfl, ha1, ha4, ha5, rfl⟩
 all_goals
  go_enter Tryz.func31, Tryz.ntmps31
  go_wp2_with (first | (go_at_call 54; (with_reducible refine (ahead_calls hC (stC HS) 1 (by decide) h0 hi1).mono ?_); rintro x wp1 ⟨rfl, hbp⟩; replace HS := stQ HS hbp; replace BT := kK2 BT hbp; replace HK := keepQ HK hbp; clear hbp) | (go_at_call 54; (with_reducible refine (ahead_calls hC (stC HS) 2 (by decide) h0 hi1).mono ?_); rintro x wp2 ⟨rfl, hbp⟩; replace HS := stQ HS hbp; replace BT := kK2 BT hbp; replace HK := keepQ HK hbp; clear hbp) | ((with_reducible refine gD 4 ?_); refine bE 4 (cs := #[.int .i64 0, .int .i64 0, .int .i64 0, .string (⟨#[]⟩ : ByteArray)]) (t := 40) ?_; intro ga hg wga hbox hb; have Nga := aM (show g ≠ ga by rw [hg]; exact Nat.ne_of_lt (blk_lt (stC HS).blk)); have Tga := aM (show w.heap.size < ga by rw [hg]; exact blk_lt (stB BT)); replace BT := kK2 BT hb; have BA := aM hbox; replace HS := stQ HS hb; replace HK := keepQ HK hb; clear hb hbox hg) | ((with_reducible refine gD 5 ?_); refine bE 5 (cs := #[.int .i64 0, .int .i64 0, .int .i64 0, .string (⟨#[]⟩ : ByteArray)]) (t := 40) ?_; intro gb hg wgb hbox hb; have Ngb := aM (show g ≠ gb by rw [hg]; exact Nat.ne_of_lt (blk_lt (stC HS).blk)); have Tgb := aM (show w.heap.size < gb by rw [hg]; exact blk_lt (stB BT)); have NAB := aM (show ga ≠ gb by rw [hg]; exact Nat.ne_of_lt (blk_lt (stB BA))); replace BA := kK2 BA hb; replace BT := kK2 BT hb; have BB := aM hbox; replace HS := stQ HS hb; replace HK := keepQ HK hb; clear hb hbox hg; obtain ⟨ak0, ak1, ak2, ak3, am0, am1, am2, am3⟩ := b4 BA; obtain ⟨bk0, bk1, bk2, bk3, bm0, bm1, bm2, bm3⟩ := b4 BB; obtain ⟨tk0, tk1, tk2, tk3, tm0, tm1, tm2, tm3⟩ := b4 BT; have q1 := NAB.out; have q2 := Ne.symm NAB.out; have q3 := Nat.ne_of_lt Tga.out; have q4 := Ne.symm q3; have q5 := Nat.ne_of_lt Tgb.out; have q6 := Ne.symm q5))
  have NA := aM (Ne.symm Nga.out)
  have NB2 := aM (Ne.symm Ngb.out)
  have NAB2 := aM q2
  have NTA := aM q3
  have NTB := aM q5
  have NTA2 := aM q4
  have NTB2 := aM q6
  have GA := aM (Nat.le_trans HS.out.below.size (Nat.le_refl _))
  have Ga := aM (show w0.heap.size ≤ ga from Nat.le_trans hS0'.out (Nat.le_of_lt Tga.out))
  have Gb := aM (show w0.heap.size ≤ gb from Nat.le_trans hS0'.out (Nat.le_of_lt Tgb.out))
  have Gwa := aM (Nat.le_of_lt Tga.out)
  have Gwb := aM (Nat.le_of_lt Tgb.out)
  have HB := aM HS.out.below
  have BG := aM HS.out.blk
  refine norm_c (F := fun W => St w0 W g A c L i e ov (.slice Ai its.length ci) ∧ W.heap[w.heap.size]? = some (.cells #[.int .i64 t.f0, .int .i64 t.f1, .int .i64 t.f2, .string t.f3] 40 (0, 0)) ∧ W.heap[ga]? = some (.cells #[.int .i64 (aheadF L i 1).f0, .int .i64 (aheadF L i 1).f1, .int .i64 (aheadF L i 1).f2, .string (aheadF L i 1).f3] 40 (0, 0)) ∧ W.heap[gb]? = some (.cells #[.int .i64 (aheadF L i 2).f0, .int .i64 (aheadF L i 2).f1, .int .i64 (aheadF L i 2).f2, .string (aheadF L i 2).f3] 40 (0, 0)) ∧ KeepBut w W g none) ⟨⟨bQ, HS.out.ge, kQ⟩, kQ, kQ, kQ, kpQ⟩ ?_
  clear HS BT BA BB HK HB BG ak0 ak1 ak2 ak3 am0 am1 am2 am3 bk0 bk1 bk2 bk3 bm0 bm1 bm2 bm3 tk0 tk1 tk2 tk3 tm0 tm1 tm2 tm3
  rintro w3 ⟨hs3, bt3, ba3, bb3, hk3⟩
  have HS := aM hs3
  have BT := aM bt3
  have BA := aM ba3
  have BB := aM bb3
  have HK := aM hk3
  clear hs3 bt3 ba3 bb3 hk3
  (with_reducible refine (begun_calls _ _).mono ?_)
  rintro x w5 ⟨rfl, hbp⟩
  replace HS := stQ HS hbp
  replace BT := kK2 BT hbp
  replace BA := kK2 BA hbp
  replace BB := kK2 BB hbp
  replace HK := keepQ HK hbp
  clear hbp
  rw [hbg]
  obtain ⟨sc0, sc1, sc2, sc3, sc4, sf0, sf1, sf2, sf3, sf4⟩ := b5 HS.out.blk
  obtain ⟨ak0, ak1, ak2, ak3, am0, am1, am2, am3⟩ := b4 BA
  obtain ⟨bk0, bk1, bk2, bk3, bm0, bm1, bm2, bm3⟩ := b4 BB
  obtain ⟨tk0, tk1, tk2, tk3, tm0, tm1, tm2, tm3⟩ := b4 BT
  have q7 := Nga.out
  have q8 := Ngb.out
  have q9 := NA.out
  have q10 := NB2.out
  have NTG := aM (show w.heap.size ≠ g from Nat.ne_of_gt (by have := blk_lt hS0.out; exact this))
  have q11 := NTG.out
  have q12 := Ne.symm NTG.out
  go_wp2_with (first | (go_at_call 33; (with_reducible refine (fail_calls _ _ _).mono ?_); rintro x wf ⟨rfl, hbf⟩))
  have HB := aM HS.out.below
  have GE := aM HS.out.ge
  have hz : Below w0.heap.size w0 (w5.setCell ⟨g, 1, none⟩ (.int .i64 (i + 1))) := bQ
  exact ⟨rfl, rfl, KeepBut.trans (KeepBut.set_ HK.out 1 _) (KeepBut.of_below hbf g none) (.inl rfl), below_step hz hbf⟩
/-- A word that does nothing. -/
theorem word_none (hC : Kd.C k40 w0 A L.length L) (hS : St w0 w g A c L i e ov iv) (h0 : 0 ≤ i) (hi1 : i < L.length) (t : S40) (its : List S43) (hI : k43.R 43 w w0.heap.size (fun k => some k ≠ ov.ownBlock) iv its) (hlen : its.length < 1000000) (hO : ∀ b, ov.ownBlock = some b → b < w.heap.size) (hp : (t.f3.toList ≠ [100, 101, 102] ∨ (aheadF L i 2).f0 ≠ 2 ∨ ¬ ((aheadF L i 1).f0 = 1 ∨ (aheadF L i 1).f0 = 2 ∨ (aheadF L i 1).f0 = 5)) ∧ t.f3.toList ≠ [117, 115, 101, 99, 109, 97, 112] ∧ (begunF t.f3).2 = false) :
  Calls Tryz.prog 31 #[.pointer (some ⟨g, 0, none⟩), .agg (tok4 t)] w (ItOut w0 w g A c L e ov iv (.ok (i + 1, its))) := by
 have hu40 := Tryz.underlying40
 have hu43 := Tryz.underlying43
 have hu58 := Tryz.underlying58
 have hL : (L.length : Int) ≤ 9223372036854775807 := by have := Kd.C_max hC; omega
 have hw : wrap64 (i + 1) = i + 1 := by unfold wrap64; omega
 have hS0 := aM hS.blk
 have hS0' := aM hS.below.size
 have hIlt := aM (Kd.R_lt hI)
 obtain ⟨Ai, ci, hiv⟩ := Kd.R_slice hI
 subst hiv
 obtain ⟨kd, bgg, hbg⟩ : ∃ k b, begunF t.f3 = (k, b) := ⟨_, _, rfl⟩
 rw [hbg] at hp
 obtain ⟨hp, hu, rfl⟩ := hp
 have huu : (t.f3.toList == [117, 115, 101, 99, 109, 97, 112]) = false := beq_eq_false_iff_ne.mpr hu
 have hq : (t.f3.toList == [100, 101, 102]) = false ∨ ((t.f3.toList == [100, 101, 102]) = true ∧ ((aheadF L i 2).f0 == 2) = false) ∨ ((t.f3.toList == [100, 101, 102]) = true ∧ ((aheadF L i 2).f0 == 2) = true ∧ Aside0 (syn_value.f (aheadF L i 1).f0 (aheadF L i 1).f1 (aheadF L i 1).f2 (aheadF L i 1).f3 = some false)) := by
  by_cases h1 : t.f3.toList = [100, 101, 102]
  ·by_cases h2 : (aheadF L i 2).f0 = 2
   ·refine .inr (.inr ⟨beq_iff_eq.mpr h1, beq_iff_eq.mpr h2, ⟨?_⟩⟩)
    rw [val_f, decide_eq_false ((hp.resolve_left (fun h => h h1)).resolve_left (fun h => h h2))]
   ·exact .inr (.inl ⟨beq_iff_eq.mpr h1, beq_eq_false_iff_ne.mpr h2⟩)
  ·exact .inl (beq_eq_false_iff_ne.mpr h1)
 have hb : Below w.heap.size w (w.alloc (.cells #[.int .i64 t.f0, .int .i64 t.f1, .int .i64 t.f2, .string t.f3] 40)) := below_alloc (Below.refl _ _) _
 have HS := aM (hS.of_below hb)
 have BT := aM (blk_new w (.cells #[.int .i64 t.f0, .int .i64 t.f1, .int .i64 t.f2, .string t.f3] 40))
 have HK := aM (KeepBut.of_below hb g none)
 have HI := aM hI
 clear hS hI hb hp hu
 rcases hq with hdd | ⟨hdd, hbb⟩ | ⟨hdd, hbb, hval⟩
 all_goals
  go_enter Tryz.func31, Tryz.ntmps31
  go_wp2_with (first | (go_at_call 54; (with_reducible refine (ahead_calls hC (stC HS) 1 (by decide) h0 hi1).mono ?_); rintro x wp1 ⟨rfl, hbp⟩; replace HS := stQ HS hbp; replace BT := kK2 BT hbp; replace HK := keepQ HK hbp; clear hbp) | (go_at_call 54; (with_reducible refine (ahead_calls hC (stC HS) 2 (by decide) h0 hi1).mono ?_); rintro x wp2 ⟨rfl, hbp⟩; replace HS := stQ HS hbp; replace BT := kK2 BT hbp; replace HK := keepQ HK hbp; clear hbp) | ((with_reducible refine gD 4 ?_); refine bE 4 (cs := #[.int .i64 0, .int .i64 0, .int .i64 0, .string (⟨#[]⟩ : ByteArray)]) (t := 40) ?_; intro ga hg wga hbox hb; have Nga := aM (show g ≠ ga by rw [hg]; exact Nat.ne_of_lt (blk_lt (stC HS).blk)); have Tga := aM (show w.heap.size < ga by rw [hg]; exact blk_lt (stB BT)); replace BT := kK2 BT hb; have BA := aM hbox; replace HS := stQ HS hb; replace HK := keepQ HK hb; clear hb hbox hg) | ((with_reducible refine gD 5 ?_); refine bE 5 (cs := #[.int .i64 0, .int .i64 0, .int .i64 0, .string (⟨#[]⟩ : ByteArray)]) (t := 40) ?_; intro gb hg wgb hbox hb; have Ngb := aM (show g ≠ gb by rw [hg]; exact Nat.ne_of_lt (blk_lt (stC HS).blk)); have Tgb := aM (show w.heap.size < gb by rw [hg]; exact blk_lt (stB BT)); have NAB := aM (show ga ≠ gb by rw [hg]; exact Nat.ne_of_lt (blk_lt (stB BA))); replace BA := kK2 BA hb; replace BT := kK2 BT hb; have BB := aM hbox; replace HS := stQ HS hb; replace HK := keepQ HK hb; clear hb hbox hg; obtain ⟨ak0, ak1, ak2, ak3, am0, am1, am2, am3⟩ := b4 BA; obtain ⟨bk0, bk1, bk2, bk3, bm0, bm1, bm2, bm3⟩ := b4 BB; obtain ⟨tk0, tk1, tk2, tk3, tm0, tm1, tm2, tm3⟩ := b4 BT; have q1 := NAB.out; have q2 := Ne.symm NAB.out; have q3 := Nat.ne_of_lt Tga.out; have q4 := Ne.symm q3; have q5 := Nat.ne_of_lt Tgb.out; have q6 := Ne.symm q5))
  have NA := aM (Ne.symm Nga.out)
  have NB2 := aM (Ne.symm Ngb.out)
  have NAB2 := aM q2
  have NTA := aM q3
  have NTB := aM q5
  have NTA2 := aM q4
  have NTB2 := aM q6
  have GA := aM (Nat.le_trans HS.out.below.size (Nat.le_refl _))
  have Ga := aM (show w0.heap.size ≤ ga from Nat.le_trans hS0'.out (Nat.le_of_lt Tga.out))
  have Gb := aM (show w0.heap.size ≤ gb from Nat.le_trans hS0'.out (Nat.le_of_lt Tgb.out))
  have Gwa := aM (Nat.le_of_lt Tga.out)
  have Gwb := aM (Nat.le_of_lt Tgb.out)
  have HB := aM HS.out.below
  have BG := aM HS.out.blk
  refine norm_c (F := fun W => St w0 W g A c L i e ov (.slice Ai its.length ci) ∧ W.heap[w.heap.size]? = some (.cells #[.int .i64 t.f0, .int .i64 t.f1, .int .i64 t.f2, .string t.f3] 40 (0, 0)) ∧ W.heap[ga]? = some (.cells #[.int .i64 (aheadF L i 1).f0, .int .i64 (aheadF L i 1).f1, .int .i64 (aheadF L i 1).f2, .string (aheadF L i 1).f3] 40 (0, 0)) ∧ W.heap[gb]? = some (.cells #[.int .i64 (aheadF L i 2).f0, .int .i64 (aheadF L i 2).f1, .int .i64 (aheadF L i 2).f2, .string (aheadF L i 2).f3] 40 (0, 0)) ∧ KeepBut w W g none) ⟨⟨bQ, HS.out.ge, kQ⟩, kQ, kQ, kQ, kpQ⟩ ?_
  clear HS BT BA BB HK HB BG ak0 ak1 ak2 ak3 am0 am1 am2 am3 bk0 bk1 bk2 bk3 bm0 bm1 bm2 bm3 tk0 tk1 tk2 tk3 tm0 tm1 tm2 tm3
  rintro w3 ⟨hs3, bt3, ba3, bb3, hk3⟩
  have HS := aM hs3
  have BT := aM bt3
  have BA := aM ba3
  have BB := aM bb3
  have HK := aM hk3
  clear hs3 bt3 ba3 bb3 hk3
  (with_reducible refine (begun_calls _ _).mono ?_)
  rintro x w5 ⟨rfl, hbp⟩
  replace HS := stQ HS hbp
  replace BT := kK2 BT hbp
  replace BA := kK2 BA hbp
  replace BB := kK2 BB hbp
  replace HK := keepQ HK hbp
  clear hbp
  rw [hbg]
  obtain ⟨sc0, sc1, sc2, sc3, sc4, sf0, sf1, sf2, sf3, sf4⟩ := b5 HS.out.blk
  obtain ⟨ak0, ak1, ak2, ak3, am0, am1, am2, am3⟩ := b4 BA
  obtain ⟨bk0, bk1, bk2, bk3, bm0, bm1, bm2, bm3⟩ := b4 BB
  obtain ⟨tk0, tk1, tk2, tk3, tm0, tm1, tm2, tm3⟩ := b4 BT
  have q7 := Nga.out
  have q8 := Ngb.out
  have q9 := NA.out
  have q10 := NB2.out
  have NTG := aM (show w.heap.size ≠ g from Nat.ne_of_gt (by have := blk_lt hS0.out; exact this))
  have q11 := NTG.out
  have q12 := Ne.symm NTG.out
  have HIr := aM (R_keepT HI.out hS0.out (by decide) HK.out)
  have GE := aM HS.out.ge
  have HB := aM HS.out.below
  have BG := aM HS.out.blk
  have NG3 := aM q12
  have HKs := aM (KeepBut.set_ (KeepBut.refl w5 g none) 1 (.int .i64 (i + 1)))
  have hs1 := aM (⟨bQ, HS.out.ge, kQ⟩ : St w0 (w5.setCell ⟨g, 1, none⟩ (.int .i64 (i + 1))) g A c L (i + 1) e ov (.slice Ai its.length ci))
  have hr1 := aM (R_keepT HIr.out HS.out.blk (by decide) HKs.out)
  have hk1 := aM (KeepBut.set_ HK.out 1 (.int .i64 (i + 1)))
  have ht1 := aM (kQ : (w5.setCell ⟨g, 1, none⟩ (.int .i64 (i + 1))).heap[w.heap.size]? = some (.cells #[.int .i64 t.f0, .int .i64 t.f1, .int .i64 t.f2, .string t.f3] 40 (0, 0)))
  clear HIr HB BG HKs
  go_wp2_with (first | (go_at_call 56; (with_reducible refine (syn_value.calls _ _ _ _ _ _ hval.out).mono ?_); rintro x wv ⟨rfl, hdv⟩; replace hs1 := aM (hs1.out.of_below hdv); replace hr1 := aM (Kd.R_below hr1.out hdv); replace hk1 := aM (KeepBut.trans hk1.out (KeepBut.of_below hdv g none) (.inl rfl)); replace ht1 := aM (blk_below ht1.out hdv); obtain ⟨tv0, tv1, tv2, tv3, tn0, tn1, tn2, tn3⟩ := b4 ht1; clear hdv))
  go_end0
  exact ⟨rfl, _, hs1.out, hr1.out, KeepBut.weak hk1.out _, .inl rfl⟩
end
end Go.Proofs.YtjplnhdplpiogaaGreatDoor.M
end
section
namespace Go.Proofs.YtjplnhdplpiogaaGreatDoor.M
open Go.RowKit Go.Proofs.YtjplnhdplpiogaaGreatDoorW.PrintWords Go.Proofs.YtjplnhdplpiogaaGreatDoorW.PrintLast Go.Proofs.YtjplnhdplpiogaaGreatDoorW.PrintMore
set_option linter.unusedVariables false
set_option linter.unusedSimpArgs false
set_option maxRecDepth 100000
set_option maxHeartbeats 8000000
theorem idx_lt (t : ByteArray) : ∀ (l : List ByteArray) (i : Int), 0 ≤ i → 0 ≤ idxAt t l i → idxAt t l i < i + l.length
 | [], i, h, h2 => by simp [idxAt] at h2
 | x :: l, i, h, h2 => by
  simp only [idxAt, List.length_cons] at h2 ⊢
  split
  ·omega
  ·rename_i hx
   rw [if_neg hx] at h2
   have := idx_lt t l (i + 1) (by omega) h2
   omega
theorem begun_kind {s : ByteArray} (h : (begunF s).2 = true) : (begunF s).1 = 2 ∨ (begunF s).1 = 3 ∨ (begunF s).1 = 4 ∨ (begunF s).1 = 5 ∨ (begunF s).1 = 6 ∨ (begunF s).1 = 7 ∨ (begunF s).1 = 8 := by
 unfold begunF at h ⊢
 simp only [Bool.and_eq_true, decide_eq_true_eq] at h
 have h1 := idx_lt (cutB s).1 names7 0 (by omega) h.2
 have h2 := h.2
 have h3 : names7.length = 7 := rfl
 dsimp only
 omega
section
variable {w0 w : World} {g : Nat} {A : Option Addr} {c : Nat} {L : List S40} {i e : Int} {ov iv : Value}
theorem word_sect (hC : Kd.C k40 w0 A L.length L) (hS : St w0 w g A c L i e ov iv) (h0 : 0 ≤ i) (hi1 : i < L.length) (t : S40) (kind : Int) (hkk : kind = 2 ∨ kind = 3 ∨ kind = 4 ∨ kind = 5 ∨ kind = 6 ∨ kind = 7 ∨ kind = 8) (hd : t.f3.toList ≠ [100, 101, 102]) (hu : t.f3.toList ≠ [117, 115, 101, 99, 109, 97, 112]) (hbg : begunF t.f3 = (kind, true)) (ha1 : (aheadF L i 1).f0 = 1) (ha2 : 0 ≤ (aheadF L i 1).f2) (ha3 : (aheadF L i 1).f2 ≤ 100) (rs : Except (Int × Int) (List S50 × Int)) (hF : sectionF kind L e (i + 1) (aheadF L i 1).f2 = some rs) (its : List S43) (hI : k43.R 43 w w0.heap.size (fun k => some k ≠ ov.ownBlock) iv its) (hlen : its.length < 1000000) (hO : ∀ b, ov.ownBlock = some b → b < w.heap.size) :
  Calls Tryz.prog 31 #[.pointer (some ⟨g, 0, none⟩), .agg (tok4 t)] w (ItOut w0 w g A c L e ov iv (secR kind t.f1 its rs)) := by
 have hu40 := Tryz.underlying40
 have hu43 := Tryz.underlying43
 have hu58 := Tryz.underlying58
 have hL : (L.length : Int) ≤ 9223372036854775807 := by have := Kd.C_max hC; omega
 have hw : wrap64 (i + 1) = i + 1 := by unfold wrap64; omega
 have hS0 := aM hS.blk
 have hS0' := aM hS.below.size
 have hIlt := aM (Kd.R_lt hI)
 obtain ⟨Ai, ci, hiv⟩ := Kd.R_slice hI
 subst hiv
 have hdd : (t.f3.toList == [100, 101, 102]) = false := beq_eq_false_iff_ne.mpr hd
 have huu : (t.f3.toList == [117, 115, 101, 99, 109, 97, 112]) = false := beq_eq_false_iff_ne.mpr hu
 have hak : ((aheadF L i 1).f0 != 1) = false := bne_eq_false_iff_eq.mpr ha1
 have ha4 : decide ((aheadF L i 1).f2 < 0) = false := decide_eq_false (by omega)
 have ha5 : decide (100 < (aheadF L i 1).f2) = false := decide_eq_false (by omega)
 have HF := aM hF
 have hb : Below w.heap.size w (w.alloc (.cells #[.int .i64 t.f0, .int .i64 t.f1, .int .i64 t.f2, .string t.f3] 40)) := below_alloc (Below.refl _ _) _
 have HS := aM (hS.of_below hb)
 have BT := aM (blk_new w (.cells #[.int .i64 t.f0, .int .i64 t.f1, .int .i64 t.f2, .string t.f3] 40))
 have HK := aM (KeepBut.of_below hb g none)
 have HI := aM hI
 clear hS hI hb hd hu ha1 ha2 ha3 hF
 go_enter Tryz.func31, Tryz.ntmps31
 go_wp2_with (first | (go_at_call 54; (with_reducible refine (ahead_calls hC (stC HS) 1 (by decide) h0 hi1).mono ?_); rintro x wp1 ⟨rfl, hbp⟩; replace HS := stQ HS hbp; replace BT := kK2 BT hbp; replace HK := keepQ HK hbp; clear hbp) | (go_at_call 54; (with_reducible refine (ahead_calls hC (stC HS) 2 (by decide) h0 hi1).mono ?_); rintro x wp2 ⟨rfl, hbp⟩; replace HS := stQ HS hbp; replace BT := kK2 BT hbp; replace HK := keepQ HK hbp; clear hbp) | ((with_reducible refine gD 4 ?_); refine bE 4 (cs := #[.int .i64 0, .int .i64 0, .int .i64 0, .string (⟨#[]⟩ : ByteArray)]) (t := 40) ?_; intro ga hg wga hbox hb; have Nga := aM (show g ≠ ga by rw [hg]; exact Nat.ne_of_lt (blk_lt (stC HS).blk)); have Tga := aM (show w.heap.size < ga by rw [hg]; exact blk_lt (stB BT)); replace BT := kK2 BT hb; have BA := aM hbox; replace HS := stQ HS hb; replace HK := keepQ HK hb; clear hb hbox hg) | ((with_reducible refine gD 5 ?_); refine bE 5 (cs := #[.int .i64 0, .int .i64 0, .int .i64 0, .string (⟨#[]⟩ : ByteArray)]) (t := 40) ?_; intro gb hg wgb hbox hb; have Ngb := aM (show g ≠ gb by rw [hg]; exact Nat.ne_of_lt (blk_lt (stC HS).blk)); have Tgb := aM (show w.heap.size < gb by rw [hg]; exact blk_lt (stB BT)); have NAB := aM (show ga ≠ gb by rw [hg]; exact Nat.ne_of_lt (blk_lt (stB BA))); replace BA := kK2 BA hb; replace BT := kK2 BT hb; have BB := aM hbox; replace HS := stQ HS hb; replace HK := keepQ HK hb; clear hb hbox hg; obtain ⟨ak0, ak1, ak2, ak3, am0, am1, am2, am3⟩ := b4 BA; obtain ⟨bk0, bk1, bk2, bk3, bm0, bm1, bm2, bm3⟩ := b4 BB; obtain ⟨tk0, tk1, tk2, tk3, tm0, tm1, tm2, tm3⟩ := b4 BT; have q1 := NAB.out; have q2 := Ne.symm NAB.out; have q3 := Nat.ne_of_lt Tga.out; have q4 := Ne.symm q3; have q5 := Nat.ne_of_lt Tgb.out; have q6 := Ne.symm q5))
 have NA := aM (Ne.symm Nga.out)
 have NB2 := aM (Ne.symm Ngb.out)
 have NAB2 := aM q2
 have NTA := aM q3
 have NTB := aM q5
 have NTA2 := aM q4
 have NTB2 := aM q6
 have GA := aM (Nat.le_trans HS.out.below.size (Nat.le_refl _))
 have Ga := aM (show w0.heap.size ≤ ga from Nat.le_trans hS0'.out (Nat.le_of_lt Tga.out))
 have Gb := aM (show w0.heap.size ≤ gb from Nat.le_trans hS0'.out (Nat.le_of_lt Tgb.out))
 have Gwa := aM (Nat.le_of_lt Tga.out)
 have Gwb := aM (Nat.le_of_lt Tgb.out)
 have HB := aM HS.out.below
 have BG := aM HS.out.blk
 refine norm_c (F := fun W => St w0 W g A c L i e ov (.slice Ai its.length ci) ∧ W.heap[w.heap.size]? = some (.cells #[.int .i64 t.f0, .int .i64 t.f1, .int .i64 t.f2, .string t.f3] 40 (0, 0)) ∧ W.heap[ga]? = some (.cells #[.int .i64 (aheadF L i 1).f0, .int .i64 (aheadF L i 1).f1, .int .i64 (aheadF L i 1).f2, .string (aheadF L i 1).f3] 40 (0, 0)) ∧ W.heap[gb]? = some (.cells #[.int .i64 (aheadF L i 2).f0, .int .i64 (aheadF L i 2).f1, .int .i64 (aheadF L i 2).f2, .string (aheadF L i 2).f3] 40 (0, 0)) ∧ KeepBut w W g none) ⟨⟨bQ, HS.out.ge, kQ⟩, kQ, kQ, kQ, kpQ⟩ ?_
 clear HS BT BA BB HK HB BG ak0 ak1 ak2 ak3 am0 am1 am2 am3 bk0 bk1 bk2 bk3 bm0 bm1 bm2 bm3 tk0 tk1 tk2 tk3 tm0 tm1 tm2 tm3
 rintro w3 ⟨hs3, bt3, ba3, bb3, hk3⟩
 have HS := aM hs3
 have BT := aM bt3
 have BA := aM ba3
 have BB := aM bb3
 have HK := aM hk3
 clear hs3 bt3 ba3 bb3 hk3
 (with_reducible refine (begun_calls _ _).mono ?_)
 rintro x w5 ⟨rfl, hbp⟩
 replace HS := stQ HS hbp
 replace BT := kK2 BT hbp
 replace BA := kK2 BA hbp
 replace BB := kK2 BB hbp
 replace HK := keepQ HK hbp
 clear hbp
 rw [hbg]
 obtain ⟨sc0, sc1, sc2, sc3, sc4, sf0, sf1, sf2, sf3, sf4⟩ := b5 HS.out.blk
 obtain ⟨ak0, ak1, ak2, ak3, am0, am1, am2, am3⟩ := b4 BA
 obtain ⟨bk0, bk1, bk2, bk3, bm0, bm1, bm2, bm3⟩ := b4 BB
 obtain ⟨tk0, tk1, tk2, tk3, tm0, tm1, tm2, tm3⟩ := b4 BT
 have q7 := Nga.out
 have q8 := Ngb.out
 have q9 := NA.out
 have q10 := NB2.out
 have NTG := aM (show w.heap.size ≠ g from Nat.ne_of_gt (by have := blk_lt hS0.out; exact this))
 have q11 := NTG.out
 have q12 := Ne.symm NTG.out
 go_wp2_with (fail)
 have HIr := aM (R_keepT HI.out hS0.out (by decide) HK.out)
 have GE := aM HS.out.ge
 have HB := aM HS.out.below
 have BG := aM HS.out.blk
 have NG3 := aM q12
 have HKs := aM (KeepBut.set_ (KeepBut.refl w5 g none) 1 (.int .i64 (i + 1)))
 refine norm_c (F := fun W => St w0 W g A c L (i + 1) e ov (.slice Ai its.length ci) ∧ k43.R 43 W w0.heap.size (fun k => some k ≠ ov.ownBlock) (.slice Ai its.length ci) its ∧ KeepBut w W g none) ⟨⟨bQ, HS.out.ge, kQ⟩, R_keepT HIr.out HS.out.blk (by decide) HKs.out, KeepBut.set_ HK.out 1 _⟩ ?_
 clear HS BT BA BB HK HB BG HIr HKs HI ak0 ak1 ak2 ak3 am0 am1 am2 am3 bk0 bk1 bk2 bk3 bm0 bm1 bm2 bm3 tk0 tk1 tk2 tk3 tm0 tm1 tm2 tm3 sc0 sc1 sc2 sc3 sc4 sf0 sf1 sf2 sf3 sf4
 rintro w4 ⟨hs4, hi4, hk4⟩
 have HK4 := aM hk4
 (with_reducible refine (section_calls hC hs4 (by omega) kind t.f1 (aheadF L i 1).f2 hkk rs HF.out its hi4 hlen (fun b hb => Nat.lt_of_lt_of_le (hO b hb) (keep_size HK4.out))).mono ?_)
 cases rs with
 | error p =>
  rintro x w6 ⟨rfl, hk6, hbe⟩
  exact ⟨rfl, rfl, KeepBut.trans HK4.out hk6 (.inl rfl), hbe⟩
 | ok q =>
  rintro x w6 ⟨rfl, iv', hs6, hr6, hk6, ht6⟩
  go_wp2_with (fail)
  go_end0
  exact ⟨rfl, iv', hs6, hr6, KeepBut.trans (KeepBut.weak HK4.out _) hk6 (.inl rfl), ht6.imp id (fun ⟨b, h1, h2⟩ => ⟨b, h1, Nat.le_trans (keep_size HK4.out) h2⟩)⟩
theorem word_use (hC : Kd.C k40 w0 A L.length L) (hS : St w0 w g A c L i e ov iv) (h0 : 0 ≤ i) (hi1 : i < L.length) (t : S40) (hu : t.f3.toList = [117, 115, 101, 99, 109, 97, 112]) (ha1 : (aheadF L i 1).f0 = 2) (its : List S43) (hI : k43.R 43 w w0.heap.size (fun k => some k ≠ ov.ownBlock) iv its) (hlen : its.length < 1000000) (hO : ∀ b, ov.ownBlock = some b → b < w.heap.size) :
  Calls Tryz.prog 31 #[.pointer (some ⟨g, 0, none⟩), .agg (tok4 t)] w (ItOut w0 w g A c L e ov iv (.ok (i + 1, its ++ [⟨1, t.f1, (aheadF L i 1).f3, z40, []⟩]))) := by
 have hu40 := Tryz.underlying40
 have hu43 := Tryz.underlying43
 have hu58 := Tryz.underlying58
 have hL : (L.length : Int) ≤ 9223372036854775807 := by have := Kd.C_max hC; omega
 have hw : wrap64 (i + 1) = i + 1 := by unfold wrap64; omega
 have hS0 := aM hS.blk
 have hS0' := aM hS.below.size
 have hIlt := aM (Kd.R_lt hI)
 obtain ⟨Ai, ci, hiv⟩ := Kd.R_slice hI
 subst hiv
 have hdd : (t.f3.toList == [100, 101, 102]) = false := by rw [hu]; rfl
 have huu : (t.f3.toList == [117, 115, 101, 99, 109, 97, 112]) = true := beq_iff_eq.mpr hu
 have hak : ((aheadF L i 1).f0 == 2) = true := beq_iff_eq.mpr ha1
 obtain ⟨kd, bgg, hbg⟩ : ∃ k b, begunF t.f3 = (k, b) := ⟨_, _, rfl⟩
 have hb : Below w.heap.size w (w.alloc (.cells #[.int .i64 t.f0, .int .i64 t.f1, .int .i64 t.f2, .string t.f3] 40)) := below_alloc (Below.refl _ _) _
 have HS := aM (hS.of_below hb)
 have BT := aM (blk_new w (.cells #[.int .i64 t.f0, .int .i64 t.f1, .int .i64 t.f2, .string t.f3] 40))
 have HK := aM (KeepBut.of_below hb g none)
 have HI := aM hI
 clear hS hI hb hu ha1
 go_enter Tryz.func31, Tryz.ntmps31
 go_wp2_with (first | (go_at_call 54; (with_reducible refine (ahead_calls hC (stC HS) 1 (by decide) h0 hi1).mono ?_); rintro x wp1 ⟨rfl, hbp⟩; replace HS := stQ HS hbp; replace BT := kK2 BT hbp; replace HK := keepQ HK hbp; clear hbp) | (go_at_call 54; (with_reducible refine (ahead_calls hC (stC HS) 2 (by decide) h0 hi1).mono ?_); rintro x wp2 ⟨rfl, hbp⟩; replace HS := stQ HS hbp; replace BT := kK2 BT hbp; replace HK := keepQ HK hbp; clear hbp) | ((with_reducible refine gD 4 ?_); refine bE 4 (cs := #[.int .i64 0, .int .i64 0, .int .i64 0, .string (⟨#[]⟩ : ByteArray)]) (t := 40) ?_; intro ga hg wga hbox hb; have Nga := aM (show g ≠ ga by rw [hg]; exact Nat.ne_of_lt (blk_lt (stC HS).blk)); have Tga := aM (show w.heap.size < ga by rw [hg]; exact blk_lt (stB BT)); replace BT := kK2 BT hb; have BA := aM hbox; replace HS := stQ HS hb; replace HK := keepQ HK hb; clear hb hbox hg) | ((with_reducible refine gD 5 ?_); refine bE 5 (cs := #[.int .i64 0, .int .i64 0, .int .i64 0, .string (⟨#[]⟩ : ByteArray)]) (t := 40) ?_; intro gb hg wgb hbox hb; have Ngb := aM (show g ≠ gb by rw [hg]; exact Nat.ne_of_lt (blk_lt (stC HS).blk)); have Tgb := aM (show w.heap.size < gb by rw [hg]; exact blk_lt (stB BT)); have NAB := aM (show ga ≠ gb by rw [hg]; exact Nat.ne_of_lt (blk_lt (stB BA))); replace BA := kK2 BA hb; replace BT := kK2 BT hb; have BB := aM hbox; replace HS := stQ HS hb; replace HK := keepQ HK hb; clear hb hbox hg; obtain ⟨ak0, ak1, ak2, ak3, am0, am1, am2, am3⟩ := b4 BA; obtain ⟨bk0, bk1, bk2, bk3, bm0, bm1, bm2, bm3⟩ := b4 BB; obtain ⟨tk0, tk1, tk2, tk3, tm0, tm1, tm2, tm3⟩ := b4 BT; have q1 := NAB.out; have q2 := Ne.symm NAB.out; have q3 := Nat.ne_of_lt Tga.out; have q4 := Ne.symm q3; have q5 := Nat.ne_of_lt Tgb.out; have q6 := Ne.symm q5))
 have NA := aM (Ne.symm Nga.out)
 have NB2 := aM (Ne.symm Ngb.out)
 have NAB2 := aM q2
 have NTA := aM q3
 have NTB := aM q5
 have NTA2 := aM q4
 have NTB2 := aM q6
 have GA := aM (Nat.le_trans HS.out.below.size (Nat.le_refl _))
 have Ga := aM (show w0.heap.size ≤ ga from Nat.le_trans hS0'.out (Nat.le_of_lt Tga.out))
 have Gb := aM (show w0.heap.size ≤ gb from Nat.le_trans hS0'.out (Nat.le_of_lt Tgb.out))
 have Gwa := aM (Nat.le_of_lt Tga.out)
 have Gwb := aM (Nat.le_of_lt Tgb.out)
 have HB := aM HS.out.below
 have BG := aM HS.out.blk
 refine norm_c (F := fun W => St w0 W g A c L i e ov (.slice Ai its.length ci) ∧ W.heap[w.heap.size]? = some (.cells #[.int .i64 t.f0, .int .i64 t.f1, .int .i64 t.f2, .string t.f3] 40 (0, 0)) ∧ W.heap[ga]? = some (.cells #[.int .i64 (aheadF L i 1).f0, .int .i64 (aheadF L i 1).f1, .int .i64 (aheadF L i 1).f2, .string (aheadF L i 1).f3] 40 (0, 0)) ∧ W.heap[gb]? = some (.cells #[.int .i64 (aheadF L i 2).f0, .int .i64 (aheadF L i 2).f1, .int .i64 (aheadF L i 2).f2, .string (aheadF L i 2).f3] 40 (0, 0)) ∧ KeepBut w W g none) ⟨⟨bQ, HS.out.ge, kQ⟩, kQ, kQ, kQ, kpQ⟩ ?_
 clear HS BT BA BB HK HB BG ak0 ak1 ak2 ak3 am0 am1 am2 am3 bk0 bk1 bk2 bk3 bm0 bm1 bm2 bm3 tk0 tk1 tk2 tk3 tm0 tm1 tm2 tm3
 rintro w3 ⟨hs3, bt3, ba3, bb3, hk3⟩
 have HS := aM hs3
 have BT := aM bt3
 have BA := aM ba3
 have BB := aM bb3
 have HK := aM hk3
 clear hs3 bt3 ba3 bb3 hk3
 (with_reducible refine (begun_calls _ _).mono ?_)
 rintro x w5 ⟨rfl, hbp⟩
 replace HS := stQ HS hbp
 replace BT := kK2 BT hbp
 replace BA := kK2 BA hbp
 replace BB := kK2 BB hbp
 replace HK := keepQ HK hbp
 clear hbp
 rw [hbg]
 obtain ⟨sc0, sc1, sc2, sc3, sc4, sf0, sf1, sf2, sf3, sf4⟩ := b5 HS.out.blk
 obtain ⟨ak0, ak1, ak2, ak3, am0, am1, am2, am3⟩ := b4 BA
 obtain ⟨bk0, bk1, bk2, bk3, bm0, bm1, bm2, bm3⟩ := b4 BB
 obtain ⟨tk0, tk1, tk2, tk3, tm0, tm1, tm2, tm3⟩ := b4 BT
 have q7 := Nga.out
 have q8 := Ngb.out
 have q9 := NA.out
 have q10 := NB2.out
 have NTG := aM (show w.heap.size ≠ g from Nat.ne_of_gt (by have := blk_lt hS0.out; exact this))
 have q11 := NTG.out
 have q12 := Ne.symm NTG.out
 go_wp2_with (fail)
 have HIr := aM (R_keepT HI.out hS0.out (by decide) HK.out)
 have GE := aM HS.out.ge
 have HB := aM HS.out.below
 have BG := aM HS.out.blk
 have NG3 := aM q12
 have HKs := aM (KeepBut.set_ (KeepBut.refl w5 g none) 1 (.int .i64 (i + 1)))
 refine norm_w (F := fun W => St w0 W g A c L (i + 1) e ov (.slice Ai its.length ci) ∧ W.heap[w.heap.size]? = some (.cells #[.int .i64 t.f0, .int .i64 t.f1, .int .i64 t.f2, .string t.f3] 40 (0, 0)) ∧ W.heap[ga]? = some (.cells #[.int .i64 (aheadF L i 1).f0, .int .i64 (aheadF L i 1).f1, .int .i64 (aheadF L i 1).f2, .string (aheadF L i 1).f3] 40 (0, 0)) ∧ k43.R 43 W w0.heap.size (fun k => some k ≠ ov.ownBlock) (.slice Ai its.length ci) its ∧ KeepBut w W g none) ⟨⟨bQ, HS.out.ge, kQ⟩, kQ, kQ, R_keepT HIr.out HS.out.blk (by decide) HKs.out, KeepBut.set_ HK.out 1 _⟩ ?_
 clear HS BT BA BB HK HB BG HIr HKs HI ak0 ak1 ak2 ak3 am0 am1 am2 am3 bk0 bk1 bk2 bk3 bm0 bm1 bm2 bm3 tk0 tk1 tk2 tk3 tm0 tm1 tm2 tm3 sc0 sc1 sc2 sc3 sc4 sf0 sf1 sf2 sf3 sf4
 rintro w4 ⟨hs4, bt4, ba4, hi4, hk4⟩
 have HS := aM hs4
 have HI := aM hi4
 have HK := aM hk4
 have HB := aM hs4.below
 have BG := aM hs4.blk
 have hgo := aM (Kd.R_ne hi4 hs4.blk (by decide))
 obtain ⟨sc0, sc1, sc2, sc3, sc4, sf0, sf1, sf2, sf3, sf4⟩ := b5 HS.out.blk
 obtain ⟨ak0, ak1, ak2, ak3, am0, am1, am2, am3⟩ := b4 (aM ba4)
 obtain ⟨tk0, tk1, tk2, tk3, tm0, tm1, tm2, tm3⟩ := b4 (aM bt4)
 have BT4 := aM bt4
 have BA4 := aM ba4
 have hgt := aM (Kd.R_ne hi4 bt4 (by decide))
 have hga := aM (Kd.R_ne hi4 ba4 (by decide))
 clear hs4 bt4 ba4 hi4 hk4
 have hfr := aM (fun (q : Nat) (hq : w.heap.size ≤ q) => (show some q ≠ ov.ownBlock from fun he => absurd (hO q he.symm) (by omega)))
 have l0 := al_cell0 (.cells #[.int .i64 1, .int .i64 t.f1, .string (aheadF L i 1).f3, .int .i64 0, .int .i64 0, .int .i64 0, .string (⟨#[]⟩ : ByteArray), .slice none 0 0] 43) sc4
 have l1 := al_cell0 (.cells #[.int .i64 1, .int .i64 t.f1, .string (aheadF L i 1).f3, .int .i64 0, .int .i64 0, .int .i64 0, .string (⟨#[]⟩ : ByteArray), .slice none 0 0] 43) tk1
 have l6 := al_cell0 (.cells #[.int .i64 1, .int .i64 t.f1, .string (aheadF L i 1).f3, .int .i64 0, .int .i64 0, .int .i64 0, .string (⟨#[]⟩ : ByteArray), .slice none 0 0] 43) ak3
 refine wp_region_noPanic ?_
 refine wp_region_held_drew (S := (fun W : World => W.cell? ⟨w.heap.size, 1, none⟩ = some (.int .i64 t.f1) ∧ W.cell? ⟨ga, 3, none⟩ = some (.string (aheadF L i 1).f3))) (by kernel_rfl) ?_ (fun hHeld => ?_)
 ·(first | exact ⟨tk1, ak3⟩ | exact ⟨l1, l6⟩ | exact ⟨ty1, ay3⟩ | (simp [go_sem, *]; done))
 refine wpAnyH_take (i := 0) (oi := _) (v := ?v0_1) rfl (by kernel_rfl) (by kernel_rfl) (by kernel_rfl) (fun _ _ _ h => h) (Or.inl ⟨by rfl, ?y0_1⟩) (by assumption) ?r0_1
 case y0_1 => (intro w hSw; (try dsimp only at hSw); go_simp; (try with_reducible rfl))
 try simp only [Act.put, List.setIfInBounds_toArray, List.set_cons_zero, List.set_cons_succ]
 refine wpAnyH_take (i := 1) (oi := _) (v := ?v1_2) rfl (by kernel_rfl) (by kernel_rfl) (by kernel_rfl) (fun _ _ _ h => h) (Or.inl ⟨by rfl, ?y1_2⟩) (by assumption) ?r1_2
 case y1_2 => (intro w hSw; (try dsimp only at hSw); go_simp; (try with_reducible rfl))
 try simp only [Act.put, List.setIfInBounds_toArray, List.set_cons_zero, List.set_cons_succ]
 refine wpAnyH_take (i := 2) (oi := _) (v := ?v2_3) rfl (by kernel_rfl) (by kernel_rfl) (by kernel_rfl) (fun _ _ _ h => h) (Or.inl ⟨by rfl, ?y2_3⟩) (by assumption) ?r2_3
 case y2_3 => (intro w hSw; (try dsimp only at hSw); go_simp; (try with_reducible rfl))
 try simp only [Act.put, List.setIfInBounds_toArray, List.set_cons_zero, List.set_cons_succ]
 refine wpAnyH_take (i := 3) (oi := _) (v := ?v3_4) rfl (by kernel_rfl) (by kernel_rfl) (by kernel_rfl) (fun _ _ _ h => h) (Or.inl ⟨by rfl, ?y3_4⟩) (by assumption) ?r3_4
 case y3_4 => (intro w hSw; (try dsimp only at hSw); go_simp; (try with_reducible rfl))
 try simp only [Act.put, List.setIfInBounds_toArray, List.set_cons_zero, List.set_cons_succ]
 refine wpAnyH_take (i := 5) (oi := _) (v := ?v5_5) rfl (by kernel_rfl) (by kernel_rfl) (by kernel_rfl) (fun _ _ _ h => h) (Or.inl ⟨by rfl, ?y5_5⟩) (by assumption) ?r5_5
 case y5_5 => (intro w hSw; (try dsimp only at hSw); go_simp; (try with_reducible rfl))
 try simp only [Act.put, List.setIfInBounds_toArray, List.set_cons_zero, List.set_cons_succ]
 refine wpAnyH_take (i := 6) (oi := _) (v := ?v6_6) rfl (by kernel_rfl) (by kernel_rfl) (by kernel_rfl) (fun _ _ _ h => h) (Or.inl ⟨by rfl, ?y6_6⟩) (by assumption) ?r6_6
 case y6_6 => (intro w hSw; (try dsimp only at hSw); go_simp; (try with_reducible rfl))
 try simp only [Act.put, List.setIfInBounds_toArray, List.set_cons_zero, List.set_cons_succ]
 refine wpAnyH_take (i := 7) (oi := _) (v := ?v7_7) rfl (by kernel_rfl) (by kernel_rfl) (by kernel_rfl) (fun _ _ _ h => h) (Or.inl ⟨by rfl, ?y7_7⟩) (by assumption) ?r7_7
 case y7_7 => (intro w hSw; (try dsimp only at hSw); go_simp; (try with_reducible rfl))
 try simp only [Act.put, List.setIfInBounds_toArray, List.set_cons_zero, List.set_cons_succ]
 refine wpAnyH_take (i := 8) (oi := _) (v := ?v8_8) rfl (by kernel_rfl) (by kernel_rfl) (by kernel_rfl) (fun _ _ _ h => h) (Or.inl ⟨by rfl, ?y8_8⟩) (by assumption) ?r8_8
 case y8_8 => (intro w hSw; (try dsimp only at hSw); go_simp; (try with_reducible rfl))
 try simp only [Act.put, List.setIfInBounds_toArray, List.set_cons_zero, List.set_cons_succ]
 refine wpAnyH_take (i := 9) (oi := _) (v := ?v9_9) rfl (by kernel_rfl) (by kernel_rfl) (by kernel_rfl) (fun _ _ _ h => h) (Or.inl ⟨by rfl, ?y9_9⟩) (by assumption) ?r9_9
 case y9_9 => (intro w hSw; (try dsimp only at hSw); go_simp; (try with_reducible rfl))
 try simp only [Act.put, List.setIfInBounds_toArray, List.set_cons_zero, List.set_cons_succ]
 refine wpAnyH_ready (rs := [4, 10]) (by kernel_rfl) (by simp) ?_
 refine AllReadyH.cons (o := _) rfl (fun K hK => ?_) ?_
 ·go_simp
  refine hK.out _ _ ?_ (fun hHeld2 => ?_)
  ·(first | exact ⟨tk1, ak3⟩ | exact ⟨l1, l6⟩ | exact ⟨ty1, ay3⟩ | (simp [go_sem, *]; done))
  clear hK K
  try simp only [Act.put, List.setIfInBounds_toArray, List.set_cons_zero, List.set_cons_succ]
  refine wpAnyH_ready (rs := [10]) (by kernel_rfl) (by simp) ?_
  refine AllReadyH.cons (o := _) rfl (fun K hK => ?_) ?_
  ·go_simp
   refine hK.out _ _ ?_ (fun hHeld2 => ?_)
   ·(first | exact ⟨tk1, ak3⟩ | exact ⟨l1, l6⟩ | exact ⟨ty1, ay3⟩ | (simp [go_sem, *]; done))
   clear hK K
   try simp only [Act.put, List.setIfInBounds_toArray, List.set_cons_zero, List.set_cons_succ]
   refine wpAnyH_ready (rs := [11]) (by kernel_rfl) (by simp) ?_
   refine AllReadyH.cons (o := _) rfl (fun K hK => ?_) ?_
   ·(first | (refine Kd.R_append_step k43 (w0 := w0) (W := w4.drew) w0.heap.size (by rfl) (.tmp 66) (.tmp 72) 25 43 (.agg #[.int .i64 0, .int .i64 0, .string (⟨#[]⟩ : ByteArray), .int .i64 0, .int .i64 0, .int .i64 0, .string (⟨#[]⟩ : ByteArray), .slice none 0 0]) 96 rfl Tryz.underlying25 info43 rfl (by decide) (by omega) (.slice Ai its.length ci) its (⟨1, t.f1, (aheadF L i 1).f3, z40, []⟩ : S43) [.int .i64 1, .int .i64 t.f1, .string (aheadF L i 1).f3, .int .i64 0, .int .i64 0, .int .i64 0, .string (⟨#[]⟩ : ByteArray), .slice none 0 0] (fun k => some k ≠ ov.ownBlock) (fun _ => False) rfl rfl ?aP (fun _ hk => hk.elim) ?aF ?aO ?aB ?aS ?aL ?_; (case aP => exact k43_mkM _ _ _ _ (Kd.R_nil _ _ _ _ _)); (case aF => exact (fun k hk => hfr.out k (Nat.le_trans HK.out.1 hk))); (case aO => exact Kd.R_drew HI.out); (case aB => exact below_drew1 HB.out); (case aS => exact HB.out.size); (case aL => omega); intro v6 w6 ho6 hb6 hg6 hat6; obtain ⟨A6, m6, e6⟩ := Kd.R_slice ho6; subst e6; have BG6 := aM (blk_grown (blk_drew BG.out) hg6 hgo.out); have HR6 := aM ho6; have HB6 := aM hb6; have HG6 := aM hg6; have HT6 := aM hat6; obtain ⟨yk0, yk1, yk2, yk3, yk4, ym0, ym1, ym2, ym3, ym4⟩ := b5 BG6.out; obtain ⟨ty0, ty1, ty2, ty3, -, -, -, -⟩ := b4 (aM (blk_grown (blk_drew BT4.out) hg6 hgt.out)); obtain ⟨ay0, ay1, ay2, ay3, -, -, -, -⟩ := b4 (aM (blk_grown (blk_drew BA4.out) hg6 hga.out)); clear ho6 hb6 hg6 hat6))
    refine hK.out _ _ ?_ (fun hHeld2 => ?_)
    ·(first | exact ⟨tk1, ak3⟩ | exact ⟨l1, l6⟩ | exact ⟨ty1, ay3⟩ | (simp [go_sem, *]; done))
    clear hK K
    try simp only [Act.put, List.setIfInBounds_toArray, List.set_cons_zero, List.set_cons_succ]
    refine wpAnyH_take (i := 12) (oi := _) (v := ?v12_10) rfl (by kernel_rfl) (by kernel_rfl) (by kernel_rfl) (fun _ _ _ h => h) (Or.inl ⟨by rfl, ?y12_10⟩) (by assumption) ?r12_10
    case y12_10 => (intro w hSw; (try dsimp only at hSw); go_simp; (try with_reducible rfl))
    try simp only [Act.put, List.setIfInBounds_toArray, List.set_cons_zero, List.set_cons_succ]
    refine wpAnyH_take (i := 13) (oi := _) (v := ?v13_11) rfl (by kernel_rfl) (by kernel_rfl) (by kernel_rfl) (fun _ _ _ h => h) (Or.inl ⟨by rfl, ?y13_11⟩) (by assumption) ?r13_11
    case y13_11 => (intro w hSw; (try dsimp only at hSw); go_simp; (try with_reducible rfl))
    try simp only [Act.put, List.setIfInBounds_toArray, List.set_cons_zero, List.set_cons_succ]
    refine wpAnyH_ready (rs := [14]) (by kernel_rfl) (by simp) ?_
    refine AllReadyH.cons (o := _) rfl (fun K hK => ?_) ?_
    ·go_simp
     refine hK.out _ _ ?_ (fun hHeld2 => ?_)
     ·(first | exact ⟨tk1, ak3⟩ | exact ⟨l1, l6⟩ | exact ⟨ty1, ay3⟩ | (simp [go_sem, *]; done))
     clear hK K
     try simp only [Act.put, List.setIfInBounds_toArray, List.set_cons_zero, List.set_cons_succ]
     refine wpAnyH_done (by kernel_rfl) ?_ _
     refine NoPanic.normal ?_
     try go_wp2_with (fail)
     go_end0
     (replace HB := HB6; have GE2 := aM HS.out.ge; have HKg := aM (KeepBut.set_ (KeepBut.refl w6 g none) 4 (.slice A6 (its.length + 1) m6)))
     exact ⟨rfl, .slice A6 (its.length + 1) m6, ⟨bQ, GE2.out, kQ⟩, (by have := R_keepT HR6.out BG6.out (by decide) HKg.out; rw [List.length_append] at this; exact this), KeepBut.set_ (KeepBut.trans (KeepBut.weak HK.out _) (KeepBut.of_grown HG6.out g) (.inl rfl)) 4 _, HT6.out.imp (fun h => (by rw [List.length_append] at h; exact h)) (fun ⟨b, h1, h2⟩ => ⟨b, (by rw [List.length_append] at h1; exact h1), Nat.le_trans HK.out.1 h2⟩)⟩
    exact AllReadyH.nil
   exact AllReadyH.nil
  exact AllReadyH.nil
 refine AllReadyH.cons (o := _) rfl (fun K hK => ?_) ?_
 ·go_simp
  refine hK.out _ _ ?_ (fun hHeld2 => ?_)
  ·(first | exact ⟨tk1, ak3⟩ | exact ⟨l1, l6⟩ | exact ⟨ty1, ay3⟩ | (simp [go_sem, *]; done))
  clear hK K
  try simp only [Act.put, List.setIfInBounds_toArray, List.set_cons_zero, List.set_cons_succ]
  refine wpAnyH_ready (rs := [4]) (by kernel_rfl) (by simp) ?_
  refine AllReadyH.cons (o := _) rfl (fun K hK => ?_) ?_
  ·go_simp
   refine hK.out _ _ ?_ (fun hHeld2 => ?_)
   ·(first | exact ⟨tk1, ak3⟩ | exact ⟨l1, l6⟩ | exact ⟨ty1, ay3⟩ | (simp [go_sem, *]; done))
   clear hK K
   try simp only [Act.put, List.setIfInBounds_toArray, List.set_cons_zero, List.set_cons_succ]
   refine wpAnyH_ready (rs := [11]) (by kernel_rfl) (by simp) ?_
   refine AllReadyH.cons (o := _) rfl (fun K hK => ?_) ?_
   ·(first | (refine Kd.R_append_step k43 (w0 := w0) (W := w4.drew) w0.heap.size (by rfl) (.tmp 66) (.tmp 72) 25 43 (.agg #[.int .i64 0, .int .i64 0, .string (⟨#[]⟩ : ByteArray), .int .i64 0, .int .i64 0, .int .i64 0, .string (⟨#[]⟩ : ByteArray), .slice none 0 0]) 96 rfl Tryz.underlying25 info43 rfl (by decide) (by omega) (.slice Ai its.length ci) its (⟨1, t.f1, (aheadF L i 1).f3, z40, []⟩ : S43) [.int .i64 1, .int .i64 t.f1, .string (aheadF L i 1).f3, .int .i64 0, .int .i64 0, .int .i64 0, .string (⟨#[]⟩ : ByteArray), .slice none 0 0] (fun k => some k ≠ ov.ownBlock) (fun _ => False) rfl rfl ?aP (fun _ hk => hk.elim) ?aF ?aO ?aB ?aS ?aL ?_; (case aP => exact k43_mkM _ _ _ _ (Kd.R_nil _ _ _ _ _)); (case aF => exact (fun k hk => hfr.out k (Nat.le_trans HK.out.1 hk))); (case aO => exact Kd.R_drew HI.out); (case aB => exact below_drew1 HB.out); (case aS => exact HB.out.size); (case aL => omega); intro v6 w6 ho6 hb6 hg6 hat6; obtain ⟨A6, m6, e6⟩ := Kd.R_slice ho6; subst e6; have BG6 := aM (blk_grown (blk_drew BG.out) hg6 hgo.out); have HR6 := aM ho6; have HB6 := aM hb6; have HG6 := aM hg6; have HT6 := aM hat6; obtain ⟨yk0, yk1, yk2, yk3, yk4, ym0, ym1, ym2, ym3, ym4⟩ := b5 BG6.out; obtain ⟨ty0, ty1, ty2, ty3, -, -, -, -⟩ := b4 (aM (blk_grown (blk_drew BT4.out) hg6 hgt.out)); obtain ⟨ay0, ay1, ay2, ay3, -, -, -, -⟩ := b4 (aM (blk_grown (blk_drew BA4.out) hg6 hga.out)); clear ho6 hb6 hg6 hat6))
    refine hK.out _ _ ?_ (fun hHeld2 => ?_)
    ·(first | exact ⟨tk1, ak3⟩ | exact ⟨l1, l6⟩ | exact ⟨ty1, ay3⟩ | (simp [go_sem, *]; done))
    clear hK K
    try simp only [Act.put, List.setIfInBounds_toArray, List.set_cons_zero, List.set_cons_succ]
    refine wpAnyH_take (i := 12) (oi := _) (v := ?v12_12) rfl (by kernel_rfl) (by kernel_rfl) (by kernel_rfl) (fun _ _ _ h => h) (Or.inl ⟨by rfl, ?y12_12⟩) (by assumption) ?r12_12
    case y12_12 => (intro w hSw; (try dsimp only at hSw); go_simp; (try with_reducible rfl))
    try simp only [Act.put, List.setIfInBounds_toArray, List.set_cons_zero, List.set_cons_succ]
    refine wpAnyH_take (i := 13) (oi := _) (v := ?v13_13) rfl (by kernel_rfl) (by kernel_rfl) (by kernel_rfl) (fun _ _ _ h => h) (Or.inl ⟨by rfl, ?y13_13⟩) (by assumption) ?r13_13
    case y13_13 => (intro w hSw; (try dsimp only at hSw); go_simp; (try with_reducible rfl))
    try simp only [Act.put, List.setIfInBounds_toArray, List.set_cons_zero, List.set_cons_succ]
    refine wpAnyH_ready (rs := [14]) (by kernel_rfl) (by simp) ?_
    refine AllReadyH.cons (o := _) rfl (fun K hK => ?_) ?_
    ·go_simp
     refine hK.out _ _ ?_ (fun hHeld2 => ?_)
     ·(first | exact ⟨tk1, ak3⟩ | exact ⟨l1, l6⟩ | exact ⟨ty1, ay3⟩ | (simp [go_sem, *]; done))
     clear hK K
     try simp only [Act.put, List.setIfInBounds_toArray, List.set_cons_zero, List.set_cons_succ]
     refine wpAnyH_done (by kernel_rfl) ?_ _
     refine NoPanic.normal ?_
     try go_wp2_with (fail)
     go_end0
     (replace HB := HB6; have GE2 := aM HS.out.ge; have HKg := aM (KeepBut.set_ (KeepBut.refl w6 g none) 4 (.slice A6 (its.length + 1) m6)))
     exact ⟨rfl, .slice A6 (its.length + 1) m6, ⟨bQ, GE2.out, kQ⟩, (by have := R_keepT HR6.out BG6.out (by decide) HKg.out; rw [List.length_append] at this; exact this), KeepBut.set_ (KeepBut.trans (KeepBut.weak HK.out _) (KeepBut.of_grown HG6.out g) (.inl rfl)) 4 _, HT6.out.imp (fun h => (by rw [List.length_append] at h; exact h)) (fun ⟨b, h1, h2⟩ => ⟨b, (by rw [List.length_append] at h1; exact h1), Nat.le_trans HK.out.1 h2⟩)⟩
    exact AllReadyH.nil
   exact AllReadyH.nil
  exact AllReadyH.nil
 exact AllReadyH.nil
end
end Go.Proofs.YtjplnhdplpiogaaGreatDoor.M
end
section
namespace Go.Proofs.YtjplnhdplpiogaaGreatDoor.M
open Go.RowKit Go.Proofs.YtjplnhdplpiogaaGreatDoorW.PrintWords Go.Proofs.YtjplnhdplpiogaaGreatDoorW.PrintLast Go.Proofs.YtjplnhdplpiogaaGreatDoorW.PrintMore
set_option linter.unusedVariables false
set_option linter.unusedSimpArgs false
set_option maxRecDepth 100000
set_option maxHeartbeats 8000000
/-- What a word does. -/
def wordE (L : List S40) (e i : Int) (its : List S43) : Ex (Int × List S43) :=
 if (rd_T40 L i).f3.toList = [100, 101, 102] ∧ (aheadF L i 2).f0 = 2 ∧ ((aheadF L i 1).f0 = 1 ∨ (aheadF L i 1).f0 = 2 ∨ (aheadF L i 1).f0 = 5) then some (.ok (i + 1, its ++ [⟨0, (rd_T40 L i).f1, (aheadF L i 2).f3, aheadF L i 1, []⟩]))
 else if (rd_T40 L i).f3.toList = [117, 115, 101, 99, 109, 97, 112] ∧ (aheadF L i 1).f0 = 2 then some (.ok (i + 1, its ++ [⟨1, (rd_T40 L i).f1, (aheadF L i 1).f3, z40, []⟩]))
 else if (rd_T40 L i).f3.toList = [117, 115, 101, 99, 109, 97, 112] ∨ (begunF (rd_T40 L i).f3).2 = true ∧ (aheadF L i 1).f0 ≠ 1 then some (.error ((rd_T40 L i).f1, 3))
 else if (begunF (rd_T40 L i).f3).2 = true then
  if (aheadF L i 1).f2 < 0 ∨ 100 < (aheadF L i 1).f2 then some (.error ((aheadF L i 1).f1, 6))
  else (sectionF (begunF (rd_T40 L i).f3).1 L e (i + 1) (aheadF L i 1).f2).map (secR (begunF (rd_T40 L i).f3).1 (rd_T40 L i).f1 its)
 else some (.ok (i + 1, its))
/-- What is open behind a token that is no word, or is deep. -/
def pairsE (opn : List Int) (t : S40) : Except (Int × Int) (List Int) :=
 if t.f0 = 6 ∨ t.f0 = 8 ∨ t.f0 = 10 then (if opn.length < 32 then .ok (opn ++ [t.f0]) else .error (t.f1, 5))
 else if t.f0 = 7 ∨ t.f0 = 9 ∨ t.f0 = 11 then (if opn ≠ [] ∧ opn.getLastD 0 + 1 = t.f0 then .ok opn.dropLast else .error (t.f1, 3))
 else .ok opn
theorem def_plain {s : ByteArray} (h : (begunF s).2 = true) : s.toList ≠ [100, 101, 102] ∧ s.toList ≠ [117, 115, 101, 99, 109, 97, 112] := by
 have hb : 5 ≤ s.size ∧ (s.extract 0 5).toList = (⟨#[98, 101, 103, 105, 110]⟩ : ByteArray).toList := by
  unfold begunF cutB at h
  by_cases hc : 5 ≤ s.size ∧ (s.extract 0 5).toList = (⟨#[98, 101, 103, 105, 110]⟩ : ByteArray).toList
  ·exact hc
  ·rw [if_neg hc] at h; simp at h
 have key : ∀ l : List UInt8, s.toList = l → (l.take 5) = [98, 101, 103, 105, 110] := by
  intro l hl
  have h2 := hb.2
  have e1 : s = ⟨l.toArray⟩ := by
   rw [← hl, ByteArray.toList_eq]
  rw [e1] at h2
  rw [ByteArray.toList_eq, ByteArray.toList_eq] at h2
  have h3 : (((⟨l.toArray⟩ : ByteArray).extract 0 5).data.toList) = l.take 5 := by simp [ByteArray.data_extract]
  rw [h3] at h2
  exact h2
 constructor
 ·intro h; exact absurd (key _ h) (by decide)
 ·intro h; exact absurd (key _ h) (by decide)
section
variable {w0 w : World} {g : Nat} {A : Option Addr} {c : Nat} {L : List S40} {i e : Int} {ov iv : Value}
theorem word_all (hC : Kd.C k40 w0 A L.length L) (hS : St w0 w g A c L i e ov iv) (h0 : 0 ≤ i) (hi1 : i < L.length) (its : List S43) (hI : k43.R 43 w w0.heap.size (fun k => some k ≠ ov.ownBlock) iv its) (hlen : its.length < 1000000) (hO : ∀ b, ov.ownBlock = some b → b < w.heap.size) (r : Except (Int × Int) (Int × List S43)) (h : wordE L e i its = some r) :
  Calls Tryz.prog 31 #[.pointer (some ⟨g, 0, none⟩), .agg (tok4 (rd_T40 L i))] w (ItOut w0 w g A c L e ov iv r) := by
 unfold wordE at h
 split at h
 ·rename_i hc
  obtain rfl := Option.some.inj h
  exact word_def hC hS h0 hi1 (rd_T40 L i) hc.1 hc.2.1 hc.2.2 its hI hlen hO
 rename_i hnd
 split at h
 ·rename_i hc
  obtain rfl := Option.some.inj h
  exact word_use hC hS h0 hi1 (rd_T40 L i) hc.1 hc.2 its hI hlen hO
 rename_i hnu
 split at h
 ·rename_i hc
  obtain rfl := Option.some.inj h
  refine word_fail hC hS h0 hi1 (rd_T40 L i) its hI hlen hO _ ?_
  by_cases hu : (rd_T40 L i).f3.toList = [117, 115, 101, 99, 109, 97, 112]
  ·exact .inl ⟨hu, fun h2 => hnu ⟨hu, h2⟩, rfl⟩
  ·obtain ⟨hb, ha⟩ := hc.resolve_left hu
   exact .inr (.inl ⟨(def_plain hb).1, hu, hb, ha, rfl⟩)
 rename_i hnf
 split at h
 ·rename_i hb
  have hp := def_plain hb
  have ha1 : (aheadF L i 1).f0 = 1 := Classical.byContradiction fun hx => hnf (.inr ⟨hb, hx⟩)
  split at h
  ·rename_i hc
   obtain rfl := Option.some.inj h
   refine word_fail hC hS h0 hi1 (rd_T40 L i) its hI hlen hO _ ?_
   by_cases hlt : (aheadF L i 1).f2 < 0
   ·exact .inr (.inr (.inl ⟨hp.1, hp.2, hb, ha1, hlt, rfl⟩))
   ·exact .inr (.inr (.inr ⟨hp.1, hp.2, hb, ha1, by omega, hc.resolve_left hlt, rfl⟩))
  ·rename_i hc
   obtain ⟨rs, hs, rfl⟩ := Option.map_eq_some_iff.mp h
   exact word_sect hC hS h0 hi1 (rd_T40 L i) _ (begun_kind hb) hp.1 hp.2 (by rw [← hb]) ha1 (by omega) (by omega) rs hs its hI hlen hO
 ·rename_i hb
  obtain rfl := Option.some.inj h
  refine word_none hC hS h0 hi1 (rd_T40 L i) its hI hlen hO ⟨?_, fun hu => hnf (.inl hu), by simpa using hb⟩
  by_cases h1 : (rd_T40 L i).f3.toList = [100, 101, 102]
  ·by_cases h2 : (aheadF L i 2).f0 = 2
   ·exact .inr (.inr (fun h3 => hnd ⟨h1, h2, h3⟩))
   ·exact .inr (.inl h2)
  ·exact .inl h1
/-- What is open, or is not closed in order. -/
def PrOut (w0 w : World) (g : Nat) (A : Option Addr) (c : Nat) (L : List S40) (n e : Int) (ov iv : Value) : Except (Int × Int) (List Int) → Ending → World → Prop
 | .error p, x, w' => x = .panicked [wrongE p.1 p.2 false] ∧ KeepBut w w' g none ∧ Below w0.heap.size w0 w'
 | .ok opn', x, w' => x = .returned (.tuple #[]) ∧ ∃ ov', St w0 w' g A c L n e ov' iv ∧ (Kd.int .i64).R 3 w' w0.heap.size (fun _ => True) ov' opn' ∧ KeepBut w w' g ov.ownBlock ∧ (ov'.ownBlock = ov.ownBlock ∨ ∃ b, ov'.ownBlock = some b ∧ w.heap.size ≤ b)
theorem pairs_deep (hS : St w0 w g A c L i e ov iv) (opn : List Int) (hO : (Kd.int .i64).R 3 w w0.heap.size (fun _ => True) ov opn) (t : S40) (hk : t.f0 = 6 ∨ t.f0 = 8 ∨ t.f0 = 10) (hn : opn.length = 32) :
  Calls Tryz.prog 32 #[.pointer (some ⟨g, 0, none⟩), .agg (tok4 t)] w fun x w' => x = .panicked [wrongE t.f1 5 false] ∧ KeepBut w w' g none ∧ Below w0.heap.size w0 w' := by
 obtain ⟨Ao, m, rfl⟩ := Kd.R_slice hO
 have hu40 := Tryz.underlying40
 have hu58 := Tryz.underlying58
 have hn32 : (((opn.length : Nat) : Int) == 32) = true := beq_iff_eq.mpr (by omega)
 have hb : Below w.heap.size w (w.alloc (.cells #[.int .i64 t.f0, .int .i64 t.f1, .int .i64 t.f2, .string t.f3] 40)) := below_alloc (Below.refl _ _) _
 have HS := aM (hS.of_below hb)
 have HK := aM (KeepBut.of_below hb g none)
 have BT := aM (blk_new w (.cells #[.int .i64 t.f0, .int .i64 t.f1, .int .i64 t.f2, .string t.f3] 40))
 clear hS hO hn hb
 obtain ⟨sc0, sc1, sc2, sc3, sc4, sf0, sf1, sf2, sf3, sf4⟩ := b5 HS.out.blk
 obtain ⟨tk0, tk1, tk2, tk3, tm0, tm1, tm2, tm3⟩ := b4 BT
 have hq : (t.f0 == 6) = true ∨ (t.f0 == 6) = false ∧ (t.f0 == 8) = true ∨ (t.f0 == 6) = false ∧ (t.f0 == 8) = false ∧ (t.f0 == 10) = true := by
  rcases hk with h | h | h
  ·exact .inl (beq_iff_eq.mpr h)
  ·exact .inr (.inl ⟨beq_eq_false_iff_ne.mpr (by omega), beq_iff_eq.mpr h⟩)
  ·exact .inr (.inr ⟨beq_eq_false_iff_ne.mpr (by omega), beq_eq_false_iff_ne.mpr (by omega), beq_iff_eq.mpr h⟩)
 clear hk
 rcases hq with c6 | ⟨c6, c8⟩ | ⟨c6, c8, c10⟩
 all_goals
  go_enter Tryz.func32, Tryz.ntmps32
  go_wp2_with (first | (go_at_call 33; (with_reducible refine (fail_calls _ _ _).mono ?_); rintro x wf ⟨rfl, hbf⟩))
  exact ⟨rfl, rfl, KeepBut.trans HK.out (KeepBut.of_below hbf g none) (.inl rfl), below_step HS.out.below hbf⟩
theorem pairs_bad (hS : St w0 w g A c L i e ov iv) (opn : List Int) (hO : (Kd.int .i64).R 3 w w0.heap.size (fun _ => True) ov opn) (hb8 : ∀ k ∈ opn, k = 6 ∨ k = 8 ∨ k = 10) (t : S40) (hk : t.f0 = 7 ∨ t.f0 = 9 ∨ t.f0 = 11) (hn : opn = [] ∨ opn.getLastD 0 + 1 ≠ t.f0) :
  Calls Tryz.prog 32 #[.pointer (some ⟨g, 0, none⟩), .agg (tok4 t)] w fun x w' => x = .panicked [wrongE t.f1 3 false] ∧ KeepBut w w' g none ∧ Below w0.heap.size w0 w' := by
 have hu40 := Tryz.underlying40
 have hu47 := Tryz.underlying47
 have hu58 := Tryz.underlying58
 have hb : Below w.heap.size w (w.alloc (.cells #[.int .i64 t.f0, .int .i64 t.f1, .int .i64 t.f2, .string t.f3] 40)) := below_alloc (Below.refl _ _) _
 have HS := aM (hS.of_below hb)
 have HK := aM (KeepBut.of_below hb g none)
 have BT := aM (blk_new w (.cells #[.int .i64 t.f0, .int .i64 t.f1, .int .i64 t.f2, .string t.f3] 40))
 have c6 : (t.f0 == 6) = false := beq_eq_false_iff_ne.mpr (by omega)
 have c8 : (t.f0 == 8) = false := beq_eq_false_iff_ne.mpr (by omega)
 have c10 : (t.f0 == 10) = false := beq_eq_false_iff_ne.mpr (by omega)
 have hq : (t.f0 == 7) = true ∨ (t.f0 == 7) = false ∧ (t.f0 == 9) = true ∨ (t.f0 == 7) = false ∧ (t.f0 == 9) = false ∧ (t.f0 == 11) = true := by
  rcases hk with h | h | h
  ·exact .inl (beq_iff_eq.mpr h)
  ·exact .inr (.inl ⟨beq_eq_false_iff_ne.mpr (by omega), beq_iff_eq.mpr h⟩)
  ·exact .inr (.inr ⟨beq_eq_false_iff_ne.mpr (by omega), beq_eq_false_iff_ne.mpr (by omega), beq_iff_eq.mpr h⟩)
 obtain ⟨Ao, m, rfl⟩ := Kd.R_slice hO
 by_cases he : opn = []
 ·subst he
  have hn0 : (((([] : List Int).length : Nat) : Int) == 0) = true := rfl
  clear hS hO hn hb hk hb8
  obtain ⟨sc0, sc1, sc2, sc3, sc4, sf0, sf1, sf2, sf3, sf4⟩ := b5 HS.out.blk
  obtain ⟨tk0, tk1, tk2, tk3, tm0, tm1, tm2, tm3⟩ := b4 BT
  rcases hq with c7 | ⟨c7, c9⟩ | ⟨c7, c9, c11⟩
  all_goals
   go_enter Tryz.func32, Tryz.ntmps32
   go_wp2_with (fail)
   go_quiet (fail)
   try go_wp2_with (first | (go_at_call 33; (with_reducible refine (fail_calls _ _ _).mono ?_); rintro x wf ⟨rfl, hbf⟩))
   exact ⟨rfl, rfl, KeepBut.trans HK.out (KeepBut.trans (KeepBut.of_below (pw_below_drewN (Below.refl _ _) _) g none) (KeepBut.of_below hbf g none) (.inl rfl)) (.inl rfl), below_step (pw_below_drewN HS.out.below _) hbf⟩
 ·obtain ⟨pre, k, rfl⟩ : ∃ pre k, opn = pre ++ [k] := ⟨opn.dropLast, opn.getLast he, (List.dropLast_concat_getLast he).symm⟩
  have hkk := hb8 k (by simp)
  have hne := hn.resolve_left he
  rw [show (pre ++ [k]).getLastD 0 = k by simp] at hne
  have hlen : (pre ++ [k]).length = pre.length + 1 := by simp
  obtain ⟨ad, hA, hx⟩ := Kd.at_int (Kd.C_below (Kd.R_reads' hO).2.2 hb) (pre.length : Int) (by omega) (by rw [hlen]; omega)
  subst hA
  rw [rd_last] at hx
  have hxx : (((pre.length : Nat) : Int)).toNat = pre.length := by omega
  rw [hxx] at hx
  have hmx : (pre.length : Int) + 1 ≤ 9223372036854775807 := by have := (Kd.C_max (Kd.R_reads' hO).2.2); rw [hlen] at this; omega
  rw [hlen] at HS
  have hw2 : wrap64 (((pre.length : Int) + 1) - 1) = pre.length := by unfold wrap64; omega
  have hw3 : wrap64 (k + 1) = k + 1 := by unfold wrap64; omega
  have hn0 : (((pre.length : Int) + 1) == 0) = false := beq_eq_false_iff_ne.mpr (by omega)
  have p9 := eq_true (show (0 : Int) ≤ pre.length by omega)
  have q9 := eq_true (show (pre.length : Int) < pre.length + 1 by omega)
  have hkn : ((k + 1) != t.f0) = true := bne_iff_ne.mpr hne
  clear hS hO hn hb hk hb8 hne he
  obtain ⟨sc0, sc1, sc2, sc3, sc4, sf0, sf1, sf2, sf3, sf4⟩ := b5 HS.out.blk
  obtain ⟨tk0, tk1, tk2, tk3, tm0, tm1, tm2, tm3⟩ := b4 BT
  rcases hq with c7 | ⟨c7, c9⟩ | ⟨c7, c9, c11⟩
  all_goals
   go_enter Tryz.func32, Tryz.ntmps32
   go_wp2_with (fail)
   go_quiet (fail)
   try go_wp2_with (first | (go_at_call 33; (with_reducible refine (fail_calls _ _ _).mono ?_); rintro x wf ⟨rfl, hbf⟩))
   exact ⟨rfl, rfl, KeepBut.trans HK.out (KeepBut.trans (KeepBut.of_below (pw_below_drewN (Below.refl _ _) _) g none) (KeepBut.of_below hbf g none) (.inl rfl)) (.inl rfl), below_step (pw_below_drewN HS.out.below _) hbf⟩
theorem pairs_all (hS : St w0 w g A c L i e ov iv) (h0 : 0 ≤ i) (h1 : i < 9223372036854775807) (opn : List Int) (hO : (Kd.int .i64).R 3 w w0.heap.size (fun _ => True) ov opn) (hb : ∀ k ∈ opn, k = 6 ∨ k = 8 ∨ k = 10) (h32 : opn.length ≤ 32) (t : S40) :
  Calls Tryz.prog 32 #[.pointer (some ⟨g, 0, none⟩), .agg (tok4 t)] w (PrOut w0 w g A c L (i + 1) e ov iv (pairsE opn t)) := by
 have hok : ∀ opn', pairsF opn t.f0 = some opn' → Calls Tryz.prog 32 #[.pointer (some ⟨g, 0, none⟩), .agg (tok4 t)] w (PrOut w0 w g A c L (i + 1) e ov iv (.ok opn')) := fun opn' h => pairs_calls hS h0 h1 opn hO hb t opn' h
 unfold pairsE
 split
 ·rename_i hk
  split
  ·rename_i hn
   exact hok _ (by unfold pairsF; rw [if_pos hk, if_pos hn])
  ·exact pairs_deep hS opn hO t hk (by omega)
 ·rename_i hk
  split
  ·rename_i hk2
   split
   ·rename_i hc
    exact hok _ (by unfold pairsF; rw [if_neg hk, if_pos hk2, if_pos hc])
   ·rename_i hc
    refine pairs_bad hS opn hO hb t hk2 ?_
    by_cases he : opn = []
    ·exact .inl he
    ·exact .inr (fun h2 => hc ⟨he, h2⟩)
  ·rename_i hk2
   exact hok _ (by unfold pairsF; rw [if_neg hk, if_neg hk2])
end
end Go.Proofs.YtjplnhdplpiogaaGreatDoor.M
end
section
namespace Go.Proofs.YtjplnhdplpiogaaGreatDoor.M
open Go.RowKit Go.Proofs.YtjplnhdplpiogaaGreatDoorW.PrintWords Go.Proofs.YtjplnhdplpiogaaGreatDoorW.PrintLast Go.Proofs.YtjplnhdplpiogaaGreatDoorW.PrintMore
set_option linter.unusedVariables false
set_option linter.unusedSimpArgs false
set_option maxRecDepth 100000
set_option maxHeartbeats 8000000
section
variable {α : Type} {d : Kd α} {e base g t : Nat} {w w1 : World} {ok : Nat → Prop} {v ov ov' : Value} {xs : List α} {cs : Array Value}
theorem R_next (h : d.R e w base (fun k => some k ≠ ov.ownBlock) v xs) (hb : w.heap[g]? = some (.cells cs t (0, 0))) (ht : ∀ q, q ∈ e :: d.E → q ≠ t) (hk : KeepBut w w1 g ov.ownBlock) (ho : ov'.ownBlock = ov.ownBlock ∨ ∃ b, ov'.ownBlock = some b ∧ w.heap.size ≤ b) : d.R e w1 base (fun k => some k ≠ ov'.ownBlock) v xs :=
 Kd.R_mono (Kd.R_step (Kd.R_bound h) (fun k hq hlt => hk.2 k hlt (fun hkg => by
  subst hkg
  obtain ⟨q, hq, cells, hc⟩ := hq.2.2.2
  rw [hb] at hc
  injection hc with h1
  injection h1 with _ h2
  exact ht q hq h2.symm) hq.1)) (fun k hq => by
  rcases ho with h | ⟨b, h1, h2⟩
  ·rw [h]; exact hq.1
  ·rw [h1]
   intro he
   injection he with he
   have := hq.2.2.1
   omega)
theorem R_int_row {ys : List Int} {row : Option Nat} (h : (Kd.int .i64).R 3 w base ok v ys) (hb : w.heap[g]? = some (.cells cs t (0, 0))) (ht : 3 ≠ t) (hk : KeepBut w w1 g row) (hne : ∀ k, row = some k → some k ≠ v.ownBlock) : (Kd.int .i64).R 3 w1 base (fun _ => True) v ys := by
 have h2 : (Kd.int .i64).R 3 w base (fun k => v.ownBlock = some k) v ys := ⟨fun k hk => hk, h.2⟩
 refine Kd.R_mono (Kd.R_step h2 (fun k hv hlt => hk.2 k hlt (fun hkg => ?_) (fun hr => ?_))) (fun _ _ => trivial)
 ·subst hkg
  exact Kd.R_ne h hb ht hv.symm
 ·exact hne k hr.symm hv.symm
end
end Go.Proofs.YtjplnhdplpiogaaGreatDoor.M
end
section
namespace Go.Proofs.YtjplnhdplpiogaaGreatDoor.M
open Go.RowKit Go.Proofs.YtjplnhdplpiogaaGreatDoorW.PrintWords Go.Proofs.YtjplnhdplpiogaaGreatDoorW.PrintLast Go.Proofs.YtjplnhdplpiogaaGreatDoorW.PrintMore
set_option linter.unusedVariables false
set_option linter.unusedSimpArgs false
set_option maxRecDepth 100000
set_option maxHeartbeats 8000000
/-- What the run over all tokens comes to. -/
def runG (L : List S40) (e : Int) : Nat → Int → List Int → List S43 → Ex (List S43)
 | 0, _, _, _ => none
 | k + 1, i, opn, its =>
  if i < L.length then
   (if (rd_T40 L i).f0 = 3 ∧ opn = [] then (if its.length < 1000000 then bX (wordE L e i its) fun r => runG L e k r.1 [] r.2 else none)
   else bX (some (pairsE opn (rd_T40 L i))) fun opn' => runG L e k (i + 1) opn' its)
  else if opn = [] then some (.ok its) else some (.error (e, 2))
theorem pairsE_kinds {opn opn' : List Int} {t : S40} (hb : ∀ q ∈ opn, q = 6 ∨ q = 8 ∨ q = 10) (h32 : opn.length ≤ 32) (h : pairsE opn t = .ok opn') : (∀ q ∈ opn', q = 6 ∨ q = 8 ∨ q = 10) ∧ opn'.length ≤ 32 := by
 unfold pairsE at h
 split at h
 ·rename_i hk
  split at h
  ·injection h with h; subst h
   refine ⟨fun q hq => ?_, by simp; omega⟩
   rcases List.mem_append.mp hq with h | h
   ·exact hb q h
   ·rw [List.mem_singleton] at h; subst h; exact hk
  ·cases h
 ·split at h
  ·split at h
   ·injection h with h; subst h
    exact ⟨fun q hq => hb q ((List.dropLast_sublist opn).subset hq), by rw [List.length_dropLast]; omega⟩
   ·cases h
  ·injection h with h; subst h
   exact ⟨hb, h32⟩
theorem wordE_pos {L : List S40} {e i : Int} {its : List S43} {q : Int × List S43} (h0 : 0 ≤ i) (h : wordE L e i its = some (.ok q)) : 0 ≤ q.1 := by
 unfold wordE at h
 split at h
 ·injection h with h; injection h with h; rw [← h]; show 0 ≤ i + 1; omega
 split at h
 ·injection h with h; injection h with h; rw [← h]; show 0 ≤ i + 1; omega
 split at h
 ·injection h with h; cases h
 split at h
 ·split at h
  ·injection h with h; cases h
  ·obtain ⟨rs, hs, hr⟩ := Option.map_eq_some_iff.mp h
   match rs, hr with
   | .ok q', hr =>
    injection hr with hr
    rw [← hr]
    show 0 ≤ q'.2
    unfold sectionF at hs
    obtain ⟨p, h1, h2⟩ | ⟨f, h1, h2⟩ := bX_ok hs
    ·cases h2
    split at h2
    ·injection h2 with h2; injection h2 with h2
     rw [← h2]
     have : ∀ (k : Nat) (j : Int) (o : List S50), 0 ≤ j → secL (begunF (rd_T40 L i).f3).1 L e k j o = some (.ok f) → 0 ≤ f.2 := by
      intro k
      induction k with
      | zero => intro j o hj hl; cases hl
      | succ k ih =>
       intro j o hj hl
       rw [secL] at hl
       split at hl
       ·injection hl with hl; injection hl with hl; rw [← hl]; exact hj
       ·split at hl
        ·obtain ⟨p, h5, h6⟩ | ⟨u, h5, h6⟩ := bX_ok hl
         ·cases h6
         ·exact ih _ _ (entG_pos hj h5) h6
        ·cases hl
     have := this _ _ _ (by omega) h1
     show 0 ≤ f.2 + 1
     omega
    ·injection h2 with h2; cases h2
 ·injection h with h; injection h with h; rw [← h]; show 0 ≤ i + 1; omega
def RunOut (w0 : World) (g : Nat) (A : Option Addr) (c : Nat) (L : List S40) (e : Int) : Except (Int × Int) (List S43) → Ending → World → Prop
 | .ok its, x, w' => x = .returned (.agg #[.int .i64 e, .int .i64 0]) ∧ ∃ i ov iv, St w0 w' g A c L i e ov iv ∧ k43.R 43 w' w0.heap.size (fun k => some k ≠ ov.ownBlock) iv its
 | .error p, x, w' => x = .returned (.agg #[.int .i64 p.1, .int .i64 p.2]) ∧ Below w0.heap.size w0 w'
section
variable {w0 w : World} {g : Nat} {A : Option Addr} {c : Nat} {L : List S40} {e : Int}
theorem run_all (hC : Kd.C k40 w0 A L.length L) (hS : St w0 w g A c L 0 e (.slice none 0 0) (.slice none 0 0)) (k : Nat) (r : Except (Int × Int) (List S43)) (h : runG L e k 0 [] [] = some r) :
  Calls Tryz.prog 20 #[.pointer (some ⟨g, 0, none⟩)] w fun x w' => RunOut w0 g A c L e r x w' := by
 have hu40 := Tryz.underlying40
 have hu58 := Tryz.underlying58
 have hu60 := Tryz.underlying60
 have hmf : ∀ (fn : Fn) (first cap : Array Value) (w : World), (Instr.makeFunc fn first cap).run Tryz.prog w = .ok (.func fn first cap) w := fun _ _ _ _ => rfl
 have hL : (L.length : Int) ≤ 9223372036854775807 := by have := Kd.C_max hC; omega
 have HS := aM hS
 have HH := aM h
 have HK := aM (KeepBut.refl w g none)
 clear hS h
 go_enter_defers Tryz.func20, Tryz.ntmps20
 go_wp2_with (first | ((with_reducible refine gD 2 ?_); refine bE 2 (cs := #[.int .i64 0, .int .i64 0]) (t := 60) ?_; intro gr hg w1 hbox hb; have BR := aM hbox; have NR := aM (show g ≠ gr by rw [hg]; exact Nat.ne_of_lt (blk_lt HS.out.blk)); have GR := aM (show w0.heap.size ≤ gr by rw [hg]; exact HS.out.below.size); replace HS := stQ HS hb; clear hb hbox hg))
 go_loopg [] k (fun kq w' => ∃ (i : Int) (opn : List Int) (its : List S43) (ov iv : Value), Aside0 (runG L e kq i opn its = some r) ∧ Aside0 (kq ≤ k) ∧ Aside0 (0 ≤ i) ∧ Aside0 ((∀ k ∈ opn, k = 6 ∨ k = 8 ∨ k = 10) ∧ opn.length ≤ 32) ∧ Aside0 (St w0 w' g A c L i e ov iv) ∧ Aside0 (w'.heap[gr]? = some (.cells #[.int .i64 0, .int .i64 0] 60 (0, 0))) ∧ Aside0 ((Kd.int .i64).R 3 w' w0.heap.size (fun _ => True) ov opn) ∧ Aside0 (k43.R 43 w' w0.heap.size (fun k => some k ≠ ov.ownBlock) iv its))
 case atStart => exact ⟨0, [], [], .slice none 0 0, .slice none 0 0, HH, ⟨Nat.le_refl _⟩, ⟨Int.le_refl 0⟩, ⟨by simp, by simp⟩, ⟨stC HS⟩, ⟨stB BR⟩, ⟨Kd.R_nil _ _ _ _ _⟩, ⟨Kd.R_nil _ _ _ _ _⟩⟩
 case round =>
  clear HH HS BR HK
  obtain ⟨i, opn, its, ov, iv, HF, HQ, HI0, HBK, HS, BR, HO, HI⟩ := hrel
  cases gk with
  | zero => exact absurd HF.out (by simp [runG])
  | succ k1 =>
   have hF := HF.out
   clear HF
   rw [runG] at hF
   obtain ⟨Ao, mo, hov⟩ := Kd.R_slice HO.out
   subst hov
   obtain ⟨sc0, sc1, sc2, sc3, sc4, sf0, sf1, sf2, sf3, sf4⟩ := b5 HS.out.blk
   split at hF
   ·rename_i hlt
    have hc : decide (i < (L.length : Int)) = true := decide_eq_true hlt
    have h0 := HI0.out
    obtain ⟨ad, hA, x0, x1, x2, x3⟩ := at_T40 (Kd.C_below hC HS.out.below) i h0 hlt
    subst hA
    have p9 := eq_true h0
    have q9 := eq_true hlt
    have HLT := aM hlt
    have NX := aM (Nat.ne_of_lt (blk_lt HS.out.blk))
    have NX2 := aM (Nat.ne_of_lt (blk_lt BR.out))
    have GX := aM HS.out.below.size
    have HB := aM HS.out.below
    have BG := aM HS.out.blk
    have a0 := al_cell (.cells #[.int .i64 0, .int .i64 0, .int .i64 0, .string (⟨#[]⟩ : ByteArray)] 40) sc0
    have a1 := al_cell (.cells #[.int .i64 0, .int .i64 0, .int .i64 0, .string (⟨#[]⟩ : ByteArray)] 40) sc1
    have y0 := al_cell (.cells #[.int .i64 0, .int .i64 0, .int .i64 0, .string (⟨#[]⟩ : ByteArray)] 40) x0
    have y1 := al_cell (.cells #[.int .i64 0, .int .i64 0, .int .i64 0, .string (⟨#[]⟩ : ByteArray)] 40) x1
    have y2 := al_cell (.cells #[.int .i64 0, .int .i64 0, .int .i64 0, .string (⟨#[]⟩ : ByteArray)] 40) x2
    have y3 := al_cell (.cells #[.int .i64 0, .int .i64 0, .int .i64 0, .string (⟨#[]⟩ : ByteArray)] 40) x3
    have n0 := al_new wr #[.int .i64 0, .int .i64 0, .int .i64 0, .string (⟨#[]⟩ : ByteArray)] 40 0 rfl
    have n1 := al_new wr #[.int .i64 0, .int .i64 0, .int .i64 0, .string (⟨#[]⟩ : ByteArray)] 40 1 rfl
    have n2 := al_new wr #[.int .i64 0, .int .i64 0, .int .i64 0, .string (⟨#[]⟩ : ByteArray)] 40 2 rfl
    have n3 := al_new wr #[.int .i64 0, .int .i64 0, .int .i64 0, .string (⟨#[]⟩ : ByteArray)] 40 3 rfl
    have z0 := al_fz wr #[.int .i64 0, .int .i64 0, .int .i64 0, .string (⟨#[]⟩ : ByteArray)] 40
    have hFF := aM hF
    clear hF
    go_wp2_with (fail)
    go_quiet (fail)
    try go_wp2_with (fail)
    go_region
    refine norm_w (F := fun W => St w0 W g (some ad) c L i e (.slice Ao opn.length mo) iv ∧ W.heap[gr]? = some (.cells #[.int .i64 0, .int .i64 0] 60 (0, 0)) ∧ (Kd.int .i64).R 3 W w0.heap.size (fun _ => True) (.slice Ao opn.length mo) opn ∧ k43.R 43 W w0.heap.size (fun k => some k ≠ (Value.slice Ao opn.length mo).ownBlock) iv its ∧ W.heap[wr.heap.size]? = some (.cells (tok4 (rd_T40 L i)) 40 (0, 0))) ⟨⟨bQ, HS.out.ge, kQ⟩, kQ, R_keepT (Kd.R_alloc (Kd.R_drewN HO.out _) _) (blk_newN wr _ _) (by decide) (KeepBut.set_ (KeepBut.set_ (KeepBut.set_ (KeepBut.set_ (KeepBut.refl _ _ none) 0 _) 1 _) 2 _) 3 _), R_keepT (Kd.R_alloc (Kd.R_drewN HI.out _) _) (blk_newN wr _ _) (by decide) (KeepBut.set_ (KeepBut.set_ (KeepBut.set_ (KeepBut.set_ (KeepBut.refl _ _ none) 0 _) 1 _) 2 _) 3 _), kQ3⟩ ?_
    clear HS BR HO HI HB BG sc0 sc1 sc2 sc3 sc4 sf0 sf1 sf2 sf3 sf4 x0 x1 x2 x3 a0 a1 y0 y1 y2 y3 n0 n1 n2 n3 z0
    rintro w4 ⟨hs4, br4, ho4, hi4, bt4⟩
    have HS := aM hs4
    have BR := aM br4
    have HO := aM ho4
    have HI := aM hi4
    obtain ⟨sc0, sc1, sc2, sc3, sc4, sf0, sf1, sf2, sf3, sf4⟩ := b5 HS.out.blk
    obtain ⟨tk0, tk1, tk2, tk3, tm0, tm1, tm2, tm3⟩ := b4 (aM bt4)
    have hgr := aM (Kd.R_ne ho4 br4 (by decide))
    have hgi := aM (Kd.R_ne hi4 br4 (by decide))
    clear hs4 br4 ho4 hi4 bt4
    have hF := hFF.out
    split at hF
    ·rename_i hcase
     obtain ⟨hk3, ho⟩ := hcase
     have hb3 : ((rd_T40 L i).f0 == 3) = true := beq_iff_eq.mpr hk3
     subst ho
     split at hF
     rotate_left
     ·cases hF
     rename_i hlen
     have HLEN := aM hlen
     clear hlen hk3 hFF
     obtain ⟨p, hw, rfl⟩ | ⟨⟨i', its'⟩, hw, hF⟩ := bX_ok hF
     ·have HW := aM hw
      clear hF hw
      go_wp2_with (first | (go_at_call 31; (with_reducible refine (word_all hC (stC HS) h0 HLT.out its HI.out HLEN.out (fun b hb => Kd.R_lt HO.out b hb) _ HW.out).mono ?_); rintro x w6 ⟨rfl, hk6, hbe⟩))
      refine leaves_cons (f := 30) (args := #[.pointer (some ⟨gr, 0, none⟩)]) (by simp) (by simp [go_sem]) ?_
      refine (catch_panicking 0 0 p.1 p.2 [] (KeepBut.blk hk6 BR.out (Ne.symm NR.out) (by simp))).mono ?_
      rintro e' u' w'' ⟨rfl, rfl, rfl⟩
      have BRr := aM (KeepBut.blk hk6 BR.out (Ne.symm NR.out) (by simp))
      have HB := aM hbe
      refine Exists.intro _ (And.intro (results_cell_row rfl _ _ gr 60 #[.int .i64 p.1, .int .i64 p.2] (0, 0) _ rfl kQ Tryz.underlying60 rfl (by kernel_rfl)) ?_)
      exact ⟨rfl, bQ⟩
     ·dsimp only at hF
      have HF := aM hF
      have HW := aM hw
      clear hF hw
      go_wp2_with (first | (go_at_call 31; (with_reducible refine (word_all hC (stC HS) h0 HLT.out its HI.out HLEN.out (fun b hb => Kd.R_lt HO.out b hb) _ HW.out).mono ?_); rintro x w6 ⟨rfl, iv', hs6, hr6, hk6, ht6⟩))
      have HO6 := R_int_row HO.out HS.out.blk (by decide) hk6 (fun q hq => by have := HI.out.1 q hq; exact this)
      have BR6 := KeepBut.blk hk6 BR.out (Ne.symm NR.out) hgi.out
      go_roundg k1
      case measure => have := HQ.out; omega
      case rel => exact ⟨i', [], its', _, iv', HF, ⟨by have := HQ.out; omega⟩, ⟨wordE_pos h0 HW.out⟩, ⟨by simp, by simp⟩, ⟨hs6⟩, ⟨BR6⟩, ⟨HO6⟩, ⟨hr6⟩⟩
    ·rename_i hcase
     obtain ⟨p, hp, rfl⟩ | ⟨opn', hp, hF⟩ := bX_ok hF
     ·have HP := aM (Option.some.inj hp)
      clear hF hp hFF
      by_cases hk3 : (rd_T40 L i).f0 = 3
      ·have hb3 : ((rd_T40 L i).f0 == 3) = true := beq_iff_eq.mpr hk3
       have hb4 : (((opn.length : Nat) : Int) == 0) = false := beq_eq_false_iff_ne.mpr (by have : opn ≠ [] := fun h => hcase ⟨hk3, h⟩; have := List.length_pos_iff.mpr this; omega)
       clear hk3 hcase
       go_wp2_with (first | (go_at_call 32; (with_reducible refine (pairs_all (stC HS) h0 (by have := HLT.out; omega) opn HO.out HBK.out.1 HBK.out.2 (rd_T40 L i)).mono ?_); rw [HP.out]; rintro x w6 ⟨rfl, hk6, hbe⟩))
       refine leaves_cons (f := 30) (args := #[.pointer (some ⟨gr, 0, none⟩)]) (by simp) (by simp [go_sem]) ?_
       refine (catch_panicking 0 0 p.1 p.2 [] (KeepBut.blk hk6 BR.out (Ne.symm NR.out) (by simp))).mono ?_
       rintro e' u' w'' ⟨rfl, rfl, rfl⟩
       have BRr := aM (KeepBut.blk hk6 BR.out (Ne.symm NR.out) (by simp))
       have HB := aM hbe
       refine Exists.intro _ (And.intro (results_cell_row rfl _ _ gr 60 #[.int .i64 p.1, .int .i64 p.2] (0, 0) _ rfl kQ Tryz.underlying60 rfl (by kernel_rfl)) ?_)
       exact ⟨rfl, bQ⟩
      ·have hb3 : ((rd_T40 L i).f0 == 3) = false := beq_eq_false_iff_ne.mpr hk3
       clear hk3 hcase
       go_wp2_with (first | (go_at_call 32; (with_reducible refine (pairs_all (stC HS) h0 (by have := HLT.out; omega) opn HO.out HBK.out.1 HBK.out.2 (rd_T40 L i)).mono ?_); rw [HP.out]; rintro x w6 ⟨rfl, hk6, hbe⟩))
       refine leaves_cons (f := 30) (args := #[.pointer (some ⟨gr, 0, none⟩)]) (by simp) (by simp [go_sem]) ?_
       refine (catch_panicking 0 0 p.1 p.2 [] (KeepBut.blk hk6 BR.out (Ne.symm NR.out) (by simp))).mono ?_
       rintro e' u' w'' ⟨rfl, rfl, rfl⟩
       have BRr := aM (KeepBut.blk hk6 BR.out (Ne.symm NR.out) (by simp))
       have HB := aM hbe
       refine Exists.intro _ (And.intro (results_cell_row rfl _ _ gr 60 #[.int .i64 p.1, .int .i64 p.2] (0, 0) _ rfl kQ Tryz.underlying60 rfl (by kernel_rfl)) ?_)
       exact ⟨rfl, bQ⟩
     ·have HF := aM hF
      have HP := aM (Option.some.inj hp)
      clear hF hp hFF
      by_cases hk3 : (rd_T40 L i).f0 = 3
      ·have hb3 : ((rd_T40 L i).f0 == 3) = true := beq_iff_eq.mpr hk3
       have hb4 : (((opn.length : Nat) : Int) == 0) = false := beq_eq_false_iff_ne.mpr (by have : opn ≠ [] := fun h => hcase ⟨hk3, h⟩; have := List.length_pos_iff.mpr this; omega)
       clear hk3 hcase
       go_wp2_with (first | (go_at_call 32; (with_reducible refine (pairs_all (stC HS) h0 (by have := HLT.out; omega) opn HO.out HBK.out.1 HBK.out.2 (rd_T40 L i)).mono ?_); rw [HP.out]; rintro x w6 ⟨rfl, ov', hs6, hr6, hk6, ht6⟩))
       have HI6 := R_next HI.out HS.out.blk (by decide) hk6 ht6
       have BR6 := KeepBut.blk hk6 BR.out (Ne.symm NR.out) hgr.out
       go_roundg k1
       case measure => have := HQ.out; omega
       case rel => exact ⟨i + 1, opn', its, ov', iv, HF, ⟨by have := HQ.out; omega⟩, ⟨by omega⟩, ⟨pairsE_kinds HBK.out.1 HBK.out.2 HP.out⟩, ⟨hs6⟩, ⟨BR6⟩, ⟨hr6⟩, ⟨HI6⟩⟩
      ·have hb3 : ((rd_T40 L i).f0 == 3) = false := beq_eq_false_iff_ne.mpr hk3
       clear hk3 hcase
       go_wp2_with (first | (go_at_call 32; (with_reducible refine (pairs_all (stC HS) h0 (by have := HLT.out; omega) opn HO.out HBK.out.1 HBK.out.2 (rd_T40 L i)).mono ?_); rw [HP.out]; rintro x w6 ⟨rfl, ov', hs6, hr6, hk6, ht6⟩))
       have HI6 := R_next HI.out HS.out.blk (by decide) hk6 ht6
       have BR6 := KeepBut.blk hk6 BR.out (Ne.symm NR.out) hgr.out
       go_roundg k1
       case measure => have := HQ.out; omega
       case rel => exact ⟨i + 1, opn', its, ov', iv, HF, ⟨by have := HQ.out; omega⟩, ⟨by omega⟩, ⟨pairsE_kinds HBK.out.1 HBK.out.2 HP.out⟩, ⟨hs6⟩, ⟨BR6⟩, ⟨hr6⟩, ⟨HI6⟩⟩
   ·rename_i hlt
    have hc : decide (i < (L.length : Int)) = false := decide_eq_false hlt
    split at hF
    ·rename_i ho
     subst ho
     obtain rfl := Option.some.inj hF
     obtain ⟨rk0, rk1, rm0, rm1⟩ := b2 BR
     go_wp2_with (fail)
     go_quiet (fail)
     try go_wp2_with (fail)
     refine leaves_cons (f := 30) (args := #[.pointer (some ⟨gr, 0, none⟩)]) (by simp) (by simp [go_sem]) ?_
     refine (catch_idle ⟨gr, 0, none⟩).mono ?_
     rintro e' u' w'' ⟨rfl, rfl, rfl⟩
     have HB := aM HS.out.below
     have BG := aM HS.out.blk
     have NR2 := aM (Ne.symm NR.out)
     have HIr := aM (Kd.R_drewN HI.out nq)
     have BRr := aM (blk_drewN BR.out nq)
     refine Exists.intro _ (And.intro (results_cell_row rfl _ _ gr 60 #[.int .i64 e, .int .i64 0] (0, 0) _ rfl kQ Tryz.underlying60 rfl (by kernel_rfl)) ?_)
     exact ⟨rfl, i, _, iv, ⟨bQ, HS.out.ge, kQ⟩, R_keepT HIr.out BRr.out (by decide) (KeepBut.set_ (KeepBut.set_ (KeepBut.refl _ gr none) 0 _) 1 _)⟩
    ·rename_i ho
     obtain rfl := Option.some.inj hF
     have hp0 : 0 < opn.length := Nat.pos_of_ne_zero (fun h => ho (List.eq_nil_of_length_eq_zero h))
     have hpos : decide (0 < opn.length) = true := decide_eq_true hp0
     obtain ⟨rk0, rk1, rm0, rm1⟩ := b2 BR
     have HB := aM (Below.refl wr.heap.size wr)
     go_wp2_with (fail)
     go_quiet (fail)
     try go_wp2_with (first | (go_at_call 33; (with_reducible refine (fail_calls _ _ _).mono ?_); rintro x wf ⟨rfl, hbf⟩))
     refine leaves_cons (f := 30) (args := #[.pointer (some ⟨gr, 0, none⟩)]) (by simp) (by simp [go_sem]) ?_
     refine (catch_panicking 0 0 e 2 [] (blk_below (stB BR) hbf)).mono ?_
     rintro e' u' w'' ⟨rfl, rfl, rfl⟩
     have BRr := aM (blk_below (stB BR) hbf)
     have HB := aM ((stC HS).of_below hbf).below
     refine Exists.intro _ (And.intro (results_cell_row rfl _ _ gr 60 #[.int .i64 e, .int .i64 2] (0, 0) _ rfl kQ Tryz.underlying60 rfl (by kernel_rfl)) ?_)
     exact ⟨rfl, bQ⟩
end
end Go.Proofs.YtjplnhdplpiogaaGreatDoor.M
end
section
namespace Go.Proofs.YtjplnhdplpiogaaGreatDoor.M
open Go.RowKit Go.Proofs.YtjplnhdplpiogaaGreatDoorW.PrintWords Go.Proofs.YtjplnhdplpiogaaGreatDoorW.PrintLast Go.Proofs.YtjplnhdplpiogaaGreatDoorW.PrintMore
set_option linter.unusedVariables false
set_option linter.unusedSimpArgs false
set_option maxRecDepth 100000
set_option maxHeartbeats 8000000
def syn_Parse.f (l0 : List S40) (a1 : Int) : Option (List S43 × Int × Int) := (runG l0 a1 (l0.length + 1) 0 [] []).bind fun r => match r with
 | .ok its => some (its, a1, 0)
 | .error p => if p.2 = 0 then none else some ([], p.1, p.2)
theorem syn_Parse.calls (A0 : Option Addr) (c0 : Nat) (l0 : List S40) (a1 : Int) (r1 : List S43) (r2 r3 : Int) (w : World) (hr0 : Kd.C k40 w A0 l0.length l0) (hc0 : l0.length ≤ c0) (h : syn_Parse.f l0 a1 = some (r1, r2, r3)) :
  Calls Tryz.prog 10 #[.slice A0 l0.length c0, .int .i64 a1] w fun e w' => ∃ v0_ : Value, e = .returned (.tuple #[v0_, .int .i64 r2, .int .i64 r3]) ∧ Kd.R k43 43 w' w.heap.size (fun _ => True) v0_ r1 ∧ Below w.heap.size w w' := by
 have hu58 := Tryz.underlying58
 have hu60 := Tryz.underlying60
 unfold syn_Parse.f at h
 obtain ⟨r, hr, h⟩ := Option.bind_eq_some_iff.mp h
 have HR := aM hr
 have hb : Below w.heap.size w (w.alloc (.cells #[.slice A0 l0.length c0, .int .i64 0, .int .i64 a1, .slice none 0 0, .slice none 0 0] 58)) := below_alloc (Below.refl _ _) _
 have HS := aM (⟨hb, Nat.le_refl _, blk_new _ _⟩ : St w (w.alloc (.cells #[.slice A0 l0.length c0, .int .i64 0, .int .i64 a1, .slice none 0 0, .slice none 0 0] 58)) w.heap.size A0 c0 l0 0 a1 (.slice none 0 0) (.slice none 0 0))
 clear hb hr
 cases r with
 | ok its =>
  obtain ⟨rfl, rfl, rfl⟩ : its = r1 ∧ a1 = r2 ∧ (0 : Int) = r3 := by simpa using h
  clear h
  go_enter Tryz.func10, Tryz.ntmps10
  go_wp2_with (first | (go_at_call 20; (with_reducible refine (run_all hr0 (stC HS) _ _ HR.out).mono ?_); rintro x w2 ⟨rfl, i, ov, iv, hs2, hi2⟩; obtain ⟨sc0, sc1, sc2, sc3, sc4, sf0, sf1, sf2, sf3, sf4⟩ := b5 (hs2.alloc (.cells #[.int .i64 a1, .int .i64 0] 60)).blk))
  go_quiet (fail)
  try go_wp2_with (fail)
  go_ret3
  have HB := aM hs2.below
  have HI2 := aM hi2
  exact ⟨iv, rfl, Kd.R_mono (mQ HI2) (fun _ _ => trivial), bQ⟩
 | error p =>
  dsimp only at h
  split at h
  ·cases h
  rename_i hp
  obtain ⟨rfl, rfl, rfl⟩ : [] = r1 ∧ p.1 = r2 ∧ p.2 = r3 := by simpa using h
  have hp2 : (p.2 != 0) = true := bne_iff_ne.mpr hp
  clear h hp
  go_enter Tryz.func10, Tryz.ntmps10
  go_wp2_with (first | (go_at_call 20; (with_reducible refine (run_all hr0 (stC HS) _ _ HR.out).mono ?_); rintro x w2 ⟨rfl, hb2⟩))
  go_quiet (fail)
  try go_wp2_with (fail)
  go_ret3
  have HB := aM hb2
  exact ⟨_, rfl, Kd.R_nil _ _ _ _ _, bQ⟩
end Go.Proofs.YtjplnhdplpiogaaGreatDoor.M
end
section
namespace Go.Proofs.YtjplnhdplpiogaaGreatDoor.M
open Go.RowKit Go.Proofs.YtjplnhdplpiogaaGreatDoorW.PrintWords Go.Proofs.YtjplnhdplpiogaaGreatDoorW.PrintLast Go.Proofs.YtjplnhdplpiogaaGreatDoorW.PrintMore
attribute [local go_sem] max2_int min2_int max_two min_two max_three min_three max_four min_four
set_option linter.unusedVariables false
set_option linter.unusedSimpArgs false
def hornbooklaw05_sound.j0 : Nat → Int → Int → Bool → Int → Int → Int → Int → Int → List Int → List (List Int) → Option (Bool)
 | 0, _, _, _, _, _, _, _, _, _, _ => none
 | k + 1, x0, x5, x56, x206000, x206001, x206002, x206003, x206004, x206005, x206006 => if x56 = true then (some false) else (if x0 < 7 then (if (x206005.length : Int) = 0 then (some ((x206006.length : Int) == 0)) else (some false)) else (if (x206006.length : Int) > 0 then (if (x206006.length : Int) = (wrap64 (x5 + 1)) then (some ((x206005.length : Int) == 0)) else (some false)) else (if (x206005.length : Int) ≥ 1 then (if (x206005.length : Int) ≤ 64 then (if 0 ≤ (wrap64 ((x206005.length : Int) - 1)) then (if (wrap64 ((x206005.length : Int) - 1)) < (x206005.length : Int) then (some (decide ((wrap64 ((rd x206005 (wrap64 ((x206005.length : Int) - 1))) + x5)) ≤ 65535))) else (none)) else (none)) else (some false)) else (some false))))
def hornbooklaw05_sound.f (k : Nat) (a0 : Int) (a1_0 : Int) (a1_1 : Int) (a1_2 : Int) (a1_3 : Int) (a1_4 : Int) (l1_5 : List Int) (l1_6 : List (List Int)) : Option (Bool) := (hex_Sane.f a1_0 a1_1).bind fun t206 => (if t206 = true then ((hex_Sane.f a1_2 a1_3).bind fun t207 => (if t207 = true then (if a1_0 = a1_2 then (if (wrap64 (a1_3 - a1_1)) < 0 then (hornbooklaw05_sound.j0 k a0 (wrap64 (a1_3 - a1_1)) true a1_0 a1_1 a1_2 a1_3 a1_4 l1_5 l1_6) else (if a1_4 < 0 then (hornbooklaw05_sound.j0 k a0 (wrap64 (a1_3 - a1_1)) true a1_0 a1_1 a1_2 a1_3 a1_4 l1_5 l1_6) else (if a1_4 > 65535 then (hornbooklaw05_sound.j0 k a0 (wrap64 (a1_3 - a1_1)) true a1_0 a1_1 a1_2 a1_3 a1_4 l1_5 l1_6) else (if a0 = 3 then (hornbooklaw05_sound.j0 k a0 (wrap64 (a1_3 - a1_1)) (decide ((wrap64 (a1_4 + (wrap64 (a1_3 - a1_1)))) > 65535)) a1_0 a1_1 a1_2 a1_3 a1_4 l1_5 l1_6) else (hornbooklaw05_sound.j0 k a0 (wrap64 (a1_3 - a1_1)) false a1_0 a1_1 a1_2 a1_3 a1_4 l1_5 l1_6))))) else (hornbooklaw05_sound.j0 k a0 (wrap64 (a1_3 - a1_1)) true a1_0 a1_1 a1_2 a1_3 a1_4 l1_5 l1_6)) else (hornbooklaw05_sound.j0 k a0 (wrap64 (a1_3 - a1_1)) true a1_0 a1_1 a1_2 a1_3 a1_4 l1_5 l1_6))) else (hornbooklaw05_sound.j0 k a0 (wrap64 (a1_3 - a1_1)) true a1_0 a1_1 a1_2 a1_3 a1_4 l1_5 l1_6))
set_option maxHeartbeats 8000000 in
set_option maxRecDepth 100000 in
theorem hornbooklaw05_sound.calls (k : Nat) (a0 : Int) (a1_0 : Int) (a1_1 : Int) (a1_2 : Int) (a1_3 : Int) (a1_4 : Int) (A1_5 : Option Addr) (c1_5 : Nat) (l1_5 : List Int) (A1_6 : Option Addr) (c1_6 : Nat) (l1_6 : List (List Int)) (r : Bool) (w : World) (hr1_5 : Kd.C (Kd.int .i64) w A1_5 l1_5.length l1_5) (hc1_5 : l1_5.length ≤ c1_5) (hr1_6 : Kd.C (Kd.slice 3 (Kd.int .i64)) w A1_6 l1_6.length l1_6) (hc1_6 : l1_6.length ≤ c1_6) (h : hornbooklaw05_sound.f k a0 a1_0 a1_1 a1_2 a1_3 a1_4 l1_5 l1_6 = some r) :
  Calls Tryz.prog 18 #[.int .i64 a0, .agg #[.int .i64 a1_0, .int .i64 a1_1, .int .i64 a1_2, .int .i64 a1_3, .int .i64 a1_4, .slice A1_5 l1_5.length c1_5, .slice A1_6 l1_6.length c1_6]] w fun e w' => e = .returned (.bool r) ∧ Below w.heap.size w w' := by
 have hu50 := Tryz.underlying50
 have hu46 := Tryz.underlying46
 have HR1_5 := aM hr1_5
 have HC1_5 := aM hc1_5
 clear hr1_5 hc1_5
 have HR1_6 := aM hr1_6
 have HC1_6 := aM hc1_6
 clear hr1_6 hc1_6
 have HB := aM (Below.refl w.heap.size w)
 have H : ((hex_Sane.f a1_0 a1_1).bind fun t206 => (if t206 = true then ((hex_Sane.f a1_2 a1_3).bind fun t207 => (if t207 = true then (if a1_0 = a1_2 then (if (wrap64 (a1_3 - a1_1)) < 0 then (hornbooklaw05_sound.j0 k a0 (wrap64 (a1_3 - a1_1)) true a1_0 a1_1 a1_2 a1_3 a1_4 l1_5 l1_6) else (if a1_4 < 0 then (hornbooklaw05_sound.j0 k a0 (wrap64 (a1_3 - a1_1)) true a1_0 a1_1 a1_2 a1_3 a1_4 l1_5 l1_6) else (if a1_4 > 65535 then (hornbooklaw05_sound.j0 k a0 (wrap64 (a1_3 - a1_1)) true a1_0 a1_1 a1_2 a1_3 a1_4 l1_5 l1_6) else (if a0 = 3 then (hornbooklaw05_sound.j0 k a0 (wrap64 (a1_3 - a1_1)) (decide ((wrap64 (a1_4 + (wrap64 (a1_3 - a1_1)))) > 65535)) a1_0 a1_1 a1_2 a1_3 a1_4 l1_5 l1_6) else (hornbooklaw05_sound.j0 k a0 (wrap64 (a1_3 - a1_1)) false a1_0 a1_1 a1_2 a1_3 a1_4 l1_5 l1_6))))) else (hornbooklaw05_sound.j0 k a0 (wrap64 (a1_3 - a1_1)) true a1_0 a1_1 a1_2 a1_3 a1_4 l1_5 l1_6)) else (hornbooklaw05_sound.j0 k a0 (wrap64 (a1_3 - a1_1)) true a1_0 a1_1 a1_2 a1_3 a1_4 l1_5 l1_6))) else (hornbooklaw05_sound.j0 k a0 (wrap64 (a1_3 - a1_1)) true a1_0 a1_1 a1_2 a1_3 a1_4 l1_5 l1_6))) = some r := h
 clear h
 have HC3 := aM H
 clear H
 go_enter Tryz.func18, Tryz.ntmps18
 go_upto_region 2 with (first | ((with_reducible refine gD 3 ?_); (try (refine gate_guard (by rfl) ?_; dsimp only)); refine bE 3 (cs := #[.int .i64 a1_0, .int .i64 a1_1, .int .i64 a1_2, .int .i64 a1_3, .int .i64 a1_4, .slice A1_5 l1_5.length c1_5, .slice A1_6 l1_6.length c1_6]) (t := 50) ?_; intro gb205 hg w4 hbox hb; have BK205 := aM hbox; have GW205 := sG w hg; have GE205 := sG w hg; replace HB := sB hb; clear hb hbox hg; have hcz5_0 : w4.cell? ⟨gb205, 0, none⟩ = some (.int .i64 a1_0) := (blk_cell BK205.out 0).trans rfl; have hcz5_1 : w4.cell? ⟨gb205, 1, none⟩ = some (.int .i64 a1_1) := (blk_cell BK205.out 1).trans rfl; have hcz5_2 : w4.cell? ⟨gb205, 2, none⟩ = some (.int .i64 a1_2) := (blk_cell BK205.out 2).trans rfl; have hcz5_3 : w4.cell? ⟨gb205, 3, none⟩ = some (.int .i64 a1_3) := (blk_cell BK205.out 3).trans rfl; have hcz5_4 : w4.cell? ⟨gb205, 4, none⟩ = some (.int .i64 a1_4) := (blk_cell BK205.out 4).trans rfl; have hcz5_5 : w4.cell? ⟨gb205, 5, none⟩ = some (.slice A1_5 l1_5.length c1_5) := (blk_cell BK205.out 5).trans rfl; have hcz5_6 : w4.cell? ⟨gb205, 6, none⟩ = some (.slice A1_6 l1_6.length c1_6) := (blk_cell BK205.out 6).trans rfl; have hfz5_0 := blk_frozen BK205.out 0; have hfz5_1 := blk_frozen BK205.out 1; have hfz5_2 := blk_frozen BK205.out 2; have hfz5_3 := blk_frozen BK205.out 3; have hfz5_4 := blk_frozen BK205.out 4; have hfz5_5 := blk_frozen BK205.out 5; have hfz5_6 := blk_frozen BK205.out 6))
 (try simp only [Act.put, List.setIfInBounds_toArray, List.set_cons_zero, List.set_cons_succ])
 go_cut [56] (fun v56 wc => ∃ (kq : Nat) (x56_2 : Bool), v56 = .bool x56_2 ∧ Aside0 (hornbooklaw05_sound.j0 kq a0 (wrap64 (a1_3 - a1_1)) x56_2 a1_0 a1_1 a1_2 a1_3 a1_4 l1_5 l1_6 = some r) ∧ Aside0 (kq ≤ k) ∧ Aside0 (wc.heap[gb205]? = some (.cells #[.int .i64 a1_0, .int .i64 a1_1, .int .i64 a1_2, .int .i64 a1_3, .int .i64 a1_4, (.slice A1_5 l1_5.length c1_5), (.slice A1_6 l1_6.length c1_6)] 50 (0, 0))) ∧ Aside0 (Below w.heap.size w wc))
 case first =>
  have H := HC3.out
  clear HC3
  replace H := bS H
  obtain ⟨t206, A6, H⟩ := H
  try dsimp only at H
  by_cases c7 : t206 = true
  rotate_left
  ·replace c7 := Bool.eq_false_iff.mpr c7
   subst c7
   rw [if_neg (show ¬ (false = true) by decide)] at H
   have H' := aM H
   clear H
   have hcz49_0 : w4.cell? ⟨gb205, 0, none⟩ = some (.int .i64 a1_0) := (blk_cell BK205.out 0).trans rfl
   have hcz49_1 : w4.cell? ⟨gb205, 1, none⟩ = some (.int .i64 a1_1) := (blk_cell BK205.out 1).trans rfl
   have hcz49_2 : w4.cell? ⟨gb205, 2, none⟩ = some (.int .i64 a1_2) := (blk_cell BK205.out 2).trans rfl
   have hcz49_3 : w4.cell? ⟨gb205, 3, none⟩ = some (.int .i64 a1_3) := (blk_cell BK205.out 3).trans rfl
   have hcz49_4 : w4.cell? ⟨gb205, 4, none⟩ = some (.int .i64 a1_4) := (blk_cell BK205.out 4).trans rfl
   have hcz49_5 : w4.cell? ⟨gb205, 5, none⟩ = some (.slice A1_5 l1_5.length c1_5) := (blk_cell BK205.out 5).trans rfl
   have hcz49_6 : w4.cell? ⟨gb205, 6, none⟩ = some (.slice A1_6 l1_6.length c1_6) := (blk_cell BK205.out 6).trans rfl
   have hfz49_0 := blk_frozen BK205.out 0
   have hfz49_1 := blk_frozen BK205.out 1
   have hfz49_2 := blk_frozen BK205.out 2
   have hfz49_3 := blk_frozen BK205.out 3
   have hfz49_4 := blk_frozen BK205.out 4
   have hfz49_5 := blk_frozen BK205.out 5
   have hfz49_6 := blk_frozen BK205.out 6
   go_wp2_with (first | ((with_reducible refine gC 29 ?_); refine gL (some 15) Tryz.func29 #[.agg #[.int .i64 a1_0, .int .i64 a1_1]] ?_; (with_reducible refine cB (hex_Sane.calls a1_0 a1_1 false _ A6.out) ?_); intro w50 hb; replace BK205 := kK BK205 hb; replace HB := sB hb; clear hb))
   go_meet
   case rel => exact ⟨_, (true), vQ, H', ⟨by first | omega | exact Nat.le_refl _⟩, ⟨kQ⟩, ⟨bQ⟩⟩
  subst c7
  rw [if_pos rfl] at H
  replace H := bS H
  obtain ⟨t207, A8, H⟩ := H
  try dsimp only at H
  by_cases c9 : t207 = true
  rotate_left
  ·replace c9 := Bool.eq_false_iff.mpr c9
   subst c9
   rw [if_neg (show ¬ (false = true) by decide)] at H
   have H' := aM H
   clear H
   have hcz45_0 : w4.cell? ⟨gb205, 0, none⟩ = some (.int .i64 a1_0) := (blk_cell BK205.out 0).trans rfl
   have hcz45_1 : w4.cell? ⟨gb205, 1, none⟩ = some (.int .i64 a1_1) := (blk_cell BK205.out 1).trans rfl
   have hcz45_2 : w4.cell? ⟨gb205, 2, none⟩ = some (.int .i64 a1_2) := (blk_cell BK205.out 2).trans rfl
   have hcz45_3 : w4.cell? ⟨gb205, 3, none⟩ = some (.int .i64 a1_3) := (blk_cell BK205.out 3).trans rfl
   have hcz45_4 : w4.cell? ⟨gb205, 4, none⟩ = some (.int .i64 a1_4) := (blk_cell BK205.out 4).trans rfl
   have hcz45_5 : w4.cell? ⟨gb205, 5, none⟩ = some (.slice A1_5 l1_5.length c1_5) := (blk_cell BK205.out 5).trans rfl
   have hcz45_6 : w4.cell? ⟨gb205, 6, none⟩ = some (.slice A1_6 l1_6.length c1_6) := (blk_cell BK205.out 6).trans rfl
   have hfz45_0 := blk_frozen BK205.out 0
   have hfz45_1 := blk_frozen BK205.out 1
   have hfz45_2 := blk_frozen BK205.out 2
   have hfz45_3 := blk_frozen BK205.out 3
   have hfz45_4 := blk_frozen BK205.out 4
   have hfz45_5 := blk_frozen BK205.out 5
   have hfz45_6 := blk_frozen BK205.out 6
   go_wp2_with (first | ((with_reducible refine gC 29 ?_); refine gL (some 15) Tryz.func29 #[.agg #[.int .i64 a1_0, .int .i64 a1_1]] ?_; (with_reducible refine cB (hex_Sane.calls a1_0 a1_1 true _ A6.out) ?_); intro w46 hb; replace BK205 := kK BK205 hb; replace HB := sB hb; clear hb; have hcz47_0 : w46.cell? ⟨gb205, 0, none⟩ = some (.int .i64 a1_0) := (blk_cell BK205.out 0).trans rfl; have hcz47_1 : w46.cell? ⟨gb205, 1, none⟩ = some (.int .i64 a1_1) := (blk_cell BK205.out 1).trans rfl; have hcz47_2 : w46.cell? ⟨gb205, 2, none⟩ = some (.int .i64 a1_2) := (blk_cell BK205.out 2).trans rfl; have hcz47_3 : w46.cell? ⟨gb205, 3, none⟩ = some (.int .i64 a1_3) := (blk_cell BK205.out 3).trans rfl; have hcz47_4 : w46.cell? ⟨gb205, 4, none⟩ = some (.int .i64 a1_4) := (blk_cell BK205.out 4).trans rfl; have hcz47_5 : w46.cell? ⟨gb205, 5, none⟩ = some (.slice A1_5 l1_5.length c1_5) := (blk_cell BK205.out 5).trans rfl; have hcz47_6 : w46.cell? ⟨gb205, 6, none⟩ = some (.slice A1_6 l1_6.length c1_6) := (blk_cell BK205.out 6).trans rfl; have hfz47_0 := blk_frozen BK205.out 0; have hfz47_1 := blk_frozen BK205.out 1; have hfz47_2 := blk_frozen BK205.out 2; have hfz47_3 := blk_frozen BK205.out 3; have hfz47_4 := blk_frozen BK205.out 4; have hfz47_5 := blk_frozen BK205.out 5; have hfz47_6 := blk_frozen BK205.out 6) | (go_at_call 29; (with_reducible refine (hex_Sane.calls a1_2 a1_3 false _ A8.out).mono ?_); rintro e w48 ⟨rfl, hb⟩; replace BK205 := kK BK205 hb; replace HB := sB hb; clear hb))
   go_meet
   case rel => exact ⟨_, (true), vQ, H', ⟨by first | omega | exact Nat.le_refl _⟩, ⟨kQ⟩, ⟨bQ⟩⟩
  subst c9
  rw [if_pos rfl] at H
  refine iEc H ?_ ?_<;>clear H<;>intro H c10b0 c10b1 c10
  rotate_left
  ·(first | rw [c10b0] | (simp only [i64_w, i32_w]; rw [c10b0]) | skip)
   have H' := aM H
   clear H
   have hcz40_0 : w4.cell? ⟨gb205, 0, none⟩ = some (.int .i64 a1_0) := (blk_cell BK205.out 0).trans rfl
   have hcz40_1 : w4.cell? ⟨gb205, 1, none⟩ = some (.int .i64 a1_1) := (blk_cell BK205.out 1).trans rfl
   have hcz40_2 : w4.cell? ⟨gb205, 2, none⟩ = some (.int .i64 a1_2) := (blk_cell BK205.out 2).trans rfl
   have hcz40_3 : w4.cell? ⟨gb205, 3, none⟩ = some (.int .i64 a1_3) := (blk_cell BK205.out 3).trans rfl
   have hcz40_4 : w4.cell? ⟨gb205, 4, none⟩ = some (.int .i64 a1_4) := (blk_cell BK205.out 4).trans rfl
   have hcz40_5 : w4.cell? ⟨gb205, 5, none⟩ = some (.slice A1_5 l1_5.length c1_5) := (blk_cell BK205.out 5).trans rfl
   have hcz40_6 : w4.cell? ⟨gb205, 6, none⟩ = some (.slice A1_6 l1_6.length c1_6) := (blk_cell BK205.out 6).trans rfl
   have hfz40_0 := blk_frozen BK205.out 0
   have hfz40_1 := blk_frozen BK205.out 1
   have hfz40_2 := blk_frozen BK205.out 2
   have hfz40_3 := blk_frozen BK205.out 3
   have hfz40_4 := blk_frozen BK205.out 4
   have hfz40_5 := blk_frozen BK205.out 5
   have hfz40_6 := blk_frozen BK205.out 6
   go_wp2_with (first | ((with_reducible refine gC 29 ?_); refine gL (some 15) Tryz.func29 #[.agg #[.int .i64 a1_0, .int .i64 a1_1]] ?_; (with_reducible refine cB (hex_Sane.calls a1_0 a1_1 true _ A6.out) ?_); intro w41 hb; replace BK205 := kK BK205 hb; replace HB := sB hb; clear hb; have hcz42_0 : w41.cell? ⟨gb205, 0, none⟩ = some (.int .i64 a1_0) := (blk_cell BK205.out 0).trans rfl; have hcz42_1 : w41.cell? ⟨gb205, 1, none⟩ = some (.int .i64 a1_1) := (blk_cell BK205.out 1).trans rfl; have hcz42_2 : w41.cell? ⟨gb205, 2, none⟩ = some (.int .i64 a1_2) := (blk_cell BK205.out 2).trans rfl; have hcz42_3 : w41.cell? ⟨gb205, 3, none⟩ = some (.int .i64 a1_3) := (blk_cell BK205.out 3).trans rfl; have hcz42_4 : w41.cell? ⟨gb205, 4, none⟩ = some (.int .i64 a1_4) := (blk_cell BK205.out 4).trans rfl; have hcz42_5 : w41.cell? ⟨gb205, 5, none⟩ = some (.slice A1_5 l1_5.length c1_5) := (blk_cell BK205.out 5).trans rfl; have hcz42_6 : w41.cell? ⟨gb205, 6, none⟩ = some (.slice A1_6 l1_6.length c1_6) := (blk_cell BK205.out 6).trans rfl; have hfz42_0 := blk_frozen BK205.out 0; have hfz42_1 := blk_frozen BK205.out 1; have hfz42_2 := blk_frozen BK205.out 2; have hfz42_3 := blk_frozen BK205.out 3; have hfz42_4 := blk_frozen BK205.out 4; have hfz42_5 := blk_frozen BK205.out 5; have hfz42_6 := blk_frozen BK205.out 6) | (go_at_call 29; (with_reducible refine (hex_Sane.calls a1_2 a1_3 true _ A8.out).mono ?_); rintro e w43 ⟨rfl, hb⟩; replace BK205 := kK BK205 hb; replace HB := sB hb; clear hb; have hcz44_0 : w43.cell? ⟨gb205, 0, none⟩ = some (.int .i64 a1_0) := (blk_cell BK205.out 0).trans rfl; have hcz44_1 : w43.cell? ⟨gb205, 1, none⟩ = some (.int .i64 a1_1) := (blk_cell BK205.out 1).trans rfl; have hcz44_2 : w43.cell? ⟨gb205, 2, none⟩ = some (.int .i64 a1_2) := (blk_cell BK205.out 2).trans rfl; have hcz44_3 : w43.cell? ⟨gb205, 3, none⟩ = some (.int .i64 a1_3) := (blk_cell BK205.out 3).trans rfl; have hcz44_4 : w43.cell? ⟨gb205, 4, none⟩ = some (.int .i64 a1_4) := (blk_cell BK205.out 4).trans rfl; have hcz44_5 : w43.cell? ⟨gb205, 5, none⟩ = some (.slice A1_5 l1_5.length c1_5) := (blk_cell BK205.out 5).trans rfl; have hcz44_6 : w43.cell? ⟨gb205, 6, none⟩ = some (.slice A1_6 l1_6.length c1_6) := (blk_cell BK205.out 6).trans rfl; have hfz44_0 := blk_frozen BK205.out 0; have hfz44_1 := blk_frozen BK205.out 1; have hfz44_2 := blk_frozen BK205.out 2; have hfz44_3 := blk_frozen BK205.out 3; have hfz44_4 := blk_frozen BK205.out 4; have hfz44_5 := blk_frozen BK205.out 5; have hfz44_6 := blk_frozen BK205.out 6))
   go_meet
   case rel => exact ⟨_, (true), vQ, H', ⟨by first | omega | exact Nat.le_refl _⟩, ⟨kQ⟩, ⟨bQ⟩⟩
  clear c10
  (first | rw [c10b0] | (simp only [i64_w, i32_w]; rw [c10b0]) | skip)
  refine iD H ?_ ?_<;>clear H<;>intro H c11b0
  ·have H' := aM H
   clear H
   have hcz12_0 : w4.cell? ⟨gb205, 0, none⟩ = some (.int .i64 a1_0) := (blk_cell BK205.out 0).trans rfl
   have hcz12_1 : w4.cell? ⟨gb205, 1, none⟩ = some (.int .i64 a1_1) := (blk_cell BK205.out 1).trans rfl
   have hcz12_2 : w4.cell? ⟨gb205, 2, none⟩ = some (.int .i64 a1_2) := (blk_cell BK205.out 2).trans rfl
   have hcz12_3 : w4.cell? ⟨gb205, 3, none⟩ = some (.int .i64 a1_3) := (blk_cell BK205.out 3).trans rfl
   have hcz12_4 : w4.cell? ⟨gb205, 4, none⟩ = some (.int .i64 a1_4) := (blk_cell BK205.out 4).trans rfl
   have hcz12_5 : w4.cell? ⟨gb205, 5, none⟩ = some (.slice A1_5 l1_5.length c1_5) := (blk_cell BK205.out 5).trans rfl
   have hcz12_6 : w4.cell? ⟨gb205, 6, none⟩ = some (.slice A1_6 l1_6.length c1_6) := (blk_cell BK205.out 6).trans rfl
   have hfz12_0 := blk_frozen BK205.out 0
   have hfz12_1 := blk_frozen BK205.out 1
   have hfz12_2 := blk_frozen BK205.out 2
   have hfz12_3 := blk_frozen BK205.out 3
   have hfz12_4 := blk_frozen BK205.out 4
   have hfz12_5 := blk_frozen BK205.out 5
   have hfz12_6 := blk_frozen BK205.out 6
   go_wp2_with (first | ((with_reducible refine gC 29 ?_); refine gL (some 15) Tryz.func29 #[.agg #[.int .i64 a1_0, .int .i64 a1_1]] ?_; (with_reducible refine cB (hex_Sane.calls a1_0 a1_1 true _ A6.out) ?_); intro w13 hb; replace BK205 := kK BK205 hb; replace HB := sB hb; clear hb; have hcz14_0 : w13.cell? ⟨gb205, 0, none⟩ = some (.int .i64 a1_0) := (blk_cell BK205.out 0).trans rfl; have hcz14_1 : w13.cell? ⟨gb205, 1, none⟩ = some (.int .i64 a1_1) := (blk_cell BK205.out 1).trans rfl; have hcz14_2 : w13.cell? ⟨gb205, 2, none⟩ = some (.int .i64 a1_2) := (blk_cell BK205.out 2).trans rfl; have hcz14_3 : w13.cell? ⟨gb205, 3, none⟩ = some (.int .i64 a1_3) := (blk_cell BK205.out 3).trans rfl; have hcz14_4 : w13.cell? ⟨gb205, 4, none⟩ = some (.int .i64 a1_4) := (blk_cell BK205.out 4).trans rfl; have hcz14_5 : w13.cell? ⟨gb205, 5, none⟩ = some (.slice A1_5 l1_5.length c1_5) := (blk_cell BK205.out 5).trans rfl; have hcz14_6 : w13.cell? ⟨gb205, 6, none⟩ = some (.slice A1_6 l1_6.length c1_6) := (blk_cell BK205.out 6).trans rfl; have hfz14_0 := blk_frozen BK205.out 0; have hfz14_1 := blk_frozen BK205.out 1; have hfz14_2 := blk_frozen BK205.out 2; have hfz14_3 := blk_frozen BK205.out 3; have hfz14_4 := blk_frozen BK205.out 4; have hfz14_5 := blk_frozen BK205.out 5; have hfz14_6 := blk_frozen BK205.out 6) | (go_at_call 29; (with_reducible refine (hex_Sane.calls a1_2 a1_3 true _ A8.out).mono ?_); rintro e w15 ⟨rfl, hb⟩; replace BK205 := kK BK205 hb; replace HB := sB hb; clear hb; have hcz16_0 : w15.cell? ⟨gb205, 0, none⟩ = some (.int .i64 a1_0) := (blk_cell BK205.out 0).trans rfl; have hcz16_1 : w15.cell? ⟨gb205, 1, none⟩ = some (.int .i64 a1_1) := (blk_cell BK205.out 1).trans rfl; have hcz16_2 : w15.cell? ⟨gb205, 2, none⟩ = some (.int .i64 a1_2) := (blk_cell BK205.out 2).trans rfl; have hcz16_3 : w15.cell? ⟨gb205, 3, none⟩ = some (.int .i64 a1_3) := (blk_cell BK205.out 3).trans rfl; have hcz16_4 : w15.cell? ⟨gb205, 4, none⟩ = some (.int .i64 a1_4) := (blk_cell BK205.out 4).trans rfl; have hcz16_5 : w15.cell? ⟨gb205, 5, none⟩ = some (.slice A1_5 l1_5.length c1_5) := (blk_cell BK205.out 5).trans rfl; have hcz16_6 : w15.cell? ⟨gb205, 6, none⟩ = some (.slice A1_6 l1_6.length c1_6) := (blk_cell BK205.out 6).trans rfl; have hfz16_0 := blk_frozen BK205.out 0; have hfz16_1 := blk_frozen BK205.out 1; have hfz16_2 := blk_frozen BK205.out 2; have hfz16_3 := blk_frozen BK205.out 3; have hfz16_4 := blk_frozen BK205.out 4; have hfz16_5 := blk_frozen BK205.out 5; have hfz16_6 := blk_frozen BK205.out 6))
   go_meet
   case rel => exact ⟨_, (true), vQ, H', ⟨by first | omega | exact Nat.le_refl _⟩, ⟨kQ⟩, ⟨bQ⟩⟩
  refine iD H ?_ ?_<;>clear H<;>intro H c17b0
  ·have H' := aM H
   clear H
   have hcz18_0 : w4.cell? ⟨gb205, 0, none⟩ = some (.int .i64 a1_0) := (blk_cell BK205.out 0).trans rfl
   have hcz18_1 : w4.cell? ⟨gb205, 1, none⟩ = some (.int .i64 a1_1) := (blk_cell BK205.out 1).trans rfl
   have hcz18_2 : w4.cell? ⟨gb205, 2, none⟩ = some (.int .i64 a1_2) := (blk_cell BK205.out 2).trans rfl
   have hcz18_3 : w4.cell? ⟨gb205, 3, none⟩ = some (.int .i64 a1_3) := (blk_cell BK205.out 3).trans rfl
   have hcz18_4 : w4.cell? ⟨gb205, 4, none⟩ = some (.int .i64 a1_4) := (blk_cell BK205.out 4).trans rfl
   have hcz18_5 : w4.cell? ⟨gb205, 5, none⟩ = some (.slice A1_5 l1_5.length c1_5) := (blk_cell BK205.out 5).trans rfl
   have hcz18_6 : w4.cell? ⟨gb205, 6, none⟩ = some (.slice A1_6 l1_6.length c1_6) := (blk_cell BK205.out 6).trans rfl
   have hfz18_0 := blk_frozen BK205.out 0
   have hfz18_1 := blk_frozen BK205.out 1
   have hfz18_2 := blk_frozen BK205.out 2
   have hfz18_3 := blk_frozen BK205.out 3
   have hfz18_4 := blk_frozen BK205.out 4
   have hfz18_5 := blk_frozen BK205.out 5
   have hfz18_6 := blk_frozen BK205.out 6
   go_wp2_with (first | ((with_reducible refine gC 29 ?_); refine gL (some 15) Tryz.func29 #[.agg #[.int .i64 a1_0, .int .i64 a1_1]] ?_; (with_reducible refine cB (hex_Sane.calls a1_0 a1_1 true _ A6.out) ?_); intro w19 hb; replace BK205 := kK BK205 hb; replace HB := sB hb; clear hb; have hcz20_0 : w19.cell? ⟨gb205, 0, none⟩ = some (.int .i64 a1_0) := (blk_cell BK205.out 0).trans rfl; have hcz20_1 : w19.cell? ⟨gb205, 1, none⟩ = some (.int .i64 a1_1) := (blk_cell BK205.out 1).trans rfl; have hcz20_2 : w19.cell? ⟨gb205, 2, none⟩ = some (.int .i64 a1_2) := (blk_cell BK205.out 2).trans rfl; have hcz20_3 : w19.cell? ⟨gb205, 3, none⟩ = some (.int .i64 a1_3) := (blk_cell BK205.out 3).trans rfl; have hcz20_4 : w19.cell? ⟨gb205, 4, none⟩ = some (.int .i64 a1_4) := (blk_cell BK205.out 4).trans rfl; have hcz20_5 : w19.cell? ⟨gb205, 5, none⟩ = some (.slice A1_5 l1_5.length c1_5) := (blk_cell BK205.out 5).trans rfl; have hcz20_6 : w19.cell? ⟨gb205, 6, none⟩ = some (.slice A1_6 l1_6.length c1_6) := (blk_cell BK205.out 6).trans rfl; have hfz20_0 := blk_frozen BK205.out 0; have hfz20_1 := blk_frozen BK205.out 1; have hfz20_2 := blk_frozen BK205.out 2; have hfz20_3 := blk_frozen BK205.out 3; have hfz20_4 := blk_frozen BK205.out 4; have hfz20_5 := blk_frozen BK205.out 5; have hfz20_6 := blk_frozen BK205.out 6) | (go_at_call 29; (with_reducible refine (hex_Sane.calls a1_2 a1_3 true _ A8.out).mono ?_); rintro e w21 ⟨rfl, hb⟩; replace BK205 := kK BK205 hb; replace HB := sB hb; clear hb; have hcz22_0 : w21.cell? ⟨gb205, 0, none⟩ = some (.int .i64 a1_0) := (blk_cell BK205.out 0).trans rfl; have hcz22_1 : w21.cell? ⟨gb205, 1, none⟩ = some (.int .i64 a1_1) := (blk_cell BK205.out 1).trans rfl; have hcz22_2 : w21.cell? ⟨gb205, 2, none⟩ = some (.int .i64 a1_2) := (blk_cell BK205.out 2).trans rfl; have hcz22_3 : w21.cell? ⟨gb205, 3, none⟩ = some (.int .i64 a1_3) := (blk_cell BK205.out 3).trans rfl; have hcz22_4 : w21.cell? ⟨gb205, 4, none⟩ = some (.int .i64 a1_4) := (blk_cell BK205.out 4).trans rfl; have hcz22_5 : w21.cell? ⟨gb205, 5, none⟩ = some (.slice A1_5 l1_5.length c1_5) := (blk_cell BK205.out 5).trans rfl; have hcz22_6 : w21.cell? ⟨gb205, 6, none⟩ = some (.slice A1_6 l1_6.length c1_6) := (blk_cell BK205.out 6).trans rfl; have hfz22_0 := blk_frozen BK205.out 0; have hfz22_1 := blk_frozen BK205.out 1; have hfz22_2 := blk_frozen BK205.out 2; have hfz22_3 := blk_frozen BK205.out 3; have hfz22_4 := blk_frozen BK205.out 4; have hfz22_5 := blk_frozen BK205.out 5; have hfz22_6 := blk_frozen BK205.out 6))
   go_meet
   case rel => exact ⟨_, (true), vQ, H', ⟨by first | omega | exact Nat.le_refl _⟩, ⟨kQ⟩, ⟨bQ⟩⟩
  refine iNc H ?_ ?_<;>clear H<;>intro H c23
  ·have c23b0 : decide (65535 < a1_4) = true := decide_eq_true c23
   clear c23
   have H' := aM H
   clear H
   have hcz24_0 : w4.cell? ⟨gb205, 0, none⟩ = some (.int .i64 a1_0) := (blk_cell BK205.out 0).trans rfl
   have hcz24_1 : w4.cell? ⟨gb205, 1, none⟩ = some (.int .i64 a1_1) := (blk_cell BK205.out 1).trans rfl
   have hcz24_2 : w4.cell? ⟨gb205, 2, none⟩ = some (.int .i64 a1_2) := (blk_cell BK205.out 2).trans rfl
   have hcz24_3 : w4.cell? ⟨gb205, 3, none⟩ = some (.int .i64 a1_3) := (blk_cell BK205.out 3).trans rfl
   have hcz24_4 : w4.cell? ⟨gb205, 4, none⟩ = some (.int .i64 a1_4) := (blk_cell BK205.out 4).trans rfl
   have hcz24_5 : w4.cell? ⟨gb205, 5, none⟩ = some (.slice A1_5 l1_5.length c1_5) := (blk_cell BK205.out 5).trans rfl
   have hcz24_6 : w4.cell? ⟨gb205, 6, none⟩ = some (.slice A1_6 l1_6.length c1_6) := (blk_cell BK205.out 6).trans rfl
   have hfz24_0 := blk_frozen BK205.out 0
   have hfz24_1 := blk_frozen BK205.out 1
   have hfz24_2 := blk_frozen BK205.out 2
   have hfz24_3 := blk_frozen BK205.out 3
   have hfz24_4 := blk_frozen BK205.out 4
   have hfz24_5 := blk_frozen BK205.out 5
   have hfz24_6 := blk_frozen BK205.out 6
   go_wp2_with (first | ((with_reducible refine gC 29 ?_); refine gL (some 15) Tryz.func29 #[.agg #[.int .i64 a1_0, .int .i64 a1_1]] ?_; (with_reducible refine cB (hex_Sane.calls a1_0 a1_1 true _ A6.out) ?_); intro w25 hb; replace BK205 := kK BK205 hb; replace HB := sB hb; clear hb; have hcz26_0 : w25.cell? ⟨gb205, 0, none⟩ = some (.int .i64 a1_0) := (blk_cell BK205.out 0).trans rfl; have hcz26_1 : w25.cell? ⟨gb205, 1, none⟩ = some (.int .i64 a1_1) := (blk_cell BK205.out 1).trans rfl; have hcz26_2 : w25.cell? ⟨gb205, 2, none⟩ = some (.int .i64 a1_2) := (blk_cell BK205.out 2).trans rfl; have hcz26_3 : w25.cell? ⟨gb205, 3, none⟩ = some (.int .i64 a1_3) := (blk_cell BK205.out 3).trans rfl; have hcz26_4 : w25.cell? ⟨gb205, 4, none⟩ = some (.int .i64 a1_4) := (blk_cell BK205.out 4).trans rfl; have hcz26_5 : w25.cell? ⟨gb205, 5, none⟩ = some (.slice A1_5 l1_5.length c1_5) := (blk_cell BK205.out 5).trans rfl; have hcz26_6 : w25.cell? ⟨gb205, 6, none⟩ = some (.slice A1_6 l1_6.length c1_6) := (blk_cell BK205.out 6).trans rfl; have hfz26_0 := blk_frozen BK205.out 0; have hfz26_1 := blk_frozen BK205.out 1; have hfz26_2 := blk_frozen BK205.out 2; have hfz26_3 := blk_frozen BK205.out 3; have hfz26_4 := blk_frozen BK205.out 4; have hfz26_5 := blk_frozen BK205.out 5; have hfz26_6 := blk_frozen BK205.out 6) | (go_at_call 29; (with_reducible refine (hex_Sane.calls a1_2 a1_3 true _ A8.out).mono ?_); rintro e w27 ⟨rfl, hb⟩; replace BK205 := kK BK205 hb; replace HB := sB hb; clear hb; have hcz28_0 : w27.cell? ⟨gb205, 0, none⟩ = some (.int .i64 a1_0) := (blk_cell BK205.out 0).trans rfl; have hcz28_1 : w27.cell? ⟨gb205, 1, none⟩ = some (.int .i64 a1_1) := (blk_cell BK205.out 1).trans rfl; have hcz28_2 : w27.cell? ⟨gb205, 2, none⟩ = some (.int .i64 a1_2) := (blk_cell BK205.out 2).trans rfl; have hcz28_3 : w27.cell? ⟨gb205, 3, none⟩ = some (.int .i64 a1_3) := (blk_cell BK205.out 3).trans rfl; have hcz28_4 : w27.cell? ⟨gb205, 4, none⟩ = some (.int .i64 a1_4) := (blk_cell BK205.out 4).trans rfl; have hcz28_5 : w27.cell? ⟨gb205, 5, none⟩ = some (.slice A1_5 l1_5.length c1_5) := (blk_cell BK205.out 5).trans rfl; have hcz28_6 : w27.cell? ⟨gb205, 6, none⟩ = some (.slice A1_6 l1_6.length c1_6) := (blk_cell BK205.out 6).trans rfl; have hfz28_0 := blk_frozen BK205.out 0; have hfz28_1 := blk_frozen BK205.out 1; have hfz28_2 := blk_frozen BK205.out 2; have hfz28_3 := blk_frozen BK205.out 3; have hfz28_4 := blk_frozen BK205.out 4; have hfz28_5 := blk_frozen BK205.out 5; have hfz28_6 := blk_frozen BK205.out 6))
   go_meet
   case rel => exact ⟨_, (true), vQ, H', ⟨by first | omega | exact Nat.le_refl _⟩, ⟨kQ⟩, ⟨bQ⟩⟩
  have c23b0 : decide (65535 < a1_4) = false := decide_eq_false c23
  clear c23
  refine iEc H ?_ ?_<;>clear H<;>intro H c29b0 c29b1 c29
  rotate_left
  ·have H' := aM H
   clear H
   have hcz35_0 : w4.cell? ⟨gb205, 0, none⟩ = some (.int .i64 a1_0) := (blk_cell BK205.out 0).trans rfl
   have hcz35_1 : w4.cell? ⟨gb205, 1, none⟩ = some (.int .i64 a1_1) := (blk_cell BK205.out 1).trans rfl
   have hcz35_2 : w4.cell? ⟨gb205, 2, none⟩ = some (.int .i64 a1_2) := (blk_cell BK205.out 2).trans rfl
   have hcz35_3 : w4.cell? ⟨gb205, 3, none⟩ = some (.int .i64 a1_3) := (blk_cell BK205.out 3).trans rfl
   have hcz35_4 : w4.cell? ⟨gb205, 4, none⟩ = some (.int .i64 a1_4) := (blk_cell BK205.out 4).trans rfl
   have hcz35_5 : w4.cell? ⟨gb205, 5, none⟩ = some (.slice A1_5 l1_5.length c1_5) := (blk_cell BK205.out 5).trans rfl
   have hcz35_6 : w4.cell? ⟨gb205, 6, none⟩ = some (.slice A1_6 l1_6.length c1_6) := (blk_cell BK205.out 6).trans rfl
   have hfz35_0 := blk_frozen BK205.out 0
   have hfz35_1 := blk_frozen BK205.out 1
   have hfz35_2 := blk_frozen BK205.out 2
   have hfz35_3 := blk_frozen BK205.out 3
   have hfz35_4 := blk_frozen BK205.out 4
   have hfz35_5 := blk_frozen BK205.out 5
   have hfz35_6 := blk_frozen BK205.out 6
   go_wp2_with (first | ((with_reducible refine gC 29 ?_); refine gL (some 15) Tryz.func29 #[.agg #[.int .i64 a1_0, .int .i64 a1_1]] ?_; (with_reducible refine cB (hex_Sane.calls a1_0 a1_1 true _ A6.out) ?_); intro w36 hb; replace BK205 := kK BK205 hb; replace HB := sB hb; clear hb; have hcz37_0 : w36.cell? ⟨gb205, 0, none⟩ = some (.int .i64 a1_0) := (blk_cell BK205.out 0).trans rfl; have hcz37_1 : w36.cell? ⟨gb205, 1, none⟩ = some (.int .i64 a1_1) := (blk_cell BK205.out 1).trans rfl; have hcz37_2 : w36.cell? ⟨gb205, 2, none⟩ = some (.int .i64 a1_2) := (blk_cell BK205.out 2).trans rfl; have hcz37_3 : w36.cell? ⟨gb205, 3, none⟩ = some (.int .i64 a1_3) := (blk_cell BK205.out 3).trans rfl; have hcz37_4 : w36.cell? ⟨gb205, 4, none⟩ = some (.int .i64 a1_4) := (blk_cell BK205.out 4).trans rfl; have hcz37_5 : w36.cell? ⟨gb205, 5, none⟩ = some (.slice A1_5 l1_5.length c1_5) := (blk_cell BK205.out 5).trans rfl; have hcz37_6 : w36.cell? ⟨gb205, 6, none⟩ = some (.slice A1_6 l1_6.length c1_6) := (blk_cell BK205.out 6).trans rfl; have hfz37_0 := blk_frozen BK205.out 0; have hfz37_1 := blk_frozen BK205.out 1; have hfz37_2 := blk_frozen BK205.out 2; have hfz37_3 := blk_frozen BK205.out 3; have hfz37_4 := blk_frozen BK205.out 4; have hfz37_5 := blk_frozen BK205.out 5; have hfz37_6 := blk_frozen BK205.out 6) | (go_at_call 29; (with_reducible refine (hex_Sane.calls a1_2 a1_3 true _ A8.out).mono ?_); rintro e w38 ⟨rfl, hb⟩; replace BK205 := kK BK205 hb; replace HB := sB hb; clear hb; have hcz39_0 : w38.cell? ⟨gb205, 0, none⟩ = some (.int .i64 a1_0) := (blk_cell BK205.out 0).trans rfl; have hcz39_1 : w38.cell? ⟨gb205, 1, none⟩ = some (.int .i64 a1_1) := (blk_cell BK205.out 1).trans rfl; have hcz39_2 : w38.cell? ⟨gb205, 2, none⟩ = some (.int .i64 a1_2) := (blk_cell BK205.out 2).trans rfl; have hcz39_3 : w38.cell? ⟨gb205, 3, none⟩ = some (.int .i64 a1_3) := (blk_cell BK205.out 3).trans rfl; have hcz39_4 : w38.cell? ⟨gb205, 4, none⟩ = some (.int .i64 a1_4) := (blk_cell BK205.out 4).trans rfl; have hcz39_5 : w38.cell? ⟨gb205, 5, none⟩ = some (.slice A1_5 l1_5.length c1_5) := (blk_cell BK205.out 5).trans rfl; have hcz39_6 : w38.cell? ⟨gb205, 6, none⟩ = some (.slice A1_6 l1_6.length c1_6) := (blk_cell BK205.out 6).trans rfl; have hfz39_0 := blk_frozen BK205.out 0; have hfz39_1 := blk_frozen BK205.out 1; have hfz39_2 := blk_frozen BK205.out 2; have hfz39_3 := blk_frozen BK205.out 3; have hfz39_4 := blk_frozen BK205.out 4; have hfz39_5 := blk_frozen BK205.out 5; have hfz39_6 := blk_frozen BK205.out 6))
   go_meet
   case rel => exact ⟨_, (false), vQ, H', ⟨by first | omega | exact Nat.le_refl _⟩, ⟨kQ⟩, ⟨bQ⟩⟩
  clear c29
  have H' := aM H
  clear H
  have hcz30_0 : w4.cell? ⟨gb205, 0, none⟩ = some (.int .i64 a1_0) := (blk_cell BK205.out 0).trans rfl
  have hcz30_1 : w4.cell? ⟨gb205, 1, none⟩ = some (.int .i64 a1_1) := (blk_cell BK205.out 1).trans rfl
  have hcz30_2 : w4.cell? ⟨gb205, 2, none⟩ = some (.int .i64 a1_2) := (blk_cell BK205.out 2).trans rfl
  have hcz30_3 : w4.cell? ⟨gb205, 3, none⟩ = some (.int .i64 a1_3) := (blk_cell BK205.out 3).trans rfl
  have hcz30_4 : w4.cell? ⟨gb205, 4, none⟩ = some (.int .i64 a1_4) := (blk_cell BK205.out 4).trans rfl
  have hcz30_5 : w4.cell? ⟨gb205, 5, none⟩ = some (.slice A1_5 l1_5.length c1_5) := (blk_cell BK205.out 5).trans rfl
  have hcz30_6 : w4.cell? ⟨gb205, 6, none⟩ = some (.slice A1_6 l1_6.length c1_6) := (blk_cell BK205.out 6).trans rfl
  have hfz30_0 := blk_frozen BK205.out 0
  have hfz30_1 := blk_frozen BK205.out 1
  have hfz30_2 := blk_frozen BK205.out 2
  have hfz30_3 := blk_frozen BK205.out 3
  have hfz30_4 := blk_frozen BK205.out 4
  have hfz30_5 := blk_frozen BK205.out 5
  have hfz30_6 := blk_frozen BK205.out 6
  go_wp2_with (first | ((with_reducible refine gC 29 ?_); refine gL (some 15) Tryz.func29 #[.agg #[.int .i64 a1_0, .int .i64 a1_1]] ?_; (with_reducible refine cB (hex_Sane.calls a1_0 a1_1 true _ A6.out) ?_); intro w31 hb; replace BK205 := kK BK205 hb; replace HB := sB hb; clear hb; have hcz32_0 : w31.cell? ⟨gb205, 0, none⟩ = some (.int .i64 a1_0) := (blk_cell BK205.out 0).trans rfl; have hcz32_1 : w31.cell? ⟨gb205, 1, none⟩ = some (.int .i64 a1_1) := (blk_cell BK205.out 1).trans rfl; have hcz32_2 : w31.cell? ⟨gb205, 2, none⟩ = some (.int .i64 a1_2) := (blk_cell BK205.out 2).trans rfl; have hcz32_3 : w31.cell? ⟨gb205, 3, none⟩ = some (.int .i64 a1_3) := (blk_cell BK205.out 3).trans rfl; have hcz32_4 : w31.cell? ⟨gb205, 4, none⟩ = some (.int .i64 a1_4) := (blk_cell BK205.out 4).trans rfl; have hcz32_5 : w31.cell? ⟨gb205, 5, none⟩ = some (.slice A1_5 l1_5.length c1_5) := (blk_cell BK205.out 5).trans rfl; have hcz32_6 : w31.cell? ⟨gb205, 6, none⟩ = some (.slice A1_6 l1_6.length c1_6) := (blk_cell BK205.out 6).trans rfl; have hfz32_0 := blk_frozen BK205.out 0; have hfz32_1 := blk_frozen BK205.out 1; have hfz32_2 := blk_frozen BK205.out 2; have hfz32_3 := blk_frozen BK205.out 3; have hfz32_4 := blk_frozen BK205.out 4; have hfz32_5 := blk_frozen BK205.out 5; have hfz32_6 := blk_frozen BK205.out 6) | (go_at_call 29; (with_reducible refine (hex_Sane.calls a1_2 a1_3 true _ A8.out).mono ?_); rintro e w33 ⟨rfl, hb⟩; replace BK205 := kK BK205 hb; replace HB := sB hb; clear hb; have hcz34_0 : w33.cell? ⟨gb205, 0, none⟩ = some (.int .i64 a1_0) := (blk_cell BK205.out 0).trans rfl; have hcz34_1 : w33.cell? ⟨gb205, 1, none⟩ = some (.int .i64 a1_1) := (blk_cell BK205.out 1).trans rfl; have hcz34_2 : w33.cell? ⟨gb205, 2, none⟩ = some (.int .i64 a1_2) := (blk_cell BK205.out 2).trans rfl; have hcz34_3 : w33.cell? ⟨gb205, 3, none⟩ = some (.int .i64 a1_3) := (blk_cell BK205.out 3).trans rfl; have hcz34_4 : w33.cell? ⟨gb205, 4, none⟩ = some (.int .i64 a1_4) := (blk_cell BK205.out 4).trans rfl; have hcz34_5 : w33.cell? ⟨gb205, 5, none⟩ = some (.slice A1_5 l1_5.length c1_5) := (blk_cell BK205.out 5).trans rfl; have hcz34_6 : w33.cell? ⟨gb205, 6, none⟩ = some (.slice A1_6 l1_6.length c1_6) := (blk_cell BK205.out 6).trans rfl; have hfz34_0 := blk_frozen BK205.out 0; have hfz34_1 := blk_frozen BK205.out 1; have hfz34_2 := blk_frozen BK205.out 2; have hfz34_3 := blk_frozen BK205.out 3; have hfz34_4 := blk_frozen BK205.out 4; have hfz34_5 := blk_frozen BK205.out 5; have hfz34_6 := blk_frozen BK205.out 6))
  go_meet
  case rel => exact ⟨_, (decide ((wrap64 (a1_4 + (wrap64 (a1_3 - a1_1)))) > 65535)), vQ, H', ⟨by first | omega | exact Nat.le_refl _⟩, ⟨kQ⟩, ⟨bQ⟩⟩
 case rest =>
  clear HC3
  try clear c1
  try clear c2
  try clear p2
  try clear p6
  try clear c7
  try clear c9
  try clear c10
  try clear c10b0
  try clear c10b1
  try clear c11
  try clear c11b0
  try clear c17
  try clear c17b0
  try clear c18
  try clear c23
  try clear c23b0
  try clear c29
  try clear c29b0
  try clear c29b1
  try clear hcz12_0
  try clear hcz12_1
  try clear hcz12_2
  try clear hcz12_3
  try clear hcz12_4
  try clear hcz12_5
  try clear hcz12_6
  try clear hcz14_0
  try clear hcz14_1
  try clear hcz14_2
  try clear hcz14_3
  try clear hcz14_4
  try clear hcz14_5
  try clear hcz14_6
  try clear hcz16_0
  try clear hcz16_1
  try clear hcz16_2
  try clear hcz16_3
  try clear hcz16_4
  try clear hcz16_5
  try clear hcz16_6
  try clear hcz18_0
  try clear hcz18_1
  try clear hcz18_2
  try clear hcz18_3
  try clear hcz18_4
  try clear hcz18_5
  try clear hcz18_6
  try clear hcz20_0
  try clear hcz20_1
  try clear hcz20_2
  try clear hcz20_3
  try clear hcz20_4
  try clear hcz20_5
  try clear hcz20_6
  try clear hcz22_0
  try clear hcz22_1
  try clear hcz22_2
  try clear hcz22_3
  try clear hcz22_4
  try clear hcz22_5
  try clear hcz22_6
  try clear hcz24_0
  try clear hcz24_1
  try clear hcz24_2
  try clear hcz24_3
  try clear hcz24_4
  try clear hcz24_5
  try clear hcz24_6
  try clear hcz26_0
  try clear hcz26_1
  try clear hcz26_2
  try clear hcz26_3
  try clear hcz26_4
  try clear hcz26_5
  try clear hcz26_6
  try clear hcz28_0
  try clear hcz28_1
  try clear hcz28_2
  try clear hcz28_3
  try clear hcz28_4
  try clear hcz28_5
  try clear hcz28_6
  try clear hcz30_0
  try clear hcz30_1
  try clear hcz30_2
  try clear hcz30_3
  try clear hcz30_4
  try clear hcz30_5
  try clear hcz30_6
  try clear hcz32_0
  try clear hcz32_1
  try clear hcz32_2
  try clear hcz32_3
  try clear hcz32_4
  try clear hcz32_5
  try clear hcz32_6
  try clear hcz34_0
  try clear hcz34_1
  try clear hcz34_2
  try clear hcz34_3
  try clear hcz34_4
  try clear hcz34_5
  try clear hcz34_6
  try clear hcz35_0
  try clear hcz35_1
  try clear hcz35_2
  try clear hcz35_3
  try clear hcz35_4
  try clear hcz35_5
  try clear hcz35_6
  try clear hcz37_0
  try clear hcz37_1
  try clear hcz37_2
  try clear hcz37_3
  try clear hcz37_4
  try clear hcz37_5
  try clear hcz37_6
  try clear hcz39_0
  try clear hcz39_1
  try clear hcz39_2
  try clear hcz39_3
  try clear hcz39_4
  try clear hcz39_5
  try clear hcz39_6
  try clear hcz40_0
  try clear hcz40_1
  try clear hcz40_2
  try clear hcz40_3
  try clear hcz40_4
  try clear hcz40_5
  try clear hcz40_6
  try clear hcz42_0
  try clear hcz42_1
  try clear hcz42_2
  try clear hcz42_3
  try clear hcz42_4
  try clear hcz42_5
  try clear hcz42_6
  try clear hcz44_0
  try clear hcz44_1
  try clear hcz44_2
  try clear hcz44_3
  try clear hcz44_4
  try clear hcz44_5
  try clear hcz44_6
  try clear hcz45_0
  try clear hcz45_1
  try clear hcz45_2
  try clear hcz45_3
  try clear hcz45_4
  try clear hcz45_5
  try clear hcz45_6
  try clear hcz47_0
  try clear hcz47_1
  try clear hcz47_2
  try clear hcz47_3
  try clear hcz47_4
  try clear hcz47_5
  try clear hcz47_6
  try clear hcz49_0
  try clear hcz49_1
  try clear hcz49_2
  try clear hcz49_3
  try clear hcz49_4
  try clear hcz49_5
  try clear hcz49_6
  try clear hcz5_0
  try clear hcz5_1
  try clear hcz5_2
  try clear hcz5_3
  try clear hcz5_4
  try clear hcz5_5
  try clear hcz5_6
  try clear hfz12_0
  try clear hfz12_1
  try clear hfz12_2
  try clear hfz12_3
  try clear hfz12_4
  try clear hfz12_5
  try clear hfz12_6
  try clear hfz14_0
  try clear hfz14_1
  try clear hfz14_2
  try clear hfz14_3
  try clear hfz14_4
  try clear hfz14_5
  try clear hfz14_6
  try clear hfz16_0
  try clear hfz16_1
  try clear hfz16_2
  try clear hfz16_3
  try clear hfz16_4
  try clear hfz16_5
  try clear hfz16_6
  try clear hfz18_0
  try clear hfz18_1
  try clear hfz18_2
  try clear hfz18_3
  try clear hfz18_4
  try clear hfz18_5
  try clear hfz18_6
  try clear hfz20_0
  try clear hfz20_1
  try clear hfz20_2
  try clear hfz20_3
  try clear hfz20_4
  try clear hfz20_5
  try clear hfz20_6
  try clear hfz22_0
  try clear hfz22_1
  try clear hfz22_2
  try clear hfz22_3
  try clear hfz22_4
  try clear hfz22_5
  try clear hfz22_6
  try clear hfz24_0
  try clear hfz24_1
  try clear hfz24_2
  try clear hfz24_3
  try clear hfz24_4
  try clear hfz24_5
  try clear hfz24_6
  try clear hfz26_0
  try clear hfz26_1
  try clear hfz26_2
  try clear hfz26_3
  try clear hfz26_4
  try clear hfz26_5
  try clear hfz26_6
  try clear hfz28_0
  try clear hfz28_1
  try clear hfz28_2
  try clear hfz28_3
  try clear hfz28_4
  try clear hfz28_5
  try clear hfz28_6
  try clear hfz30_0
  try clear hfz30_1
  try clear hfz30_2
  try clear hfz30_3
  try clear hfz30_4
  try clear hfz30_5
  try clear hfz30_6
  try clear hfz32_0
  try clear hfz32_1
  try clear hfz32_2
  try clear hfz32_3
  try clear hfz32_4
  try clear hfz32_5
  try clear hfz32_6
  try clear hfz34_0
  try clear hfz34_1
  try clear hfz34_2
  try clear hfz34_3
  try clear hfz34_4
  try clear hfz34_5
  try clear hfz34_6
  try clear hfz35_0
  try clear hfz35_1
  try clear hfz35_2
  try clear hfz35_3
  try clear hfz35_4
  try clear hfz35_5
  try clear hfz35_6
  try clear hfz37_0
  try clear hfz37_1
  try clear hfz37_2
  try clear hfz37_3
  try clear hfz37_4
  try clear hfz37_5
  try clear hfz37_6
  try clear hfz39_0
  try clear hfz39_1
  try clear hfz39_2
  try clear hfz39_3
  try clear hfz39_4
  try clear hfz39_5
  try clear hfz39_6
  try clear hfz40_0
  try clear hfz40_1
  try clear hfz40_2
  try clear hfz40_3
  try clear hfz40_4
  try clear hfz40_5
  try clear hfz40_6
  try clear hfz42_0
  try clear hfz42_1
  try clear hfz42_2
  try clear hfz42_3
  try clear hfz42_4
  try clear hfz42_5
  try clear hfz42_6
  try clear hfz44_0
  try clear hfz44_1
  try clear hfz44_2
  try clear hfz44_3
  try clear hfz44_4
  try clear hfz44_5
  try clear hfz44_6
  try clear hfz45_0
  try clear hfz45_1
  try clear hfz45_2
  try clear hfz45_3
  try clear hfz45_4
  try clear hfz45_5
  try clear hfz45_6
  try clear hfz47_0
  try clear hfz47_1
  try clear hfz47_2
  try clear hfz47_3
  try clear hfz47_4
  try clear hfz47_5
  try clear hfz47_6
  try clear hfz49_0
  try clear hfz49_1
  try clear hfz49_2
  try clear hfz49_3
  try clear hfz49_4
  try clear hfz49_5
  try clear hfz49_6
  try clear hfz5_0
  try clear hfz5_1
  try clear hfz5_2
  try clear hfz5_3
  try clear hfz5_4
  try clear hfz5_5
  try clear hfz5_6
  obtain ⟨kq, x56_2, rfl, HA, HJ2, BK205, HB⟩ := hcut
  cases kq with
  | zero => exact absurd HA.out (by simp [hornbooklaw05_sound.j0])
  | succ kj2 =>
   have H := HA.out
   clear HA
   simp only [hornbooklaw05_sound.j0] at H
   by_cases c51 : x56_2 = true
   ·subst c51
    rw [if_pos rfl] at H
    obtain rfl := Option.some.inj H
    go_wp2
    go_ret
    exact ⟨eQ, bQ⟩
   replace c51 := Bool.eq_false_iff.mpr c51
   subst c51
   rw [if_neg (show ¬ (false = true) by decide)] at H
   refine iD H ?_ ?_<;>clear H<;>intro H c52b0
   ·refine iEc H ?_ ?_<;>clear H<;>intro H c53b0 c53b1 c53
    ·clear c53
     obtain rfl := Option.some.inj H
     have hcz54_0 : wc.cell? ⟨gb205, 0, none⟩ = some (.int .i64 a1_0) := (blk_cell BK205.out 0).trans rfl
     have hcz54_1 : wc.cell? ⟨gb205, 1, none⟩ = some (.int .i64 a1_1) := (blk_cell BK205.out 1).trans rfl
     have hcz54_2 : wc.cell? ⟨gb205, 2, none⟩ = some (.int .i64 a1_2) := (blk_cell BK205.out 2).trans rfl
     have hcz54_3 : wc.cell? ⟨gb205, 3, none⟩ = some (.int .i64 a1_3) := (blk_cell BK205.out 3).trans rfl
     have hcz54_4 : wc.cell? ⟨gb205, 4, none⟩ = some (.int .i64 a1_4) := (blk_cell BK205.out 4).trans rfl
     have hcz54_5 : wc.cell? ⟨gb205, 5, none⟩ = some (.slice A1_5 l1_5.length c1_5) := (blk_cell BK205.out 5).trans rfl
     have hcz54_6 : wc.cell? ⟨gb205, 6, none⟩ = some (.slice A1_6 l1_6.length c1_6) := (blk_cell BK205.out 6).trans rfl
     have hfz54_0 := blk_frozen BK205.out 0
     have hfz54_1 := blk_frozen BK205.out 1
     have hfz54_2 := blk_frozen BK205.out 2
     have hfz54_3 := blk_frozen BK205.out 3
     have hfz54_4 := blk_frozen BK205.out 4
     have hfz54_5 := blk_frozen BK205.out 5
     have hfz54_6 := blk_frozen BK205.out 6
     go_wp2
     go_ret
     exact ⟨eQ, bQ⟩
    have c53b2 : ¬ (l1_5 = []) := fun h_ => c53 (by rw [h_]; rfl)
    obtain rfl := Option.some.inj H
    have hcz55_0 : wc.cell? ⟨gb205, 0, none⟩ = some (.int .i64 a1_0) := (blk_cell BK205.out 0).trans rfl
    have hcz55_1 : wc.cell? ⟨gb205, 1, none⟩ = some (.int .i64 a1_1) := (blk_cell BK205.out 1).trans rfl
    have hcz55_2 : wc.cell? ⟨gb205, 2, none⟩ = some (.int .i64 a1_2) := (blk_cell BK205.out 2).trans rfl
    have hcz55_3 : wc.cell? ⟨gb205, 3, none⟩ = some (.int .i64 a1_3) := (blk_cell BK205.out 3).trans rfl
    have hcz55_4 : wc.cell? ⟨gb205, 4, none⟩ = some (.int .i64 a1_4) := (blk_cell BK205.out 4).trans rfl
    have hcz55_5 : wc.cell? ⟨gb205, 5, none⟩ = some (.slice A1_5 l1_5.length c1_5) := (blk_cell BK205.out 5).trans rfl
    have hcz55_6 : wc.cell? ⟨gb205, 6, none⟩ = some (.slice A1_6 l1_6.length c1_6) := (blk_cell BK205.out 6).trans rfl
    have hfz55_0 := blk_frozen BK205.out 0
    have hfz55_1 := blk_frozen BK205.out 1
    have hfz55_2 := blk_frozen BK205.out 2
    have hfz55_3 := blk_frozen BK205.out 3
    have hfz55_4 := blk_frozen BK205.out 4
    have hfz55_5 := blk_frozen BK205.out 5
    have hfz55_6 := blk_frozen BK205.out 6
    go_wp2
    go_ret
    exact ⟨eQ, bQ⟩
   refine iNc H ?_ ?_<;>clear H<;>intro H c56
   ·have c56b0 : decide (0 < (l1_6.length : Int)) = true := decide_eq_true c56
    have c56b1 : decide (0 < l1_6.length) = true := decide_eq_true (by omega)
    clear c56
    refine iEc H ?_ ?_<;>clear H<;>intro H c57b0 c57b1 c57
    rotate_left
    ·obtain rfl := Option.some.inj H
     have hcz59_0 : wc.cell? ⟨gb205, 0, none⟩ = some (.int .i64 a1_0) := (blk_cell BK205.out 0).trans rfl
     have hcz59_1 : wc.cell? ⟨gb205, 1, none⟩ = some (.int .i64 a1_1) := (blk_cell BK205.out 1).trans rfl
     have hcz59_2 : wc.cell? ⟨gb205, 2, none⟩ = some (.int .i64 a1_2) := (blk_cell BK205.out 2).trans rfl
     have hcz59_3 : wc.cell? ⟨gb205, 3, none⟩ = some (.int .i64 a1_3) := (blk_cell BK205.out 3).trans rfl
     have hcz59_4 : wc.cell? ⟨gb205, 4, none⟩ = some (.int .i64 a1_4) := (blk_cell BK205.out 4).trans rfl
     have hcz59_5 : wc.cell? ⟨gb205, 5, none⟩ = some (.slice A1_5 l1_5.length c1_5) := (blk_cell BK205.out 5).trans rfl
     have hcz59_6 : wc.cell? ⟨gb205, 6, none⟩ = some (.slice A1_6 l1_6.length c1_6) := (blk_cell BK205.out 6).trans rfl
     have hfz59_0 := blk_frozen BK205.out 0
     have hfz59_1 := blk_frozen BK205.out 1
     have hfz59_2 := blk_frozen BK205.out 2
     have hfz59_3 := blk_frozen BK205.out 3
     have hfz59_4 := blk_frozen BK205.out 4
     have hfz59_5 := blk_frozen BK205.out 5
     have hfz59_6 := blk_frozen BK205.out 6
     go_wp2
     go_ret
     exact ⟨eQ, bQ⟩
    clear c57
    obtain rfl := Option.some.inj H
    have hcz58_0 : wc.cell? ⟨gb205, 0, none⟩ = some (.int .i64 a1_0) := (blk_cell BK205.out 0).trans rfl
    have hcz58_1 : wc.cell? ⟨gb205, 1, none⟩ = some (.int .i64 a1_1) := (blk_cell BK205.out 1).trans rfl
    have hcz58_2 : wc.cell? ⟨gb205, 2, none⟩ = some (.int .i64 a1_2) := (blk_cell BK205.out 2).trans rfl
    have hcz58_3 : wc.cell? ⟨gb205, 3, none⟩ = some (.int .i64 a1_3) := (blk_cell BK205.out 3).trans rfl
    have hcz58_4 : wc.cell? ⟨gb205, 4, none⟩ = some (.int .i64 a1_4) := (blk_cell BK205.out 4).trans rfl
    have hcz58_5 : wc.cell? ⟨gb205, 5, none⟩ = some (.slice A1_5 l1_5.length c1_5) := (blk_cell BK205.out 5).trans rfl
    have hcz58_6 : wc.cell? ⟨gb205, 6, none⟩ = some (.slice A1_6 l1_6.length c1_6) := (blk_cell BK205.out 6).trans rfl
    have hfz58_0 := blk_frozen BK205.out 0
    have hfz58_1 := blk_frozen BK205.out 1
    have hfz58_2 := blk_frozen BK205.out 2
    have hfz58_3 := blk_frozen BK205.out 3
    have hfz58_4 := blk_frozen BK205.out 4
    have hfz58_5 := blk_frozen BK205.out 5
    have hfz58_6 := blk_frozen BK205.out 6
    go_wp2
    go_ret
    exact ⟨eQ, bQ⟩
   have c56b0 : decide (0 < (l1_6.length : Int)) = false := decide_eq_false c56
   have c56b1 : decide (0 < l1_6.length) = false := decide_eq_false (by omega)
   clear c56
   refine iNc H ?_ ?_<;>clear H<;>intro H c60
   rotate_left
   ·have c60b0 : decide (1 ≤ (l1_5.length : Int)) = false := decide_eq_false c60
    have c60b1 : decide (1 ≤ l1_5.length) = false := decide_eq_false (by omega)
    clear c60
    obtain rfl := Option.some.inj H
    have hcz67_0 : wc.cell? ⟨gb205, 0, none⟩ = some (.int .i64 a1_0) := (blk_cell BK205.out 0).trans rfl
    have hcz67_1 : wc.cell? ⟨gb205, 1, none⟩ = some (.int .i64 a1_1) := (blk_cell BK205.out 1).trans rfl
    have hcz67_2 : wc.cell? ⟨gb205, 2, none⟩ = some (.int .i64 a1_2) := (blk_cell BK205.out 2).trans rfl
    have hcz67_3 : wc.cell? ⟨gb205, 3, none⟩ = some (.int .i64 a1_3) := (blk_cell BK205.out 3).trans rfl
    have hcz67_4 : wc.cell? ⟨gb205, 4, none⟩ = some (.int .i64 a1_4) := (blk_cell BK205.out 4).trans rfl
    have hcz67_5 : wc.cell? ⟨gb205, 5, none⟩ = some (.slice A1_5 l1_5.length c1_5) := (blk_cell BK205.out 5).trans rfl
    have hcz67_6 : wc.cell? ⟨gb205, 6, none⟩ = some (.slice A1_6 l1_6.length c1_6) := (blk_cell BK205.out 6).trans rfl
    have hfz67_0 := blk_frozen BK205.out 0
    have hfz67_1 := blk_frozen BK205.out 1
    have hfz67_2 := blk_frozen BK205.out 2
    have hfz67_3 := blk_frozen BK205.out 3
    have hfz67_4 := blk_frozen BK205.out 4
    have hfz67_5 := blk_frozen BK205.out 5
    have hfz67_6 := blk_frozen BK205.out 6
    go_wp2
    go_ret
    exact ⟨eQ, bQ⟩
   have c60b0 : decide (1 ≤ (l1_5.length : Int)) = true := decide_eq_true c60
   have c60b1 : decide (1 ≤ l1_5.length) = true := decide_eq_true (by omega)
   clear c60
   refine iDc H ?_ ?_<;>clear H<;>intro H c61b0 c61
   rotate_left
   ·have c61b1 : decide (l1_5.length ≤ 64) = false := decide_eq_false (by omega)
    clear c61
    obtain rfl := Option.some.inj H
    have hcz66_0 : wc.cell? ⟨gb205, 0, none⟩ = some (.int .i64 a1_0) := (blk_cell BK205.out 0).trans rfl
    have hcz66_1 : wc.cell? ⟨gb205, 1, none⟩ = some (.int .i64 a1_1) := (blk_cell BK205.out 1).trans rfl
    have hcz66_2 : wc.cell? ⟨gb205, 2, none⟩ = some (.int .i64 a1_2) := (blk_cell BK205.out 2).trans rfl
    have hcz66_3 : wc.cell? ⟨gb205, 3, none⟩ = some (.int .i64 a1_3) := (blk_cell BK205.out 3).trans rfl
    have hcz66_4 : wc.cell? ⟨gb205, 4, none⟩ = some (.int .i64 a1_4) := (blk_cell BK205.out 4).trans rfl
    have hcz66_5 : wc.cell? ⟨gb205, 5, none⟩ = some (.slice A1_5 l1_5.length c1_5) := (blk_cell BK205.out 5).trans rfl
    have hcz66_6 : wc.cell? ⟨gb205, 6, none⟩ = some (.slice A1_6 l1_6.length c1_6) := (blk_cell BK205.out 6).trans rfl
    have hfz66_0 := blk_frozen BK205.out 0
    have hfz66_1 := blk_frozen BK205.out 1
    have hfz66_2 := blk_frozen BK205.out 2
    have hfz66_3 := blk_frozen BK205.out 3
    have hfz66_4 := blk_frozen BK205.out 4
    have hfz66_5 := blk_frozen BK205.out 5
    have hfz66_6 := blk_frozen BK205.out 6
    go_wp2
    go_ret
    exact ⟨eQ, bQ⟩
   have c61b1 : decide (l1_5.length ≤ 64) = true := decide_eq_true (by omega)
   clear c61
   obtain ⟨ji62, hji62⟩ : ∃ j_ : Int, (wrap64 ((l1_5.length : Int) - 1)) = j_ := ⟨_, rfl⟩
   replace H : (if 0 ≤ (ji62) then (if (ji62) < (l1_5.length : Int) then (some (decide ((wrap64 ((rd l1_5 (ji62)) + (wrap64 (a1_3 - a1_1)))) ≤ 65535))) else (none)) else (none)) = some r := by first | (rw [hji62] at H; exact H) | (simp only [hji62] at H ⊢; exact H)
   have hji62w : (IntKind.i64.wrap ((l1_5.length : Int) - 1)) = ji62 := (i64_w _).trans hji62
   refine iD H ?_ ?_<;>clear H<;>intro H c63b0
   rotate_left
   ·exact absurd H (by simp)
   refine iD H ?_ ?_<;>clear H<;>intro H c64b0
   rotate_left
   ·exact absurd H (by simp)
   obtain rfl := Option.some.inj H
   have hcz65_0 : wc.cell? ⟨gb205, 0, none⟩ = some (.int .i64 a1_0) := (blk_cell BK205.out 0).trans rfl
   have hcz65_1 : wc.cell? ⟨gb205, 1, none⟩ = some (.int .i64 a1_1) := (blk_cell BK205.out 1).trans rfl
   have hcz65_2 : wc.cell? ⟨gb205, 2, none⟩ = some (.int .i64 a1_2) := (blk_cell BK205.out 2).trans rfl
   have hcz65_3 : wc.cell? ⟨gb205, 3, none⟩ = some (.int .i64 a1_3) := (blk_cell BK205.out 3).trans rfl
   have hcz65_4 : wc.cell? ⟨gb205, 4, none⟩ = some (.int .i64 a1_4) := (blk_cell BK205.out 4).trans rfl
   have hcz65_5 : wc.cell? ⟨gb205, 5, none⟩ = some (.slice A1_5 l1_5.length c1_5) := (blk_cell BK205.out 5).trans rfl
   have hcz65_6 : wc.cell? ⟨gb205, 6, none⟩ = some (.slice A1_6 l1_6.length c1_6) := (blk_cell BK205.out 6).trans rfl
   have hfz65_0 := blk_frozen BK205.out 0
   have hfz65_1 := blk_frozen BK205.out 1
   have hfz65_2 := blk_frozen BK205.out 2
   have hfz65_3 := blk_frozen BK205.out 3
   have hfz65_4 := blk_frozen BK205.out 4
   have hfz65_5 := blk_frozen BK205.out 5
   have hfz65_6 := blk_frozen BK205.out 6
   have p208 : 0 ≤ ((ji62) : Int) := of_decide_eq_true hQ
   have q208 : (ji62) < (l1_5.length : Int) := of_decide_eq_true hQ
   obtain ⟨ad208, e208, hx208_0⟩ := Kd.at_int HR1_5.out (ji62) p208 q208
   cases e208
   replace hx208_0 := (HB.out.cell (World.block_lt_of_cell? w _ hx208_0)).trans hx208_0
   replace p208 := eq_true p208
   replace q208 := eq_true q208
   go_wp2
   go_ret
   exact ⟨by first | rfl | (simp [errW_none, errW_some] <;> rfl) | (simp only [← hji62]; first | rfl | (simp [errW_none, errW_some] <;> rfl)) | (simp [*, errW_none, errW_some] <;> rfl), bQ⟩
def lex_place.f (a0 : ByteArray) (a1 : Int) : Option (Int) := some (mx 0 (mn a1 (a0.size : Int)))
set_option maxHeartbeats 8000000 in
set_option maxRecDepth 100000 in
theorem lex_place.calls (a0 : ByteArray) (a1 : Int) (r : Int) (w : World) (h : lex_place.f a0 a1 = some r) :
  Calls Tryz.prog 59 #[.string a0, .int .i64 a1] w fun e w' => e = .returned (.int .i64 r) ∧ Below w.heap.size w w' := by
 have HB := aM (Below.refl w.heap.size w)
 have H : (some (mx 0 (mn a1 (a0.size : Int)))) = some r := h
 clear h
 obtain ⟨ji3, hji3⟩ : ∃ j_ : Int, (mn a1 (a0.size : Int)) = j_ := ⟨_, rfl⟩
 replace H : (some (mx 0 (ji3))) = some r := by first | (rw [hji3] at H; exact H) | (simp only [hji3] at H ⊢; exact H)
 have hji3_ : (if (a0.size : Int) < a1 then (a0.size : Int) else a1) = ji3 := hji3
 obtain ⟨ji4, hji4⟩ : ∃ j_ : Int, (mx 0 (ji3)) = j_ := ⟨_, rfl⟩
 replace H : (some ji4) = some r := by first | (rw [hji4] at H; exact H) | (simp only [hji4] at H ⊢; exact H)
 have hji4_ : (if 0 < (ji3) then (ji3) else 0) = ji4 := hji4
 obtain rfl := Option.some.inj H
 go_enter Tryz.func59, Tryz.ntmps59
 go_wp2
 go_ret
 exact ⟨by first | rfl | (simp [errW_none, errW_some] <;> rfl) | (simp only [← hji3, ← hji4]; first | rfl | (simp [errW_none, errW_some] <;> rfl)) | (simp [*, errW_none, errW_some] <;> rfl), bQ⟩
end Go.Proofs.YtjplnhdplpiogaaGreatDoor.M
end
section
namespace Go.Proofs
open Go.Shelf
def Tryz.lays169_ren : Go.Shelf.Ren := ⟨fun | 169 => 67 | n => n, fun | 70 => 107 | 9 => 9 | 0 => 0 | 72 => 109 | 37 => 52 | 127 => 139 | 3 => 3 | 5 => 5 | n => n, fun | n => n⟩
theorem Tryz.lays169 : Go.Proofs.Lays.n169 Tryz.prog Tryz.lays169_ren := {
 mixed := by kernel_rfl
 f169 := Tryz.func67.trans (congrArg some (by kernel_rfl))
 t0 := Tryz.underlying0
 a0 := Tryz.isAgg0
 z0 := Tryz.sizeOf0
 v0 := Tryz.zeroValue0
 t3 := Tryz.underlying3
 a3 := Tryz.isAgg3
 z3 := Tryz.sizeOf3
 v3 := Tryz.zeroValue3
 t9 := Tryz.underlying9
 a9 := Tryz.isAgg9
 z9 := Tryz.sizeOf9
 v9 := Tryz.zeroValue9
 t37 := Tryz.underlying52
 a37 := Tryz.isAgg52
 z37 := Tryz.sizeOf52
 v37 := Tryz.zeroValue52
 t70 := Tryz.underlying107
 a70 := Tryz.isAgg107
 z70 := Tryz.sizeOf107
 v70 := Tryz.zeroValue107
 t72 := Tryz.underlying109
 a72 := Tryz.isAgg109
 z72 := Tryz.sizeOf109
 v72 := Tryz.zeroValue109
 t127 := Tryz.underlying139
 a127 := Tryz.isAgg139
 z127 := Tryz.sizeOf139
 v127 := Tryz.zeroValue139 }
theorem Tryz.Builder_Extra_169 : Builder.Extra Tryz.prog Tryz.lays169_ren := {
 sizeBuilder := by kernel_rfl
 liesBuilder := by kernel_rfl
 t5 := Tryz.underlying5
 a5 := Tryz.isAgg5
 z5 := Tryz.sizeOf5
 v5 := Tryz.zeroValue5
 infoByte := by kernel_rfl
 cellsByte := by kernel_rfl
 sizeByte := by kernel_rfl
 neB5 := by decide }
def Tryz.lays160_ren : Go.Shelf.Ren := ⟨fun | 160 => 117 | 232 => 135 | 231 => 134 | 227 => 136 | 234 => 138 | 233 => 137 | 236 => 140 | 235 => 139 | 228 => 152 | 271 => 155 | 151 => 154 | 197 => 153 | 120 => 165 | 152 => 164 | 260 => 163 | 137 => 60 | 119 => 167 | 224 => 132 | 225 => 131 | 217 => 90 | 266 => 112 | n => n, fun | 9 => 9 | 4 => 4 | 3 => 3 | 5 => 5 | 117 => 173 | 116 => 172 | 0 => 0 | 124 => 176 | 21 => 21 | 105 => 200 | 46 => 96 | 119 => 211 | 139 => 214 | 138 => 213 | n => n, fun | 3 => 3 | 4 => 4 | n => n⟩
theorem Tryz.lays160 : Go.Proofs.Lays.n160 Tryz.prog Tryz.lays160_ren := {
 mixed := by kernel_rfl
 f119 := Tryz.func167.trans (congrArg some (by kernel_rfl))
 f120 := Tryz.func165.trans (congrArg some (by kernel_rfl))
 f137 := Tryz.func60.trans (congrArg some (by kernel_rfl))
 f151 := Tryz.func154.trans (congrArg some (by kernel_rfl))
 f152 := Tryz.func164.trans (congrArg some (by kernel_rfl))
 f160 := Tryz.func117.trans (congrArg some (by kernel_rfl))
 f197 := Tryz.func153.trans (congrArg some (by kernel_rfl))
 f217 := Tryz.func90.trans (congrArg some (by kernel_rfl))
 f224 := Tryz.func132.trans (congrArg some (by kernel_rfl))
 f225 := Tryz.func131.trans (congrArg some (by kernel_rfl))
 f227 := Tryz.func136.trans (congrArg some (by kernel_rfl))
 f228 := Tryz.func152.trans (congrArg some (by kernel_rfl))
 f231 := Tryz.func134.trans (congrArg some (by kernel_rfl))
 f232 := Tryz.func135.trans (congrArg some (by kernel_rfl))
 f233 := Tryz.func137.trans (congrArg some (by kernel_rfl))
 f234 := Tryz.func138.trans (congrArg some (by kernel_rfl))
 f235 := Tryz.func139.trans (congrArg some (by kernel_rfl))
 f236 := Tryz.func140.trans (congrArg some (by kernel_rfl))
 f260 := Tryz.func163.trans (congrArg some (by kernel_rfl))
 f266 := Tryz.func112.trans (congrArg some (by kernel_rfl))
 f271 := Tryz.func155.trans (congrArg some (by kernel_rfl))
 t0 := Tryz.underlying0
 a0 := Tryz.isAgg0
 z0 := Tryz.sizeOf0
 v0 := Tryz.zeroValue0
 t3 := Tryz.underlying3
 a3 := Tryz.isAgg3
 z3 := Tryz.sizeOf3
 v3 := Tryz.zeroValue3
 t4 := Tryz.underlying4
 a4 := Tryz.isAgg4
 z4 := Tryz.sizeOf4
 v4 := Tryz.zeroValue4
 t5 := Tryz.underlying5
 a5 := Tryz.isAgg5
 z5 := Tryz.sizeOf5
 v5 := Tryz.zeroValue5
 t9 := Tryz.underlying9
 a9 := Tryz.isAgg9
 z9 := Tryz.sizeOf9
 v9 := Tryz.zeroValue9
 t21 := Tryz.underlying21
 a21 := Tryz.isAgg21
 z21 := Tryz.sizeOf21
 v21 := Tryz.zeroValue21
 t46 := Tryz.underlying96
 a46 := Tryz.isAgg96
 z46 := Tryz.sizeOf96
 v46 := Tryz.zeroValue96
 t105 := Tryz.underlying200
 a105 := Tryz.isAgg200
 z105 := Tryz.sizeOf200
 v105 := Tryz.zeroValue200
 t116 := Tryz.underlying172
 a116 := Tryz.isAgg172
 z116 := Tryz.sizeOf172
 t117 := Tryz.underlying173
 a117 := Tryz.isAgg173
 z117 := Tryz.sizeOf173
 v117 := Tryz.zeroValue173
 t119 := Tryz.underlying211
 a119 := Tryz.isAgg211
 z119 := Tryz.sizeOf211
 t124 := Tryz.underlying176
 a124 := Tryz.isAgg176
 z124 := Tryz.sizeOf176
 v124 := Tryz.zeroValue176
 t138 := Tryz.underlying213
 a138 := Tryz.isAgg213
 z138 := Tryz.sizeOf213
 v138 := Tryz.zeroValue213
 t139 := Tryz.underlying214
 a139 := Tryz.isAgg214
 z139 := Tryz.sizeOf214
 v139 := Tryz.zeroValue214
 g3 := by kernel_rfl
 g4 := by kernel_rfl }
def Tryz.lays137_ren : Go.Shelf.Ren := ⟨fun | 137 => 60 | 217 => 90 | 266 => 112 | n => n, fun | 9 => 9 | 5 => 5 | 3 => 3 | n => n, fun | n => n⟩
theorem Tryz.lays137 : Go.Proofs.Lays.n137 Tryz.prog Tryz.lays137_ren := {
 mixed := by kernel_rfl
 f137 := Tryz.func60.trans (congrArg some (by kernel_rfl))
 f217 := Tryz.func90.trans (congrArg some (by kernel_rfl))
 f266 := Tryz.func112.trans (congrArg some (by kernel_rfl))
 t3 := Tryz.underlying3
 a3 := Tryz.isAgg3
 z3 := Tryz.sizeOf3
 v3 := Tryz.zeroValue3
 t5 := Tryz.underlying5
 a5 := Tryz.isAgg5
 z5 := Tryz.sizeOf5
 v5 := Tryz.zeroValue5
 t9 := Tryz.underlying9
 a9 := Tryz.isAgg9
 z9 := Tryz.sizeOf9
 v9 := Tryz.zeroValue9 }
open Go.RowKit in
/-- strings.IndexByte: "IndexByte returns the index of the first instance of c in s, or -1 if c is not present in s.": IT RETURNS 'Lib.indexByte s c'; the world is as it was. (LAID: no walk: one application.) -/
theorem Tryz.strings_IndexByte (s : ByteArray) (c : Int) (w : World) :
  Calls Tryz.prog 60 #[.string s, .int .u8 c] w fun e w' => e = .returned (.int .i64 (Lib.indexByte s.data.toList c.toNat.toUInt8)) ∧ w' = w := Any.strings_IndexByte Tryz.lays137 s c w
open Go.RowKit in
/-- (*strings.Builder).String: "String returns the accumulated string.": WHATEVER THE BUILDER HOLDS; THE FORM '_k': OVER 'Lib.IsBuilderF' (a builder that 'String()' may have read), AND WITH THE FRAME THAT REACHES ABOVE THE BUILDER: 'Lib.OthersKept': every block that is not b and is no row of uint8's stands as it stood: the iterator of a range among them. (LAID: no walk: one application.) -/
theorem Tryz.Builder_String_any_k (B b : Nat) (l : List UInt8) (w : World) (h : Lib.IsBuilderF 109 5 B b (Lib.byteCells l) w) (hBw : B ≤ w.heap.size) :
  Calls Tryz.prog 67 #[.pointer (some ⟨b, 0, none⟩)] w fun e w' => e = .returned (.string ⟨l.toArray⟩) ∧ (Lib.IsBuilderF 109 5 B b (Lib.byteCells l) w' ∧ Below B w w' ∧ Lib.OthersKept 5 (some b) w w') := Any.Builder_String_any_k Tryz.lays169 Tryz.Builder_Extra_169 B b l w h hBw
def Tryz.laysC174_ren : Go.Shelf.Ren := ⟨fun | 174 => 97 | 247 => 118 | 245 => 119 | 287 => 141 | 279 => 142 | 280 => 143 | 281 => 144 | 282 => 145 | 321 => 156 | 322 => 157 | 316 => 158 | 171 => 160 | 205 => 159 | 243 => 166 | 246 => 168 | 283 => 169 | 284 => 170 | 285 => 171 | 286 => 172 | 129 => 174 | 317 => 173 | 318 => 175 | 319 => 176 | 320 => 177 | 337 => 178 | 338 => 179 | n => n, fun | 9 => 9 | 3 => 3 | 2 => 2 | 75 => 112 | 85 => 142 | 4 => 4 | 167 => 177 | 5 => 5 | 53 => 178 | 175 => 179 | 46 => 96 | 168 => 181 | 37 => 52 | 0 => 0 | 210 => 205 | 21 => 21 | 127 => 139 | 145 => 210 | 143 => 208 | 171 => 217 | 173 => 220 | 212 => 223 | 51 => 196 | 20 => 20 | 213 => 224 | 232 => 227 | 233 => 228 | 80 => 114 | n => n, fun | 15 => 2 | 16 => 0 | 17 => 5 | 18 => 6 | 19 => 7 | n => n⟩
theorem Tryz.laysC174 : Go.Proofs.LaysC.n174 Tryz.prog Tryz.laysC174_ren := {
 mixed := by kernel_rfl
 f129 := Tryz.func174.trans (congrArg some (by kernel_rfl))
 f171 := Tryz.func160.trans (congrArg some (by kernel_rfl))
 f174 := Tryz.func97.trans (congrArg some (by kernel_rfl))
 f205 := Tryz.func159.trans (congrArg some (by kernel_rfl))
 f243 := Tryz.func166.trans (congrArg some (by kernel_rfl))
 f245 := Tryz.func119.trans (congrArg some (by kernel_rfl))
 f246 := Tryz.func168.trans (congrArg some (by kernel_rfl))
 f247 := Tryz.func118.trans (congrArg some (by kernel_rfl))
 f279 := Tryz.func142.trans (congrArg some (by kernel_rfl))
 f280 := Tryz.func143.trans (congrArg some (by kernel_rfl))
 f281 := Tryz.func144.trans (congrArg some (by kernel_rfl))
 f282 := Tryz.func145.trans (congrArg some (by kernel_rfl))
 f283 := Tryz.func169.trans (congrArg some (by kernel_rfl))
 f284 := Tryz.func170.trans (congrArg some (by kernel_rfl))
 f285 := Tryz.func171.trans (congrArg some (by kernel_rfl))
 f286 := Tryz.func172.trans (congrArg some (by kernel_rfl))
 f287 := Tryz.func141.trans (congrArg some (by kernel_rfl))
 f316 := Tryz.func158.trans (congrArg some (by kernel_rfl))
 f317 := Tryz.func173.trans (congrArg some (by kernel_rfl))
 f318 := Tryz.func175.trans (congrArg some (by kernel_rfl))
 f319 := Tryz.func176.trans (congrArg some (by kernel_rfl))
 f320 := Tryz.func177.trans (congrArg some (by kernel_rfl))
 f321 := Tryz.func156.trans (congrArg some (by kernel_rfl))
 f322 := Tryz.func157.trans (congrArg some (by kernel_rfl))
 f337 := Tryz.func178.trans (congrArg some (by kernel_rfl))
 f338 := Tryz.func179.trans (congrArg some (by kernel_rfl))
 t0 := Tryz.underlying0
 a0 := Tryz.isAgg0
 z0 := Tryz.sizeOf0
 v0 := Tryz.zeroValue0
 t2 := Tryz.underlying2
 a2 := Tryz.isAgg2
 z2 := Tryz.sizeOf2
 v2 := Tryz.zeroValue2
 t3 := Tryz.underlying3
 a3 := Tryz.isAgg3
 z3 := Tryz.sizeOf3
 v3 := Tryz.zeroValue3
 t4 := Tryz.underlying4
 a4 := Tryz.isAgg4
 z4 := Tryz.sizeOf4
 v4 := Tryz.zeroValue4
 t5 := Tryz.underlying5
 a5 := Tryz.isAgg5
 z5 := Tryz.sizeOf5
 v5 := Tryz.zeroValue5
 t9 := Tryz.underlying9
 a9 := Tryz.isAgg9
 z9 := Tryz.sizeOf9
 v9 := Tryz.zeroValue9
 t20 := Tryz.underlying20
 a20 := Tryz.isAgg20
 z20 := Tryz.sizeOf20
 v20 := Tryz.zeroValue20
 t21 := Tryz.underlying21
 a21 := Tryz.isAgg21
 z21 := Tryz.sizeOf21
 v21 := Tryz.zeroValue21
 t37 := Tryz.underlying52
 a37 := Tryz.isAgg52
 z37 := Tryz.sizeOf52
 v37 := Tryz.zeroValue52
 t46 := Tryz.underlying96
 a46 := Tryz.isAgg96
 z46 := Tryz.sizeOf96
 v46 := Tryz.zeroValue96
 t51 := Tryz.underlying196
 a51 := Tryz.isAgg196
 z51 := Tryz.sizeOf196
 v51 := Tryz.zeroValue196
 t53 := Tryz.underlying178
 a53 := Tryz.isAgg178
 z53 := Tryz.sizeOf178
 v53 := Tryz.zeroValue178
 t75 := Tryz.underlying112
 a75 := Tryz.isAgg112
 z75 := Tryz.sizeOf112
 v75 := Tryz.zeroValue112
 t85 := Tryz.underlying142
 a85 := Tryz.isAgg142
 z85 := Tryz.sizeOf142
 v85 := Tryz.zeroValue142
 t127 := Tryz.underlying139
 a127 := Tryz.isAgg139
 z127 := Tryz.sizeOf139
 v127 := Tryz.zeroValue139
 t143 := Tryz.underlying208
 a143 := Tryz.isAgg208
 z143 := Tryz.sizeOf208
 v143 := Tryz.zeroValue208
 t145 := Tryz.underlying210
 a145 := Tryz.isAgg210
 z145 := Tryz.sizeOf210
 v145 := Tryz.zeroValue210
 t167 := Tryz.underlying177
 a167 := Tryz.isAgg177
 z167 := Tryz.sizeOf177
 v167 := Tryz.zeroValue177
 t168 := Tryz.underlying181
 a168 := Tryz.isAgg181
 z168 := Tryz.sizeOf181
 v168 := Tryz.zeroValue181
 t171 := Tryz.underlying217
 a171 := Tryz.isAgg217
 z171 := Tryz.sizeOf217
 v171 := Tryz.zeroValue217
 t173 := Tryz.underlying220
 a173 := Tryz.isAgg220
 z173 := Tryz.sizeOf220
 v173 := Tryz.zeroValue220
 t175 := Tryz.underlying179
 a175 := Tryz.isAgg179
 z175 := Tryz.sizeOf179
 v175 := Tryz.zeroValue179
 t210 := Tryz.underlying205
 a210 := Tryz.isAgg205
 z210 := Tryz.sizeOf205
 v210 := Tryz.zeroValue205
 t212 := Tryz.underlying223
 a212 := Tryz.isAgg223
 z212 := Tryz.sizeOf223
 v212 := Tryz.zeroValue223
 t213 := Tryz.underlying224
 a213 := Tryz.isAgg224
 z213 := Tryz.sizeOf224
 t232 := Tryz.underlying227
 a232 := Tryz.isAgg227
 z232 := Tryz.sizeOf227
 v232 := Tryz.zeroValue227
 t233 := Tryz.underlying228
 a233 := Tryz.isAgg228
 z233 := Tryz.sizeOf228
 v233 := Tryz.zeroValue228
 g15 := by kernel_rfl
 g16 := by kernel_rfl
 g17 := by kernel_rfl
 g18 := by kernel_rfl
 g19 := by kernel_rfl
 t80 := Tryz.underlying114
 a80 := Tryz.isAgg114
 z80 := Tryz.sizeOf114
 v80 := Tryz.zeroValue114
 i0 := by kernel_rfl
 i2 := by kernel_rfl
 i3 := by kernel_rfl
 i4 := by kernel_rfl
 i5 := by kernel_rfl
 i9 := by kernel_rfl
 i20 := by kernel_rfl
 i21 := by kernel_rfl
 i37 := by kernel_rfl
 i46 := by kernel_rfl
 i51 := by kernel_rfl
 i53 := by kernel_rfl
 i75 := by kernel_rfl
 i80 := by kernel_rfl
 i85 := by kernel_rfl
 i127 := by kernel_rfl
 i143 := by kernel_rfl
 i145 := by kernel_rfl
 i167 := by kernel_rfl
 i168 := by kernel_rfl
 i171 := by kernel_rfl
 i173 := by kernel_rfl
 i175 := by kernel_rfl
 i210 := by kernel_rfl
 i212 := by kernel_rfl
 i232 := by kernel_rfl
 i233 := by kernel_rfl
 m15 := by kernel_rfl
 m16 := by kernel_rfl
 m17 := by kernel_rfl
 m18 := by kernel_rfl
 m19 := by kernel_rfl
 c0 := by kernel_rfl
 c2 := by kernel_rfl
 c3 := by kernel_rfl
 c4 := by kernel_rfl
 c5 := by kernel_rfl
 c9 := by kernel_rfl
 c20 := by kernel_rfl
 c21 := by kernel_rfl
 c37 := by kernel_rfl
 c46 := by kernel_rfl
 c51 := by kernel_rfl
 c53 := by kernel_rfl
 c75 := by kernel_rfl
 c80 := by kernel_rfl
 c85 := by kernel_rfl
 c127 := by kernel_rfl
 c143 := by kernel_rfl
 c145 := by kernel_rfl
 c167 := by kernel_rfl
 c168 := by kernel_rfl
 c171 := by kernel_rfl
 c173 := by kernel_rfl
 c175 := by kernel_rfl
 c210 := by kernel_rfl
 c212 := by kernel_rfl
 c213 := by kernel_rfl
 c232 := by kernel_rfl
 c233 := by kernel_rfl }
open Go.RowKit in
/-- strconv.ParseInt(s, 10, 32), AT EVERY STRING THAT SPELLS AN int32 ('Lib.parseIntB 32 s.data.toList = .ok v'): v, AND NO ERROR. (LAID: no walk: one application.) -/
theorem Tryz.strconv_ParseInt_10_at32_ok (s : ByteArray) (hmax : s.size ≤ 9223372036854775806) (v : Int) (h : Lib.parseIntB 32 s.data.toList = .ok v) (w : World) :
  Calls Tryz.prog 97 #[.string s, .int .i64 10, .int .i64 32] w fun e w' => e = .returned (.tuple #[.int .i64 v, .nilIface]) ∧ (w' = w ∨ ∃ t, w' = Lib.bytesWorld w 5 t) := Any.strconv_ParseInt_10_at32_ok Tryz.laysC174 s hmax v h w
open Go.RowKit in
/-- strconv.ParseInt(s, 10, 32), AT EVERY NUMERAL THAT NO int32 HOLDS: THE GREATEST OR THE LEAST int32, BY THE SIGN ('Lib.intSat 32'), AND AN ERROR THAT IS NOT nil: a *NumError in a new block N: {Func: "ParseInt", Num: s's bytes, Err: what the variable ErrRange holds}. Of what was there nothing has turned. (LAID: no walk: one application.) -/
theorem Tryz.strconv_ParseInt_10_at32_range (s : ByteArray) (hlim : s.size ≤ 281474976710656) (h : Lib.parseIntB 32 s.data.toList = .range) (ev : Value) (w : World) (hv : w.cell? ⟨0, 0, none⟩ = some ev) (hev : ev = .nilIface ∨ ∃ te pe, ev = .iface te pe) :
  Calls Tryz.prog 97 #[.string s, .int .i64 10, .int .i64 32] w fun e w' => ∃ N, e = .returned (.tuple #[.int .i64 (Lib.intSat 32 s.data.toList), .iface 181 (.pointer (some ⟨N, 0, none⟩))]) ∧ w.heap.size ≤ N ∧ w'.heap[N]? = some (.cells #[.string ⟨#[80, 97, 114, 115, 101, 73, 110, 116]⟩, .string s, ev] 205 (0, 0)) ∧ Below w.heap.size w w' := Any.strconv_ParseInt_10_at32_range Tryz.laysC174 s hlim h ev w hv hev
def Tryz.lays145_ren : Go.Shelf.Ren := ⟨fun | 145 => 68 | 220 => 94 | 219 => 116 | 217 => 90 | 225 => 131 | 224 => 132 | 267 => 133 | 266 => 112 | 314 => 151 | n => n, fun | 9 => 9 | 4 => 4 | 59 => 115 | 3 => 3 | 5 => 5 | 46 => 96 | 146 => 197 | 51 => 196 | n => n, fun | 1 => 1 | n => n⟩
theorem Tryz.lays145 : Go.Proofs.Lays.n145 Tryz.prog Tryz.lays145_ren := {
 mixed := by kernel_rfl
 f145 := Tryz.func68.trans (congrArg some (by kernel_rfl))
 f217 := Tryz.func90.trans (congrArg some (by kernel_rfl))
 f219 := Tryz.func116.trans (congrArg some (by kernel_rfl))
 f220 := Tryz.func94.trans (congrArg some (by kernel_rfl))
 f224 := Tryz.func132.trans (congrArg some (by kernel_rfl))
 f225 := Tryz.func131.trans (congrArg some (by kernel_rfl))
 f266 := Tryz.func112.trans (congrArg some (by kernel_rfl))
 f267 := Tryz.func133.trans (congrArg some (by kernel_rfl))
 f314 := Tryz.func151.trans (congrArg some (by kernel_rfl))
 t3 := Tryz.underlying3
 a3 := Tryz.isAgg3
 z3 := Tryz.sizeOf3
 v3 := Tryz.zeroValue3
 t4 := Tryz.underlying4
 a4 := Tryz.isAgg4
 z4 := Tryz.sizeOf4
 v4 := Tryz.zeroValue4
 t5 := Tryz.underlying5
 a5 := Tryz.isAgg5
 z5 := Tryz.sizeOf5
 v5 := Tryz.zeroValue5
 t9 := Tryz.underlying9
 a9 := Tryz.isAgg9
 z9 := Tryz.sizeOf9
 v9 := Tryz.zeroValue9
 t46 := Tryz.underlying96
 a46 := Tryz.isAgg96
 z46 := Tryz.sizeOf96
 v46 := Tryz.zeroValue96
 t51 := Tryz.underlying196
 a51 := Tryz.isAgg196
 z51 := Tryz.sizeOf196
 v51 := Tryz.zeroValue196
 t59 := Tryz.underlying115
 a59 := Tryz.isAgg115
 z59 := Tryz.sizeOf115
 v59 := Tryz.zeroValue115
 t146 := Tryz.underlying197
 a146 := Tryz.isAgg197
 z146 := Tryz.sizeOf197
 v146 := Tryz.zeroValue197
 g1 := by kernel_rfl }
open Go.RowKit Go.Lib in
/-- strings.Cut: "Cut slices s around the first instance of sep, returning the text before and after sep. The found result reports whether sep appears in s. If sep does not appear in s, cut returns s, "", false.": IT RETURNS 'Lib.cut s sep'; the world is as it was but for the count of draws. (LAID: no walk: one application.) -/
theorem Tryz.strings_Cut (s sep : ByteArray) (m : Int) (w : World) (hs : s.size < 4294967281) (hm : w.cell? ⟨1, 0, none⟩ = some (.int .i64 m)) :
  Calls Tryz.prog 68 #[.string s, .string sep] w fun e w' => e = .returned (.tuple #[.string ⟨(Lib.cut s.data.toList sep.data.toList).1.toArray⟩, .string ⟨(Lib.cut s.data.toList sep.data.toList).2.1.toArray⟩, .bool (Lib.cut s.data.toList sep.data.toList).2.2]) ∧ ∃ n, w' = w.drewN n := Any.strings_Cut Tryz.lays145 s sep m w hs hm
end Go.Proofs
end
section
namespace Go.Proofs.YtjplnhdplpiogaaGreatDoor.M
open Go.RowKit Go.Proofs.YtjplnhdplpiogaaGreatDoorW.PrintWords
def strings_IndexByte.f (a0 : ByteArray) (a1 : Int) : Option Int := some (Lib.indexByte a0.data.toList a1.toNat.toUInt8)
theorem strings_IndexByte.calls (a0 : ByteArray) (a1 : Int) (r : Int) (w : World) (h : strings_IndexByte.f a0 a1 = some r) :
  Calls Tryz.prog 60 #[.string a0, .int .u8 a1] w fun e w' => e = .returned (.int .i64 r) ∧ Drawn0 w w' := by
 obtain rfl := Option.some.inj h
 refine (Tryz.strings_IndexByte a0 a1 w).mono ?_
 rintro e w' ⟨rfl, rfl⟩
 exact ⟨rfl, Drawn0.refl _⟩
end Go.Proofs.YtjplnhdplpiogaaGreatDoor.M
end
section
namespace Go.Proofs
open Go.Shelf
def Tryz.lays107_ren : Go.Shelf.Ren := ⟨fun | 107 => 114 | 108 => 130 | n => n, fun | 28 => 47 | 3 => 3 | 4 => 4 | 0 => 0 | n => n, fun | n => n⟩
theorem Tryz.lays107 : Go.Proofs.Lays.n107 Tryz.prog Tryz.lays107_ren := {
 mixed := by kernel_rfl
 f107 := Tryz.func114.trans (congrArg some (by kernel_rfl))
 f108 := Tryz.func130.trans (congrArg some (by kernel_rfl))
 t0 := Tryz.underlying0
 a0 := Tryz.isAgg0
 z0 := Tryz.sizeOf0
 v0 := Tryz.zeroValue0
 t3 := Tryz.underlying3
 a3 := Tryz.isAgg3
 z3 := Tryz.sizeOf3
 v3 := Tryz.zeroValue3
 t4 := Tryz.underlying4
 a4 := Tryz.isAgg4
 z4 := Tryz.sizeOf4
 v4 := Tryz.zeroValue4
 t28 := Tryz.underlying47
 a28 := Tryz.isAgg47
 z28 := Tryz.sizeOf47
 v28 := Tryz.zeroValue47 }
open Go.Lib in
/-- slices.Contains at []int: "Contains reports whether v is present in s.": IT RETURNS 'elements.contains v'; the world is as it was. ITS CALLEE slices.Index IS MET BY ITS OWN CONTRACT OFF THE SHELF (lay that first): no loop is walked here. (LAID: no walk: one application.) -/
theorem Tryz.slices_Contains_int (b off n c : Nat) (zs : List Int) (x : Int) (w : World) (hz : n ≤ zs.length) (hbig : n ≤ 9223372036854775807) (hc : ∀ j, j < zs.length → w.cell? ⟨b, off + j, none⟩ = some (.int .i64 (zs.getD j 0))) :
  Calls Tryz.prog 114 #[.slice (some ⟨b, off, none⟩) n c, .int .i64 x] w fun e w' => e = .returned (.bool ((zs.take n).contains x)) ∧ w' = w := Any.slices_Contains_int Tryz.lays107 b off n c zs x w hz hbig hc
end Go.Proofs
end
section
namespace Go.Proofs.YtjplnhdplpiogaaGreatDoor.M
open Go.RowKit Go.Proofs.YtjplnhdplpiogaaGreatDoorW.PrintWords
set_option linter.unusedVariables false
/-- The blanks. -/
def isWhite (c : Int) : Bool := c == 0 || c == 9 || c == 10 || c == 12 || c == 13 || c == 32
def hex_White.f (a0 : Int) : Option Bool := some (isWhite a0)
set_option maxRecDepth 100000 in
theorem hex_blanks.calls (w : World) :
  Calls Tryz.prog 113 #[] w fun e w' => e = .returned (.agg #[.int .i64 0, .int .i64 9, .int .i64 10, .int .i64 12, .int .i64 13, .int .i64 32]) ∧ Below w.heap.size w w' := by
 go_enter Tryz.func113, Tryz.ntmps113
 go_wp2
 exact bodyPost_ret (v := .agg #[.int .i64 0, .int .i64 9, .int .i64 10, .int .i64 12, .int .i64 13, .int .i64 32]) (by simp [results, Tryz.results113, go_sem]) rfl ⟨rfl, (Below.refl _ _).alloc (Nat.le_refl _) _⟩
theorem white_contains (a0 : Int) : (([0, 9, 10, 12, 13, 32] : List Int).take 6).contains a0 = isWhite a0 := by
 unfold isWhite
 simp only [List.take, List.contains_cons, List.contains_nil, Bool.or_false, Bool.or_assoc]
set_option maxHeartbeats 1000000 in
set_option maxRecDepth 100000 in
theorem hex_White.calls (a0 : Int) (r : Bool) (w : World) (h : hex_White.f a0 = some r) :
  Calls Tryz.prog 91 #[.int .i64 a0] w fun e w' => e = .returned (.bool r) ∧ Below w.heap.size w w' := by
 obtain rfl := Option.some.inj h
 clear h
 go_enter Tryz.func91, Tryz.ntmps91
 go_wp2_with (first
  | (go_at_call 113; refine (hex_blanks.calls _).mono ?_; rintro e w1 ⟨rfl, hb⟩)
  | (go_at_call 114; refine (Tryz.slices_Contains_int _ 0 6 6 [0, 9, 10, 12, 13, 32] a0 _ (by decide) (by decide) ?_).mono ?_))
 ·intro j hj
  match j, hj with
  | 0, _ | 1, _ | 2, _ | 3, _ | 4, _ | 5, _ => simp
 rintro e w2 ⟨rfl, rfl⟩
 rw [white_contains]
 go_wp2
 go_ret
 exact ⟨rfl, below_alloc hb _⟩
end Go.Proofs.YtjplnhdplpiogaaGreatDoor.M
end
section
/- Laid by this session's program hbprint.py out of the translation: the function hornbook/lex.Class and its contract. -/
namespace Go.Proofs.YtjplnhdplpiogaaGreatDoor.M
open Go.RowKit Go.Proofs.YtjplnhdplpiogaaGreatDoorW.PrintWords Go.Proofs.YtjplnhdplpiogaaGreatDoorW.PrintLast Go.Proofs.YtjplnhdplpiogaaGreatDoorW.PrintMore
attribute [local go_sem] max2_int min2_int max_two min_two max_three min_three max_four min_four
set_option linter.unusedVariables false
set_option linter.unusedSimpArgs false
mutual
def lex_Class.j0 : Nat → Int → Int → Int → Bool → Option (Int)
 | 0, _, _, _, _ => none
 | k + 1, x0, x3, x4, x5 => if x5 = true then (some 2) else (if x4 = 123 then (lex_Class.j1 k x0 x3 (x4 == 123)) else (if x4 = 125 then (lex_Class.j1 k x0 x3 (x4 == 125)) else (if x4 = 47 then (lex_Class.j1 k x0 x3 (x4 == 47)) else (lex_Class.j1 k x0 x3 (x4 == 37)))))
def lex_Class.j1 : Nat → Int → Int → Bool → Option (Int)
 | 0, _, _, _ => none
 | k + 1, x0, x3, x12 => if x12 = true then (some 2) else ((hex_White.f x0).bind fun t108 => (if t108 = true then (some 1) else (some x3)))
end
def lex_Class.f (k : Nat) (a0 : Int) : Option (Int) := if a0 = 40 then (lex_Class.j0 k a0 0 a0 (a0 == 40)) else (if a0 = 41 then (lex_Class.j0 k a0 0 a0 (a0 == 41)) else (if a0 = 60 then (lex_Class.j0 k a0 0 a0 (a0 == 60)) else (if a0 = 62 then (lex_Class.j0 k a0 0 a0 (a0 == 62)) else (if a0 = 91 then (lex_Class.j0 k a0 0 a0 (a0 == 91)) else (lex_Class.j0 k a0 0 a0 (a0 == 93))))))
theorem lex_Class.mono_l : ∀ k, (∀ y0 y1 y2 y3, LeO (lex_Class.j0 k y0 y1 y2 y3) (lex_Class.j0 (k + 1) y0 y1 y2 y3)) ∧ (∀ y0 y1 y2, LeO (lex_Class.j1 k y0 y1 y2) (lex_Class.j1 (k + 1) y0 y1 y2))
 | 0 => ⟨fun _ _ _ _ r h => by simp [lex_Class.j0] at h, fun _ _ _ r h => by simp [lex_Class.j1] at h⟩
 | k + 1 => by
  obtain ⟨ih0, ih1⟩ := lex_Class.mono_l k
  refine ⟨?_, ?_⟩
  ·intro y0 y1 y2 y3
   unfold lex_Class.j0
   repeat' first
   | (with_reducible exact ih0 _ _ _ _)
   | (with_reducible exact ih1 _ _ _)
   | (with_reducible exact LeO.refl _)
   | (with_reducible exact LeO.none _)
   | (with_reducible refine LeO.ite ?_ ?_)
   | (with_reducible refine LeO.bind ?_ (fun _ => ?_))
   | exact ih0 _ _ _ _
   | exact ih1 _ _ _
   | exact LeO.none _
   | refine LeO.ite ?_ ?_
   | refine LeO.bind ?_ (fun _ => ?_)
  ·intro y0 y1 y2
   unfold lex_Class.j1
   repeat' first
   | (with_reducible exact ih0 _ _ _ _)
   | (with_reducible exact ih1 _ _ _)
   | (with_reducible exact LeO.refl _)
   | (with_reducible exact LeO.none _)
   | (with_reducible refine LeO.ite ?_ ?_)
   | (with_reducible refine LeO.bind ?_ (fun _ => ?_))
   | exact ih0 _ _ _ _
   | exact ih1 _ _ _
   | exact LeO.none _
   | refine LeO.ite ?_ ?_
   | refine LeO.bind ?_ (fun _ => ?_)
theorem lex_Class.mono : ∀ a0 k, LeO (lex_Class.f k a0) (lex_Class.f (k + 1) a0) := by
 intro a0 k
 obtain ⟨ih0, ih1⟩ := lex_Class.mono_l k
 unfold lex_Class.f
 repeat' first
   | (with_reducible exact ih0 _ _ _ _)
   | (with_reducible exact ih1 _ _ _)
   | (with_reducible exact LeO.refl _)
   | (with_reducible exact LeO.none _)
   | (with_reducible refine LeO.ite ?_ ?_)
   | (with_reducible refine LeO.bind ?_ (fun _ => ?_))
   | exact ih0 _ _ _ _
   | exact ih1 _ _ _
   | exact LeO.none _
   | refine LeO.ite ?_ ?_
   | refine LeO.bind ?_ (fun _ => ?_)
set_option maxHeartbeats 8000000 in
set_option maxRecDepth 100000 in
theorem lex_Class.calls (k : Nat) (a0 : Int) (r : Int) (w : World) (h : lex_Class.f k a0 = some r) :
  Calls Tryz.prog 61 #[.int .i64 a0] w fun e w' => e = .returned (.int .i64 r) ∧ Below w.heap.size w w' := by
 have HB := aM (Below.refl w.heap.size w)
 have H : (if a0 = 40 then (lex_Class.j0 k a0 0 a0 (a0 == 40)) else (if a0 = 41 then (lex_Class.j0 k a0 0 a0 (a0 == 41)) else (if a0 = 60 then (lex_Class.j0 k a0 0 a0 (a0 == 60)) else (if a0 = 62 then (lex_Class.j0 k a0 0 a0 (a0 == 62)) else (if a0 = 91 then (lex_Class.j0 k a0 0 a0 (a0 == 91)) else (lex_Class.j0 k a0 0 a0 (a0 == 93))))))) = some r := h
 clear h
 have HC2 := aM H
 clear H
 go_enter Tryz.func61, Tryz.ntmps61
 go_upto_if 5 with (fail)
 go_cut [5] (fun v5 wc => ∃ (kq : Nat) (x5_1 : Bool), v5 = .bool x5_1 ∧ Aside0 (lex_Class.j0 kq a0 0 a0 x5_1 = some r) ∧ Aside0 (kq ≤ k) ∧ Aside0 (Below w.heap.size w wc))
 case first =>
  have H := HC2.out
  clear HC2
  refine iEc H ?_ ?_<;>clear H<;>intro H c3b0 c3b1 c3
  ·clear c3
   (first | rw [c3b0] | (simp only [i64_w, i32_w]; rw [c3b0]) | skip)
   have H' := aM H
   clear H
   go_wp2
   go_meet
   case rel => exact ⟨_, ((a0 == 40)), vQ, H', ⟨by first | omega | exact Nat.le_refl _⟩, ⟨bQ⟩⟩
  (first | rw [c3b0] | (simp only [i64_w, i32_w]; rw [c3b0]) | skip)
  refine iEc H ?_ ?_<;>clear H<;>intro H c4b0 c4b1 c4
  ·clear c4
   have H' := aM H
   clear H
   go_wp2
   go_meet
   case rel => exact ⟨_, ((a0 == 41)), vQ, H', ⟨by first | omega | exact Nat.le_refl _⟩, ⟨bQ⟩⟩
  refine iEc H ?_ ?_<;>clear H<;>intro H c5b0 c5b1 c5
  ·clear c5
   have H' := aM H
   clear H
   go_wp2
   go_meet
   case rel => exact ⟨_, ((a0 == 60)), vQ, H', ⟨by first | omega | exact Nat.le_refl _⟩, ⟨bQ⟩⟩
  refine iEc H ?_ ?_<;>clear H<;>intro H c6b0 c6b1 c6
  ·clear c6
   have H' := aM H
   clear H
   go_wp2
   go_meet
   case rel => exact ⟨_, ((a0 == 62)), vQ, H', ⟨by first | omega | exact Nat.le_refl _⟩, ⟨bQ⟩⟩
  refine iEc H ?_ ?_<;>clear H<;>intro H c7b0 c7b1 c7
  rotate_left
  ·have H' := aM H
   clear H
   go_wp2
   go_meet
   case rel => exact ⟨_, ((a0 == 93)), vQ, H', ⟨by first | omega | exact Nat.le_refl _⟩, ⟨bQ⟩⟩
  clear c7
  have H' := aM H
  clear H
  go_wp2
  go_meet
  case rel => exact ⟨_, ((a0 == 91)), vQ, H', ⟨by first | omega | exact Nat.le_refl _⟩, ⟨bQ⟩⟩
 case rest =>
  clear HC2
  try clear p2
  try clear c3
  try clear c3b0
  try clear c3b1
  try clear c4
  try clear c4b0
  try clear c4b1
  try clear c5
  try clear c5b0
  try clear c5b1
  try clear c6
  try clear c6b0
  try clear c6b1
  try clear c7
  try clear c7b0
  try clear c7b1
  obtain ⟨kq, x5_1, rfl, HA, HJ1, HB⟩ := hcut
  cases kq with
  | zero => exact absurd HA.out (by simp [lex_Class.j0])
  | succ kj1 =>
   have H := HA.out
   clear HA
   simp only [lex_Class.j0] at H
   by_cases c8 : x5_1 = true
   ·subst c8
    rw [if_pos rfl] at H
    obtain rfl := Option.some.inj H
    go_wp2
    go_ret
    exact ⟨eQ, bQ⟩
   replace c8 := Bool.eq_false_iff.mpr c8
   subst c8
   rw [if_neg (show ¬ (false = true) by decide)] at H
   have HC9 := aM H
   clear H
   go_upto_if 12 with (fail)
   go_cut [12] (fun v12 wc => ∃ (kq : Nat) (x12_8 : Bool), v12 = .bool x12_8 ∧ Aside0 (lex_Class.j1 kq a0 0 x12_8 = some r) ∧ Aside0 (kq ≤ kj1) ∧ Aside0 (Below w.heap.size w wc))
   case first =>
    have H := HC9.out
    clear HC9
    refine iEc H ?_ ?_<;>clear H<;>intro H c10b0 c10b1 c10
    ·clear c10
     (first | rw [c10b0] | (simp only [i64_w, i32_w]; rw [c10b0]) | skip)
     have H' := aM H
     clear H
     go_wp2
     go_meet
     case rel => exact ⟨_, ((a0 == 123)), vQ, H', ⟨by have := HJ1.out; first | omega | exact Nat.le_refl _⟩, ⟨bQ⟩⟩
    (first | rw [c10b0] | (simp only [i64_w, i32_w]; rw [c10b0]) | skip)
    refine iEc H ?_ ?_<;>clear H<;>intro H c11b0 c11b1 c11
    ·clear c11
     have H' := aM H
     clear H
     go_wp2
     go_meet
     case rel => exact ⟨_, ((a0 == 125)), vQ, H', ⟨by have := HJ1.out; first | omega | exact Nat.le_refl _⟩, ⟨bQ⟩⟩
    refine iEc H ?_ ?_<;>clear H<;>intro H c12b0 c12b1 c12
    rotate_left
    ·have H' := aM H
     clear H
     go_wp2
     go_meet
     case rel => exact ⟨_, ((a0 == 37)), vQ, H', ⟨by have := HJ1.out; first | omega | exact Nat.le_refl _⟩, ⟨bQ⟩⟩
    clear c12
    have H' := aM H
    clear H
    go_wp2
    go_meet
    case rel => exact ⟨_, ((a0 == 47)), vQ, H', ⟨by have := HJ1.out; first | omega | exact Nat.le_refl _⟩, ⟨bQ⟩⟩
   case rest =>
    clear HC9
    try clear c1
    try clear p2
    try clear c3
    try clear c3b0
    try clear c3b1
    try clear c4
    try clear c4b0
    try clear c4b1
    try clear c5
    try clear c5b0
    try clear c5b1
    try clear c6
    try clear c6b0
    try clear c6b1
    try clear c7
    try clear c7b0
    try clear c7b1
    try clear c8
    try clear c10
    try clear c10b0
    try clear c10b1
    try clear c11
    try clear c11b0
    try clear c11b1
    try clear c12
    try clear c12b0
    try clear c12b1
    try clear p2
    obtain ⟨kq, x12_8, rfl, HA, HJ8, HB⟩ := hcut
    cases kq with
    | zero => exact absurd HA.out (by simp [lex_Class.j1])
    | succ kj8 =>
     have H := HA.out
     clear HA
     simp only [lex_Class.j1] at H
     by_cases c13 : x12_8 = true
     ·subst c13
      rw [if_pos rfl] at H
      obtain rfl := Option.some.inj H
      go_wp2
      go_ret
      exact ⟨eQ, bQ⟩
     replace c13 := Bool.eq_false_iff.mpr c13
     subst c13
     rw [if_neg (show ¬ (false = true) by decide)] at H
     replace H := bS H
     obtain ⟨t108, A14, H⟩ := H
     try dsimp only at H
     by_cases c15 : t108 = true
     ·subst c15
      rw [if_pos rfl] at H
      obtain rfl := Option.some.inj H
      go_wp2_with (first | ((with_reducible refine gC 91 ?_); refine gL (some 18) Tryz.func91 #[.int .i64 a0] ?_; (with_reducible refine cB (hex_White.calls a0 true _ A14.out) ?_); intro w16 hb; replace HB := sB hb; clear hb))
      go_ret
      exact ⟨eQ, bQ⟩
     replace c15 := Bool.eq_false_iff.mpr c15
     subst c15
     rw [if_neg (show ¬ (false = true) by decide)] at H
     obtain rfl := Option.some.inj H
     go_wp2_with (first | ((with_reducible refine gC 91 ?_); refine gL (some 18) Tryz.func91 #[.int .i64 a0] ?_; (with_reducible refine cB (hex_White.calls a0 false _ A14.out) ?_); intro w17 hb; replace HB := sB hb; clear hb))
     go_ret
     exact ⟨eQ, bQ⟩
end Go.Proofs.YtjplnhdplpiogaaGreatDoor.M
end
section
/- Laid by this session's program hbprint.py out of the translation: the function hornbook/lex.Skip and its contract. -/
namespace Go.Proofs.YtjplnhdplpiogaaGreatDoor.M
open Go.RowKit Go.Proofs.YtjplnhdplpiogaaGreatDoorW.PrintWords Go.Proofs.YtjplnhdplpiogaaGreatDoorW.PrintLast Go.Proofs.YtjplnhdplpiogaaGreatDoorW.PrintMore
attribute [local go_sem] max2_int min2_int max_two min_two max_three min_three max_four min_four
set_option linter.unusedVariables false
set_option linter.unusedSimpArgs false
mutual
def lex_Skip.l0 : Nat → ByteArray → Int → Option (Int)
 | 0, _, _ => none
 | k + 1, x0, x5 => if x5 < (x0.size : Int) then (if 0 ≤ x5 then (if (bt x0 x5) = 37 then (if x5 ≤ (x0.size : Int) then ((strings_IndexByte.f (x0.extract (x5 : Int).toNat x0.size) 10).bind fun t110 => ((strings_IndexByte.f (x0.extract (x5 : Int).toNat x0.size) 13).bind fun t111 => (if t111 ≥ 0 then (if t110 < 0 then (lex_Skip.j1 k x0 x5 t110 t111 true) else (lex_Skip.j1 k x0 x5 t110 t111 (decide (t111 < t110)))) else (lex_Skip.j1 k x0 x5 t110 t111 false)))) else (none)) else ((lex_Class.f k (wrap64 (bt x0 x5))).bind fun t112 => (if t112 = 1 then (lex_Skip.l0 k x0 (wrap64 (x5 + 1))) else (some x5)))) else (none)) else (some x5)
def lex_Skip.j1 : Nat → ByteArray → Int → Int → Int → Bool → Option (Int)
 | 0, _, _, _, _, _ => none
 | k + 1, x0, x5, x6, x7, x38 => if x38 = true then (if x7 < 0 then (some (x0.size : Int)) else (lex_Skip.l0 k x0 (wrap64 ((wrap64 (x5 + x7)) + 1)))) else (if x6 < 0 then (some (x0.size : Int)) else (lex_Skip.l0 k x0 (wrap64 ((wrap64 (x5 + x6)) + 1))))
end
def lex_Skip.f (k : Nat) (a0 : ByteArray) (a1 : Int) : Option (Int) := (lex_place.f a0 a1).bind fun t109 => (lex_Skip.l0 k a0 t109)
theorem lex_Skip.mono_l : ∀ k, (∀ y0 y1, LeO (lex_Skip.l0 k y0 y1) (lex_Skip.l0 (k + 1) y0 y1)) ∧ (∀ y0 y1 y2 y3 y4, LeO (lex_Skip.j1 k y0 y1 y2 y3 y4) (lex_Skip.j1 (k + 1) y0 y1 y2 y3 y4))
 | 0 => ⟨fun _ _ r h => by simp [lex_Skip.l0] at h, fun _ _ _ _ _ r h => by simp [lex_Skip.j1] at h⟩
 | k + 1 => by
  obtain ⟨ih0, ih1⟩ := lex_Skip.mono_l k
  refine ⟨?_, ?_⟩
  ·intro y0 y1
   unfold lex_Skip.l0
   repeat' first
   | (with_reducible exact ih0 _ _)
   | (with_reducible exact ih1 _ _ _ _ _)
   | (with_reducible exact lex_Class.mono _ _)
   | (with_reducible exact LeO.refl _)
   | (with_reducible exact LeO.none _)
   | (with_reducible refine LeO.ite ?_ ?_)
   | (with_reducible refine LeO.bind ?_ (fun _ => ?_))
   | exact ih0 _ _
   | exact ih1 _ _ _ _ _
   | exact lex_Class.mono _ _
   | exact LeO.none _
   | refine LeO.ite ?_ ?_
   | refine LeO.bind ?_ (fun _ => ?_)
  ·intro y0 y1 y2 y3 y4
   unfold lex_Skip.j1
   repeat' first
   | (with_reducible exact ih0 _ _)
   | (with_reducible exact ih1 _ _ _ _ _)
   | (with_reducible exact lex_Class.mono _ _)
   | (with_reducible exact LeO.refl _)
   | (with_reducible exact LeO.none _)
   | (with_reducible refine LeO.ite ?_ ?_)
   | (with_reducible refine LeO.bind ?_ (fun _ => ?_))
   | exact ih0 _ _
   | exact ih1 _ _ _ _ _
   | exact lex_Class.mono _ _
   | exact LeO.none _
   | refine LeO.ite ?_ ?_
   | refine LeO.bind ?_ (fun _ => ?_)
theorem lex_Skip.mono : ∀ a0 a1 k, LeO (lex_Skip.f k a0 a1) (lex_Skip.f (k + 1) a0 a1) := by
 intro a0 a1 k
 obtain ⟨ih0, ih1⟩ := lex_Skip.mono_l k
 unfold lex_Skip.f
 repeat' first
   | (with_reducible exact ih0 _ _)
   | (with_reducible exact ih1 _ _ _ _ _)
   | (with_reducible exact lex_Class.mono _ _)
   | (with_reducible exact LeO.refl _)
   | (with_reducible exact LeO.none _)
   | (with_reducible refine LeO.ite ?_ ?_)
   | (with_reducible refine LeO.bind ?_ (fun _ => ?_))
   | exact ih0 _ _
   | exact ih1 _ _ _ _ _
   | exact lex_Class.mono _ _
   | exact LeO.none _
   | refine LeO.ite ?_ ?_
   | refine LeO.bind ?_ (fun _ => ?_)
set_option maxHeartbeats 8000000 in
set_option maxRecDepth 100000 in
theorem lex_Skip.calls (k : Nat) (a0 : ByteArray) (a1 : Int) (r : Int) (w : World) (h : lex_Skip.f k a0 a1 = some r) :
  Calls Tryz.prog 39 #[.string a0, .int .i64 a1] w fun e w' => e = .returned (.int .i64 r) ∧ Below w.heap.size w w' := by
 have HB := aM (Below.refl w.heap.size w)
 have H : ((lex_place.f a0 a1).bind fun t109 => (lex_Skip.l0 k a0 t109)) = some r := h
 clear h
 replace H := bS H
 obtain ⟨t109, A3, H⟩ := H
 try dsimp only at H
 have H' := aM H
 clear H
 go_enter Tryz.func39, Tryz.ntmps39
 go_wp2_with (first | ((with_reducible refine gC 59 ?_); refine gL (some 10) Tryz.func59 #[.string a0, .int .i64 a1] ?_; (with_reducible refine cB (lex_place.calls a0 a1 t109 _ A3.out) ?_); intro w4 hb; replace HB := sB hb; clear hb))
 go_loopg [5] k (fun kq v5 w' => ∃ (x5_1 : Int), v5 = .int .i64 x5_1 ∧ Aside0 (lex_Skip.l0 kq a0 x5_1 = some r) ∧ Aside0 (kq ≤ k) ∧ Aside0 (Below w.heap.size w w'))
 case atStart => exact ⟨(t109), vQ, H', ⟨Nat.le_refl _⟩, ⟨bQ⟩⟩
 case round =>
  clear H'
  try clear p2
  try clear c3
  obtain ⟨x5_1, rfl, HA, HK1, HB⟩ := hrel
  cases gk with
  | zero => exact absurd HA.out (by simp [lex_Skip.l0])
  | succ k1 =>
   have H := HA.out
   clear HA
   simp only [lex_Skip.l0] at H
   refine iD H ?_ ?_<;>clear H<;>intro H c5b0
   rotate_left
   ·obtain rfl := Option.some.inj H
    go_wp2
    go_ret
    exact ⟨eQ, bQ⟩
   refine iD H ?_ ?_<;>clear H<;>intro H c6b0
   rotate_left
   ·exact absurd H (by simp)
   refine iEc H ?_ ?_<;>clear H<;>intro H c8b0 c8b1 c8
   rotate_left
   ·replace H := bS H
    obtain ⟨t112, A22, H⟩ := H
    try dsimp only at H
    refine iEc H ?_ ?_<;>clear H<;>intro H c23b0 c23b1 c23
    rotate_left
    ·obtain rfl := Option.some.inj H
     have p7 : 0 ≤ (x5_1 : Int) := of_decide_eq_true hQ
     have q7 : x5_1 < (a0.size : Int) := of_decide_eq_true hQ
     have hx7 := bt_at a0 x5_1
     replace p7 := eq_true p7
     replace q7 := eq_true q7
     have p21 : 0 ≤ (x5_1 : Int) := of_decide_eq_true hQ
     have q21 : x5_1 < (a0.size : Int) := of_decide_eq_true hQ
     have hx21 := bt_at a0 x5_1
     replace p21 := eq_true p21
     replace q21 := eq_true q21
     go_wp2_with (first | ((with_reducible refine gC 61 ?_); refine gL (some 52) Tryz.func61 #[.int .i64 (wrap64 (bt a0 x5_1))] ?_; (with_reducible refine cB (lex_Class.calls k1 (wrap64 (bt a0 x5_1)) t112 _ A22.out) ?_); intro w25 hb; replace HB := sB hb; clear hb))
     go_ret
     exact ⟨eQ, bQ⟩
    clear c23
    have H' := aM H
    clear H
    have p7 : 0 ≤ (x5_1 : Int) := of_decide_eq_true hQ
    have q7 : x5_1 < (a0.size : Int) := of_decide_eq_true hQ
    have hx7 := bt_at a0 x5_1
    replace p7 := eq_true p7
    replace q7 := eq_true q7
    have p21 : 0 ≤ (x5_1 : Int) := of_decide_eq_true hQ
    have q21 : x5_1 < (a0.size : Int) := of_decide_eq_true hQ
    have hx21 := bt_at a0 x5_1
    replace p21 := eq_true p21
    replace q21 := eq_true q21
    go_wp2_with (first | ((with_reducible refine gC 61 ?_); refine gL (some 52) Tryz.func61 #[.int .i64 (wrap64 (bt a0 x5_1))] ?_; (with_reducible refine cB (lex_Class.calls k1 (wrap64 (bt a0 x5_1)) t112 _ A22.out) ?_); intro w24 hb; replace HB := sB hb; clear hb))
    go_roundg k1
    case measure => have := HK1.out; omega
    case rel => exact ⟨(wrap64 (x5_1 + 1)), vQ, H', ⟨by have := HK1.out; omega⟩, ⟨bQ⟩⟩
   clear c8
   have c9b0 := eq_true (of_decide_eq_true hQ : 0 ≤ x5_1)
   refine iNc H ?_ ?_<;>clear H<;>intro H c10
   rotate_left
   ·exact absurd H (by simp)
   have c10b0 := eq_true c10
   have c10b1 : decide (x5_1 ≤ (a0.size : Int)) = true := decide_eq_true c10
   clear c10
   replace H := bS H
   obtain ⟨t110, A11, H⟩ := H
   try dsimp only at H
   have c12b0 := eq_true (of_decide_eq_true hQ : 0 ≤ x5_1)
   have c13b0 := eq_true (of_decide_eq_true hQ : x5_1 ≤ (a0.size : Int))
   replace H := bS H
   obtain ⟨t111, A14, H⟩ := H
   try dsimp only at H
   have HC15 := aM H
   clear H
   have p7 : 0 ≤ (x5_1 : Int) := of_decide_eq_true hQ
   have q7 : x5_1 < (a0.size : Int) := of_decide_eq_true hQ
   have hx7 := bt_at a0 x5_1
   replace p7 := eq_true p7
   replace q7 := eq_true q7
   go_upto_region 6 with (first | ((with_reducible refine gC 60 ?_); refine gL (some 23) Tryz.func60 #[.string (a0.extract (x5_1 : Int).toNat a0.size), .int .u8 10] ?_; (with_reducible refine (strings_IndexByte.calls (a0.extract (x5_1 : Int).toNat a0.size) 10 t110 _ A11.out).mono ?_); rintro e w' ⟨rfl, ⟨nd, rfl⟩⟩; refine ⟨_, rfl, ?_⟩) | ((with_reducible refine gC 60 ?_); refine gL (some 27) Tryz.func60 #[.string (a0.extract (x5_1 : Int).toNat a0.size), .int .u8 13] ?_; (with_reducible refine (strings_IndexByte.calls (a0.extract (x5_1 : Int).toNat a0.size) 13 t111 _ A14.out).mono ?_); rintro e w' ⟨rfl, ⟨nd, rfl⟩⟩; refine ⟨_, rfl, ?_⟩))
   (try simp only [Act.put, List.setIfInBounds_toArray, List.set_cons_zero, List.set_cons_succ])
   go_cut [38] (fun v38 wc => ∃ (kq : Nat) (x38_14 : Bool), v38 = .bool x38_14 ∧ Aside0 (lex_Skip.j1 kq a0 x5_1 t110 t111 x38_14 = some r) ∧ Aside0 (kq ≤ k1) ∧ Aside0 (Below w.heap.size w wc))
   case first =>
    have H := HC15.out
    clear HC15
    refine iNc H ?_ ?_<;>clear H<;>intro H c16
    rotate_left
    ·have c16b0 : decide (0 ≤ t111) = false := decide_eq_false c16
     clear c16
     (first | rw [c16b0] | (simp only [i64_w, i32_w]; rw [c16b0]) | skip)
     have H' := aM H
     clear H
     go_wp2
     go_meet
     case rel => exact ⟨_, (false), vQ, H', ⟨by have := HK1.out; first | omega | exact Nat.le_refl _⟩, ⟨bQ⟩⟩
    have c16b0 : decide (0 ≤ t111) = true := decide_eq_true c16
    clear c16
    (first | rw [c16b0] | (simp only [i64_w, i32_w]; rw [c16b0]) | skip)
    refine iD H ?_ ?_<;>clear H<;>intro H c17b0
    ·have H' := aM H
     clear H
     go_wp2
     go_meet
     case rel => exact ⟨_, (true), vQ, H', ⟨by have := HK1.out; first | omega | exact Nat.le_refl _⟩, ⟨bQ⟩⟩
    have H' := aM H
    clear H
    go_wp2
    go_meet
    case rel => exact ⟨_, (decide (t111 < t110)), vQ, H', ⟨by have := HK1.out; first | omega | exact Nat.le_refl _⟩, ⟨bQ⟩⟩
   case rest =>
    clear HC15
    try clear c1
    try clear p2
    try clear c3
    try clear c5
    try clear c5b0
    try clear c6
    try clear c6b0
    try clear p7
    try clear q7
    try clear hx7
    try clear c8
    try clear c8b0
    try clear c8b1
    try clear c9
    try clear c9b0
    try clear c10
    try clear c10b0
    try clear c10b1
    try clear c12
    try clear c12b0
    try clear c13
    try clear c13b0
    try clear c16
    try clear c16b0
    try clear c17
    try clear c17b0
    try clear p2
    try clear p7
    try clear q7
    obtain ⟨kq, x38_14, rfl, HA, HJ14, HB⟩ := hcut
    cases kq with
    | zero => exact absurd HA.out (by simp [lex_Skip.j1])
    | succ kj14 =>
     have H := HA.out
     clear HA
     simp only [lex_Skip.j1] at H
     by_cases c18 : x38_14 = true
     ·subst c18
      rw [if_pos rfl] at H
      refine iD H ?_ ?_<;>clear H<;>intro H c19b0
      ·obtain rfl := Option.some.inj H
       go_wp2
       go_ret
       exact ⟨eQ, bQ⟩
      have H' := aM H
      clear H
      go_wp2
      go_roundg kj14
      case measure => have := HK1.out; have := HJ14.out; omega
      case rel => exact ⟨(wrap64 ((wrap64 (x5_1 + t111)) + 1)), vQ, H', ⟨by have := HK1.out; have := HJ14.out; omega⟩, ⟨bQ⟩⟩
     replace c18 := Bool.eq_false_iff.mpr c18
     subst c18
     rw [if_neg (show ¬ (false = true) by decide)] at H
     refine iD H ?_ ?_<;>clear H<;>intro H c20b0
     ·obtain rfl := Option.some.inj H
      go_wp2
      go_ret
      exact ⟨eQ, bQ⟩
     have H' := aM H
     clear H
     go_wp2
     go_roundg kj14
     case measure => have := HK1.out; have := HJ14.out; omega
     case rel => exact ⟨(wrap64 ((wrap64 (x5_1 + t110)) + 1)), vQ, H', ⟨by have := HK1.out; have := HJ14.out; omega⟩, ⟨bQ⟩⟩
end Go.Proofs.YtjplnhdplpiogaaGreatDoor.M
end
section
namespace Go.Proofs.YtjplnhdplpiogaaGreatDoor.M
open Go.RowKit Go.Maps Go.Proofs.YtjplnhdplpiogaaGreatDoorW.PrintWords
set_option linter.unusedVariables false
set_option linter.unusedSimpArgs false
theorem key3 : Keyed Tryz.prog 3 := int_keyed Tryz.underlying3
def signRow (x : Int) (s : List UInt8) : Lit × DataW Unit := (.int .i64 x, .lit (.string s))
def signMap : DataW Unit := .map [signRow 6 [91], signRow 7 [93], signRow 8 [60, 60], signRow 9 [62, 62], signRow 10 [123], signRow 11 [125]]
theorem signMap_eq : ((((((DataW.map ([] : List (Lit × DataW Unit))).put (.int .i64 6) (.lit (.string [91]))).put (.int .i64 7) (.lit (.string [93]))).put (.int .i64 8) (.lit (.string [60, 60]))).put (.int .i64 9) (.lit (.string [62, 62]))).put (.int .i64 10) (.lit (.string [123]))).put (.int .i64 11) (.lit (.string [125])) = signMap := by kernel_rfl
set_option maxHeartbeats 1000000 in
set_option maxRecDepth 100000 in
theorem signs_calls (w : World) : Calls Tryz.prog 62 #[] w fun e w' => ∃ b, e = .returned (.map (some b)) ∧ w.heap.size ≤ b ∧ w'.ownsMap (H := Unit) Tryz.prog 3 (plainElem Tryz.prog 9) b 6 signMap ∧ Below w.heap.size w w' := by
 have hmm := @run_makeMap Tryz.prog
 have o0 := World.ownsMap_made (H := Unit) w Tryz.prog 3 (plainElem Tryz.prog 9)
 obtain ⟨w1, r1, o1, g1⟩ := o0.update key3 Tryz.underlying104 (by decide) (keyOf_int_mk Tryz.underlying3 (a := 6) (q := .i64) (by decide)) (plainElem_string (H := Unit) Tryz.underlying9 (s := ⟨#[91]⟩) (by decide))
 obtain ⟨w2, r2, o2, g2⟩ := o1.update key3 Tryz.underlying104 (by decide) (keyOf_int_mk Tryz.underlying3 (a := 7) (q := .i64) (by decide)) (plainElem_string (H := Unit) Tryz.underlying9 (s := ⟨#[93]⟩) (by decide))
 obtain ⟨w3, r3, o3, g3⟩ := o2.update key3 Tryz.underlying104 (by decide) (keyOf_int_mk Tryz.underlying3 (a := 8) (q := .i64) (by decide)) (plainElem_string (H := Unit) Tryz.underlying9 (s := ⟨#[60, 60]⟩) (by decide))
 obtain ⟨w4, r4, o4, g4⟩ := o3.update key3 Tryz.underlying104 (by decide) (keyOf_int_mk Tryz.underlying3 (a := 9) (q := .i64) (by decide)) (plainElem_string (H := Unit) Tryz.underlying9 (s := ⟨#[62, 62]⟩) (by decide))
 obtain ⟨w5, r5, o5, g5⟩ := o4.update key3 Tryz.underlying104 (by decide) (keyOf_int_mk Tryz.underlying3 (a := 10) (q := .i64) (by decide)) (plainElem_string (H := Unit) Tryz.underlying9 (s := ⟨#[123]⟩) (by decide))
 obtain ⟨w6, r6, o6, g6⟩ := o5.update key3 Tryz.underlying104 (by decide) (keyOf_int_mk Tryz.underlying3 (a := 11) (q := .i64) (by decide)) (plainElem_string (H := Unit) Tryz.underlying9 (s := ⟨#[125]⟩) (by decide))
 have e := signMap_eq
 have HO : Aside0 (w6.ownsMap (H := Unit) Tryz.prog 3 (plainElem Tryz.prog 9) w.heap.size 6 signMap) := ⟨by rw [← e]; exact o6⟩
 have b0 : Below w.heap.size w (w.alloc (.map #[] 0)) := below_alloc (Below.refl _ w) _
 have hb : ∀ {A B : World}, Below w.heap.size w A → A.grownBy B (some w.heap.size) → Below w.heap.size w B := fun h g => h.grown g h.size (fun k e => by cases e; exact Nat.le_refl _)
 have HB : Aside0 (Below w.heap.size w w6) := ⟨hb (hb (hb (hb (hb (hb b0 g1) g2) g3) g4) g5) g6⟩
 clear e o0 o1 o2 o3 o4 o5 o6 g1 g2 g3 g4 g5 g6 b0 hb
 go_enter Tryz.func62, Tryz.ntmps62
 go_wp2
 go_ret
 exact ⟨_, rfl, Nat.le_refl _, HO.out, HB.out⟩
end Go.Proofs.YtjplnhdplpiogaaGreatDoor.M
end
section
namespace Go.Proofs.YtjplnhdplpiogaaGreatDoor.M
open Go.RowKit Go.Proofs.YtjplnhdplpiogaaGreatDoorW.PrintWords Go.Proofs.YtjplnhdplpiogaaGreatDoorW.PrintLast Go.Proofs.YtjplnhdplpiogaaGreatDoorW.PrintMore
attribute [local go_sem] max2_int min2_int max_two min_two max_three min_three max_four min_four
set_option linter.unusedVariables false
set_option linter.unusedSimpArgs false
def tok_source_from.f (a0 : ByteArray) (a1 : Int) : Option (ByteArray) := if 0 ≤ (mn a1 (a0.size : Int)) then (if (mn a1 (a0.size : Int)) ≤ (a0.size : Int) then (some (a0.extract ((mn a1 (a0.size : Int)) : Int).toNat a0.size)) else (none)) else (none)
set_option maxHeartbeats 8000000 in
set_option maxRecDepth 100000 in
theorem tok_source_from.calls (a0 : ByteArray) (a1 : Int) (r : ByteArray) (w : World) (h : tok_source_from.f a0 a1 = some r) :
  Calls Tryz.prog 64 #[.string a0, .int .i64 a1] w fun e w' => e = .returned (.string r) ∧ Below w.heap.size w w' := by
 have HB := aM (Below.refl w.heap.size w)
 have H : (if 0 ≤ (mn a1 (a0.size : Int)) then (if (mn a1 (a0.size : Int)) ≤ (a0.size : Int) then (some (a0.extract ((mn a1 (a0.size : Int)) : Int).toNat a0.size)) else (none)) else (none)) = some r := h
 clear h
 obtain ⟨ji3, hji3⟩ : ∃ j_ : Int, (mn a1 (a0.size : Int)) = j_ := ⟨_, rfl⟩
 replace H : (if 0 ≤ (ji3) then (if (ji3) ≤ (a0.size : Int) then (some (a0.extract ((ji3) : Int).toNat a0.size)) else (none)) else (none)) = some r := by first | (rw [hji3] at H; exact H) | (simp only [hji3] at H ⊢; exact H)
 have hji3_ : (if (a0.size : Int) < a1 then (a0.size : Int) else a1) = ji3 := hji3
 refine iNc H ?_ ?_<;>clear H<;>intro H c4
 rotate_left
 ·exact absurd H (by simp)
 have c4b0 := eq_true c4
 have c4b1 : decide (0 ≤ (ji3)) = true := decide_eq_true c4
 clear c4
 refine iNc H ?_ ?_<;>clear H<;>intro H c5
 rotate_left
 ·exact absurd H (by simp)
 have c5b0 := eq_true c5
 have c5b1 : decide ((ji3) ≤ (a0.size : Int)) = true := decide_eq_true c5
 clear c5
 obtain rfl := Option.some.inj H
 go_enter Tryz.func64, Tryz.ntmps64
 go_wp2
 go_ret
 exact ⟨by first | rfl | (simp [errW_none, errW_some] <;> rfl) | (simp only [← hji3]; first | rfl | (simp [errW_none, errW_some] <;> rfl)) | (simp [*, errW_none, errW_some] <;> rfl), bQ⟩
def strings_HasPrefix.f (a0 : ByteArray) (a1 : ByteArray) : Option (Bool) := (stringslite_HasPrefix.f a0 a1).bind fun t113 => (some t113)
set_option maxHeartbeats 8000000 in
set_option maxRecDepth 100000 in
theorem strings_HasPrefix.calls (a0 : ByteArray) (a1 : ByteArray) (r : Bool) (w : World) (h : strings_HasPrefix.f a0 a1 = some r) :
  Calls Tryz.prog 63 #[.string a0, .string a1] w fun e w' => e = .returned (.bool r) ∧ Drawn0 w w' := by
 have H : ((stringslite_HasPrefix.f a0 a1).bind fun t113 => (some t113)) = some r := h
 clear h
 replace H := bS H
 obtain ⟨t113, A3, H⟩ := H
 try dsimp only at H
 obtain rfl := Option.some.inj H
 go_enter Tryz.func63, Tryz.ntmps63
 go_wp2_with (first | ((with_reducible refine gC 92 ?_); refine gL (some 7) Tryz.func92 #[.string a0, .string a1] ?_; (with_reducible refine (stringslite_HasPrefix.calls a0 a1 t113 _ A3.out).mono ?_); rintro e w' ⟨rfl, ⟨nd, rfl⟩⟩; refine ⟨_, rfl, ?_⟩))
 go_ret
 exact ⟨by first | rfl | (simp; done) | (simp [*]; done), by repeat (first | exact Drawn0.refl _ | apply Drawn0.step)⟩
end Go.Proofs.YtjplnhdplpiogaaGreatDoor.M
end
section
namespace Go.Proofs.YtjplnhdplpiogaaGreatDoor.M
open Go.RowKit Go.Maps Go.Proofs.YtjplnhdplpiogaaGreatDoorW.PrintWords Go.Proofs.YtjplnhdplpiogaaGreatDoorW.PrintLast
set_option linter.unusedVariables false
set_option linter.unusedSimpArgs false
/-- The six signs. -/
def isSign (x : Int) (s : List UInt8) : Prop := (x = 6 ∧ s = [91]) ∨ (x = 7 ∧ s = [93]) ∨ (x = 8 ∧ s = [60, 60]) ∨ (x = 9 ∧ s = [62, 62]) ∨ (x = 10 ∧ s = [123]) ∨ (x = 11 ∧ s = [125])
def signOf (l : List UInt8) : Option (Int × Nat) :=
 if [91].isPrefixOf l then some (6, 1) else if [93].isPrefixOf l then some (7, 1) else if [60, 60].isPrefixOf l then some (8, 2) else
 if [62, 62].isPrefixOf l then some (9, 2) else if [123].isPrefixOf l then some (10, 1) else if [125].isPrefixOf l then some (11, 1) else none
theorem signOf_hit {x : Int} {s l : List UInt8} (h : isSign x s) (hp : s.isPrefixOf l = true) : signOf l = some (x, s.length) := by
 rcases l with _ | ⟨a, _ | ⟨b, r⟩⟩
 ·rcases h with ⟨rfl, rfl⟩ | ⟨rfl, rfl⟩ | ⟨rfl, rfl⟩ | ⟨rfl, rfl⟩ | ⟨rfl, rfl⟩ | ⟨rfl, rfl⟩ <;> simp [List.isPrefixOf] at hp
 ·rcases h with ⟨rfl, rfl⟩ | ⟨rfl, rfl⟩ | ⟨rfl, rfl⟩ | ⟨rfl, rfl⟩ | ⟨rfl, rfl⟩ | ⟨rfl, rfl⟩ <;> simp only [List.isPrefixOf, Bool.and_eq_true, beq_iff_eq, Bool.and_true, Bool.and_false] at hp
  all_goals first | (subst hp; rfl) | (cases hp)
 ·rcases h with ⟨rfl, rfl⟩ | ⟨rfl, rfl⟩ | ⟨rfl, rfl⟩ | ⟨rfl, rfl⟩ | ⟨rfl, rfl⟩ | ⟨rfl, rfl⟩ <;> simp only [List.isPrefixOf, Bool.and_eq_true, beq_iff_eq, Bool.and_true] at hp
  all_goals first | (subst hp; rfl) | (obtain ⟨rfl, rfl⟩ := hp; rfl)
theorem signOf_none {l : List UInt8} (h : ∀ x s, isSign x s → s.isPrefixOf l = false) : signOf l = none := by
 unfold signOf
 rw [h 6 [91] (by simp [isSign]), h 7 [93] (by simp [isSign]), h 8 [60, 60] (by simp [isSign]), h 9 [62, 62] (by simp [isSign]), h 10 [123] (by simp [isSign]), h 11 [125] (by simp [isSign])]
 rfl
def tok_source_sign.f (a0 : ByteArray) (a1 : Int) : Option (Int × Int × Int × ByteArray × Int × Bool) :=
 if 0 ≤ a1 ∧ a1 ≤ a0.size ∧ a0.size ≤ 140737488351232 then
  match signOf (a0.data.toList.drop a1.toNat) with
  | some (x, n) => some (x, a1, 0, ⟨#[]⟩, a1 + n, true)
  | none => some (0, 0, 0, ⟨#[]⟩, a1, false)
 else none
theorem sign_at {x : Int} {c : ByteArray} (hl : Maps.has signMap (.int .i64 x) = true) (hat : ∀ zd, signMap.atKey (.int .i64 x) zd = .lit (.string c.data.toList)) : isSign x c.data.toList := by
 have h0 := hat (.lit (.string []))
 simp [signMap, Maps.has, signRow, Lit.sameKey] at hl
 have hs : ∀ (y : Int) (s : List UInt8), signMap.atKey (.int .i64 y) (.lit (.string [])) = .lit (.string s) → x = y → c.data.toList = s := by
  rintro y s hy rfl
  rw [hy] at h0
  injection h0 with h0
  injection h0 with h0
  exact h0.symm
 rcases hl with e | e | e | e | e | e
 ·exact .inl ⟨e.symm, hs 6 _ rfl e.symm⟩
 ·exact .inr (.inl ⟨e.symm, hs 7 _ rfl e.symm⟩)
 ·exact .inr (.inr (.inl ⟨e.symm, hs 8 _ rfl e.symm⟩))
 ·exact .inr (.inr (.inr (.inl ⟨e.symm, hs 9 _ rfl e.symm⟩)))
 ·exact .inr (.inr (.inr (.inr (.inl ⟨e.symm, hs 10 _ rfl e.symm⟩))))
 ·exact .inr (.inr (.inr (.inr (.inr ⟨e.symm, hs 11 _ rfl e.symm⟩))))
theorem has_sign {x : Int} {s : List UInt8} (h : isSign x s) : Maps.has signMap (.int .i64 x) = true ∧ ∀ zd, signMap.atKey (.int .i64 x) zd = .lit (.string s) := by
 rcases h with ⟨rfl, rfl⟩ | ⟨rfl, rfl⟩ | ⟨rfl, rfl⟩ | ⟨rfl, rfl⟩ | ⟨rfl, rfl⟩ | ⟨rfl, rfl⟩ <;> exact ⟨rfl, fun _ => rfl⟩
theorem tok_one (a b c : Int) (s : ByteArray) : (#[Value.int .i64 a, .int .i64 b, .int .i64 c, .string s] : Array Value).all (·.oneCell') = true := by simp [Value.oneCell']
theorem tok_info {a b c : Int} {s : ByteArray} : (Tryz.prog.info? 40).map (·.size) = some (#[Value.int .i64 a, .int .i64 b, .int .i64 c, .string s] : Array Value).size := by
 show _ = some 4
 kernel_rfl
theorem sign_same {x : Int} {s s' : List UInt8} (h : isSign x s) (h' : isSign x s') : s = s' := by
 have a := (has_sign h).2 (.lit (.string []))
 have b := (has_sign h').2 (.lit (.string []))
 rw [a] at b
 injection b with b
 injection b with b
theorem ranges_below {w w' : World} {b r n cnt : Nat} {left : Lit → Bool} (h : w.ranges (H := Unit) Tryz.prog 3 (plainElem Tryz.prog 9) b r n signMap left cnt) (hb : Below w.heap.size w w') : w'.ranges (H := Unit) Tryz.prog 3 (plainElem Tryz.prog 9) b r n signMap left cnt := by
 obtain ⟨es, clock, since, seen, c0, h1, F, hs, hD, h2, rest⟩ := h
 exact ⟨es, clock, since, seen, c0, (hb.block b (Array.getElem?_eq_some_iff.1 h1).1).trans h1, F, hs, hD, (hb.block r (Array.getElem?_eq_some_iff.1 h2).1).trans h2, rest⟩
theorem hasPrefix_eq (a b : ByteArray) : strings_HasPrefix.f a b = some (b.data.toList.isPrefixOf a.data.toList) := by
 unfold strings_HasPrefix.f stringslite_HasPrefix.f
 by_cases h : (a.size : Int) ≥ (b.size : Int)
 ·rw [if_pos h, if_pos (by omega), if_pos (by omega), Option.bind_some]
  congr 1
  rw [Int.toNat_natCast, ext_mid, ba_toList, toList_data, Nat.sub_zero, List.drop_zero, Bool.eq_iff_iff, beq_iff_eq, List.isPrefixOf_iff_prefix, List.prefix_iff_eq_take]
  exact ⟨fun e => e.symm, fun e => e.symm⟩
 ·rw [if_neg h, Option.bind_some]
  congr 1
  symm
  rw [Bool.eq_false_iff]
  intro hp
  have := (List.isPrefixOf_iff_prefix.1 hp).length_le
  rw [← size_list, ← size_list] at this
  omega
set_option maxHeartbeats 1000000 in
set_option maxRecDepth 1000000 in
theorem tok_source_sign.calls (a0 : ByteArray) (a1 : Int) (r1 : Int) (r2 : Int) (r3 : Int) (r4 : ByteArray) (r5 : Int) (r6 : Bool) (w : World) (h : tok_source_sign.f a0 a1 = some (r1, r2, r3, r4, r5, r6)) :
  Calls Tryz.prog 40 #[.string a0, .int .i64 a1] w fun e w' => e = .returned (.tuple #[.agg #[.int .i64 r1, .int .i64 r2, .int .i64 r3, .string r4], .int .i64 r5, .bool r6]) ∧ Below w.heap.size w w' := by
 unfold tok_source_sign.f at h
 split at h
 case isFalse => cases h
 rename_i hb
 obtain ⟨hb0, hb1, hb2⟩ := hb
 obtain ⟨p, rfl⟩ := Int.eq_ofNat_of_zero_le hb0
 rw [Int.toNat_natCast] at h
 have hp : p ≤ a0.size := by omega
 obtain ⟨rest, hrest⟩ : ∃ rest : ByteArray, rest = ⟨(a0.data.toList.drop p).toArray⟩ := ⟨_, rfl⟩
 have hf : tok_source_from.f a0 (p : Int) = some rest := by
  have hmn : mn (p : Int) (a0.size : Int) = (p : Int) := by unfold mn; rw [if_neg (by omega)]
  unfold tok_source_from.f
  rw [hmn, if_pos (by omega), if_pos (by omega), Int.toNat_natCast, ext_from, hrest]
 have hrd : rest.data.toList = a0.data.toList.drop p := by rw [hrest]
 rw [← hrd] at h
 have HF := Aside0.mk hf
 have HH := Aside0.mk h
 clear hf h hrd hrest hb0
 go_enter Tryz.func40, Tryz.ntmps40
 go_wp2_with fail
 generalize hZ : (#[Value.int IntKind.i64 0, Value.int IntKind.i64 0, Value.int IntKind.i64 0, Value.string ⟨#[]⟩] : Array Value) = Z
 have hzs : Z.size = 4 := by rw [← hZ]; rfl
 have HZ := Aside0.mk hZ
 clear hZ
 refine (signs_calls _).mono ?_
 rintro e W1 ⟨b, rfl, hbb, hown, hb1⟩
 have hs1 : w.heap.size + 1 ≤ W1.heap.size := by have := hb1.size; simpa using this
 have hbb' : w.heap.size + 1 ≤ b := by simpa using hbb
 have HZ1 : Aside0 (W1.heap[w.heap.size]? = some (.cells Z 40 (0, 0))) := ⟨(hb1.block w.heap.size (by simp)).trans (by show (w.heap.push _)[w.heap.size]? = _; rw [Array.getElem?_push_size])⟩
 have HB1 : Aside0 (Below w.heap.size w W1) := ⟨below_step (below_alloc (Below.refl _ w) _) hb1⟩
 have HOWN := Aside0.mk hown
 clear hb1 hown hbb
 go_wp2_with (at_range; refine wpList_range_own _ rfl _ 104 rfl 3 9 key3 Tryz.underlying104 _ b 6 _ rfl HOWN.out ?_)
 intro w0 hrg0 hg0 hs0
 have HRG0 := Aside0.mk hrg0
 have HZ0 : Aside0 (w0.heap[w.heap.size]? = some (.cells Z 40 (0, 0))) := ⟨(hg0.block w.heap.size (by omega) (by simp)).trans HZ1.out⟩
 have HB0 : Aside0 (Below w.heap.size w w0) := ⟨HB1.out.grown hg0 HB1.out.size (fun k e => by cases e)⟩
 clear hrg0 hg0 HZ1 HB1 HOWN
 go_wp2_with fail
 go_loopw [7, 8] (fun _ _ wr => ∃ (left : Lit → Bool) (cnt : Nat), Aside0 (wr.ranges (H := Unit) Tryz.prog 3 (plainElem Tryz.prog 9) b W1.heap.size 6 signMap left cnt) ∧ Aside0 (Below w.heap.size w wr) ∧ Aside0 (wr.heap[w.heap.size]? = some (.cells Z 40 (0, 0))) ∧ w.heap.size + 1 ≤ wr.heap.size ∧ Aside0 (∀ kl, left kl = true → Maps.has signMap kl = true) ∧ Aside0 (∀ x s, isSign x s → left (.int .i64 x) = false → s.isPrefixOf rest.data.toList = false))
  (fun _ _ wr => wr.rangeLeft b W1.heap.size)
 case atStart => exact ⟨_, _, HRG0, HB0, HZ0, by omega, ⟨fun _ h => h⟩, ⟨fun x s hs hl => by rw [(has_sign hs).1] at hl; cases hl⟩⟩
 case round =>
  clear HRG0 HB0 HZ0
  obtain ⟨left, cnt, HRG, HB, HZR, hsr, HLE, HNO⟩ := hrel
  go_wp2_with (at_next; refine wpList_next_ranges_is _ rfl _ rfl 3 9 .i64 key3 Tryz.underlying3 Tryz.underlying9 b W1.heap.size 6 _ _ _ rfl HRG.out ?_ ?_)
  ·intro _ hl0
   have hno : signOf rest.data.toList = none := signOf_none (fun x s hs => HNO.out x s hs (hl0 _))
   have hh := HH.out
   rw [hno] at hh
   simp only [Option.some.injEq, Prod.mk.injEq] at hh
   obtain ⟨rfl, rfl, rfl, rfl, rfl, rfl⟩ := hh
   go_wp2_with (refine wpList_store_row rfl 40 (.tmp 4) (.tmp 28) rfl w.heap.size #[.int .i64 0, .int .i64 0, .int .i64 0, .string ⟨#[]⟩] rfl rfl 40 _ HZR.out tok_info (by rw [hzs]; rfl) (tok_one _ _ _ _) ?_)
   refine bodyPost_ret (v := .tuple #[.agg #[.int .i64 0, .int .i64 0, .int .i64 0, .string ⟨#[]⟩], .int .i64 p, .bool false]) ?_ rfl ⟨rfl, below_setRow HB.out (Nat.le_refl _) _⟩
   exact results_ctt (fn := Tryz.f40) (p := 4) (u := 5) (v := 6) (ty := 40) rfl _ _ w.heap.size 40 _ (0, 0) _ rfl (setRow_heap wr w.heap.size _ _ 40 (0, 0) HZR.out) Tryz.underlying40 rfl tok_info
  ·intro x c w1 cnt1 hwx hwc hlx hat hrg1 hlt hg1 hs1' hen
   have hsg := sign_at (HLE.out _ hlx) hat
   have hR : w.heap.size + 1 ≤ W1.heap.size := hs1
   have HZ1 : Aside0 (w1.heap[w.heap.size]? = some (.cells Z 40 (0, 0))) := ⟨(hg1.block w.heap.size (by omega) (by intro e; injection e with e; omega)).trans HZR.out⟩
   have HB1 : Aside0 (Below w.heap.size w w1) := ⟨HB.out.grown hg1 HB.out.size (fun k e => by cases e; omega)⟩
   have HRG1 := Aside0.mk hrg1
   have HSG := Aside0.mk hsg
   have HLX := Aside0.mk hlx
   have hcs : c.size ≤ 2 := by
    rcases hsg with ⟨-, e⟩ | ⟨-, e⟩ | ⟨-, e⟩ | ⟨-, e⟩ | ⟨-, e⟩ | ⟨-, e⟩ <;> rw [size_list, e] <;> decide
   have hpre := hasPrefix_eq rest c
   have hlt2 : wr.rangeLeft b W1.heap.size = cnt := HRG.out.left_eq
   have HLT2 := Aside0.mk hlt2
   have HLT := Aside0.mk hlt
   clear hrg1 hg1 hsg hlx hat hlt2 hlt HZR HB
   by_cases hq : c.data.toList.isPrefixOf rest.data.toList = true
   ·rw [hq] at hpre
    have HPRE := Aside0.mk hpre
    have hh := HH.out
    rw [signOf_hit HSG.out hq] at hh
    simp only [Option.some.injEq, Prod.mk.injEq] at hh
    obtain ⟨rfl, rfl, rfl, rfl, rfl, rfl⟩ := hh
    clear hpre hq
    go_wp2_with fail
    with_reducible refine (tok_source_from.calls a0 (p : Int) rest _ HF.out).mono ?_
    rintro e W2 ⟨rfl, hb⟩
    have HZ2 : Aside0 (W2.heap[w.heap.size]? = some (.cells Z 40 (0, 0))) := ⟨(hb.block w.heap.size (by omega)).trans HZ1.out⟩
    have HB2 : Aside0 (Below w.heap.size w W2) := ⟨below_step HB1.out hb⟩
    clear hb
    go_wp2_with fail
    with_reducible refine (strings_HasPrefix.calls rest c true _ HPRE.out).mono ?_
    rintro e W3 ⟨rfl, ⟨nd, rfl⟩⟩
    have HZ3 : Aside0 ((W2.drewN nd).heap[w.heap.size]? = some (.cells Z 40 (0, 0))) := HZ2
    have HB3 : Aside0 (Below w.heap.size w (W2.drewN nd)) := ⟨pw_below_drewN HB2.out nd⟩
    generalize W2.drewN nd = W3 at HZ3 HB3 ⊢
    have hcz : (p : Int) + (c.size : Int) < 9223372036854775808 := by omega
    go_wp2_with (refine wpList_store_row rfl 40 (.tmp 4) (.tmp 23) rfl w.heap.size #[.int .i64 x, .int .i64 p, .int .i64 0, .string ⟨#[]⟩] rfl rfl 40 _ HZ3.out tok_info (by rw [hzs]; rfl) (tok_one _ _ _ _) ?_)
    refine bodyPost_ret (v := .tuple #[.agg #[.int .i64 x, .int .i64 p, .int .i64 0, .string ⟨#[]⟩], .int .i64 (p + c.size), .bool true]) ?_ rfl ⟨rfl, below_setRow HB3.out (Nat.le_refl _) _⟩
    exact results_ctt (fn := Tryz.f40) (p := 4) (u := 5) (v := 6) (ty := 40) rfl _ _ w.heap.size 40 _ (0, 0) _ rfl (setRow_heap W3 w.heap.size _ _ 40 (0, 0) HZ3.out) Tryz.underlying40 rfl tok_info
   ·have hq' : c.data.toList.isPrefixOf rest.data.toList = false := Bool.eq_false_iff.2 hq
    rw [hq'] at hpre
    have HPRE := Aside0.mk hpre
    have HQ := Aside0.mk hq'
    clear hpre hq hq'
    have hsz1 : w1.heap.size = wr.heap.size := hs1'
    have HHEN := Aside0.mk hen
    go_wp2_with fail
    with_reducible refine (tok_source_from.calls a0 (p : Int) rest _ HF.out).mono ?_
    rintro e W2 ⟨rfl, hb⟩
    have HZ2 : Aside0 (W2.heap[w.heap.size]? = some (.cells Z 40 (0, 0))) := ⟨(hb.block w.heap.size (by omega)).trans HZ1.out⟩
    have HB2 : Aside0 (Below w.heap.size w W2) := ⟨below_step HB1.out hb⟩
    have HRG2 := Aside0.mk (ranges_below HRG1.out hb)
    have hs2 : w.heap.size + 1 ≤ W2.heap.size := by have := hb.size; omega
    clear hb
    go_wp2_with fail
    with_reducible refine (strings_HasPrefix.calls rest c false _ HPRE.out).mono ?_
    rintro e W3 ⟨rfl, ⟨nd, rfl⟩⟩
    have HZ3 : Aside0 ((W2.drewN nd).heap[w.heap.size]? = some (.cells Z 40 (0, 0))) := HZ2
    have HB3 : Aside0 (Below w.heap.size w (W2.drewN nd)) := ⟨pw_below_drewN HB2.out nd⟩
    have HRG3 : Aside0 ((W2.drewN nd).ranges (H := Unit) Tryz.prog 3 (plainElem Tryz.prog 9) b W1.heap.size 6 signMap (fun z => left z && !z.sameKey (.int .i64 x)) cnt1) := HRG2
    have hs3 : w.heap.size + 1 ≤ (W2.drewN nd).heap.size := hs2
    generalize W2.drewN nd = W3 at HZ3 HB3 HRG3 hs3 ⊢
    go_wp2
    go_roundw
    case rel =>
     refine ⟨_, cnt1, HRG3, HB3, HZ3, hs3, ⟨fun kl hk => HLE.out kl (by simp only [Bool.and_eq_true] at hk; exact hk.1)⟩, ⟨fun x' s' hs' hl' => ?_⟩⟩
     simp only [Bool.and_eq_false_iff, Bool.not_eq_false'] at hl'
     rcases hl' with hl' | hl'
     ·exact HNO.out x' s' hs' hl'
     ·have hx : x' = x := by simpa [Lit.sameKey] using hl'
      subst hx
      have e1 := sign_same hs' HSG.out
      rw [e1]
      exact HQ.out
    case measure => rw [HRG3.out.left_eq, HLT2.out]; exact HLT.out
end Go.Proofs.YtjplnhdplpiogaaGreatDoor.M
end
section
namespace Go.Proofs.YtjplnhdplpiogaaGreatDoor.M
open Go.RowKit Go.Proofs.YtjplnhdplpiogaaGreatDoorW.PrintWords Go.Proofs.YtjplnhdplpiogaaGreatDoorW.PrintLast Go.Proofs.YtjplnhdplpiogaaGreatDoorW.PrintMore
attribute [local go_sem] max2_int min2_int max_two min_two max_three min_three max_four min_four
set_option linter.unusedVariables false
set_option linter.unusedSimpArgs false
def lex_Word.l0 : Nat → ByteArray → Int → Int → Option (ByteArray × Int)
 | 0, _, _, _ => none
 | k + 1, x0, x6, x7 => if x7 < (x0.size : Int) then (if 0 ≤ x7 then ((lex_Class.f k (wrap64 (bt x0 x7))).bind fun t115 => (if t115 = 0 then (lex_Word.l0 k x0 x6 (wrap64 (x7 + 1))) else (if 0 ≤ x6 then (if x6 ≤ x7 then (if x7 ≤ (x0.size : Int) then (some (x0.extract (x6 : Int).toNat (x7 : Int).toNat, x7)) else (none)) else (none)) else (none)))) else (none)) else (if 0 ≤ x6 then (if x6 ≤ x7 then (if x7 ≤ (x0.size : Int) then (some (x0.extract (x6 : Int).toNat (x7 : Int).toNat, x7)) else (none)) else (none)) else (none))
def lex_Word.f (k : Nat) (a0 : ByteArray) (a1 : Int) : Option (ByteArray × Int) := (lex_place.f a0 a1).bind fun t114 => (lex_Word.l0 k a0 t114 t114)
theorem lex_Word.mono_l : ∀ k, (∀ y0 y1 y2, LeO (lex_Word.l0 k y0 y1 y2) (lex_Word.l0 (k + 1) y0 y1 y2))
 | 0 => fun _ _ _ r h => by simp [lex_Word.l0] at h
 | k + 1 => by
  have ih0 := lex_Word.mono_l k
  ·intro y0 y1 y2
   unfold lex_Word.l0
   repeat' first
   | (with_reducible exact ih0 _ _ _)
   | (with_reducible exact lex_Class.mono _ _)
   | (with_reducible exact LeO.refl _)
   | (with_reducible exact LeO.none _)
   | (with_reducible refine LeO.ite ?_ ?_)
   | (with_reducible refine LeO.bind ?_ (fun _ => ?_))
   | exact ih0 _ _ _
   | exact lex_Class.mono _ _
   | exact LeO.none _
   | refine LeO.ite ?_ ?_
   | refine LeO.bind ?_ (fun _ => ?_)
theorem lex_Word.mono : ∀ a0 a1 k, LeO (lex_Word.f k a0 a1) (lex_Word.f (k + 1) a0 a1) := by
 intro a0 a1 k
 have ih0 := lex_Word.mono_l k
 unfold lex_Word.f
 repeat' first
   | (with_reducible exact ih0 _ _ _)
   | (with_reducible exact lex_Class.mono _ _)
   | (with_reducible exact LeO.refl _)
   | (with_reducible exact LeO.none _)
   | (with_reducible refine LeO.ite ?_ ?_)
   | (with_reducible refine LeO.bind ?_ (fun _ => ?_))
   | exact ih0 _ _ _
   | exact lex_Class.mono _ _
   | exact LeO.none _
   | refine LeO.ite ?_ ?_
   | refine LeO.bind ?_ (fun _ => ?_)
set_option maxHeartbeats 8000000 in
set_option maxRecDepth 100000 in
theorem lex_Word.calls (k : Nat) (a0 : ByteArray) (a1 : Int) (r1 : ByteArray) (r2 : Int) (w : World) (h : lex_Word.f k a0 a1 = some (r1, r2)) :
  Calls Tryz.prog 41 #[.string a0, .int .i64 a1] w fun e w' => e = .returned (.tuple #[.string r1, .int .i64 r2]) ∧ Below w.heap.size w w' := by
 have HB := aM (Below.refl w.heap.size w)
 have H : ((lex_place.f a0 a1).bind fun t114 => (lex_Word.l0 k a0 t114 t114)) = some (r1, r2) := h
 clear h
 replace H := bS H
 obtain ⟨t114, A3, H⟩ := H
 try dsimp only at H
 have H' := aM H
 clear H
 go_enter Tryz.func41, Tryz.ntmps41
 go_wp2_with (first | ((with_reducible refine gC 59 ?_); refine gL (some 10) Tryz.func59 #[.string a0, .int .i64 a1] ?_; (with_reducible refine cB (lex_place.calls a0 a1 t114 _ A3.out) ?_); intro w4 hb; replace HB := sB hb; clear hb))
 go_loopg [7] k (fun kq v7 w' => ∃ (x7_1 : Int), v7 = .int .i64 x7_1 ∧ Aside0 (lex_Word.l0 kq a0 t114 x7_1 = some (r1, r2)) ∧ Aside0 (kq ≤ k) ∧ Aside0 (Below w.heap.size w w'))
 case atStart => exact ⟨(t114), vQ, H', ⟨Nat.le_refl _⟩, ⟨bQ⟩⟩
 case round =>
  clear H'
  try clear p2
  try clear c4
  obtain ⟨x7_1, rfl, HA, HK1, HB⟩ := hrel
  cases gk with
  | zero => exact absurd HA.out (by simp [lex_Word.l0])
  | succ k1 =>
   have H := HA.out
   clear HA
   simp only [lex_Word.l0] at H
   refine iD H ?_ ?_<;>clear H<;>intro H c5b0
   rotate_left
   ·refine iNc H ?_ ?_<;>clear H<;>intro H c15
    rotate_left
    ·exact absurd H (by simp)
    have c15b0 := eq_true c15
    have c15b1 : decide (0 ≤ t114) = true := decide_eq_true c15
    clear c15
    refine iNc H ?_ ?_<;>clear H<;>intro H c16
    rotate_left
    ·exact absurd H (by simp)
    have c16b0 := eq_true c16
    have c16b1 : decide (t114 ≤ x7_1) = true := decide_eq_true c16
    clear c16
    refine iNc H ?_ ?_<;>clear H<;>intro H c17
    rotate_left
    ·exact absurd H (by simp)
    have c17b0 := eq_true c17
    have c17b1 : decide (x7_1 ≤ (a0.size : Int)) = true := decide_eq_true c17
    clear c17
    simp only [Option.some.injEq, Prod.mk.injEq] at H
    obtain ⟨rfl, rfl⟩ := H
    go_wp2
    go_ret2
    exact ⟨eQ, bQ⟩
   refine iD H ?_ ?_<;>clear H<;>intro H c6b0
   rotate_left
   ·exact absurd H (by simp)
   replace H := bS H
   obtain ⟨t115, A8, H⟩ := H
   try dsimp only at H
   refine iEc H ?_ ?_<;>clear H<;>intro H c9b0 c9b1 c9
   ·clear c9
    have H' := aM H
    clear H
    have p7 : 0 ≤ (x7_1 : Int) := of_decide_eq_true hQ
    have q7 : x7_1 < (a0.size : Int) := of_decide_eq_true hQ
    have hx7 := bt_at a0 x7_1
    replace p7 := eq_true p7
    replace q7 := eq_true q7
    go_wp2_with (first | (go_at_call 61; (with_reducible refine (lex_Class.calls k1 (wrap64 (bt a0 x7_1)) t115 _ A8.out).mono ?_); rintro e w10 ⟨rfl, hb⟩; replace HB := sB hb; clear hb))
    go_roundg k1
    case measure => have := HK1.out; omega
    case rel => exact ⟨(wrap64 (x7_1 + 1)), vQ, H', ⟨by have := HK1.out; omega⟩, ⟨bQ⟩⟩
   refine iNc H ?_ ?_<;>clear H<;>intro H c11
   rotate_left
   ·exact absurd H (by simp)
   have c11b0 := eq_true c11
   have c11b1 : decide (0 ≤ t114) = true := decide_eq_true c11
   clear c11
   refine iNc H ?_ ?_<;>clear H<;>intro H c12
   rotate_left
   ·exact absurd H (by simp)
   have c12b0 := eq_true c12
   have c12b1 : decide (t114 ≤ x7_1) = true := decide_eq_true c12
   clear c12
   refine iNc H ?_ ?_<;>clear H<;>intro H c13
   rotate_left
   ·exact absurd H (by simp)
   have c13b0 := eq_true c13
   have c13b1 : decide (x7_1 ≤ (a0.size : Int)) = true := decide_eq_true c13
   clear c13
   simp only [Option.some.injEq, Prod.mk.injEq] at H
   obtain ⟨rfl, rfl⟩ := H
   have p7 : 0 ≤ (x7_1 : Int) := of_decide_eq_true hQ
   have q7 : x7_1 < (a0.size : Int) := of_decide_eq_true hQ
   have hx7 := bt_at a0 x7_1
   replace p7 := eq_true p7
   replace q7 := eq_true q7
   go_wp2_with (first | (go_at_call 61; (with_reducible refine (lex_Class.calls k1 (wrap64 (bt a0 x7_1)) t115 _ A8.out).mono ?_); rintro e w14 ⟨rfl, hb⟩; replace HB := sB hb; clear hb))
   go_ret2
   exact ⟨eQ, bQ⟩
end Go.Proofs.YtjplnhdplpiogaaGreatDoor.M
end
