/-
  THE CONTRACTS OF NUMBER, SIXTH PART: ParsePrice, the reference's and the program's. Conditions: those of each contract.
-/
import Derived.Test.YtekhdcapiiecfaaNumWalksC
import Derived.Test.YtekhdcapiiecfaaNumPlain3
import Derived.Test.YtekhdcapiiecfaaBase
import Derived.Deep.QuietTactic
import Derived.BigQuiet
namespace Go.Proofs.Ytekhdcapiiecfaa
open Go.RowKit
open Num

section
variable {s : ByteArray} {a : List UInt8} {x y : UInt8} (hs : s.data.toList = a ++ [46, x, y])
include hs
theorem pr_size : s.size = a.length + 3 := by
  have : s.data.toList.length = s.size := by simp
  rw [hs] at this
  simpa using this.symm
theorem pr_dot (i : Nat) (h : i < s.size) (hi : i = a.length) : ((s[i]'h).toNat : Int) = 46 := by
  subst hi
  rw [← bytes_get s a.length h]
  simp [hs]
theorem pr_x (i : Nat) (h : i < s.size) (hi : i = a.length + 1) : (s[i]'h) = x := by
  subst hi
  rw [← bytes_get s (a.length + 1) h]
  simp [hs]
theorem pr_y (i : Nat) (h : i < s.size) (hi : i = a.length + 2) : (s[i]'h) = y := by
  subst hi
  rw [← bytes_get s (a.length + 2) h]
  simp [hs]
theorem pr_head (i : Nat) (hi : i = a.length) : (s.extract 0 i).data.toList = a := by
  subst hi
  rw [Lib.extract_data, hs]
  simp
theorem pr_tail (i j : Nat) (hi : i = a.length + 1) (hj : j = s.size) : (s.extract i j).data.toList = [x, y] := by
  subst hi hj
  rw [Lib.extract_data, pr_size hs, hs]
  simp
end

theorem cat_data (c : UInt8) (b : ByteArray) : (ByteArray.mk #[c] ++ b : ByteArray).data.toList = c :: b.data.toList := by simp

/-- What three checks say of a text that is no price: the fourth fails. -/
theorem not_shaped {s : ByteArray} (h : ¬ shaped s.data.toList) (i : Nat) (hi : i + 3 = s.size) (h46 : ((s[i]'(by omega)).toNat : Int) = 46) (hc : canon (s.extract 0 i).data.toList = true) (j k : Nat) (hj : j = i + 1) (hk : k = s.size) :
    canon (ByteArray.mk #[49] ++ s.extract j k : ByteArray).data.toList = false := by
  subst hj hk
  rw [cat_data, canon_49, Bool.eq_false_iff]
  intro hd
  apply h
  have hl : s.data.toList.length = i + 3 := by simp [hi]
  have e0 : s.data.toList = s.data.toList.take i ++ s.data.toList.drop i := (List.take_append_drop i _).symm
  have e1 : (s.extract 0 i).data.toList = s.data.toList.take i := by rw [Lib.extract_data]; simp
  have e2 : (s.extract (i + 1) s.size).data.toList = s.data.toList.drop (i + 1) := by
    rw [Lib.extract_data]
    exact List.take_of_length_le (by simp)
  have hdl : (s.data.toList.drop i).length = 3 := by simp; omega
  match hm : s.data.toList.drop i, hdl with
  | [p, x, y], _ =>
    have e3 : s.data.toList.drop (i + 1) = [x, y] := by
      rw [show i + 1 = i + 1 from rfl, ← List.drop_drop, hm]
      rfl
    rw [e2, e3] at hd
    simp only [allDig, List.all_cons, List.all_nil, Bool.and_true, Bool.and_eq_true] at hd
    refine ⟨s.data.toList.take i, x, y, ?_, by rw [← e1]; exact hc, hd.1, hd.2⟩
    have hp : p = 46 := by
      have : s[i]'(by omega) = p := by
        rw [← bytes_get s i (by omega)]
        have := List.getElem_drop (xs := s.data.toList) (i := i) (j := 0) (h := by rw [hm]; simp)
        simp only [hm, Nat.add_zero] at this
        exact this.symm
      rw [this] at h46
      exact UInt8.toNat.inj (by simpa using (by omega : p.toNat = 46))
    rw [← hp, ← hm]
    exact e0

theorem ext_le (s : ByteArray) (i j : Nat) : (s.extract i j).size ≤ s.size := by rw [ByteArray.size_extract]; omega
theorem cat_le (s : ByteArray) (c : UInt8) (i j : Nat) (hi : 1 ≤ i) (hs : 1 ≤ s.size) : (ByteArray.mk #[c] ++ s.extract i j : ByteArray).size ≤ s.size := by
  rw [ByteArray.size_append, ByteArray.size_extract]
  show 1 + _ ≤ _
  omega

/-- A byte of a string, for the walk to take. -/
theorem idx_c (s : ByteArray) (z : Int) (i : Nat) (hz : z = (i : Int)) (hi : i < s.size) (W : World) :
    (Instr.index 9 (.string s) (.int .i64 z)).run Try.prog W = .ok (.int .u8 ((s[i]'hi).toNat : Int)) W := by
  subst hz
  rw [run_index_string W 9 s .i64 _ Try.underlying9, dif_pos ⟨by omega, by omega⟩]
  rfl

theorem parse_digits {a : List UInt8} (h : canon a = true) : parse a = if val a ≤ Num.big then ((val a : Int), 0) else (0, 2) := by
  unfold parse
  rw [if_neg (head_dig h), if_pos h]

set_option maxHeartbeats 2000000 in
theorem refParsePrice_c (s : ByteArray) (n e : Int) (H : Price s.data.toList n e) (hs : s.size ≤ maxLen) (w : World) :
    Calls Try.prog 17 #[.string s] w fun r w' => r = .returned (.tuple #[.int .i64 n, .int .i64 e]) ∧ Bl w w' := by
  unfold maxLen at hs
  have hs4 : ∀ b : ByteArray, b.size ≤ s.size → b.size ≤ maxLen := fun b hb => by unfold maxLen; omega
  have HS := Lib.hid hs4
  clear hs4
  generalize hl : s.data.toList = l at H
  cases H with
  | bad h =>
    rw [← hl] at h
    clear hl
    have HB := Lib.hid h
    clear h
    by_cases h4 : s.size < 4
    · go_enter Try.func17, Try.ntmps17
      go_wp2
      go_ret2
      exact ⟨rfl, bl_refl _⟩
    have hlt : s.size - 3 < s.size := by omega
    by_cases h46 : ((s[s.size - 3]'hlt).toNat : Int) = 46
    · cases hc : canon (s.extract 0 (s.size - 3)).data.toList with
      | false =>
        have HC := Lib.hid hc
        clear hc
        go_enter Try.func17, Try.ntmps17
        go_wp2_with (go_at_call 34; refine (digits_b _ _ HC (HS.out _ (ext_le _ _ _)) _).mono ?_; rintro e w1 ⟨rfl, rfl⟩)
        go_ret2
        exact ⟨rfl, bl_refl _⟩
      | true =>
        have HD := Lib.hid (not_shaped HB.out (s.size - 3) (by omega) h46 hc (s.size - 2) s.size (by omega) rfl)
        have HC := Lib.hid hc
        clear hc
        go_enter Try.func17, Try.ntmps17
        go_wp2_with fail
        refine (digits_b _ _ HC (HS.out _ (ext_le _ _ _)) _).mono ?_
        rintro e w1 ⟨rfl, rfl⟩
        go_wp2_with fail
        refine (digits_b _ _ HD (HS.out _ (cat_le _ _ _ _ (by omega) (by omega))) _).mono ?_
        rintro e w1 ⟨rfl, rfl⟩
        go_wp2
        go_ret2
        exact ⟨rfl, bl_refl _⟩
    · go_enter Try.func17, Try.ntmps17
      go_wp2
      go_ret2
      exact ⟨rfl, bl_refl _⟩
  | @big a x y ha hx hy hb =>
    have hsz := pr_size hl
    have hL : 1 ≤ a.length := by
      have := canon_ne ha
      cases a with
      | nil => exact absurd rfl this
      | cons _ _ => simp
    have hlt : s.size - 3 < s.size := by omega
    have hlt2 : s.size - 2 < s.size := by omega
    have hlt1 : s.size - 1 < s.size := by omega
    have h46 := pr_dot hl (s.size - 3) hlt (by omega)
    have hea := pr_head hl (s.size - 3) (by omega)
    have HC : Hid (canon (s.extract 0 (s.size - 3)).data.toList = true) := by show _ = _; rw [hea]; exact ha
    have HD : Hid (canon (ByteArray.mk #[49] ++ s.extract (s.size - 2) s.size : ByteArray).data.toList = true) := by
      show _ = _
      rw [cat_data, canon_49, pr_tail hl _ _ (by omega) rfl]
      simp [allDig, hx, hy]
    have HP := Lib.hid (parse_digits ha)
    have ex := pr_x hl _ hlt2 (by omega)
    have ey := pr_y hl _ hlt1 (by omega)
    have bx := isDig_bounds hx
    have b_y := isDig_bounds hy
    rw [← ex] at bx
    rw [← ey] at b_y
    have HEX := Lib.hid ex
    have HEY := Lib.hid ey
    have HEA := Lib.hid hea
    have hs4 : 4 ≤ s.size := by omega
    clear ex ey hea hl hsz hL hx hy
    by_cases hv0 : Num.big < val a
    · have HQ : Hid (parse (s.extract 0 (s.size - 3)).data.toList = (0, 2)) := by show _ = _; rw [HEA.out, HP.out, if_neg (by omega)]
      clear hb hv0
      go_enter Try.func17, Try.ntmps17
      go_wp2_with fail
      refine (digits_b _ _ HC (HS.out _ (ext_le _ _ _)) _).mono ?_
      rintro e w1 ⟨rfl, rfl⟩
      go_wp2_with fail
      refine (digits_b _ _ HD (HS.out _ (cat_le _ _ _ _ (by omega) (by omega))) _).mono ?_
      rintro e w1 ⟨rfl, rfl⟩
      go_wp2_with (go_at_call 20; refine (refParse_c _ _ _ HQ (HS.out _ (ext_le _ _ _)) _).mono ?_; rintro e w1 ⟨rfl, rfl⟩)
      go_ret2
      exact ⟨rfl, bl_refl _⟩
    obtain ⟨v, hv⟩ : ∃ v : Nat, v = val a := ⟨_, rfl⟩
    have HQ : Hid (parse (s.extract 0 (s.size - 3)).data.toList = ((v : Int), 0)) := by show _ = _; rw [HEA.out, HP.out, if_pos (by omega), hv]
    have hvb : (v : Int) ≤ 9223372036854775807 := by unfold Num.big at hv0; omega
    rw [← hv, ← HEX.out, ← HEY.out] at hb
    clear hv0 hv
    by_cases hv1 : 10000 < (v : Int)
    · clear hb
      go_enter Try.func17, Try.ntmps17
      go_wp2_with fail
      refine (digits_b _ _ HC (HS.out _ (ext_le _ _ _)) _).mono ?_
      rintro e w1 ⟨rfl, rfl⟩
      go_wp2_with fail
      refine (digits_b _ _ HD (HS.out _ (cat_le _ _ _ _ (by omega) (by omega))) _).mono ?_
      rintro e w1 ⟨rfl, rfl⟩
      go_wp2_with (go_at_call 20; refine (refParse_c _ _ _ HQ (HS.out _ (ext_le _ _ _)) _).mono ?_; rintro e w1 ⟨rfl, rfl⟩)
      go_ret2
      exact ⟨rfl, bl_refl _⟩
    · have hb' : 1000000 < (v : Int) * 100 + (((s[s.size - 2]'hlt2).toNat : Int) - 48) * 10 + (((s[s.size - 1]'hlt1).toNat : Int) - 48) := by omega
      clear hb
      have E9 := Lib.hid (IntWalk.i64_in ((s.size : Int) - 2) (by omega))
      have E10 := Lib.hid (IntWalk.i64_in ((s.size : Int) - 1) (by omega))
      have E11 := Lib.hid (fun W => idx_c s ((s.size : Int) - 2) (s.size - 2) (by omega) hlt2 W)
      have E12 := Lib.hid (fun W => idx_c s ((s.size : Int) - 1) (s.size - 1) (by omega) hlt1 W)
      have E1 := Lib.hid (IntWalk.u8_in (((s[s.size - 2]'hlt2).toNat : Int) - 48) (by omega))
      have E2 := Lib.hid (IntWalk.i64_in (((s[s.size - 2]'hlt2).toNat : Int) - 48) (by omega))
      have E3 := Lib.hid (IntWalk.i64_in ((((s[s.size - 2]'hlt2).toNat : Int) - 48) * 10) (by omega))
      have E4 := Lib.hid (IntWalk.i64_in ((v : Int) * 100) (by omega))
      have E5 := Lib.hid (IntWalk.i64_in ((v : Int) * 100 + (((s[s.size - 2]'hlt2).toNat : Int) - 48) * 10) (by omega))
      have E6 := Lib.hid (IntWalk.u8_in (((s[s.size - 1]'hlt1).toNat : Int) - 48) (by omega))
      have E7 := Lib.hid (IntWalk.i64_in (((s[s.size - 1]'hlt1).toNat : Int) - 48) (by omega))
      have E8 := Lib.hid (IntWalk.i64_in ((v : Int) * 100 + (((s[s.size - 2]'hlt2).toNat : Int) - 48) * 10 + (((s[s.size - 1]'hlt1).toNat : Int) - 48)) (by omega))
      go_enter Try.func17, Try.ntmps17
      go_wp2_with fail
      refine (digits_b _ _ HC (HS.out _ (ext_le _ _ _)) _).mono ?_
      rintro e w1 ⟨rfl, rfl⟩
      go_wp2_with fail
      refine (digits_b _ _ HD (HS.out _ (cat_le _ _ _ _ (by omega) (by omega))) _).mono ?_
      rintro e w1 ⟨rfl, rfl⟩
      go_wp2_with (go_at_call 20; refine (refParse_c _ _ _ HQ (HS.out _ (ext_le _ _ _)) _).mono ?_; rintro e w1 ⟨rfl, rfl⟩)
      have e1 := E1.out
      have e2 := E2.out
      have e3 := E3.out
      have e4 := E4.out
      have e5 := E5.out
      have e6 := E6.out
      have e7 := E7.out
      have e8 := E8.out
      have e9 := E9.out
      have e10 := E10.out
      have e11 := E11.out
      have e12 := E12.out
      go_quiet (fail)
      clear e1 e2 e3 e4 e5 e6 e7 e8 e9 e10 e11 e12
      go_wp2
      go_ret2
      exact ⟨rfl, by repeat (first | exact bl_refl _ | refine bl_drew ?_ | refine bl_drewN ?_ _)⟩
  | @ok a x y ha hx hy hv hb =>
    have hsz := pr_size hl
    have hL : 1 ≤ a.length := by
      have := canon_ne ha
      cases a with
      | nil => exact absurd rfl this
      | cons _ _ => simp
    have hlt : s.size - 3 < s.size := by omega
    have hlt2 : s.size - 2 < s.size := by omega
    have hlt1 : s.size - 1 < s.size := by omega
    have h46 := pr_dot hl (s.size - 3) hlt (by omega)
    have hea := pr_head hl (s.size - 3) (by omega)
    have HC : Hid (canon (s.extract 0 (s.size - 3)).data.toList = true) := by show _ = _; rw [hea]; exact ha
    have HD : Hid (canon (ByteArray.mk #[49] ++ s.extract (s.size - 2) s.size : ByteArray).data.toList = true) := by
      show _ = _
      rw [cat_data, canon_49, pr_tail hl _ _ (by omega) rfl]
      simp [allDig, hx, hy]
    have HP := Lib.hid (parse_digits ha)
    have ex := pr_x hl _ hlt2 (by omega)
    have ey := pr_y hl _ hlt1 (by omega)
    have bx := isDig_bounds hx
    have b_y := isDig_bounds hy
    rw [← ex] at bx
    rw [← ey] at b_y
    have HEX := Lib.hid ex
    have HEY := Lib.hid ey
    have HEA := Lib.hid hea
    have hs4 : 4 ≤ s.size := by omega
    clear ex ey hea hl hsz hL hx hy
    obtain ⟨v, hv'⟩ : ∃ v : Nat, v = val a := ⟨_, rfl⟩
    have HQ : Hid (parse (s.extract 0 (s.size - 3)).data.toList = ((v : Int), 0)) := by show _ = _; rw [HEA.out, HP.out, if_pos (by unfold Num.big; omega), hv']
    rw [← hv', ← HEX.out, ← HEY.out] at hb
    rw [← hv'] at hv
    have HR := Lib.hid (show ((100 * val a + 10 * (x.toNat - 48) + (y.toNat - 48) : Nat) : Int) = (v : Int) * 100 + (((s[s.size - 2]'hlt2).toNat : Int) - 48) * 10 + (((s[s.size - 1]'hlt1).toNat : Int) - 48) by rw [← hv', ← HEX.out, ← HEY.out]; omega)
    have hb' : (v : Int) * 100 + (((s[s.size - 2]'hlt2).toNat : Int) - 48) * 10 + (((s[s.size - 1]'hlt1).toNat : Int) - 48) ≤ 1000000 := by omega
    clear hb hv'
    · skip
      have E9 := Lib.hid (IntWalk.i64_in ((s.size : Int) - 2) (by omega))
      have E10 := Lib.hid (IntWalk.i64_in ((s.size : Int) - 1) (by omega))
      have E11 := Lib.hid (fun W => idx_c s ((s.size : Int) - 2) (s.size - 2) (by omega) hlt2 W)
      have E12 := Lib.hid (fun W => idx_c s ((s.size : Int) - 1) (s.size - 1) (by omega) hlt1 W)
      have E1 := Lib.hid (IntWalk.u8_in (((s[s.size - 2]'hlt2).toNat : Int) - 48) (by omega))
      have E2 := Lib.hid (IntWalk.i64_in (((s[s.size - 2]'hlt2).toNat : Int) - 48) (by omega))
      have E3 := Lib.hid (IntWalk.i64_in ((((s[s.size - 2]'hlt2).toNat : Int) - 48) * 10) (by omega))
      have E4 := Lib.hid (IntWalk.i64_in ((v : Int) * 100) (by omega))
      have E5 := Lib.hid (IntWalk.i64_in ((v : Int) * 100 + (((s[s.size - 2]'hlt2).toNat : Int) - 48) * 10) (by omega))
      have E6 := Lib.hid (IntWalk.u8_in (((s[s.size - 1]'hlt1).toNat : Int) - 48) (by omega))
      have E7 := Lib.hid (IntWalk.i64_in (((s[s.size - 1]'hlt1).toNat : Int) - 48) (by omega))
      have E8 := Lib.hid (IntWalk.i64_in ((v : Int) * 100 + (((s[s.size - 2]'hlt2).toNat : Int) - 48) * 10 + (((s[s.size - 1]'hlt1).toNat : Int) - 48)) (by omega))
      go_enter Try.func17, Try.ntmps17
      go_wp2_with fail
      refine (digits_b _ _ HC (HS.out _ (ext_le _ _ _)) _).mono ?_
      rintro e w1 ⟨rfl, rfl⟩
      go_wp2_with fail
      refine (digits_b _ _ HD (HS.out _ (cat_le _ _ _ _ (by omega) (by omega))) _).mono ?_
      rintro e w1 ⟨rfl, rfl⟩
      go_wp2_with (go_at_call 20; refine (refParse_c _ _ _ HQ (HS.out _ (ext_le _ _ _)) _).mono ?_; rintro e w1 ⟨rfl, rfl⟩)
      have e1 := E1.out
      have e2 := E2.out
      have e3 := E3.out
      have e4 := E4.out
      have e5 := E5.out
      have e6 := E6.out
      have e7 := E7.out
      have e8 := E8.out
      have e9 := E9.out
      have e10 := E10.out
      have e11 := E11.out
      have e12 := E12.out
      go_quiet (fail)
      clear e1 e2 e3 e4 e5 e6 e7 e8 e9 e10 e11 e12
      go_wp2
      go_ret2
      exact ⟨ret2_int (by rw [HR.out]), by repeat (first | exact bl_refl _ | refine bl_drew ?_ | refine bl_drewN ?_ _)⟩
end Go.Proofs.Ytekhdcapiiecfaa
