/-
  THE WALKS OF THE LAWS OF DATE: each law returns true, and writes nothing that was there. Conditions: each integer is an int, each string has at most maxLen bytes.
-/
import Derived.Test.YtlkkkdflafikaaaDatWalksI
namespace Go.Proofs.Ytlkkkdflafikaaa
open Go.RowKit
open Num Clk Dat

theorem ex_civ : (0 ≤ (36524 : Int) ∧ (36524 : Int) ≤ 36524) ∧ yearOf 36524 = 2099 ∧ monthOf 36524 = 12 ∧ dayOf 36524 = 31 := civil_from (by decide +kernel)
theorem ex_fmt : dfmt 60 = ([50, 48, 48, 48, 45, 48, 51, 45, 48, 49], 0) := by
  obtain ⟨_, a, b, c⟩ := civil_from (y := 2000) (m := 3) (d := 1) (n := 60) (by decide +kernel)
  unfold dfmt
  rw [if_pos (by decide)]
  unfold dtext
  rw [a, b, c]
  decide
theorem ex_mfmt : mfmt 176400 = ([50, 48, 48, 48, 45, 48, 49, 45, 48, 51, 84, 48, 49, 58, 48, 48, 58, 48, 48], 0) := by
  obtain ⟨_, a, b, c⟩ := civil_from (y := 2000) (m := 1) (d := 3) (n := 2) (by decide +kernel)
  unfold mfmt
  rw [if_pos (by decide)]
  unfold mtext
  rw [show (176400 : Int) / 86400 = 2 by decide]
  unfold dtext
  rw [a, b, c]
  decide
theorem ex_day1 : Day [50, 48, 48, 49, 45, 48, 50, 45, 50, 57] 0 11 :=
  .out (y := 2001) (m := 2) (d := 29) ⟨50, 48, 48, 49, 48, 50, 50, 57, rfl, by decide, by decide, by decide, by decide, by decide, by decide⟩ (by decide +kernel)
theorem ex_day2 : Day [50, 48, 48, 49, 45, 50, 45, 50, 56] 0 3 := .bad (by decide)
theorem ex_mom : Mom [50, 48, 48, 48, 45, 48, 49, 45, 48, 51, 84, 50, 52, 58, 48, 48, 58, 48, 48] 0 10 :=
  .out (p := [50, 48, 48, 48, 45, 48, 49, 45, 48, 51]) (q := [50, 52, 58, 48, 48, 58, 48, 48]) (y := 2000) (m := 1) (d := 3) (hh := 24) (mm := 0) (ss := 0) 2
    ⟨50, 48, 48, 48, 48, 49, 48, 51, rfl, by decide, by decide, by decide, by decide, by decide, by decide⟩ ⟨50, 52, 48, 48, 48, 48, rfl, by decide, by decide, by decide, by decide, by decide, by decide⟩ (by decide +kernel) (by decide)

set_option maxRecDepth 100000 in
set_option maxHeartbeats 4000000 in
theorem example_c (w : World) : Calls Try.prog 20 #[] w fun r w' => r = .returned (.bool true) ∧ Bl w w' := by
  have H1 : Hid (fromCivil 2000 3 1 = (60, true)) := by show _ = _; decide +kernel
  have H2 : Hid (weekday 0 = (5, true)) := by show _ = _; decide
  have H3 : Hid (weekday 2 = (0, true)) := by show _ = _; decide
  have H4 := Lib.hid ex_fmt
  have H5 : Hid (absol 1 90000 = (176400, true)) := by show _ = _; decide
  have H6 : Hid (relat 176400 = ((2, 3600), true)) := by show _ = _; decide
  have H7 := Lib.hid ex_mfmt
  have H8 : Hid (days 2024 2 = (29, true)) := by show _ = _; decide
  have H9 : Hid (leapB 2024 = true) := by show _ = _; decide
  have H10 : Hid (leapB 2100 = false) := by show _ = _; decide
  have H11 : Hid (dvalid 36524 = true) := by show _ = _; decide
  have H12 : Hid (dvalid 36525 = false) := by show _ = _; decide
  go_enter Try.func20, Try.ntmps20
  go_wp2_with fail
  refine (from_c _ _ _ _ _ H1 _).mono ?_
  rintro e w1 ⟨rfl, b1⟩
  go_wp2_with fail
  refine (civil_yes 36524 (by omega) (by omega) _).mono ?_
  rintro e w2 ⟨he, b2⟩
  unfold CivRes at he
  rw [ex_civ.2.1, ex_civ.2.2.1, ex_civ.2.2.2] at he
  subst he
  have c2 := bl_next b1 b2
  go_wp2_with fail
  refine (weekday_c _ _ _ H2 _).mono ?_
  rintro e w3 ⟨rfl, rfl⟩
  go_wp2_with fail
  refine (weekday_c _ _ _ H3 _).mono ?_
  rintro e w4 ⟨rfl, rfl⟩
  go_wp2_with fail
  refine (dFormat_c _ _ _ H4 _).mono ?_
  rintro e w5 ⟨rfl, b5⟩
  have c5 := bl_next c2 b5
  go_wp2_with fail
  refine (dParse_c ⟨#[50, 48, 48, 49, 45, 48, 50, 45, 50, 57]⟩ _ _ ex_day1 _).mono ?_
  rintro e w6 ⟨rfl, b6⟩
  have c6 := bl_next c5 b6
  go_wp2_with fail
  refine (dParse_c ⟨#[50, 48, 48, 49, 45, 50, 45, 50, 56]⟩ _ _ ex_day2 _).mono ?_
  rintro e w7 ⟨rfl, b7⟩
  have c7 := bl_next c6 b7
  go_wp2_with fail
  refine (dAbsolute_c _ _ _ _ H5 _).mono ?_
  rintro e w8 ⟨rfl, rfl⟩
  go_wp2_with fail
  refine (relative_c _ _ _ _ H6 _).mono ?_
  rintro e w9 ⟨rfl, rfl⟩
  go_wp2_with fail
  refine (dStamp_c _ _ _ H7 _).mono ?_
  rintro e w10 ⟨rfl, b10⟩
  have c10 := bl_next c7 b10
  go_wp2_with fail
  refine (dMom_c ⟨#[50, 48, 48, 48, 45, 48, 49, 45, 48, 51, 84, 50, 52, 58, 48, 48, 58, 48, 48]⟩ _ _ ex_mom (by decide) _).mono ?_
  rintro e w11 ⟨rfl, b11⟩
  have c11 := bl_next c10 b11
  go_wp2_with fail
  refine (days_c _ _ _ _ H8 _).mono ?_
  rintro e w12 ⟨rfl, b12⟩
  have c12 := bl_next c11 b12
  go_wp2_with fail
  refine (leap_b _ _ H9 _).mono ?_
  rintro e w13 ⟨rfl, rfl⟩
  go_wp2_with fail
  refine (leap_b _ _ H10 _).mono ?_
  rintro e w14 ⟨rfl, rfl⟩
  go_wp2_with fail
  refine (dValid_b _ _ H11 _).mono ?_
  rintro e w15 ⟨rfl, rfl⟩
  go_wp2_with fail
  refine (dValid_b _ _ H12 _).mono ?_
  rintro e w16 ⟨rfl, rfl⟩
  go_wp2
  go_ret
  exact ⟨rfl, c12⟩
end Go.Proofs.Ytlkkkdflafikaaa
