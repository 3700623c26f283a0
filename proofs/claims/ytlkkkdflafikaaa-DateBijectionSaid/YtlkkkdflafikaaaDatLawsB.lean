/-
  THE WALKS OF THE LAWS OF DATE, SECOND PART. Conditions: each integer is an int, each string has at most maxLen bytes.
-/
import Derived.Test.YtlkkkdflafikaaaDatLawsA
namespace Go.Proofs.Ytlkkkdflafikaaa
open Go.RowKit
open Num Clk Dat

set_option maxRecDepth 100000 in
set_option maxHeartbeats 4000000 in
theorem months_law (d y m : Int) (w : World) : Calls Try.prog 3 #[.int .i64 d, .int .i64 y, .int .i64 m] w fun r w' => r = .returned (.bool true) ∧ Bl w w' := by
  obtain ⟨n, ok, H⟩ : ∃ n ok, days y m = (n, ok) := ⟨_, _, rfl⟩
  obtain ⟨v, V⟩ : ∃ v, dvalid d = v := ⟨_, rfl⟩
  obtain ⟨p, L⟩ : ∃ p, leapB y = p := ⟨_, rfl⟩
  have H1 := Lib.hid H
  have HV := Lib.hid V
  have HL := Lib.hid L
  clear H V L
  go_enter Try.func3, Try.ntmps3
  go_wp2_with fail
  refine (days_c _ _ _ _ H1 _).mono ?_
  rintro e1 w1 ⟨rfl, b1⟩
  go_wp2_with fail
  refine (rDays_c _ _ _ _ H1 _).mono ?_
  rintro e2 w2 ⟨rfl, rfl⟩
  go_wp2_with fail
  refine (dValid_b _ _ HV _).mono ?_
  rintro e3 w3 ⟨rfl, rfl⟩
  go_wp2_with fail
  refine (rdValid_b _ _ HV _).mono ?_
  rintro e4 w4 ⟨rfl, rfl⟩
  go_wp2_with fail
  refine (leap_b _ _ HL _).mono ?_
  rintro e5 w5 ⟨rfl, rfl⟩
  go_wp2_with fail
  refine (rLeap_b _ _ HL _).mono ?_
  rintro e6 w6 ⟨rfl, rfl⟩
  go_wp2_with fail
  refine (example_c _).mono ?_
  rintro e7 w7 ⟨rfl, b7⟩
  have c7 := bl_next b1 b7
  go_wp2
  go_ret
  exact ⟨rfl, c7⟩

set_option maxRecDepth 100000 in
set_option maxHeartbeats 4000000 in
theorem fromcivils_law (y m d : Int) (w : World) : Calls Try.prog 4 #[.int .i64 y, .int .i64 m, .int .i64 d] w fun r w' => r = .returned (.bool true) ∧ Bl w w' := by
  obtain ⟨n, ok, H⟩ : ∃ n ok, fromCivil y m d = (n, ok) := ⟨_, _, rfl⟩
  have H1 := Lib.hid H
  clear H
  go_enter Try.func4, Try.ntmps4
  go_wp2_with fail
  refine (from_c _ _ _ _ _ H1 _).mono ?_
  rintro e1 w1 ⟨rfl, b1⟩
  go_wp2_with fail
  refine (rFrom_c _ _ _ _ _ H1 _).mono ?_
  rintro e2 w2 ⟨rfl, rfl⟩
  go_wp2_with fail
  refine (example_c _).mono ?_
  rintro e3 w3 ⟨rfl, b3⟩
  have c3 := bl_next b1 b3
  go_wp2
  go_ret
  exact ⟨rfl, c3⟩

set_option maxRecDepth 100000 in
set_option maxHeartbeats 4000000 in
theorem civils_yes (d : Int) (h0 : 0 ≤ d) (h1 : d ≤ 36524) (w : World) : Calls Try.prog 5 #[.int .i64 d] w fun r w' => r = .returned (.bool true) ∧ Bl w w' := by
  obtain ⟨n, ok, H⟩ : ∃ n ok, weekday d = (n, ok) := ⟨_, _, rfl⟩
  have H1 := Lib.hid H
  clear H
  go_enter Try.func5, Try.ntmps5
  go_wp2_with fail
  refine (civil_yes d h0 h1 _).mono ?_
  rintro e1 w1 ⟨he, b1⟩
  unfold CivRes at he
  subst he
  go_wp2_with fail
  refine (rCivil_yes d h0 h1 _).mono ?_
  rintro e2 w2 ⟨he, rfl⟩
  unfold CivRes at he
  subst he
  go_wp2_with fail
  refine (weekday_c _ _ _ H1 _).mono ?_
  rintro e3 w3 ⟨rfl, rfl⟩
  go_wp2_with fail
  refine (rWeekday_c _ _ _ H1 _).mono ?_
  rintro e4 w4 ⟨rfl, rfl⟩
  go_wp2_with fail
  refine (example_c _).mono ?_
  rintro e5 w5 ⟨rfl, b5⟩
  go_wp2
  go_ret
  exact ⟨rfl, bl_next b1 b5⟩

set_option maxRecDepth 100000 in
set_option maxHeartbeats 4000000 in
theorem civils_no (d : Int) (h : ¬ (0 ≤ d ∧ d ≤ 36524)) (w : World) : Calls Try.prog 5 #[.int .i64 d] w fun r w' => r = .returned (.bool true) ∧ Bl w w' := by
  obtain ⟨n, ok, H⟩ : ∃ n ok, weekday d = (n, ok) := ⟨_, _, rfl⟩
  have H1 := Lib.hid H
  have HN := Lib.hid h
  clear H h
  go_enter Try.func5, Try.ntmps5
  go_wp2_with fail
  refine (civil_no d HN.out _).mono ?_
  rintro e1 w1 ⟨rfl, rfl⟩
  go_wp2_with fail
  refine (rCivil_no d HN.out _).mono ?_
  rintro e2 w2 ⟨rfl, rfl⟩
  go_wp2_with fail
  refine (weekday_c _ _ _ H1 _).mono ?_
  rintro e3 w3 ⟨rfl, rfl⟩
  go_wp2_with fail
  refine (rWeekday_c _ _ _ H1 _).mono ?_
  rintro e4 w4 ⟨rfl, rfl⟩
  go_wp2_with fail
  refine (example_c _).mono ?_
  rintro e5 w5 ⟨rfl, b5⟩
  go_wp2
  go_ret
  exact ⟨rfl, b5⟩

theorem civils_law (d : Int) (w : World) : Calls Try.prog 5 #[.int .i64 d] w fun r w' => r = .returned (.bool true) ∧ Bl w w' := by
  by_cases h : 0 ≤ d ∧ d ≤ 36524
  · exact civils_yes d h.1 h.2 w
  · exact civils_no d h w

set_option maxRecDepth 100000 in
set_option maxHeartbeats 4000000 in
theorem formats_law (d : Int) (w : World) : Calls Try.prog 6 #[.int .i64 d] w fun r w' => r = .returned (.bool true) ∧ Bl w w' := by
  obtain ⟨l, e, H⟩ : ∃ l e, dfmt d = (l, e) := ⟨_, _, rfl⟩
  have H1 := Lib.hid H
  clear H
  go_enter Try.func6, Try.ntmps6
  go_wp2_with fail
  refine (dFormat_c _ _ _ H1 _).mono ?_
  rintro e1 w1 ⟨rfl, b1⟩
  go_wp2_with fail
  refine (rFormat_c _ _ _ H1 _).mono ?_
  rintro e2 w2 ⟨rfl, b2⟩
  have c2 := bl_next b1 b2
  go_wp2_with fail
  refine (example_c _).mono ?_
  rintro e3 w3 ⟨rfl, b3⟩
  have c3 := bl_next c2 b3
  go_wp2
  go_ret
  exact ⟨rfl, c3⟩

set_option maxRecDepth 100000 in
set_option maxHeartbeats 4000000 in
theorem moments_w (d t a : Int) (ha : a ≤ 9223372036854775807) (w : World) : Calls Try.prog 8 #[.int .i64 d, .int .i64 t, .int .i64 a] w fun r w' => r = .returned (.bool true) ∧ Bl w w' := by
  obtain ⟨n, ok, H⟩ : ∃ n ok, absol d t = (n, ok) := ⟨_, _, rfl⟩
  obtain ⟨x, y, ok2, K⟩ : ∃ x y ok, relat a = ((x, y), ok) := ⟨_, _, _, rfl⟩
  have H1 := Lib.hid H
  have H2 := Lib.hid K
  clear H K
  go_enter Try.func8, Try.ntmps8
  go_wp2_with fail
  refine (dAbsolute_c _ _ _ _ H1 _).mono ?_
  rintro e1 w1 ⟨rfl, rfl⟩
  go_wp2_with fail
  refine (rAbsolute_c _ _ _ _ H1 _).mono ?_
  rintro e2 w2 ⟨rfl, rfl⟩
  go_wp2_with fail
  refine (relative_c _ _ _ _ H2 _).mono ?_
  rintro e3 w3 ⟨rfl, rfl⟩
  go_wp2_with fail
  refine (rRelative_c _ _ _ _ H2 ha _).mono ?_
  rintro e4 w4 ⟨rfl, rfl⟩
  go_wp2_with fail
  refine (example_c _).mono ?_
  rintro e5 w5 ⟨rfl, b5⟩
  go_wp2
  go_ret
  exact ⟨rfl, b5⟩

set_option maxRecDepth 100000 in
set_option maxHeartbeats 4000000 in
theorem stamps_w (a : Int) (ha : a ≤ 9223372036854775807) (w : World) : Calls Try.prog 9 #[.int .i64 a] w fun r w' => r = .returned (.bool true) ∧ Bl w w' := by
  obtain ⟨l, e, H⟩ : ∃ l e, mfmt a = (l, e) := ⟨_, _, rfl⟩
  have H1 := Lib.hid H
  clear H
  go_enter Try.func9, Try.ntmps9
  go_wp2_with fail
  refine (dStamp_c _ _ _ H1 _).mono ?_
  rintro e1 w1 ⟨rfl, b1⟩
  go_wp2_with fail
  refine (rStamp_c _ _ _ H1 ha _).mono ?_
  rintro e2 w2 ⟨rfl, b2⟩
  have c2 := bl_next b1 b2
  go_wp2_with fail
  refine (example_c _).mono ?_
  rintro e3 w3 ⟨rfl, b3⟩
  have c3 := bl_next c2 b3
  go_wp2
  go_ret
  exact ⟨rfl, c3⟩

set_option maxRecDepth 100000 in
set_option maxHeartbeats 4000000 in
theorem parses_yes (s : ByteArray) (h : s.size ≤ 4096) (w : World) : Calls Try.prog 7 #[.string s] w fun r w' => r = .returned (.bool true) ∧ Bl w w' := by
  obtain ⟨n, e, H1⟩ := day_some s.data.toList
  have hi : (s.size : Int) ≤ 4096 := by omega
  have hs0 := Lib.hid (show s.size ≤ 9223372036854775807 by omega)
  have q : ((4096 : Int) < (s.size : Int)) = False := eq_false (by omega)
  go_enter Try.func7, Try.ntmps7
  go_wp2_with fail
  refine (dParse_c _ _ _ H1 _).mono ?_
  rintro e1 w1 ⟨rfl, b1⟩
  go_wp2_with fail
  refine (rParse_c _ _ _ H1 _).mono ?_
  rintro e2 w2 ⟨rfl, b2⟩
  have c2 := bl_next b1 b2
  go_wp2_with fail
  refine (example_c _).mono ?_
  rintro e3 w3 ⟨rfl, b3⟩
  have c3 := bl_next c2 b3
  go_wp2
  go_ret
  exact ⟨rfl, c3⟩

set_option maxRecDepth 100000 in
set_option maxHeartbeats 4000000 in
theorem parses_no (s : ByteArray) (hs : s.size ≤ 9223372036854775807) (h : ¬ s.size ≤ 4096) (w : World) : Calls Try.prog 7 #[.string s] w fun r w' => r = .returned (.bool true) ∧ Bl w w' := by
  have hi : (4096 : Int) < (s.size : Int) := by omega
  clear h
  go_enter Try.func7, Try.ntmps7
  go_wp2_with fail
  refine (example_c _).mono ?_
  rintro e1 w1 ⟨rfl, b1⟩
  go_wp2
  go_ret
  exact ⟨rfl, b1⟩

theorem parses_law (s : ByteArray) (hs : s.size ≤ maxLen) (w : World) : Calls Try.prog 7 #[.string s] w fun r w' => r = .returned (.bool true) ∧ Bl w w' := by
  unfold maxLen at hs
  by_cases h : s.size ≤ 4096
  · exact parses_yes s h w
  · exact parses_no s hs h w

set_option maxRecDepth 100000 in
set_option maxHeartbeats 4000000 in
theorem reads_yes (s : ByteArray) (h : s.size ≤ 4096) (w : World) : Calls Try.prog 10 #[.string s] w fun r w' => r = .returned (.bool true) ∧ Bl w w' := by
  obtain ⟨n, e, H1⟩ := mom_some s.data.toList
  have hi : (s.size : Int) ≤ 4096 := by omega
  have hs0 := Lib.hid (show s.size ≤ 9223372036854775807 by omega)
  have q : ((4096 : Int) < (s.size : Int)) = False := eq_false (by omega)
  go_enter Try.func10, Try.ntmps10
  go_wp2_with fail
  refine (dMom_c _ _ _ H1 hs0.out _).mono ?_
  rintro e1 w1 ⟨rfl, b1⟩
  go_wp2_with fail
  refine (rMom_c _ _ _ H1 _).mono ?_
  rintro e2 w2 ⟨rfl, b2⟩
  have c2 := bl_next b1 b2
  go_wp2_with fail
  refine (example_c _).mono ?_
  rintro e3 w3 ⟨rfl, b3⟩
  have c3 := bl_next c2 b3
  go_wp2
  go_ret
  exact ⟨rfl, c3⟩

set_option maxRecDepth 100000 in
set_option maxHeartbeats 4000000 in
theorem reads_no (s : ByteArray) (hs : s.size ≤ 9223372036854775807) (h : ¬ s.size ≤ 4096) (w : World) : Calls Try.prog 10 #[.string s] w fun r w' => r = .returned (.bool true) ∧ Bl w w' := by
  have hi : (4096 : Int) < (s.size : Int) := by omega
  clear h
  go_enter Try.func10, Try.ntmps10
  go_wp2_with fail
  refine (example_c _).mono ?_
  rintro e1 w1 ⟨rfl, b1⟩
  go_wp2
  go_ret
  exact ⟨rfl, b1⟩

theorem reads_law (s : ByteArray) (hs : s.size ≤ maxLen) (w : World) : Calls Try.prog 10 #[.string s] w fun r w' => r = .returned (.bool true) ∧ Bl w w' := by
  unfold maxLen at hs
  by_cases h : s.size ≤ 4096
  · exact reads_yes s h w
  · exact reads_no s hs h w

def isInt (x : Int) : Prop := -9223372036854775808 ≤ x ∧ x ≤ 9223372036854775807
theorem moments_law (d t a : Int) (ha : isInt a) (w : World) : Calls Try.prog 8 #[.int .i64 d, .int .i64 t, .int .i64 a] w fun r w' => r = .returned (.bool true) ∧ Bl w w' := moments_w d t a ha.2 w
theorem stamps_law (a : Int) (ha : isInt a) (w : World) : Calls Try.prog 9 #[.int .i64 a] w fun r w' => r = .returned (.bool true) ∧ Bl w w' := stamps_w a ha.2 w
end Go.Proofs.Ytlkkkdflafikaaa
