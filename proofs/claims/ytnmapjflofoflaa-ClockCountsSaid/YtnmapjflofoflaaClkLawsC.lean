/-
  THE WALK OF ClockCounts. Conditions: bytealg.MaxLen's cell holds an integer.
-/
import Derived.Test.YtnmapjflofoflaaClkLawsA
namespace Go.Proofs.Ytnmapjflofoflaa
open Go.RowKit
open Num Clk

set_option maxHeartbeats 4000000 in
theorem counts_law (t : Int) (ml : Int) (w : World) (hm : Ml ml w) : Calls Try.prog 8 #[.int .i64 t] w fun r w' => r = .returned (.bool true) ∧ Bl w w' := by
  by_cases h0 : 0 ≤ t
  · by_cases h1 : t < 172800
    · have q0 : decide (t < 0) = false := decide_eq_false (by omega)
      have q1 : decide (172800 ≤ t) = false := decide_eq_false (by omega)
      have h2 : t ≤ 172800 := by omega
      have h3 : 0 ≤ t + 1 := by omega
      have h4 : t + 1 ≤ 172800 := by omega
      have E := IntWalk.i64_in (t + 1) (by omega)
      by_cases c1 : t % 60 < 59
      · have E2 := IntWalk.i64_in (t % 60 + 1) (by omega)
        have q2 : ((t + 1) / 3600 == t / 3600) = true := by rw [beq_iff_eq]; omega
        have q3 : ((t + 1) % 3600 / 60 == t % 3600 / 60) = true := by rw [beq_iff_eq]; omega
        have q4 : ((t + 1) % 60 == t % 60 + 1) = true := by rw [beq_iff_eq]; omega
        go_enter Try.func8, Try.ntmps8
        go_wp2_with fail
        refine (split_yes t h0 h2 _).mono ?_
        rintro e w1 ⟨rfl, rfl⟩
        go_wp2_with fail
        refine (split_yes (t + 1) h3 h4 _).mono ?_
        rintro e w1 ⟨rfl, rfl⟩
        go_wp2_with fail
        refine (example_c ml _ hm).mono ?_
        rintro e w3 ⟨rfl, b9⟩
        go_wp2
        go_ret
        exact ⟨rfl, b9⟩
      · by_cases c2 : t % 3600 / 60 < 59
        · have E2 := IntWalk.i64_in (t % 3600 / 60 + 1) (by omega)
          have q2 : ((t + 1) / 3600 == t / 3600) = true := by rw [beq_iff_eq]; omega
          have q3 : ((t + 1) % 3600 / 60 == t % 3600 / 60 + 1) = true := by rw [beq_iff_eq]; omega
          have q4 : ((t + 1) % 60 == 0) = true := by rw [beq_iff_eq]; omega
          have q5 : (t % 60 == 59) = true := by rw [beq_iff_eq]; omega
          go_enter Try.func8, Try.ntmps8
          go_wp2_with fail
          refine (split_yes t h0 h2 _).mono ?_
          rintro e w1 ⟨rfl, rfl⟩
          go_wp2_with fail
          refine (split_yes (t + 1) h3 h4 _).mono ?_
          rintro e w1 ⟨rfl, rfl⟩
          go_wp2_with fail
          refine (example_c ml _ hm).mono ?_
          rintro e w3 ⟨rfl, b9⟩
          go_wp2
          go_ret
          exact ⟨rfl, b9⟩
        · have E2 := IntWalk.i64_in (t / 3600 + 1) (by omega)
          have q2 : ((t + 1) / 3600 == t / 3600 + 1) = true := by rw [beq_iff_eq]; omega
          have q3 : ((t + 1) % 3600 / 60 == 0) = true := by rw [beq_iff_eq]; omega
          have q4 : ((t + 1) % 60 == 0) = true := by rw [beq_iff_eq]; omega
          have q5 : (t % 60 == 59) = true := by rw [beq_iff_eq]; omega
          have q6 : (t % 3600 / 60 == 59) = true := by rw [beq_iff_eq]; omega
          go_enter Try.func8, Try.ntmps8
          go_wp2_with fail
          refine (split_yes t h0 h2 _).mono ?_
          rintro e w1 ⟨rfl, rfl⟩
          go_wp2_with fail
          refine (split_yes (t + 1) h3 h4 _).mono ?_
          rintro e w1 ⟨rfl, rfl⟩
          go_wp2_with fail
          refine (example_c ml _ hm).mono ?_
          rintro e w3 ⟨rfl, b9⟩
          go_wp2
          go_ret
          exact ⟨rfl, b9⟩
    · have q0 : decide (t < 0) = false := decide_eq_false (by omega)
      have q1 : decide (172800 ≤ t) = true := decide_eq_true (by omega)
      go_enter Try.func8, Try.ntmps8
      go_wp2_with fail
      refine (example_c ml _ hm).mono ?_
      rintro e w3 ⟨rfl, b9⟩
      go_wp2
      go_ret
      exact ⟨rfl, b9⟩
  · have q0 : decide (t < 0) = true := decide_eq_true (by omega)
    go_enter Try.func8, Try.ntmps8
    go_wp2_with fail
    refine (example_c ml _ hm).mono ?_
    rintro e w3 ⟨rfl, b9⟩
    go_wp2
    go_ret
    exact ⟨rfl, b9⟩
end Go.Proofs.Ytnmapjflofoflaa
