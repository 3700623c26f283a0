/-
  THE CONTRACTS OF NUMBER, NINTH PART: DivFloor. Conditions: those of each contract.
-/
import Derived.Test.YtekhdcapiiecfaaNumWalksG
namespace Go.Proofs.Ytekhdcapiiecfaa
open Go.RowKit

theorem dvd_tmod (a b : Int) : b ∣ a ↔ a.tmod b = 0 := ⟨fun h => Int.tmod_eq_zero_of_dvd h, fun h => Int.dvd_of_tmod_eq_zero h⟩
theorem fdiv_same {a b : Int} (h : a.tmod b = 0) : a.fdiv b = a.tdiv b := by
  rw [Int.fdiv_eq_tdiv, if_pos ((dvd_tmod a b).2 h)]; omega
theorem fdiv_like {a b : Int} (h : (0 ≤ a ∧ 0 ≤ b) ∨ (a < 0 ∧ b < 0)) : a.fdiv b = a.tdiv b := by
  rw [Int.fdiv_eq_tdiv]
  by_cases hd : b ∣ a
  · rw [if_pos hd]; omega
  · rw [if_neg hd]
    rcases h with ⟨h1, h2⟩ | ⟨h1, h2⟩
    · rw [if_pos h1, if_pos h2]; omega
    · rw [if_neg (by omega), if_neg (by omega), Int.sign_eq_neg_one_of_neg h2]; omega
theorem fdiv_diff {a b : Int} (h : (0 ≤ a ∧ b < 0) ∨ (a < 0 ∧ 0 < b)) (hr : ¬ a.tmod b = 0) : a.fdiv b = a.tdiv b - 1 := by
  rw [Int.fdiv_eq_tdiv, if_neg (fun k => hr ((dvd_tmod a b).1 k))]
  rcases h with ⟨h1, h2⟩ | ⟨h1, h2⟩
  · rw [if_pos h1, if_neg (by omega)]
  · rw [if_neg (by omega), if_pos (by omega), Int.sign_eq_one_of_pos h2]
theorem tmod_neg {a b : Int} (h : a < 0) (hr : ¬ a.tmod b = 0) : a.tmod b < 0 := by
  obtain ⟨c, rfl⟩ : ∃ c, a = -c := ⟨-a, by omega⟩
  rw [Int.neg_tmod] at hr ⊢
  have := Int.tmod_nonneg (a := c) b (by omega)
  omega
theorem tdiv_bd (a b : Int) : (a.tdiv b).natAbs ≤ a.natAbs := by
  rw [Int.natAbs_tdiv]
  exact Nat.div_le_self _ _
theorem tdiv_half {a b : Int} (h : b ≤ -2 ∨ 2 ≤ b) : 2 * (a.tdiv b).natAbs ≤ a.natAbs := by
  rw [Int.natAbs_tdiv]
  show 2 * (a.natAbs / b.natAbs) ≤ a.natAbs
  have h2 : 2 ≤ b.natAbs := by omega
  have := Nat.div_le_div_left h2 (by decide : 0 < 2) (a := a.natAbs)
  omega

theorem tmod_one (a : Int) : a.tmod 1 = 0 := Int.tmod_eq_zero_of_dvd ⟨a, by omega⟩
/-- The quotient is an int; where there is a remainder it is not the least one. -/
theorem quot_int {a b : Int} (ha : isInt a) (hb1 : ¬ b = -1) (hb0 : ¬ b = 0) : (-9223372036854775808 ≤ a.tdiv b ∧ a.tdiv b ≤ 9223372036854775807) ∧ (¬ a.tmod b = 0 → -9223372036854775807 ≤ a.tdiv b ∧ a.tdiv b ≤ 9223372036854775807) := by
  obtain ⟨h0, h1⟩ := ha
  by_cases hb : b = 1
  · subst hb
    exact ⟨by rw [Int.tdiv_one]; omega, fun k => absurd (tmod_one a) k⟩
  · have := tdiv_half (a := a) (b := b) (by omega)
    exact ⟨by omega, fun _ => by omega⟩

/-- The quotient rounded down, if it is an int. -/
inductive Quot (a b : Int) : Int → Bool → Prop
  | no (h : b = 0 ∨ (b = -1 ∧ a = -9223372036854775808)) : Quot a b 0 false
  | yes (h0 : ¬ b = 0) (h : ¬ (b = -1 ∧ a = -9223372036854775808)) : Quot a b (a.fdiv b) true
theorem quot_some (a b : Int) : ∃ n ok, Quot a b n ok := by
  by_cases h : b = 0 ∨ (b = -1 ∧ a = -9223372036854775808)
  · exact ⟨_, _, .no h⟩
  · exact ⟨_, _, .yes (fun k => h (.inl k)) (fun k => h (.inr k))⟩
theorem ret2_int' {k : IntKind} {a b : Int} {x : Value} (h : a = b) : Ending.returned (.tuple #[.int k b, x]) = .returned (.tuple #[.int k a, x]) := by rw [h]
theorem fdiv_neg_one (a : Int) : a.fdiv (-1) = 0 - a := by
  rw [fdiv_same (Int.tmod_eq_zero_of_dvd ⟨-a, by omega⟩), Int.tdiv_neg, Int.tdiv_one]
  omega

set_option maxHeartbeats 4000000 in
theorem div_c (a b n : Int) (ok : Bool) (H : Quot a b n ok) (ha : isInt a) (hb : isInt b) (w : World) :
    Calls Try.prog 25 #[.int .i64 a, .int .i64 b] w fun r w' => r = .returned (.tuple #[.int .i64 n, .bool ok]) ∧ Bl w w' := by
  by_cases hb0 : b = 0
  · subst hb0
    obtain ⟨rfl, rfl⟩ : n = 0 ∧ ok = false := by
      cases H with
      | no h => exact ⟨rfl, rfl⟩
      | yes h0 h => exact absurd rfl h0
    go_enter Try.func25, Try.ntmps25
    go_wp2
    go_ret2
    exact ⟨rfl, bl_refl _⟩
  by_cases hb1 : b = -1
  · subst hb1
    have H2 : Sum (0 - a) n ok := by
      obtain ⟨h0, h1⟩ := ha
      cases H with
      | no h => exact .no (by unfold isInt; omega)
      | yes h0 h => rw [fdiv_neg_one]; exact .yes (by unfold isInt; omega)
    go_enter Try.func25, Try.ntmps25
    go_wp2_with (go_at_call 24; refine (sub_c _ _ _ _ H2 (by unfold isInt; omega) ha _).mono ?_; rintro e w1 ⟨rfl, hbl⟩)
    go_ret2
    exact ⟨rfl, hbl⟩
  obtain ⟨hn, rfl⟩ : n = a.fdiv b ∧ ok = true := by
    cases H with
    | no h => exact absurd h (by omega)
    | yes h0 h => exact ⟨rfl, rfl⟩
  obtain ⟨hq, hq2⟩ := quot_int ha hb1 hb0
  obtain ⟨a0, a1⟩ := ha
  obtain ⟨b0, b1⟩ := hb
  have h1 : (b == 0) = false := by simpa using hb0
  have h2 : (b == -1) = false := by simpa using hb1
  rcases (show (0 ≤ a ∧ 0 < b) ∨ (0 ≤ a ∧ b < 0) ∨ (a < 0 ∧ 0 < b) ∨ (a < 0 ∧ b < 0) by omega) with ⟨k1, k2⟩ | ⟨k1, k2⟩ | ⟨k1, k2⟩ | ⟨k1, k2⟩
  · by_cases hr : a.tmod b = 0
    · have HN := Lib.hid (show n = a / b by rw [hn, fdiv_same hr, Int.tdiv_eq_ediv_of_nonneg k1])
      have hr1 : (a % b == 0) = true := by rw [← Int.tmod_eq_emod_of_nonneg k1, hr]; rfl
      have hr2 : (a % b != 0) = false := by simp only [bne, hr1]; rfl
      have da : decide (a < 0) = false := decide_eq_false (by omega)
      have db : decide (b < 0) = false := decide_eq_false (by omega)
      have q0 : -9223372036854775808 ≤ a / b ∧ a / b ≤ 9223372036854775807 := by rw [← Int.tdiv_eq_ediv_of_nonneg k1]; exact hq
      clear hn hr hq
      go_enter Try.func25, Try.ntmps25
      go_wp2
      go_ret2
      exact ⟨ret2_int' (by rw [HN.out]), (by repeat (first | exact bl_refl _ | refine bl_drew ?_ | refine bl_drewN ?_ _ | refine bl_alloc ?_ _))⟩
    · have HN := Lib.hid (show n = a / b by rw [hn, fdiv_like (by omega), Int.tdiv_eq_ediv_of_nonneg k1])
      have hr1 : (a % b == 0) = false := by rw [← Int.tmod_eq_emod_of_nonneg k1]; simpa using hr
      have hr2 : (a % b != 0) = true := by simp only [bne, hr1]; rfl
      have da : decide (a < 0) = false := decide_eq_false (by omega)
      have db : decide (b < 0) = false := decide_eq_false (by omega)
      have q0 : -9223372036854775807 ≤ a / b ∧ a / b ≤ 9223372036854775807 := by rw [← Int.tdiv_eq_ediv_of_nonneg k1]; have := hq2 hr; omega
      clear hn hr hq
      go_enter Try.func25, Try.ntmps25
      go_wp2
      go_ret2
      exact ⟨ret2_int' (by rw [HN.out]), (by repeat (first | exact bl_refl _ | refine bl_drew ?_ | refine bl_drewN ?_ _ | refine bl_alloc ?_ _))⟩
  · by_cases hr : a.tmod b = 0
    · have HN := Lib.hid (show n = a.tdiv b by rw [hn, fdiv_same hr])
      have hr1 : (a % b == 0) = true := by rw [← Int.tmod_eq_emod_of_nonneg k1, hr]; rfl
      have hr2 : (a % b != 0) = false := by simp only [bne, hr1]; rfl
      have da : decide (a < 0) = false := decide_eq_false (by omega)
      have db : decide (b < 0) = true := decide_eq_true k2
      have q0 : -9223372036854775808 ≤ a.tdiv b ∧ a.tdiv b ≤ 9223372036854775807 := by exact hq
      clear hn hr hq
      go_enter Try.func25, Try.ntmps25
      go_wp2
      go_ret2
      exact ⟨ret2_int' (by rw [HN.out]), (by repeat (first | exact bl_refl _ | refine bl_drew ?_ | refine bl_drewN ?_ _ | refine bl_alloc ?_ _))⟩
    · have HN := Lib.hid (show n = a.tdiv b - 1 by rw [hn, fdiv_diff (by omega) hr])
      have hr1 : (a % b == 0) = false := by rw [← Int.tmod_eq_emod_of_nonneg k1]; simpa using hr
      have hr2 : (a % b != 0) = true := by simp only [bne, hr1]; rfl
      have da : decide (a < 0) = false := decide_eq_false (by omega)
      have db : decide (b < 0) = true := decide_eq_true k2
      have q0 : -9223372036854775807 ≤ a.tdiv b ∧ a.tdiv b ≤ 9223372036854775807 := by have := hq2 hr; omega
      clear hn hr hq
      go_enter Try.func25, Try.ntmps25
      go_wp2
      go_ret2
      exact ⟨ret2_int' (by rw [HN.out]), (by repeat (first | exact bl_refl _ | refine bl_drew ?_ | refine bl_drewN ?_ _ | refine bl_alloc ?_ _))⟩
  · by_cases hr : a.tmod b = 0
    · have HN := Lib.hid (show n = a.tdiv b by rw [hn, fdiv_same hr])
      have hr1 : (a.tmod b == 0) = true := by rw [hr]; rfl
      have hr2 : (a.tmod b != 0) = false := by simp only [bne, hr1]; rfl
      have da : decide (a < 0) = true := decide_eq_true k1
      have db : decide (b < 0) = false := decide_eq_false (by omega)
      have q0 : -9223372036854775808 ≤ a.tdiv b ∧ a.tdiv b ≤ 9223372036854775807 := by exact hq
      clear hn hr hq
      go_enter Try.func25, Try.ntmps25
      go_wp2
      go_ret2
      exact ⟨ret2_int' (by rw [HN.out]), (by repeat (first | exact bl_refl _ | refine bl_drew ?_ | refine bl_drewN ?_ _ | refine bl_alloc ?_ _))⟩
    · have HN := Lib.hid (show n = a.tdiv b - 1 by rw [hn, fdiv_diff (by omega) hr])
      have hr1 : (a.tmod b == 0) = false := by simpa using hr
      have hr2 : (a.tmod b != 0) = true := by simp only [bne, hr1]; rfl
      have da : decide (a < 0) = true := decide_eq_true k1
      have db : decide (b < 0) = false := decide_eq_false (by omega)
      have q0 : -9223372036854775807 ≤ a.tdiv b ∧ a.tdiv b ≤ 9223372036854775807 := by have := hq2 hr; omega
      clear hn hr hq
      go_enter Try.func25, Try.ntmps25
      go_wp2
      go_ret2
      exact ⟨ret2_int' (by rw [HN.out]), (by repeat (first | exact bl_refl _ | refine bl_drew ?_ | refine bl_drewN ?_ _ | refine bl_alloc ?_ _))⟩
  · by_cases hr : a.tmod b = 0
    · have HN := Lib.hid (show n = a.tdiv b by rw [hn, fdiv_same hr])
      have hr1 : (a.tmod b == 0) = true := by rw [hr]; rfl
      have hr2 : (a.tmod b != 0) = false := by simp only [bne, hr1]; rfl
      have da : decide (a < 0) = true := decide_eq_true k1
      have db : decide (b < 0) = true := decide_eq_true k2
      have q0 : -9223372036854775808 ≤ a.tdiv b ∧ a.tdiv b ≤ 9223372036854775807 := by exact hq
      clear hn hr hq
      go_enter Try.func25, Try.ntmps25
      go_wp2
      go_ret2
      exact ⟨ret2_int' (by rw [HN.out]), (by repeat (first | exact bl_refl _ | refine bl_drew ?_ | refine bl_drewN ?_ _ | refine bl_alloc ?_ _))⟩
    · have HN := Lib.hid (show n = a.tdiv b by rw [hn, fdiv_like (by omega)])
      have hr1 : (a.tmod b == 0) = false := by simpa using hr
      have hr2 : (a.tmod b != 0) = true := by simp only [bne, hr1]; rfl
      have da : decide (a < 0) = true := decide_eq_true k1
      have db : decide (b < 0) = true := decide_eq_true k2
      have q0 : -9223372036854775807 ≤ a.tdiv b ∧ a.tdiv b ≤ 9223372036854775807 := by have := hq2 hr; omega
      clear hn hr hq
      go_enter Try.func25, Try.ntmps25
      go_wp2
      go_ret2
      exact ⟨ret2_int' (by rw [HN.out]), (by repeat (first | exact bl_refl _ | refine bl_drew ?_ | refine bl_drewN ?_ _ | refine bl_alloc ?_ _))⟩

set_option maxHeartbeats 8000000 in
theorem refDiv_c (a b n : Int) (ok : Bool) (H : Quot a b n ok) (ha : isInt a) (hb : isInt b) (w : World) :
    Calls Try.prog 30 #[.int .i64 a, .int .i64 b] w fun r w' => r = .returned (.tuple #[.int .i64 n, .bool ok]) ∧ Bl w w' := by
  have hm : (a == -9223372036854775808) = true ∨ (a == -9223372036854775808) = false := by cases (a == -9223372036854775808) <;> simp
  by_cases hb0 : b = 0
  · subst hb0
    obtain ⟨rfl, rfl⟩ : n = 0 ∧ ok = false := by
      cases H with
      | no h => exact ⟨rfl, rfl⟩
      | yes h0 h => exact absurd rfl h0
    clear hm
    go_enter Try.func30, Try.ntmps30
    go_wp2
    go_ret2
    exact ⟨rfl, bl_refl _⟩
  by_cases hb1 : b = -1
  · subst hb1
    by_cases hm1 : a = -9223372036854775808
    · subst hm1
      obtain ⟨rfl, rfl⟩ : n = 0 ∧ ok = false := by
        cases H with
        | no h => exact ⟨rfl, rfl⟩
        | yes h0 h => exact absurd ⟨rfl, rfl⟩ h
      clear hm
      go_enter Try.func30, Try.ntmps30
      go_wp2
      go_ret2
      exact ⟨rfl, bl_refl _⟩
    · obtain ⟨hn, rfl⟩ : n = a.tdiv (-1) ∧ ok = true := by
        cases H with
        | no h => exact absurd h (by omega)
        | yes h0 h => exact ⟨fdiv_same (Int.tmod_eq_zero_of_dvd ⟨-a, by omega⟩), rfl⟩
      have hq : -9223372036854775808 ≤ a.tdiv (-1) ∧ a.tdiv (-1) ≤ 9223372036854775807 := by
        obtain ⟨h0, h1⟩ := ha
        rw [Int.tdiv_neg, Int.tdiv_one]
        omega
      have hr : a.tmod (-1) = 0 := Int.tmod_eq_zero_of_dvd ⟨-a, by omega⟩
      have hm2 : (a == -9223372036854775808) = false := by simpa using hm1
      have HN := Lib.hid hn
      have E1 := Lib.hid (IntWalk.i64_in (a.tdiv (-1)) hq)
      have HR := Lib.hid hr
      clear hn hm hm1 hr hq
      go_enter Try.func30, Try.ntmps30
      go_wp2
      have e1 := E1.out
      have hr := HR.out
      go_quiet (fail)
      clear e1
      go_wp2
      go_ret2
      exact ⟨ret2_int' (by
        rw [HN.out, Int.tdiv_neg, Int.tdiv_one, IntWalk.wrap64_in]
        obtain ⟨h0, h1⟩ := ha
        have : ¬ a = -9223372036854775808 := by simpa using hm2
        omega), by repeat (first | exact bl_refl _ | refine bl_drew ?_ | refine bl_drewN ?_ _ | refine bl_alloc ?_ _)⟩
  obtain ⟨hn, rfl⟩ : n = a.fdiv b ∧ ok = true := by
    cases H with
    | no h => exact absurd h (by omega)
    | yes h0 h => exact ⟨rfl, rfl⟩
  obtain ⟨hq, hq2⟩ := quot_int ha hb1 hb0
  obtain ⟨a0, a1⟩ := ha
  obtain ⟨b0, b1⟩ := hb
  have h1 : (b == 0) = false := by simpa using hb0
  have h2 : (b == -1) = false := by simpa using hb1
  rcases (show (0 ≤ a ∧ 0 < b) ∨ (0 ≤ a ∧ b < 0) ∨ (a < 0 ∧ 0 < b) ∨ (a < 0 ∧ b < 0) by omega) with ⟨k1, k2⟩ | ⟨k1, k2⟩ | ⟨k1, k2⟩ | ⟨k1, k2⟩
  · by_cases hr : a.tmod b = 0
    · have HN := Lib.hid (show n = a.tdiv b by rw [hn, fdiv_same hr])
      have hr1 : (a % b == 0) = true := by rw [← Int.tmod_eq_emod_of_nonneg k1]; rw [hr]; rfl
      have hr2 : (a % b != 0) = false := by simp only [bne, hr1]; rfl
      have db : decide (b < 0) = false := decide_eq_false (by omega)
      have dr : decide (a % b < 0) = false := by exact decide_eq_false (by have := Int.emod_nonneg a hb0; omega)
      have hr3 : 0 ≤ a % b := by exact Int.emod_nonneg a hb0
      have q0 : -9223372036854775808 ≤ a.tdiv b ∧ a.tdiv b ≤ 9223372036854775807 := by exact hq
      have E1 := Lib.hid (IntWalk.i64_in (a.tdiv b) (by omega))
      
      clear hn hr hq hq2 
      rcases hm with hm | hm
      all_goals
        go_enter Try.func30, Try.ntmps30
        go_wp2
        have e1 := E1.out
        go_quiet (fail)
        clear e1
        go_wp2
        go_ret2
        exact ⟨ret2_int' (by rw [HN.out]), (by repeat (first | exact bl_refl _ | refine bl_drew ?_ | refine bl_drewN ?_ _ | refine bl_alloc ?_ _))⟩
    · have HN := Lib.hid (show n = a.tdiv b by rw [hn, fdiv_like (by omega)])
      have hr1 : (a % b == 0) = false := by rw [← Int.tmod_eq_emod_of_nonneg k1]; simpa using hr
      have hr2 : (a % b != 0) = true := by simp only [bne, hr1]; rfl
      have db : decide (b < 0) = false := decide_eq_false (by omega)
      have dr : decide (a % b < 0) = false := by exact decide_eq_false (by have := Int.emod_nonneg a hb0; omega)
      have hr3 : 0 ≤ a % b := by exact Int.emod_nonneg a hb0
      have q0 : -9223372036854775807 ≤ a.tdiv b ∧ a.tdiv b ≤ 9223372036854775807 := by have := hq2 hr; omega
      have E1 := Lib.hid (IntWalk.i64_in (a.tdiv b) (by omega))
      
      clear hn hr hq hq2 
      rcases hm with hm | hm
      all_goals
        go_enter Try.func30, Try.ntmps30
        go_wp2
        have e1 := E1.out
        go_quiet (fail)
        clear e1
        go_wp2
        go_ret2
        exact ⟨ret2_int' (by rw [HN.out]), (by repeat (first | exact bl_refl _ | refine bl_drew ?_ | refine bl_drewN ?_ _ | refine bl_alloc ?_ _))⟩
  · by_cases hr : a.tmod b = 0
    · have HN := Lib.hid (show n = a.tdiv b by rw [hn, fdiv_same hr])
      have hr1 : (a % b == 0) = true := by rw [← Int.tmod_eq_emod_of_nonneg k1]; rw [hr]; rfl
      have hr2 : (a % b != 0) = false := by simp only [bne, hr1]; rfl
      have db : decide (b < 0) = true := decide_eq_true k2
      have dr : decide (a % b < 0) = false := by exact decide_eq_false (by have := Int.emod_nonneg a hb0; omega)
      have hr3 : 0 ≤ a % b := by exact Int.emod_nonneg a hb0
      have q0 : -9223372036854775808 ≤ a.tdiv b ∧ a.tdiv b ≤ 9223372036854775807 := by exact hq
      have E1 := Lib.hid (IntWalk.i64_in (a.tdiv b) (by omega))
      
      clear hn hr hq hq2 
      rcases hm with hm | hm
      all_goals
        go_enter Try.func30, Try.ntmps30
        go_wp2
        have e1 := E1.out
        go_quiet (fail)
        clear e1
        go_wp2
        go_ret2
        exact ⟨ret2_int' (by rw [HN.out]), (by repeat (first | exact bl_refl _ | refine bl_drew ?_ | refine bl_drewN ?_ _ | refine bl_alloc ?_ _))⟩
    · have HN := Lib.hid (show n = a.tdiv b - 1 by rw [hn, fdiv_diff (by omega) hr])
      have hr1 : (a % b == 0) = false := by rw [← Int.tmod_eq_emod_of_nonneg k1]; simpa using hr
      have hr2 : (a % b != 0) = true := by simp only [bne, hr1]; rfl
      have db : decide (b < 0) = true := decide_eq_true k2
      have dr : decide (a % b < 0) = false := by exact decide_eq_false (by have := Int.emod_nonneg a hb0; omega)
      have hr3 : 0 ≤ a % b := by exact Int.emod_nonneg a hb0
      have q0 : -9223372036854775807 ≤ a.tdiv b ∧ a.tdiv b ≤ 9223372036854775807 := by have := hq2 hr; omega
      have E1 := Lib.hid (IntWalk.i64_in (a.tdiv b) (by omega))
      
      clear hn hr hq hq2 
      rcases hm with hm | hm
      all_goals
        go_enter Try.func30, Try.ntmps30
        go_wp2
        have e1 := E1.out
        go_quiet (fail)
        clear e1
        go_wp2
        go_ret2
        exact ⟨ret2_int' (by rw [HN.out]), (by repeat (first | exact bl_refl _ | refine bl_drew ?_ | refine bl_drewN ?_ _ | refine bl_alloc ?_ _))⟩
  · by_cases hr : a.tmod b = 0
    · have HN := Lib.hid (show n = a.tdiv b by rw [hn, fdiv_same hr])
      have hr1 : (a.tmod b == 0) = true := by rw [hr]; rfl
      have hr2 : (a.tmod b != 0) = false := by simp only [bne, hr1]; rfl
      have db : decide (b < 0) = false := decide_eq_false (by omega)
      have dr : decide (a.tmod b < 0) = false := by rw [hr]; rfl
      have hr3 : a.tmod b = 0 := by exact hr
      have q0 : -9223372036854775808 ≤ a.tdiv b ∧ a.tdiv b ≤ 9223372036854775807 := by exact hq
      have E1 := Lib.hid (IntWalk.i64_in (a.tdiv b) (by omega))
      have HR3 := Lib.hid hr3
      clear hn hr hq hq2 hr3
      rcases hm with hm | hm
      all_goals
        go_enter Try.func30, Try.ntmps30
        go_wp2
        have e1 := E1.out
        go_quiet (fail)
        clear e1
        go_wp2
        go_ret2
        exact ⟨ret2_int' (by rw [HN.out]), (by repeat (first | exact bl_refl _ | refine bl_drew ?_ | refine bl_drewN ?_ _ | refine bl_alloc ?_ _))⟩
    · have HN := Lib.hid (show n = a.tdiv b - 1 by rw [hn, fdiv_diff (by omega) hr])
      have hr1 : (a.tmod b == 0) = false := by simpa using hr
      have hr2 : (a.tmod b != 0) = true := by simp only [bne, hr1]; rfl
      have db : decide (b < 0) = false := decide_eq_false (by omega)
      have dr : decide (a.tmod b < 0) = true := by exact decide_eq_true (tmod_neg k1 hr)
      have hr3 : a.tmod b < 0 := by exact tmod_neg k1 hr
      have q0 : -9223372036854775807 ≤ a.tdiv b ∧ a.tdiv b ≤ 9223372036854775807 := by have := hq2 hr; omega
      have E1 := Lib.hid (IntWalk.i64_in (a.tdiv b) (by omega))
      
      clear hn hr hq hq2 
      rcases hm with hm | hm
      all_goals
        go_enter Try.func30, Try.ntmps30
        go_wp2
        have e1 := E1.out
        go_quiet (fail)
        clear e1
        go_wp2
        go_ret2
        exact ⟨ret2_int' (by rw [HN.out]), (by repeat (first | exact bl_refl _ | refine bl_drew ?_ | refine bl_drewN ?_ _ | refine bl_alloc ?_ _))⟩
  · by_cases hr : a.tmod b = 0
    · have HN := Lib.hid (show n = a.tdiv b by rw [hn, fdiv_same hr])
      have hr1 : (a.tmod b == 0) = true := by rw [hr]; rfl
      have hr2 : (a.tmod b != 0) = false := by simp only [bne, hr1]; rfl
      have db : decide (b < 0) = true := decide_eq_true k2
      have dr : decide (a.tmod b < 0) = false := by rw [hr]; rfl
      have hr3 : a.tmod b = 0 := by exact hr
      have q0 : -9223372036854775808 ≤ a.tdiv b ∧ a.tdiv b ≤ 9223372036854775807 := by exact hq
      have E1 := Lib.hid (IntWalk.i64_in (a.tdiv b) (by omega))
      have HR3 := Lib.hid hr3
      clear hn hr hq hq2 hr3
      rcases hm with hm | hm
      all_goals
        go_enter Try.func30, Try.ntmps30
        go_wp2
        have e1 := E1.out
        go_quiet (fail)
        clear e1
        go_wp2
        go_ret2
        exact ⟨ret2_int' (by rw [HN.out]), (by repeat (first | exact bl_refl _ | refine bl_drew ?_ | refine bl_drewN ?_ _ | refine bl_alloc ?_ _))⟩
    · have HN := Lib.hid (show n = a.tdiv b by rw [hn, fdiv_like (by omega)])
      have hr1 : (a.tmod b == 0) = false := by simpa using hr
      have hr2 : (a.tmod b != 0) = true := by simp only [bne, hr1]; rfl
      have db : decide (b < 0) = true := decide_eq_true k2
      have dr : decide (a.tmod b < 0) = true := by exact decide_eq_true (tmod_neg k1 hr)
      have hr3 : a.tmod b < 0 := by exact tmod_neg k1 hr
      have q0 : -9223372036854775807 ≤ a.tdiv b ∧ a.tdiv b ≤ 9223372036854775807 := by have := hq2 hr; omega
      have E1 := Lib.hid (IntWalk.i64_in (a.tdiv b) (by omega))
      
      clear hn hr hq hq2 
      rcases hm with hm | hm
      all_goals
        go_enter Try.func30, Try.ntmps30
        go_wp2
        have e1 := E1.out
        go_quiet (fail)
        clear e1
        go_wp2
        go_ret2
        exact ⟨ret2_int' (by rw [HN.out]), (by repeat (first | exact bl_refl _ | refine bl_drew ?_ | refine bl_drewN ?_ _ | refine bl_alloc ?_ _))⟩

end Go.Proofs.Ytekhdcapiiecfaa
