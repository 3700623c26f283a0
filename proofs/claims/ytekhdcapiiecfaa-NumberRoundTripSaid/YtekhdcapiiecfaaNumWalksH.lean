/-
  THE CONTRACTS OF NUMBER, EIGHTH PART: Mul, DivFloor, the reference's size. Conditions: those of each contract.
-/
import Derived.Test.YtekhdcapiiecfaaNumWalksG
namespace Go.Proofs.Ytekhdcapiiecfaa
open Go.RowKit

/-! ### the plain arithmetic of products -/
/-- The bounds between which a factor lies. -/
theorem mul_pos (a b : Int) (hb : 0 < b) : (Int.tdiv (-9223372036854775808) b ≤ a ∧ a ≤ Int.tdiv 9223372036854775807 b) ↔ isInt (a * b) := by
  have e1 : Int.tdiv (-9223372036854775808) b = -(9223372036854775808 / b) := by
    rw [show (-9223372036854775808 : Int) = -(9223372036854775808) from rfl, Int.neg_tdiv, Int.tdiv_eq_ediv_of_nonneg (by decide)]
  have e2 : Int.tdiv 9223372036854775807 b = 9223372036854775807 / b := Int.tdiv_eq_ediv_of_nonneg (by decide)
  rw [e1, e2]
  have h1 : a ≤ 9223372036854775807 / b ↔ a * b ≤ 9223372036854775807 := Int.le_ediv_iff_mul_le hb
  have h2 : -a ≤ 9223372036854775808 / b ↔ -a * b ≤ 9223372036854775808 := Int.le_ediv_iff_mul_le hb
  rw [Int.neg_mul] at h2
  unfold isInt
  omega
theorem mul_neg (a b : Int) (hb : b < 0) : (Int.tdiv 9223372036854775807 b ≤ a ∧ a ≤ Int.tdiv (-9223372036854775808) b) ↔ isInt (a * b) := by
  obtain ⟨c, rfl⟩ : ∃ c, b = -c := ⟨-b, by omega⟩
  have hc : 0 < c := by omega
  have e1 : Int.tdiv 9223372036854775807 (-c) = -(9223372036854775807 / c) := by
    rw [Int.tdiv_neg, Int.tdiv_eq_ediv_of_nonneg (by decide)]
  have e2 : Int.tdiv (-9223372036854775808) (-c) = 9223372036854775808 / c := by
    rw [show (-9223372036854775808 : Int) = -(9223372036854775808) from rfl, Int.neg_tdiv, Int.tdiv_neg, Int.neg_neg, Int.tdiv_eq_ediv_of_nonneg (by decide)]
  rw [e1, e2]
  have h1 : -a ≤ 9223372036854775807 / c ↔ -a * c ≤ 9223372036854775807 := Int.le_ediv_iff_mul_le hc
  have h2 : a ≤ 9223372036854775808 / c ↔ a * c ≤ 9223372036854775808 := Int.le_ediv_iff_mul_le hc
  rw [Int.neg_mul] at h1
  rw [Int.mul_neg]
  unfold isInt
  omega

/-- The least product of absolute values that is too great. -/
theorem mul_abs (a b : Int) (hb : b ≠ 0) (m : Int) (hm : (m = 9223372036854775808 ∧ ((a < 0 ∧ ¬ b < 0) ∨ (¬ a < 0 ∧ b < 0))) ∨ (m = 9223372036854775807 ∧ ((a < 0 ∧ b < 0) ∨ (¬ a < 0 ∧ ¬ b < 0)))) :
    ¬ m / (b.natAbs : Int) < (a.natAbs : Int) ↔ isInt (a * b) := by
  have hp : (0 : Int) < (b.natAbs : Int) := by omega
  have h : (a.natAbs : Int) ≤ m / (b.natAbs : Int) ↔ (a.natAbs : Int) * (b.natAbs : Int) ≤ m := Int.le_ediv_iff_mul_le hp
  have key : ((a.natAbs : Int) * (b.natAbs : Int) = a * b ∧ ((a < 0 ∧ b < 0) ∨ (¬ a < 0 ∧ ¬ b < 0))) ∨ ((a.natAbs : Int) * (b.natAbs : Int) = -(a * b) ∧ ((a < 0 ∧ ¬ b < 0) ∨ (¬ a < 0 ∧ b < 0))) := by
    by_cases h1 : a < 0 <;> by_cases h2 : b < 0
    · left; rw [show (a.natAbs : Int) = -a by omega, show (b.natAbs : Int) = -b by omega, Int.neg_mul_neg]; simp [h1, h2]
    · right; rw [show (a.natAbs : Int) = -a by omega, show (b.natAbs : Int) = b by omega, Int.neg_mul]; simp [h1, h2]
    · right; rw [show (a.natAbs : Int) = a by omega, show (b.natAbs : Int) = -b by omega, Int.mul_neg]; simp [h1, h2]
    · left; rw [show (a.natAbs : Int) = a by omega, show (b.natAbs : Int) = b by omega]; simp [h1, h2]
  have hpos : 0 ≤ (a.natAbs : Int) * (b.natAbs : Int) := Int.mul_nonneg (by omega) (by omega)
  generalize (a.natAbs : Int) * (b.natAbs : Int) = x at *
  generalize a * b = y at *
  unfold isInt
  omega

theorem mul_pos' (a b : Int) (hb : 0 < b) : (wrap64 (-Int.tdiv 9223372036854775808 b) ≤ a ∧ a ≤ 9223372036854775807 / b) ↔ isInt (a * b) := by
  have e1 : Int.tdiv (-9223372036854775808) b = -Int.tdiv 9223372036854775808 b := Int.neg_tdiv _ _
  have e2 : Int.tdiv 9223372036854775807 b = 9223372036854775807 / b := Int.tdiv_eq_ediv_of_nonneg (by decide)
  have e3 : Int.tdiv 9223372036854775808 b = 9223372036854775808 / b := Int.tdiv_eq_ediv_of_nonneg (by decide)
  have h1 : 9223372036854775808 / b ≤ 9223372036854775808 := Int.ediv_le_self _ (by decide)
  have h2 : 0 ≤ 9223372036854775808 / b := Int.ediv_nonneg (by decide) (by omega)
  rw [← mul_pos a b hb, e1, e2, IntWalk.wrap64_in _ (by rw [e3]; omega)]
theorem mul_neg' (a b : Int) (hb : b ≤ -2) : (wrap64 (Int.tdiv 9223372036854775807 b) ≤ a ∧ a ≤ wrap64 (-Int.tdiv 9223372036854775808 b)) ↔ isInt (a * b) := by
  rw [← mul_neg a b (by omega)]
  obtain ⟨c, rfl⟩ : ∃ c, b = -c := ⟨-b, by omega⟩
  have e1 : Int.tdiv (-9223372036854775808) (-c) = -Int.tdiv 9223372036854775808 (-c) := Int.neg_tdiv _ _
  have e2 : Int.tdiv 9223372036854775807 (-c) = -(9223372036854775807 / c) := by rw [Int.tdiv_neg, Int.tdiv_eq_ediv_of_nonneg (by decide)]
  have e3 : Int.tdiv 9223372036854775808 (-c) = -(9223372036854775808 / c) := by rw [Int.tdiv_neg, Int.tdiv_eq_ediv_of_nonneg (by decide)]
  have h1 : 9223372036854775807 / c ≤ 9223372036854775807 := Int.ediv_le_self _ (by decide)
  have h2 : 0 ≤ 9223372036854775807 / c := Int.ediv_nonneg (by decide) (by omega)
  have h3 : 9223372036854775808 / c < 9223372036854775808 := Int.ediv_lt_of_lt_mul (by omega) (by omega)
  have h4 : 0 ≤ 9223372036854775808 / c := Int.ediv_nonneg (by decide) (by omega)
  rw [e1, IntWalk.wrap64_in (Int.tdiv 9223372036854775807 (-c)) (by rw [e2]; omega), IntWalk.wrap64_in (-Int.tdiv 9223372036854775808 (-c)) (by rw [e3]; omega)]
theorem sum_yes {r n : Int} {ok : Bool} (H : Sum r n ok) (h : isInt r) : n = wrap64 r ∧ ok = true := by
  cases H with
  | yes _ => exact ⟨(IntWalk.wrap64_in _ h).symm, rfl⟩
  | no k => exact absurd h k
theorem sum_no {r n : Int} {ok : Bool} (H : Sum r n ok) (h : ¬ isInt r) : n = 0 ∧ ok = false := by
  cases H with
  | yes k => exact absurd k h
  | no _ => exact ⟨rfl, rfl⟩
theorem not_dec {p : Prop} [Decidable p] (h : (!decide p) = true) : ¬ p := by simpa using h
theorem yes_dec {p : Prop} [Decidable p] (h : (!decide p) = false) : p := by simpa using h
theorem ret_sum {a b : Int} {x y : Bool} (h : b = a ∧ y = x) : Ending.returned (.tuple #[.int .i64 a, .bool x]) = .returned (.tuple #[.int .i64 b, .bool y]) := by rw [h.1, h.2]

/-! ### Mul -/
theorem between_c (lo hi : Int) (w : World) :
    Calls Try.prog 35 #[.int .i64 lo, .int .i64 hi] w fun r w' => r = .returned (.func (.func 37) #[] #[.pointer (some ⟨w.heap.size, 0, none⟩), .pointer (some ⟨w.heap.size + 1, 0, none⟩)]) ∧
      (w.alloc (.cells #[.int .i64 lo] 3)).alloc (.cells #[.int .i64 hi] 3) = w' := by
  have hmf : ∀ (fn : Fn) (first cap : Array Value) (w : World), (Instr.makeFunc fn first cap).run Try.prog w = .ok (.func fn first cap) w := fun _ _ _ _ => rfl
  go_enter Try.func35, Try.ntmps35
  go_wp2
  go_ret
  exact ⟨rfl, rfl⟩

set_option maxHeartbeats 2000000 in
theorem mul_c (a b n : Int) (ok : Bool) (H : Sum (a * b) n ok) (ha : isInt a) (hb : isInt b) (w : World) :
    Calls Try.prog 28 #[.int .i64 a, .int .i64 b] w fun r w' => r = .returned (.tuple #[.int .i64 n, .bool ok]) ∧ Bl w w' := by
  by_cases ha0 : a = 0
  · subst ha0
    rw [Int.zero_mul] at H
    obtain ⟨rfl, rfl⟩ : n = 0 ∧ ok = true := by
      cases H with
      | yes h => exact ⟨rfl, rfl⟩
      | no h => exact absurd (by unfold isInt; omega) h
    go_enter Try.func28, Try.ntmps28
    go_wp2
    go_ret2
    exact ⟨rfl, bl_refl _⟩
  by_cases hb0 : b = 0
  · subst hb0
    rw [Int.mul_zero] at H
    obtain ⟨rfl, rfl⟩ : n = 0 ∧ ok = true := by
      cases H with
      | yes h => exact ⟨rfl, rfl⟩
      | no h => exact absurd (by unfold isInt; omega) h
    have hab : (a == 0) = false := by simpa using ha0
    go_enter Try.func28, Try.ntmps28
    go_wp2
    go_ret2
    exact ⟨rfl, bl_refl _⟩
  have hab : (a == 0) = false := by simpa using ha0
  have hbb : (b == 0) = false := by simpa using hb0
  by_cases ha1 : a = -1
  · subst ha1
    rw [show (-1 : Int) * b = 0 - b by omega] at H
    go_enter Try.func28, Try.ntmps28
    go_wp2_with (go_at_call 24; refine (sub_c _ _ _ _ H (by unfold isInt; omega) hb _).mono ?_; rintro e w1 ⟨rfl, hbl⟩)
    go_ret2
    exact ⟨rfl, hbl⟩
  have ham : (a == -1) = false := by simpa using ha1
  by_cases hb1 : b = -1
  · subst hb1
    rw [show a * (-1 : Int) = 0 - a by omega] at H
    go_enter Try.func28, Try.ntmps28
    go_wp2_with (go_at_call 24; refine (sub_c _ _ _ _ H (by unfold isInt; omega) ha _).mono ?_; rintro e w1 ⟨rfl, hbl⟩)
    go_ret2
    exact ⟨rfl, hbl⟩
  have hbm : (b == -1) = false := by simpa using hb1
  by_cases hn : b < 0
  · have hb2 : b ≤ -2 := by omega
    go_enter Try.func28, Try.ntmps28
    go_wp2
    go_region_with (go_at_call 35; refine (between_c _ _ _).mono ?_; rintro e w1 ⟨rfl, rfl⟩)
    all_goals go_wp2
    all_goals go_region_with (go_at_call 35; refine (between_c _ _ _).mono ?_; rintro e w1 ⟨rfl, rfl⟩)
    all_goals go_wp2
    · have h1 : wrap64 (Int.tdiv 9223372036854775807 b) ≤ a := by assumption
      have h2 : (!decide (a ≤ wrap64 (-Int.tdiv 9223372036854775808 b))) = true := by assumption
      go_ret2
      exact ⟨ret_sum (sum_no H (fun k => not_dec h2 ((mul_neg' a b hb2).2 k).2)), (by repeat (first | exact bl_refl _ | refine bl_drew ?_ | refine bl_drewN ?_ _ | refine bl_alloc ?_ _))⟩
    · have h1 : wrap64 (Int.tdiv 9223372036854775807 b) ≤ a := by assumption
      have h2 : (!decide (a ≤ wrap64 (-Int.tdiv 9223372036854775808 b))) = false := by assumption
      go_ret2
      exact ⟨ret_sum (sum_yes H ((mul_neg' a b hb2).1 ⟨h1, yes_dec h2⟩)), (by repeat (first | exact bl_refl _ | refine bl_drew ?_ | refine bl_drewN ?_ _ | refine bl_alloc ?_ _))⟩
    · have h1 : a < wrap64 (Int.tdiv 9223372036854775807 b) := by assumption
      go_ret2
      exact ⟨ret_sum (sum_no H (fun k => by have := ((mul_neg' a b hb2).2 k).1; omega)), (by repeat (first | exact bl_refl _ | refine bl_drew ?_ | refine bl_drewN ?_ _ | refine bl_alloc ?_ _))⟩
  · have hb2 : 0 < b := by omega
    go_enter Try.func28, Try.ntmps28
    go_wp2
    go_region_with (go_at_call 35; refine (between_c _ _ _).mono ?_; rintro e w1 ⟨rfl, rfl⟩)
    all_goals go_wp2
    · have h1 : wrap64 (-Int.tdiv 9223372036854775808 b) ≤ a := by assumption
      have h2 : (!decide (a ≤ 9223372036854775807 / b)) = true := by assumption
      go_ret2
      exact ⟨ret_sum (sum_no H (fun k => not_dec h2 ((mul_pos' a b hb2).2 k).2)), (by repeat (first | exact bl_refl _ | refine bl_drew ?_ | refine bl_drewN ?_ _ | refine bl_alloc ?_ _))⟩
    · have h1 : wrap64 (-Int.tdiv 9223372036854775808 b) ≤ a := by assumption
      have h2 : (!decide (a ≤ 9223372036854775807 / b)) = false := by assumption
      go_ret2
      exact ⟨ret_sum (sum_yes H ((mul_pos' a b hb2).1 ⟨h1, yes_dec h2⟩)), (by repeat (first | exact bl_refl _ | refine bl_drew ?_ | refine bl_drewN ?_ _ | refine bl_alloc ?_ _))⟩
    · have h1 : a < wrap64 (-Int.tdiv 9223372036854775808 b) := by assumption
      go_ret2
      exact ⟨ret_sum (sum_no H (fun k => by have := ((mul_pos' a b hb2).2 k).1; omega)), (by repeat (first | exact bl_refl _ | refine bl_drew ?_ | refine bl_drewN ?_ _ | refine bl_alloc ?_ _))⟩

/-! ### the reference's Mul -/
theorem size_c (n : Int) (hn : isInt n) (w : World) :
    Calls Try.prog 36 #[.int .i64 n] w fun r w' => r = .returned (.int .u64 (n.natAbs : Int)) ∧ w = w' := by
  obtain ⟨h0, h1⟩ := hn
  by_cases hn : n < 0
  · have HA := Lib.hid (show (n.natAbs : Int) = -(n + 1) + 1 by omega)
    go_enter Try.func36, Try.ntmps36
    go_wp2
    go_ret
    exact ⟨ret_int (by rw [HA.out]), rfl⟩
  · have HA := Lib.hid (show (n.natAbs : Int) = n by omega)
    go_enter Try.func36, Try.ntmps36
    go_wp2
    go_ret
    exact ⟨ret_int (by rw [HA.out]), rfl⟩

set_option maxHeartbeats 2000000 in
theorem refMul_c (a b n : Int) (ok : Bool) (H : Sum (a * b) n ok) (ha : isInt a) (hb : isInt b) (w : World) :
    Calls Try.prog 29 #[.int .i64 a, .int .i64 b] w fun r w' => r = .returned (.tuple #[.int .i64 n, .bool ok]) ∧ Bl w w' := by
  by_cases ha0 : a = 0
  · subst ha0
    rw [Int.zero_mul] at H
    obtain ⟨rfl, rfl⟩ : n = 0 ∧ ok = true := by
      cases H with
      | yes h => exact ⟨rfl, rfl⟩
      | no h => exact absurd (by unfold isInt; omega) h
    go_enter Try.func29, Try.ntmps29
    go_wp2
    go_ret2
    exact ⟨rfl, bl_refl _⟩
  by_cases hb0 : b = 0
  · subst hb0
    rw [Int.mul_zero] at H
    obtain ⟨rfl, rfl⟩ : n = 0 ∧ ok = true := by
      cases H with
      | yes h => exact ⟨rfl, rfl⟩
      | no h => exact absurd (by unfold isInt; omega) h
    have hab : (a == 0) = false := by simpa using ha0
    go_enter Try.func29, Try.ntmps29
    go_wp2
    go_ret2
    exact ⟨rfl, bl_refl _⟩
  have hab : (a == 0) = false := by simpa using ha0
  have hbb : (b == 0) = false := by simpa using hb0
  have hA : (a.natAbs : Int) ≤ 9223372036854775808 := by obtain ⟨_, _⟩ := ha; omega
  have hB : (b.natAbs : Int) ≤ 9223372036854775808 := by obtain ⟨_, _⟩ := hb; omega
  have hB0 : 0 < b.natAbs := by omega
  have hM := fun m hm => Lib.hid (mul_abs a b hb0 m hm)
  rcases (show (a < 0 ∧ b < 0) ∨ (¬ a < 0 ∧ ¬ b < 0) ∨ (a < 0 ∧ ¬ b < 0) ∨ (¬ a < 0 ∧ b < 0) by omega) with ⟨k1, k2⟩ | ⟨k1, k2⟩ | ⟨k1, k2⟩ | ⟨k1, k2⟩
  · have HM := hM 9223372036854775807 (by omega)
    clear hM
    generalize hx : a.natAbs = x at *
    generalize hy : b.natAbs = y at *
    go_enter Try.func29, Try.ntmps29
    go_wp2_with (go_at_call 36; refine (size_c _ (by assumption) _).mono ?_; rintro e w1 ⟨rfl, rfl⟩; simp only [hx, hy])
    · have h1 : 9223372036854775807 / (y : Int) < (x : Int) := by assumption
      go_ret2
      exact ⟨ret_sum (sum_no H (fun k => by have := HM.out.2 k; omega)), bl_refl _⟩
    · have h1 : (x : Int) ≤ 9223372036854775807 / (y : Int) := by assumption
      go_ret2
      exact ⟨ret_sum (sum_yes H (HM.out.1 (by omega))), bl_refl _⟩
  · have HM := hM 9223372036854775807 (by omega)
    clear hM
    generalize hx : a.natAbs = x at *
    generalize hy : b.natAbs = y at *
    go_enter Try.func29, Try.ntmps29
    go_wp2_with (go_at_call 36; refine (size_c _ (by assumption) _).mono ?_; rintro e w1 ⟨rfl, rfl⟩; simp only [hx, hy])
    · have h1 : 9223372036854775807 / (y : Int) < (x : Int) := by assumption
      go_ret2
      exact ⟨ret_sum (sum_no H (fun k => by have := HM.out.2 k; omega)), bl_refl _⟩
    · have h1 : (x : Int) ≤ 9223372036854775807 / (y : Int) := by assumption
      go_ret2
      exact ⟨ret_sum (sum_yes H (HM.out.1 (by omega))), bl_refl _⟩
  · have HM := hM 9223372036854775808 (by omega)
    clear hM
    generalize hx : a.natAbs = x at *
    generalize hy : b.natAbs = y at *
    go_enter Try.func29, Try.ntmps29
    go_wp2_with (go_at_call 36; refine (size_c _ (by assumption) _).mono ?_; rintro e w1 ⟨rfl, rfl⟩; simp only [hx, hy])
    · have h1 : 9223372036854775808 / (y : Int) < (x : Int) := by assumption
      go_ret2
      exact ⟨ret_sum (sum_no H (fun k => by have := HM.out.2 k; omega)), bl_refl _⟩
    · have h1 : (x : Int) ≤ 9223372036854775808 / (y : Int) := by assumption
      go_ret2
      exact ⟨ret_sum (sum_yes H (HM.out.1 (by omega))), bl_refl _⟩
  · have HM := hM 9223372036854775808 (by omega)
    clear hM
    generalize hx : a.natAbs = x at *
    generalize hy : b.natAbs = y at *
    go_enter Try.func29, Try.ntmps29
    go_wp2_with (go_at_call 36; refine (size_c _ (by assumption) _).mono ?_; rintro e w1 ⟨rfl, rfl⟩; simp only [hx, hy])
    · have h1 : 9223372036854775808 / (y : Int) < (x : Int) := by assumption
      go_ret2
      exact ⟨ret_sum (sum_no H (fun k => by have := HM.out.2 k; omega)), bl_refl _⟩
    · have h1 : (x : Int) ≤ 9223372036854775808 / (y : Int) := by assumption
      go_ret2
      exact ⟨ret_sum (sum_yes H (HM.out.1 (by omega))), bl_refl _⟩
end Go.Proofs.Ytekhdcapiiecfaa
