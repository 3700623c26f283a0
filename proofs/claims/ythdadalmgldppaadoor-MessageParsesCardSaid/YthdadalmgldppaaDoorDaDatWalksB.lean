/-
  THE CONTRACTS OF DATE, SECOND PART: lengths, Days, Weekday, Absolute, Relative, and the reference's. Conditions: those of each contract.
-/
import Derived.Test.YthdadalmgldppaaDoorDaDatWalksA
namespace Go.Proofs.YthdadalmgldppaaDoor.Da
open Go.RowKit
open Num Clk Dat

/-- The lengths of the months of a year. -/
abbrev lens (f : Int) : Array Value := #[.int .i64 31, .int .i64 f, .int .i64 31, .int .i64 30, .int .i64 31, .int .i64 30, .int .i64 31, .int .i64 31, .int .i64 30, .int .i64 31, .int .i64 30, .int .i64 31]
theorem lens_get (y : Int) (f : Int) (hf : f = mlen y 2) (k : Nat) (h : k < 12) : (lens f)[k]? = some (.int .i64 (mlen y (1 + (k : Int)))) := by
  subst hf
  match k, h with
  | 0, _ => rfl
  | 1, _ => rfl
  | 2, _ => rfl
  | 3, _ => rfl
  | 4, _ => rfl
  | 5, _ => rfl
  | 6, _ => rfl
  | 7, _ => rfl
  | 8, _ => rfl
  | 9, _ => rfl
  | 10, _ => rfl
  | 11, _ => rfl
theorem leap_days (y : Int) (h : inR y = true) : (leapB y = true ∧ mlen y 2 = 29) ∨ (leapB y = false ∧ mlen y 2 = 28) := by
  rw [leapB_in h]
  unfold mlen
  by_cases hy : y % 4 = 0
  · exact .inl ⟨by simp [hy], by simp [hy]⟩
  · exact .inr ⟨by simp [hy], by simp [hy]⟩
set_option maxRecDepth 20000 in
theorem lengths_b (y f : Int) (b : Bool) (h : Hid (leapB y = b)) (hf : (b = true ∧ f = 29) ∨ (b = false ∧ f = 28)) (w : World) : Calls Tryd.prog 77 #[.int .i64 y] w fun e w' => e = .returned (.agg (lens f)) ∧ Bl w w' := by
  rcases hf with ⟨rfl, rfl⟩ | ⟨rfl, rfl⟩
  all_goals
    go_enter Tryd.func77, Tryd.ntmps77
    go_wp2_with (go_at_call 96; refine (leap_b _ _ h _).mono ?_; rintro e w1 ⟨rfl, rfl⟩)
    exact bodyPost_ret (v := .agg (lens _)) (by simp [results, Tryd.results77, go_sem]) rfl ⟨rfl, bl_alloc (bl_alloc (bl_refl _) _) _⟩

/-! ### Days -/
/-- An element of the lengths, for the walk to take. -/
theorem idx12 (y f z : Int) (hf : f = mlen y 2) (h0 : 0 ≤ z) (h1 : z < 12) (W : World) :
    (Instr.index 104 (.agg (lens f)) (.int .i64 z)).run Tryd.prog W = .ok (.int .i64 (mlen y (1 + z))) W := by
  subst hf
  rcases (show z = 0 ∨ z = 1 ∨ z = 2 ∨ z = 3 ∨ z = 4 ∨ z = 5 ∨ z = 6 ∨ z = 7 ∨ z = 8 ∨ z = 9 ∨ z = 10 ∨ z = 11 by omega) with rfl | rfl | rfl | rfl | rfl | rfl | rfl | rfl | rfl | rfl | rfl | rfl
  all_goals kernel_rfl
theorem days_cases (y m : Int) : ((2000 ≤ y ∧ y ≤ 2099) ∧ (1 ≤ m ∧ m ≤ 12) ∧ days y m = (mlen y m, true)) ∨
    ((inR y = false ∨ (inR y = true ∧ (m < 1 ∨ (1 ≤ m ∧ 12 < m)))) ∧ days y m = (0, false)) := by
  rcases inR_cases y with ⟨h0, h1, k⟩ | ⟨h0, k⟩ | ⟨h0, h1, k⟩
  · by_cases hm : 1 ≤ m ∧ m ≤ 12
    · exact .inl ⟨⟨h0, h1⟩, hm, by unfold days; rw [if_pos ⟨⟨h0, h1⟩, hm⟩]⟩
    · exact .inr ⟨.inr ⟨k, by omega⟩, by unfold days; rw [if_neg (fun h => hm h.2)]⟩
  · exact .inr ⟨.inl k, by unfold days; rw [if_neg (by omega)]⟩
  · exact .inr ⟨.inl k, by unfold days; rw [if_neg (by omega)]⟩
theorem inR_yes {y : Int} (h0 : 2000 ≤ y) (h1 : y ≤ 2099) : inR y = true := by simp [inR, h0, h1]
set_option maxRecDepth 20000 in
set_option maxHeartbeats 1000000 in
theorem days_c (y m n : Int) (ok : Bool) (H : Hid (days y m = (n, ok))) (w : World) :
    Calls Tryd.prog 107 #[.int .i64 y, .int .i64 m] w fun e w' => e = .returned (.tuple #[.int .i64 n, .bool ok]) ∧ Bl w w' := by
  rcases days_cases y m with ⟨⟨h0, h1⟩, ⟨h2, h3⟩, k⟩ | ⟨hc, k⟩
  · obtain ⟨e1, rfl⟩ := Prod.mk.inj (k.symm.trans H.out)
    have HN := Lib.hid e1
    clear e1 k
    have HI := Lib.hid (inR_yes h0 h1)
    have hix := fun W => idx12 y (mlen y 2) (m - 1) rfl (by omega) (by omega) W
    rw [show 1 + (m - 1) = m by omega] at hix
    rcases leap_days y HI.out with ⟨a, b⟩ | ⟨a, b⟩
    all_goals
      have HA := Lib.hid a
      rw [b] at hix
      clear a b
      go_enter Tryd.func107, Tryd.ntmps107
      go_wp2_with (first
        | (go_at_call 110; refine (inRange_b _ true HI _).mono ?_; rintro e w1 ⟨rfl, rfl⟩)
        | (go_at_call 77; refine (lengths_b _ _ _ HA (by first | exact .inl ⟨rfl, rfl⟩ | exact .inr ⟨rfl, rfl⟩) _).mono ?_; rintro e w1 ⟨rfl, b1⟩))
      go_ret2
      exact ⟨ret2_int HN.out, b1⟩
  · obtain ⟨rfl, rfl⟩ := Prod.mk.inj (k.symm.trans H.out)
    clear k H
    rcases hc with hc | ⟨hc, hm | ⟨hm, hm'⟩⟩
    all_goals
      have HI := Lib.hid hc
      clear hc
      go_enter Tryd.func107, Tryd.ntmps107
      go_wp2_with (go_at_call 110; refine (inRange_b _ _ HI _).mono ?_; rintro e w1 ⟨rfl, rfl⟩)
      go_ret2
      exact ⟨rfl, bl_refl _⟩
theorem rdays_cases (y m : Int) : ((2000 ≤ y ∧ y ≤ 2099) ∧ (1 ≤ m ∧ m ≤ 12) ∧ days y m = (mlen y m, true)) ∨
    ((y < 2000 ∨ (2000 ≤ y ∧ 2099 < y) ∨ (2000 ≤ y ∧ y ≤ 2099 ∧ m < 1) ∨ (2000 ≤ y ∧ y ≤ 2099 ∧ 1 ≤ m ∧ 12 < m)) ∧ days y m = (0, false)) := by
  unfold days
  by_cases h : (2000 ≤ y ∧ y ≤ 2099) ∧ (1 ≤ m ∧ m ≤ 12)
  · exact .inl ⟨h.1, h.2, by rw [if_pos h]⟩
  · exact .inr ⟨by omega, by rw [if_neg h]⟩
theorem mlen_other {y m : Int} (h : (m ≠ 2 ∧ m ≠ 4 ∧ m ≠ 6 ∧ m ≠ 9 ∧ m ≠ 11)) : mlen y m = 31 := by
  unfold mlen
  rw [if_neg h.1, if_neg (by omega)]
set_option maxRecDepth 20000 in
set_option maxHeartbeats 1000000 in
theorem rDays_c (y m n : Int) (ok : Bool) (H : Hid (days y m = (n, ok))) (w : World) :
    Calls Tryd.prog 95 #[.int .i64 y, .int .i64 m] w fun e w' => e = .returned (.tuple #[.int .i64 n, .bool ok]) ∧ w = w' := by
  rcases rdays_cases y m with ⟨⟨h0, h1⟩, ⟨h2, h3⟩, k⟩ | ⟨hc, k⟩
  · obtain ⟨e1, rfl⟩ := Prod.mk.inj (k.symm.trans H.out)
    clear k
    have HI := Lib.hid (inR_yes h0 h1)
    by_cases hm : m = 2
    · subst hm
      rcases leap_days y HI.out with ⟨a, b⟩ | ⟨a, b⟩
      all_goals
        have HA := Lib.hid a
        rw [b] at e1
        subst e1
        clear a b
        go_enter Tryd.func95, Tryd.ntmps95
        go_wp2_with (go_at_call 109; refine (rLeap_b _ _ HA _).mono ?_; rintro e w1 ⟨rfl, rfl⟩)
        go_ret2
        exact ⟨rfl, rfl⟩
    · have hm2 : (m == 2) = false := by rw [beq_eq_false_iff_ne]; exact hm
      by_cases h30 : m = 4 ∨ m = 6 ∨ m = 9 ∨ m = 11
      · rcases h30 with rfl | rfl | rfl | rfl
        all_goals
          obtain rfl : n = 30 := by rw [← e1]; simp [mlen]
          clear e1
          go_enter Tryd.func95, Tryd.ntmps95
          go_wp2
          go_ret2
          exact ⟨rfl, rfl⟩
      · obtain rfl : n = 31 := by rw [← e1, mlen_other (by omega)]
        have q4 : (m == 4) = false := by rw [beq_eq_false_iff_ne]; omega
        have q6 : (m == 6) = false := by rw [beq_eq_false_iff_ne]; omega
        have q9 : (m == 9) = false := by rw [beq_eq_false_iff_ne]; omega
        have q11 : (m == 11) = false := by rw [beq_eq_false_iff_ne]; omega
        clear e1 hm h30
        go_enter Tryd.func95, Tryd.ntmps95
        go_wp2
        go_ret2
        exact ⟨rfl, rfl⟩
  · obtain ⟨rfl, rfl⟩ := Prod.mk.inj (k.symm.trans H.out)
    clear k H
    rcases hc with hc | ⟨hc, hm⟩ | ⟨hc, hm, hm'⟩ | ⟨hc, hm, hm', hm''⟩
    all_goals
      go_enter Tryd.func95, Tryd.ntmps95
      go_wp2
      go_ret2
      exact ⟨rfl, rfl⟩

/-! ### Weekday, Absolute, Relative -/
def weekday (d : Int) : Int × Bool := if 0 ≤ d ∧ d ≤ 36524 then ((d + 5) % 7, true) else (0, false)
def absol (d t : Int) : Int × Bool := if (0 ≤ d ∧ d ≤ 36524) ∧ (0 ≤ t ∧ t ≤ 172800) then (d * 86400 + t, true) else (0, false)
def relat (a : Int) : (Int × Int) × Bool := if 0 ≤ a ∧ a < 3155760000 then ((a / 86400, a % 86400), true) else ((0, 0), false)
theorem relat_cases (a : Int) : (0 ≤ a ∧ a < 3155760000 ∧ relat a = ((a / 86400, a % 86400), true)) ∨ ((a < 0 ∨ (0 ≤ a ∧ 3155760000 ≤ a)) ∧ relat a = ((0, 0), false)) := by
  unfold relat
  by_cases h : 0 ≤ a ∧ a < 3155760000
  · exact .inl ⟨h.1, h.2, if_pos h⟩
  · exact .inr ⟨by omega, if_neg h⟩
theorem ret_tup3 {a b c : Value} {x y : Int} {z : Bool} (h1 : a = .int .i64 x) (h2 : b = .int .i64 y) (h3 : c = .bool z) : Ending.returned (.tuple #[a, b, c]) = .returned (.tuple #[.int .i64 x, .int .i64 y, .bool z]) := by rw [h1, h2, h3]
end Go.Proofs.YthdadalmgldppaaDoor.Da
