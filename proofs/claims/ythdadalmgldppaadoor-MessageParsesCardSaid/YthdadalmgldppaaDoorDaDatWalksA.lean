/-
  THE CONTRACTS OF DATE, FIRST PART: Valid, Leap, Days, Weekday, Absolute, Relative, and the reference's. Conditions: those of each contract.
-/
import Derived.Test.YthdadalmgldppaaDoorDatPlain
import Derived.Test.YthdadalmgldppaaDoorDaDatClk
namespace Go.Proofs.YthdadalmgldppaaDoor.Da
open Go.RowKit
open Num Clk Dat

/-! ### Valid -/
def dvalid (d : Int) : Bool := decide (0 ≤ d) && decide (d ≤ 36524)
theorem dvalid_yes {t : Int} (h0 : 0 ≤ t) (h1 : t ≤ 36524) : Hid (dvalid t = true) := by show _ = _; simp [dvalid, h0, h1]
theorem dvalid_no {t : Int} (h : ¬ (0 ≤ t ∧ t ≤ 36524)) : Hid (dvalid t = false) := by
  show _ = _
  by_cases h0 : 0 ≤ t
  · have : ¬ t ≤ 36524 := fun k => h ⟨h0, k⟩
    simp [dvalid, this]
  · simp [dvalid, h0]
theorem dvalid_cases (t : Int) : (0 ≤ t ∧ t ≤ 36524 ∧ dvalid t = true) ∨ (t < 0 ∧ dvalid t = false) ∨ (0 ≤ t ∧ 36524 < t ∧ dvalid t = false) := by
  unfold dvalid
  by_cases h0 : 0 ≤ t
  · by_cases h1 : t ≤ 36524
    · exact .inl ⟨h0, h1, by simp [h0, h1]⟩
    · exact .inr (.inr ⟨h0, by omega, by simp [h0, h1]⟩)
  · exact .inr (.inl ⟨by omega, by simp [h0]⟩)
set_option maxRecDepth 20000 in
set_option maxHeartbeats 400000 in
theorem dValid_b (t : Int) (b : Bool) (h : Hid (dvalid t = b)) (w : World) : Calls Tryd.prog 25 #[.int .i64 t] w fun e w' => e = .returned (.bool b) ∧ w = w' := by
  rcases dvalid_cases t with ⟨h0, h1, k⟩ | ⟨h0, k⟩ | ⟨h0, h1, k⟩
  all_goals
    have HB := Lib.hid (k.symm.trans h.out).symm
    clear k
    go_enter Tryd.func25, Tryd.ntmps25
    go_wp2
    go_ret
    exact ⟨ret_bool (by have e := HB.out; subst e; first | rfl | (simp; done) | (simp; omega)), rfl⟩
set_option maxRecDepth 20000 in
set_option maxHeartbeats 400000 in
theorem rdValid_b (t : Int) (b : Bool) (h : Hid (dvalid t = b)) (w : World) : Calls Tryd.prog 101 #[.int .i64 t] w fun e w' => e = .returned (.bool b) ∧ w = w' := by
  rcases dvalid_cases t with ⟨h0, h1, k⟩ | ⟨h0, k⟩ | ⟨h0, h1, k⟩
  all_goals
    have HB := Lib.hid (k.symm.trans h.out).symm
    clear k
    go_enter Tryd.func101, Tryd.ntmps101
    go_wp2
    go_ret
    exact ⟨ret_bool (by have e := HB.out; subst e; first | rfl | (simp; done) | (simp; omega)), rfl⟩

/-! ### Leap -/
def inR (y : Int) : Bool := decide (2000 ≤ y) && decide (y ≤ 2099)
theorem inR_cases (t : Int) : (2000 ≤ t ∧ t ≤ 2099 ∧ inR t = true) ∨ (t < 2000 ∧ inR t = false) ∨ (2000 ≤ t ∧ 2099 < t ∧ inR t = false) := by
  unfold inR
  by_cases h0 : 2000 ≤ t
  · by_cases h1 : t ≤ 2099
    · exact .inl ⟨h0, h1, by simp [h0, h1]⟩
    · exact .inr (.inr ⟨h0, by omega, by simp [h0, h1]⟩)
  · exact .inr (.inl ⟨by omega, by simp [h0]⟩)
set_option maxRecDepth 20000 in
set_option maxHeartbeats 400000 in
theorem inRange_b (t : Int) (b : Bool) (h : Hid (inR t = b)) (w : World) : Calls Tryd.prog 110 #[.int .i64 t] w fun e w' => e = .returned (.bool b) ∧ w = w' := by
  rcases inR_cases t with ⟨h0, h1, k⟩ | ⟨h0, k⟩ | ⟨h0, h1, k⟩
  all_goals
    have HB := Lib.hid (k.symm.trans h.out).symm
    clear k
    go_enter Tryd.func110, Tryd.ntmps110
    go_wp2
    go_ret
    exact ⟨ret_bool (by have e := HB.out; subst e; first | rfl | (simp; done) | (simp; omega)), rfl⟩
theorem and3 (y : Int) (h0 : 2000 ≤ y) (h1 : y ≤ 2099) : bits .and .i64 y 3 = y % 4 := by
  obtain ⟨n, rfl⟩ : ∃ n : Nat, y = n := ⟨y.toNat, by omega⟩
  have h2 : n < 2100 := by omega
  have h3 : 2000 ≤ n := by omega
  have key : ∀ k : Fin 100, bits .and .i64 ((2000 + k.val : Nat) : Int) 3 = ((2000 + k.val : Nat) : Int) % 4 := by decide +kernel
  have := key ⟨n - 2000, by omega⟩
  simp only [show 2000 + (n - 2000) = n by omega] at this
  exact this
theorem leapB_in {y : Int} (h : inR y = true) : leapB y = (y % 4 == 0) := by
  unfold leapB
  unfold inR at h
  rw [h]
  rfl
theorem leapB_out {y : Int} (h : inR y = false) : leapB y = false := by
  unfold leapB
  unfold inR at h
  rw [h]
  rfl
set_option maxRecDepth 20000 in
set_option maxHeartbeats 400000 in
theorem leap_b (y : Int) (b : Bool) (h : Hid (leapB y = b)) (w : World) : Calls Tryd.prog 96 #[.int .i64 y] w fun e w' => e = .returned (.bool b) ∧ w = w' := by
  rcases inR_cases y with ⟨h0, h1, k⟩ | ⟨h0, k⟩ | ⟨h0, h1, k⟩
  · have HI := Lib.hid k
    have HB := Lib.hid ((leapB_in k).symm.trans h.out)
    have hand := and3 y h0 h1
    clear k h
    go_enter Tryd.func96, Tryd.ntmps96
    go_wp2_with (go_at_call 110; refine (inRange_b _ true HI _).mono ?_; rintro e w1 ⟨rfl, rfl⟩)
    go_ret
    exact ⟨ret_bool HB.out, rfl⟩
  all_goals
    have HI := Lib.hid k
    have HB := Lib.hid ((leapB_out k).symm.trans h.out)
    clear k h
    go_enter Tryd.func96, Tryd.ntmps96
    go_wp2_with (go_at_call 110; refine (inRange_b _ false HI _).mono ?_; rintro e w1 ⟨rfl, rfl⟩)
    go_ret
    exact ⟨ret_bool HB.out, rfl⟩
set_option maxRecDepth 20000 in
set_option maxHeartbeats 400000 in
theorem rLeap_b (y : Int) (b : Bool) (h : Hid (leapB y = b)) (w : World) : Calls Tryd.prog 109 #[.int .i64 y] w fun e w' => e = .returned (.bool b) ∧ w = w' := by
  rcases inR_cases y with ⟨h0, h1, k⟩ | ⟨h0, k⟩ | ⟨h0, h1, k⟩
  · have HB := Lib.hid ((leapB_in k).symm.trans h.out)
    clear k h
    go_enter Tryd.func109, Tryd.ntmps109
    go_wp2
    go_ret
    exact ⟨ret_bool HB.out, rfl⟩
  all_goals
    have HB := Lib.hid ((leapB_out k).symm.trans h.out)
    clear k h
    go_enter Tryd.func109, Tryd.ntmps109
    go_wp2
    go_ret
    exact ⟨ret_bool HB.out, rfl⟩
end Go.Proofs.YthdadalmgldppaaDoor.Da
