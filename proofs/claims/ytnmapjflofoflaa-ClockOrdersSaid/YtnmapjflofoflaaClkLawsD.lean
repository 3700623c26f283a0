/-
  THE WALK OF ClockOrders. Conditions: bytealg.MaxLen's cell holds an integer.
-/
import Derived.Test.YtnmapjflofoflaaClkLawsA
import Derived.WalkLawsBesides
namespace Go.Proofs.Ytnmapjflofoflaa
open Go.RowKit
open Num Clk

theorem u8_lt {a b : Nat} (ha : a < 100) (hb : b < 100) : (decide (UInt8.ofNat (48 + a) < UInt8.ofNat (48 + b)) = decide (a < b)) ∧ ((UInt8.ofNat (48 + a) == UInt8.ofNat (48 + b)) = decide (a = b)) := by
  have h1 : (UInt8.ofNat (48 + a)).toNat = 48 + a := by rw [UInt8.toNat_ofNat']; omega
  have h2 : (UInt8.ofNat (48 + b)).toNat = 48 + b := by rw [UInt8.toNat_ofNat']; omega
  constructor
  · rw [decide_eq_decide, UInt8.lt_iff_toNat_lt, h1, h2]; omega
  · rw [Bool.eq_iff_iff, beq_iff_eq, decide_eq_true_iff]
    constructor
    · intro k
      have := congrArg UInt8.toNat k
      omega
    · rintro rfl; rfl
theorem less_two (x y : Nat) (hx : x < 100) (hy : y < 100) (l m : List UInt8) : Op.bytesLess (two x ++ l) (two y ++ m) = (decide (x < y) || (decide (x = y) && Op.bytesLess l m)) := by
  obtain ⟨a1, a2⟩ := u8_lt (a := x / 10) (b := y / 10) (by omega) (by omega)
  obtain ⟨b1, b2⟩ := u8_lt (a := x % 10) (b := y % 10) (by omega) (by omega)
  unfold two
  simp only [List.cons_append, List.nil_append, Op.bytesLess]
  rw [a1, a2, b1, b2]
  cases Op.bytesLess l m with
  | true =>
    rw [Bool.eq_iff_iff]
    simp only [Bool.or_eq_true, Bool.and_eq_true, decide_eq_true_eq, and_true]
    omega
  | false =>
    rw [Bool.eq_iff_iff]
    simp only [Bool.or_eq_true, Bool.and_eq_true, decide_eq_true_eq]
    simp
    omega
theorem less_colon (l m : List UInt8) : Op.bytesLess (58 :: l) (58 :: m) = Op.bytesLess l m := by
  simp [Op.bytesLess]
theorem less_text (a b : Nat) (ha : a ≤ 172800) (hb : b ≤ 172800) : Op.bytesLess (clockText a) (clockText b) = decide (a < b) := by
  have h3 := less_two (a % 60) (b % 60) (by omega) (by omega) [] []
  rw [List.append_nil, List.append_nil] at h3
  unfold clockText
  rw [less_two _ _ (by omega) (by omega), less_colon, less_two _ _ (by omega) (by omega), less_colon, h3]
  simp only [Op.bytesLess, Bool.and_false, Bool.or_false]
  rw [Bool.eq_iff_iff]
  simp only [Bool.or_eq_true, Bool.and_eq_true, decide_eq_true_eq]
  omega
theorem text_inj {a b : Nat} (ha : a ≤ 172800) (hb : b ≤ 172800) (h : clockText a = clockText b) : a = b := by
  have h1 := less_text a b ha hb
  have h2 := less_text b a hb ha
  have h3 := less_text b b hb hb
  rw [h] at h1 h2
  rw [h3] at h1 h2
  have h4 : decide (b < b) = false := decide_eq_false (by omega)
  rw [h4] at h1 h2
  have := of_decide_eq_false h1.symm
  have := of_decide_eq_false h2.symm
  omega

set_option maxHeartbeats 4000000 in
theorem orders_law (a b : Int) (ml : Int) (w : World) (hm : Ml ml w) : Calls Try.prog 7 #[.int .i64 a, .int .i64 b] w fun r w' => r = .returned (.bool true) ∧ Bl w w' := by
  by_cases va : 0 ≤ a ∧ a ≤ 172800
  · by_cases vb : 0 ≤ b ∧ b ≤ 172800
    · have Ha : Hid (fmt a = (clockText a.toNat, 0)) := by show _ = _; unfold fmt; rw [if_pos va]
      have Hb : Hid (fmt b = (clockText b.toNat, 0)) := by show _ = _; unfold fmt; rw [if_pos vb]
      have hL := less_text a.toNat b.toNat (by omega) (by omega)
      rw [show decide (a.toNat < b.toNat) = decide (a < b) from decide_eq_decide.2 (by omega)] at hL
      have hE : (a == b) = (clockText a.toNat == clockText b.toNat) := by
        rw [Bool.eq_iff_iff, beq_iff_eq, beq_iff_eq]
        exact ⟨fun h => by rw [h], fun h => by have := text_inj (by omega) (by omega) h; omega⟩
      generalize clockText a.toNat = l at *
      generalize clockText b.toNat = k at *
      go_enter Try.func7, Try.ntmps7
      go_wp2_with fail
      refine (fmt_c _ _ _ Ha _).mono ?_
      rintro ee w1 ⟨rfl, b1⟩
      go_wp2_with fail
      refine (fmt_c _ _ _ Hb _).mono ?_
      rintro ee w2 ⟨rfl, b2⟩
      have b3 := bl_next b1 b2
      have hm3 := ml_next hm b3
      go_wp2_with fail
      refine (example_c ml _ hm3).mono ?_
      rintro ee w4 ⟨rfl, b4⟩
      go_wp2
      go_ret
      exact ⟨rfl, bl_next b3 b4⟩
    · have Hb : Hid (fmt b = ([], 10)) := by show _ = _; unfold fmt; rw [if_neg vb]
      obtain ⟨l, e, H⟩ : ∃ n ok, fmt a = (n, ok) := ⟨_, _, rfl⟩
      have he : e = 0 := by unfold fmt at H; rw [if_pos va] at H; exact (Prod.mk.inj H).2.symm
      subst he
      have Ha := Lib.hid H
      clear H
      go_enter Try.func7, Try.ntmps7
      go_wp2_with fail
      refine (fmt_c _ _ _ Ha _).mono ?_
      rintro ee w1 ⟨rfl, b1⟩
      go_wp2_with fail
      refine (fmt_c _ _ _ Hb _).mono ?_
      rintro ee w2 ⟨rfl, b2⟩
      have b3 := bl_next b1 b2
      have hm3 := ml_next hm b3
      go_wp2_with fail
      refine (example_c ml _ hm3).mono ?_
      rintro ee w4 ⟨rfl, b4⟩
      go_wp2
      go_ret
      exact ⟨rfl, bl_next b3 b4⟩
  · have Ha : Hid (fmt a = ([], 10)) := by show _ = _; unfold fmt; rw [if_neg va]
    obtain ⟨l, e, H⟩ : ∃ n ok, fmt b = (n, ok) := ⟨_, _, rfl⟩
    have Hb := Lib.hid H
    clear H
    go_enter Try.func7, Try.ntmps7
    go_wp2_with fail
    refine (fmt_c _ _ _ Ha _).mono ?_
    rintro ee w1 ⟨rfl, b1⟩
    go_wp2_with fail
    refine (fmt_c _ _ _ Hb _).mono ?_
    rintro ee w2 ⟨rfl, b2⟩
    have b3 := bl_next b1 b2
    have hm3 := ml_next hm b3
    go_wp2_with fail
    refine (example_c ml _ hm3).mono ?_
    rintro ee w4 ⟨rfl, b4⟩
    go_wp2
    go_ret
    exact ⟨rfl, bl_next b3 b4⟩
end Go.Proofs.Ytnmapjflofoflaa
