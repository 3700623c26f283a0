/-
  THE CONTRACTS OF DATE, FOURTH PART: Civil, and the reference's. Conditions: those of each contract.
-/
import Derived.Test.YthdadalmgldppaaDoorDaDatWalksC
namespace Go.Proofs.YthdadalmgldppaaDoor.Da
open Go.RowKit
open Num Clk Dat

/-- The date of a day, for the walks. -/
def CivRes (d : Int) (e : Ending) : Prop := e = .returned (.tuple #[.int .i64 (yearOf d), .int .i64 (monthOf d), .int .i64 (dayOf d), .bool true])
theorem civRes_of {d a b c : Int} (h : yearOf d = a ∧ monthOf d = b ∧ dayOf d = c) : CivRes d (.returned (.tuple #[.int .i64 a, .int .i64 b, .int .i64 c, .bool true])) := by
  obtain ⟨rfl, rfl, rfl⟩ := h
  rfl

set_option maxRecDepth 20000 in
set_option maxHeartbeats 2000000 in
theorem rCivil_no (d : Int) (h : ¬ (0 ≤ d ∧ d ≤ 36524)) (w : World) :
    Calls Tryd.prog 83 #[.int .i64 d] w fun e w' => e = .returned (.tuple #[.int .i64 0, .int .i64 0, .int .i64 0, .bool false]) ∧ w = w' := by
  have HV := dvalid_no h
  clear h
  go_enter Tryd.func83, Tryd.ntmps83
  go_wp2_with (go_at_call 101; refine (rdValid_b _ _ HV _).mono ?_; rintro e w1 ⟨rfl, rfl⟩)
  exact bodyPost_ret (v := .tuple #[.int .i64 0, .int .i64 0, .int .i64 0, .bool false]) (by simp [results, Tryd.results83, go_sem]) rfl ⟨rfl, rfl⟩
set_option maxRecDepth 20000 in
set_option maxHeartbeats 2000000 in
theorem civil_no (d : Int) (h : ¬ (0 ≤ d ∧ d ≤ 36524)) (w : World) :
    Calls Tryd.prog 53 #[.int .i64 d] w fun e w' => e = .returned (.tuple #[.int .i64 0, .int .i64 0, .int .i64 0, .bool false]) ∧ w = w' := by
  have HV := dvalid_no h
  clear h
  go_enter Tryd.func53, Tryd.ntmps53
  go_wp2_with (go_at_call 25; refine (dValid_b _ _ HV _).mono ?_; rintro e w1 ⟨rfl, rfl⟩)
  exact bodyPost_ret (v := .tuple #[.int .i64 0, .int .i64 0, .int .i64 0, .bool false]) (by simp [results, Tryd.results53, go_sem]) rfl ⟨rfl, rfl⟩

set_option maxRecDepth 100000 in
set_option maxHeartbeats 2000000 in
theorem rCivil_yes (d : Int) (h0 : 0 ≤ d) (h1 : d ≤ 36524) (w : World) :
    Calls Tryd.prog 83 #[.int .i64 d] w fun e w' => CivRes d e ∧ w = w' := by
  have HV := dvalid_yes h0 h1
  go_enter Tryd.func83, Tryd.ntmps83
  go_wp2_with (go_at_call 101; refine (rdValid_b _ _ HV _).mono ?_; rintro e w1 ⟨rfl, rfl⟩)
  go_loop [6, 7] (fun s i => ∃ k : Nat, k ≤ 1200 ∧ i = .int .i64 k ∧ s = .int .i64 (d - cum k) ∧ cum k ≤ d) (fun _ i => (1200 - intOf i).toNat)
  case atStart => exact ⟨0, by simp, rfl, by simp [cum], h0⟩
  case round =>
    obtain ⟨k, hk, rfl, rfl, hcd⟩ := hrel
    have hc := cum_bd k (by omega)
    obtain ⟨c0, c1⟩ := hc
    have hlt : (k : Int) < 1200 := by
      have h1200 := cum_all
      rcases Nat.lt_or_ge k 1200 with h | h
      · omega
      · have : k = 1200 := by omega
        rw [this, h1200] at hcd
        omega
    have hltn : k < 1200 := by omega
    have HK : Hid (days (2000 + (k : Int) / 12) (1 + (k : Int) % 12) = (mlen (2000 + (k : Int) / 12) (1 + (k : Int) % 12), true)) := days_at k (by omega)
    have HC := Lib.hid (cum_succ k)
    have HX : Hid (d < cum k + mlen (2000 + (k : Int) / 12) (1 + (k : Int) % 12) → _) := ref_found hltn hcd
    have hb := mlen_bd (2000 + (k : Int) / 12) (1 + (k : Int) % 12)
    generalize mlen (2000 + (k : Int) / 12) (1 + (k : Int) % 12) = x at HK HC hb HX
    obtain ⟨b0, b1⟩ := hb
    by_cases hf : d - cum k < x
    · go_wp2_with (go_at_call 95; refine (rDays_c _ _ _ _ HK _).mono ?_; rintro e w1 ⟨rfl, rfl⟩)
      exact bodyPost_ret (v := .tuple #[.int .i64 (2000 + (k : Int) / 12), .int .i64 (1 + (k : Int) % 12), .int .i64 (d - cum k + 1), .bool true]) (by simp [results, Tryd.results83, go_sem]) rfl ⟨civRes_of (HX.out (by omega)), rfl⟩
    · have hf' : x ≤ d - cum k := by omega
      clear hf
      go_wp2_with (go_at_call 95; refine (rDays_c _ _ _ _ HK _).mono ?_; rintro e w1 ⟨rfl, rfl⟩)
      go_round
      case rel => exact ⟨k + 1, by omega, by go_num, by rw [HC.out]; go_num, by rw [HC.out]; omega⟩
      case measure => simp [intOf]; omega

set_option maxRecDepth 20000 in
set_option maxHeartbeats 4000000 in
theorem civil_yes (d : Int) (h0 : 0 ≤ d) (h1 : d ≤ 36524) (w : World) :
    Calls Tryd.prog 53 #[.int .i64 d] w fun e w' => CivRes d e ∧ Bl w w' := by
  have HV := dvalid_yes h0 h1
  by_cases hr : 366 ≤ d % 1461
  · obtain ⟨⟨s0, s1⟩, s2, s3⟩ := split_high h0 h1 hr
    obtain ⟨y, hy⟩ : ∃ y, 2000 + d / 1461 * 4 + (1 + (d % 1461 - 366) / 365) = y := ⟨_, rfl⟩
    obtain ⟨r, hr'⟩ : ∃ r, (d % 1461 - 366) % 365 = r := ⟨_, rfl⟩
    have hr0 : 0 ≤ r := by omega
    have hr1 : r ≤ 1460 := by omega
    rw [hy] at s0 s1 s2 s3
    rw [hr'] at s2 s3
    have HY := Lib.hid hy
    have HRR := Lib.hid hr'
    have HS := Lib.hid s2
    clear hy hr' s2
    obtain ⟨f, hf⟩ : ∃ f, f = mlen y 2 := ⟨_, rfl⟩
    obtain ⟨b, hb, hbf⟩ : ∃ b, leapB y = b ∧ ((b = true ∧ f = 29) ∨ (b = false ∧ f = 28)) := by
      rcases leap_days y (inR_yes s0 s1) with ⟨a, e⟩ | ⟨a, e⟩
      · exact ⟨true, a, .inl ⟨rfl, by rw [hf, e]⟩⟩
      · exact ⟨false, a, .inr ⟨rfl, by rw [hf, e]⟩⟩
    have HL := Lib.hid hb
    have HF := Lib.hid hf
    have HBF := Lib.hid hbf
    clear hb hf hbf
    go_enter Tryd.func53, Tryd.ntmps53
    go_wp2_with fail
    refine (dValid_b _ _ HV _).mono ?_
    rintro e w1 ⟨rfl, rfl⟩
    go_wp2_with fail
    rw [HY.out]
    rw [HRR.out]
    refine (lengths_b _ _ _ HL HBF.out _).mono ?_
    rintro e w2 ⟨rfl, b2⟩
    go_wp2_with fail
    go_loop [7, 32] (fun s i => ∃ k : Nat, k ≤ 12 ∧ i = .int .i64 k ∧ s = .int .i64 (r - cj (lpI y) k) ∧ cj (lpI y) k ≤ r) (fun _ i => (12 - intOf i).toNat)
    case atStart => exact ⟨0, by simp, rfl, by simp [cj], by simp [cj]; omega⟩
    case round =>
      obtain ⟨k, hk, rfl, rfl, hcd⟩ := hrel
      have hc := cj_bd y k (by omega)
      obtain ⟨c0, c1⟩ := hc
      have hlt : (k : Int) < 12 := by
        rcases Nat.lt_or_ge k 12 with h | h
        · omega
        · have : k = 12 := by omega
          rw [this, cj_all] at hcd
          omega
      have hltn : k < 12 := by omega
      have hix := fun W => idx12 y f (k : Int) HF.out (by omega) hlt W
      have HC := Lib.hid (cj_succ y k (by omega))
      have HX : Hid (r < cj (lpI y) k + mlen y (1 + (k : Int)) → _) := civ_found ⟨s0, s1⟩ HS.out hltn hcd
      have hb := mlen_bd y (1 + (k : Int))
      generalize mlen y (1 + (k : Int)) = x at hix HC hb HX
      obtain ⟨b0, b1⟩ := hb
      by_cases hf : r - cj (lpI y) k < x
      · go_wp2
        exact bodyPost_ret (v := .tuple #[.int .i64 y, .int .i64 ((k : Int) + 1), .int .i64 (r - cj (lpI y) k + 1), .bool true]) (by simp [results, Tryd.results53, go_sem]) rfl ⟨civRes_of (HX.out (by omega)), b2⟩
      · go_wp2
        go_round
        case rel => exact ⟨k + 1, by omega, by go_num, by rw [HC.out]; go_num, by rw [HC.out]; omega⟩
        case measure => simp [intOf]; omega
  · obtain ⟨⟨s0, s1⟩, s2, s3⟩ := split_low h0 h1 (by omega)
    obtain ⟨y, hy⟩ : ∃ y, 2000 + d / 1461 * 4 = y := ⟨_, rfl⟩
    obtain ⟨r, hr'⟩ : ∃ r, d % 1461 = r := ⟨_, rfl⟩
    have hr0 : 0 ≤ r := by omega
    have hr1 : r ≤ 1460 := by omega
    rw [hy] at s0 s1 s2 s3
    rw [hr'] at s2 s3
    have HY := Lib.hid hy
    have HRR := Lib.hid hr'
    have HS := Lib.hid s2
    clear hy hr' s2
    obtain ⟨f, hf⟩ : ∃ f, f = mlen y 2 := ⟨_, rfl⟩
    obtain ⟨b, hb, hbf⟩ : ∃ b, leapB y = b ∧ ((b = true ∧ f = 29) ∨ (b = false ∧ f = 28)) := by
      rcases leap_days y (inR_yes s0 s1) with ⟨a, e⟩ | ⟨a, e⟩
      · exact ⟨true, a, .inl ⟨rfl, by rw [hf, e]⟩⟩
      · exact ⟨false, a, .inr ⟨rfl, by rw [hf, e]⟩⟩
    have HL := Lib.hid hb
    have HF := Lib.hid hf
    have HBF := Lib.hid hbf
    clear hb hf hbf
    go_enter Tryd.func53, Tryd.ntmps53
    go_wp2_with fail
    refine (dValid_b _ _ HV _).mono ?_
    rintro e w1 ⟨rfl, rfl⟩
    go_wp2_with fail
    rw [HY.out]
    rw [HRR.out]
    refine (lengths_b _ _ _ HL HBF.out _).mono ?_
    rintro e w2 ⟨rfl, b2⟩
    go_wp2_with fail
    go_loop [7, 32] (fun s i => ∃ k : Nat, k ≤ 12 ∧ i = .int .i64 k ∧ s = .int .i64 (r - cj (lpI y) k) ∧ cj (lpI y) k ≤ r) (fun _ i => (12 - intOf i).toNat)
    case atStart => exact ⟨0, by simp, rfl, by simp [cj], by simp [cj]; omega⟩
    case round =>
      obtain ⟨k, hk, rfl, rfl, hcd⟩ := hrel
      have hc := cj_bd y k (by omega)
      obtain ⟨c0, c1⟩ := hc
      have hlt : (k : Int) < 12 := by
        rcases Nat.lt_or_ge k 12 with h | h
        · omega
        · have : k = 12 := by omega
          rw [this, cj_all] at hcd
          omega
      have hltn : k < 12 := by omega
      have hix := fun W => idx12 y f (k : Int) HF.out (by omega) hlt W
      have HC := Lib.hid (cj_succ y k (by omega))
      have HX : Hid (r < cj (lpI y) k + mlen y (1 + (k : Int)) → _) := civ_found ⟨s0, s1⟩ HS.out hltn hcd
      have hb := mlen_bd y (1 + (k : Int))
      generalize mlen y (1 + (k : Int)) = x at hix HC hb HX
      obtain ⟨b0, b1⟩ := hb
      by_cases hf : r - cj (lpI y) k < x
      · go_wp2
        exact bodyPost_ret (v := .tuple #[.int .i64 y, .int .i64 ((k : Int) + 1), .int .i64 (r - cj (lpI y) k + 1), .bool true]) (by simp [results, Tryd.results53, go_sem]) rfl ⟨civRes_of (HX.out (by omega)), b2⟩
      · go_wp2
        go_round
        case rel => exact ⟨k + 1, by omega, by go_num, by rw [HC.out]; go_num, by rw [HC.out]; omega⟩
        case measure => simp [intOf]; omega
end Go.Proofs.YthdadalmgldppaaDoor.Da
