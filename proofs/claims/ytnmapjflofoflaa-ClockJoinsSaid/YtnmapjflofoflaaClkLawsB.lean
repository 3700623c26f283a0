/-
  THE WALKS OF THE LAWS OF CLOCK, SECOND PART. Conditions: each integer is an int, each string has at most maxLen bytes, bytealg.MaxLen's cell holds an integer.
-/
import Derived.Test.YtnmapjflofoflaaClkLawsA
namespace Go.Proofs.Ytnmapjflofoflaa
open Go.RowKit
open Num Clk

set_option maxHeartbeats 2000000 in
theorem joins_law (h m s : Int) (ml : Int) (w : World) (hm : Ml ml w) : Calls Try.prog 4 #[.int .i64 h, .int .i64 m, .int .i64 s] w fun r w' => r = .returned (.bool true) ∧ Bl w w' := by
  obtain ⟨n, ok, H⟩ : ∃ n ok, join h m s = (n, ok) := ⟨_, _, rfl⟩
  have H1 := Lib.hid H
  clear H
  go_enter Try.func4, Try.ntmps4
  go_wp2_with (first
    | (go_at_call 16; refine (join_c _ _ _ _ _ H1 _).mono ?_; rintro e w1 ⟨rfl, rfl⟩)
    | (go_at_call 17; refine (refJoin_c _ _ _ _ _ H1 _).mono ?_; rintro e w1 ⟨rfl, rfl⟩)
    | (go_at_call 15; refine (example_c ml _ hm).mono ?_; rintro e w3 ⟨rfl, b9⟩))
  go_ret
  exact ⟨rfl, b9⟩

set_option maxHeartbeats 2000000 in
theorem formats_law (t : Int) (ml : Int) (w : World) (hm : Ml ml w) : Calls Try.prog 5 #[.int .i64 t] w fun r w' => r = .returned (.bool true) ∧ Bl w w' := by
  obtain ⟨l, e, H⟩ : ∃ n ok, fmt t = (n, ok) := ⟨_, _, rfl⟩
  have H1 := Lib.hid H
  clear H
  go_enter Try.func5, Try.ntmps5
  go_wp2_with fail
  refine (fmt_c _ _ _ H1 _).mono ?_
  rintro ee w1 ⟨rfl, b1⟩
  go_wp2_with fail
  refine (refFmt_c _ _ _ H1 _).mono ?_
  rintro ee w2 ⟨rfl, b2⟩
  have b3 := bl_next b1 b2
  have hm3 := ml_next hm b3
  go_wp2_with fail
  refine (example_c ml _ hm3).mono ?_
  rintro ee w4 ⟨rfl, b4⟩
  go_wp2
  go_ret
  exact ⟨rfl, bl_next b3 b4⟩

set_option maxHeartbeats 2000000 in
theorem durations_law (t : Int) (ml : Int) (w : World) (hm : Ml ml w) : Calls Try.prog 9 #[.int .i64 t] w fun r w' => r = .returned (.bool true) ∧ Bl w w' := by
  obtain ⟨l, e, H⟩ : ∃ n ok, fmtD t = (n, ok) := ⟨_, _, rfl⟩
  have H1 := Lib.hid H
  clear H
  go_enter Try.func9, Try.ntmps9
  go_wp2_with fail
  refine (fmtD_c _ _ _ H1 _).mono ?_
  rintro ee w1 ⟨rfl, b1⟩
  go_wp2_with fail
  refine (refFmtD_c _ _ _ H1 _).mono ?_
  rintro ee w2 ⟨rfl, b2⟩
  have b3 := bl_next b1 b2
  have hm3 := ml_next hm b3
  go_wp2_with fail
  refine (example_c ml _ hm3).mono ?_
  rintro ee w4 ⟨rfl, b4⟩
  go_wp2
  go_ret
  exact ⟨rfl, bl_next b3 b4⟩

set_option maxHeartbeats 2000000 in
theorem parses_law (s : ByteArray) (hs : s.size ≤ maxLen) (ml : Int) (w : World) (hm : Ml ml w) : Calls Try.prog 6 #[.string s] w fun r w' => r = .returned (.bool true) ∧ Bl w w' := by
  unfold maxLen at hs
  obtain ⟨n, e, H1⟩ := time_some s.data.toList
  by_cases h : s.size ≤ 4096
  · have hi : (s.size : Int) ≤ 4096 := by omega
    have q : ((4096 : Int) < (s.size : Int)) = False := eq_false (by omega)
    go_enter Try.func6, Try.ntmps6
    go_wp2_with fail
    refine (parse_c _ _ _ H1 _).mono ?_
    rintro ee w1 ⟨rfl, b1⟩
    go_wp2_with fail
    refine (refParse_c _ _ _ H1 _).mono ?_
    rintro ee w2 ⟨rfl, b2⟩
    have b3 := bl_next b1 b2
    have hm3 := ml_next hm b3
    go_wp2_with fail
    refine (example_c ml _ hm3).mono ?_
    rintro ee w4 ⟨rfl, b4⟩
    go_wp2
    go_ret
    exact ⟨rfl, bl_next b3 b4⟩
  · have hi : (4096 : Int) < (s.size : Int) := by omega
    go_enter Try.func6, Try.ntmps6
    go_wp2_with fail
    refine (example_c ml _ hm).mono ?_
    rintro ee w4 ⟨rfl, b4⟩
    go_wp2
    go_ret
    exact ⟨rfl, b4⟩

set_option maxHeartbeats 2000000 in
theorem splits_law (t : Int) (ml : Int) (w : World) (hm : Ml ml w) : Calls Try.prog 3 #[.int .i64 t] w fun r w' => r = .returned (.bool true) ∧ Bl w w' := by
  by_cases hv : 0 ≤ t ∧ t ≤ 172800
  · have HV := valid_yes hv.1 hv.2
    have HJ : Hid (join (t / 3600) (t % 3600 / 60) (t % 60) = (t, true)) := by
      show _ = _
      unfold join
      rw [if_pos (by omega), Prod.mk.injEq]
      exact ⟨by omega, rfl⟩
    have q1 : (t % 3600 / 60 == t / 60 % 60) = true := by rw [beq_iff_eq]; omega
    obtain ⟨h0, h1⟩ := hv
    go_enter Try.func3, Try.ntmps3
    go_wp2_with (first
      | (go_at_call 12; refine (split_yes t h0 h1 _).mono ?_; rintro e w1 ⟨rfl, rfl⟩)
      | (go_at_call 13; refine (valid_b _ true HV _).mono ?_; rintro e w1 ⟨rfl, rfl⟩)
      | (go_at_call 14; refine (refValid_b _ true HV _).mono ?_; rintro e w1 ⟨rfl, rfl⟩)
      | (go_at_call 16; refine (join_c _ _ _ _ _ HJ _).mono ?_; rintro e w1 ⟨rfl, rfl⟩)
      | (go_at_call 15; refine (example_c ml _ hm).mono ?_; rintro e w3 ⟨rfl, b9⟩))
    go_ret
    exact ⟨rfl, b9⟩
  · have HV := valid_no hv
    go_enter Try.func3, Try.ntmps3
    go_wp2_with (first
      | (go_at_call 12; refine (split_no t hv _).mono ?_; rintro e w1 ⟨rfl, rfl⟩)
      | (go_at_call 13; refine (valid_b _ false HV _).mono ?_; rintro e w1 ⟨rfl, rfl⟩)
      | (go_at_call 14; refine (refValid_b _ false HV _).mono ?_; rintro e w1 ⟨rfl, rfl⟩)
      | (go_at_call 15; refine (example_c ml _ hm).mono ?_; rintro e w3 ⟨rfl, b9⟩))
    go_ret
    exact ⟨rfl, b9⟩
end Go.Proofs.Ytnmapjflofoflaa
