/-
  THE WALK OF ClockReads. Conditions: the string has at most maxLen bytes, bytealg.MaxLen's cell holds an integer.
-/
import Derived.Test.YtnmapjflofoflaaClkLawsA
import Derived.Test.YtnmapjflofoflaaClkReads
namespace Go.Proofs.Ytnmapjflofoflaa
open Go.RowKit
open Num Clk

set_option maxHeartbeats 4000000 in
theorem reads_law (s : ByteArray) (hs : s.size ≤ maxLen) (ml : Int) (w : World) (hm : Ml ml w) : Calls Try.prog 10 #[.string s] w fun r w' => r = .returned (.bool true) ∧ Bl w w' := by
  unfold maxLen at hs
  obtain ⟨n, e, H⟩ : ∃ n e, pdur s.data.toList = (n, e) := ⟨_, _, rfl⟩
  have H1 := Lib.hid H
  have H2 : Hid (rdur s.data.toList = (n, e)) := by show _ = _; rw [rdur_eq]; exact H
  clear H
  by_cases h : s.size ≤ 4096
  · have hi : (s.size : Int) ≤ 4096 := by omega
    have q : ((4096 : Int) < (s.size : Int)) = False := eq_false (by omega)
    go_enter Try.func10, Try.ntmps10
    go_wp2_with fail
    refine (pdur_c _ _ _ H1 h ml _ hm).mono ?_
    rintro ee w1 ⟨rfl, b1⟩
    go_wp2_with fail
    refine (rdur_c _ _ _ H2 h _).mono ?_
    rintro ee w2 ⟨rfl, b2⟩
    have b3 := bl_next b1 b2
    have hm3 := ml_next hm b3
    go_wp2_with fail
    refine (example_c ml _ hm3).mono ?_
    rintro ee w4 ⟨rfl, b4⟩
    go_wp2
    go_ret
    exact ⟨rfl, bl_next b3 b4⟩
  · have hi : (4096 : Int) < (s.size : Int) := by omega
    go_enter Try.func10, Try.ntmps10
    go_wp2_with fail
    refine (example_c ml _ hm).mono ?_
    rintro ee w4 ⟨rfl, b4⟩
    go_wp2
    go_ret
    exact ⟨rfl, b4⟩
end Go.Proofs.Ytnmapjflofoflaa
