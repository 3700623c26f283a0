/-
  THE WALK OF ClockRoundTrip. Conditions: the string has at most maxLen bytes, bytealg.MaxLen's cell holds an integer.
-/
import Derived.Test.YtnmapjflofoflaaClkLawsA
import Derived.Test.YtnmapjflofoflaaClkDurLaws
namespace Go.Proofs.Ytnmapjflofoflaa
open Go.RowKit
open Num Clk

set_option maxHeartbeats 20000000 in
theorem roundTrip_law (n : Int) (s : ByteArray) (hs : s.size ≤ maxLen) (ml : Int) (w : World) (hm : Ml ml w) : Calls Try.prog 11 #[.int .i64 n, .string s] w fun r w' => r = .returned (.bool true) ∧ Bl w w' := by
  unfold maxLen at hs
  by_cases h : s.size ≤ 4096
  · have hi : (s.size : Int) ≤ 4096 := by omega
    have q : ((4096 : Int) < (s.size : Int)) = False := eq_false (by omega)
    -- Format, Parse
    obtain ⟨a, e1, t1, f1, H1, H2, P1⟩ : ∃ a e t f, fmt n = (a, e) ∧ Time a t f ∧ (e = 0 → f = 0 ∧ t = n) := by
      obtain ⟨a, e, H⟩ : ∃ n' ok, fmt n = (n', ok) := ⟨_, _, rfl⟩
      unfold fmt at H
      split at H
      · rename_i hv
        obtain ⟨rfl, rfl⟩ := Prod.mk.inj H
        refine ⟨_, _, _, _, by unfold fmt; rw [if_pos hv], time_text n.toNat (by omega), fun _ => ⟨rfl, by omega⟩⟩
      · rename_i hv
        obtain ⟨t, f, k⟩ := time_some []
        exact ⟨_, _, t, f, by unfold fmt; rw [if_neg hv], k, fun k => absurd k (by decide)⟩
    -- FormatDuration, ParseDuration
    obtain ⟨b, e2, t2, f2, H3, H4, hb, P2⟩ : ∃ a e t f, fmtD n = (a, e) ∧ pdur a = (t, f) ∧ a.length ≤ 4096 ∧ (e = 0 → f = 0 ∧ t = n) := by
      by_cases hv : 0 ≤ n ∧ n ≤ 359999
      · refine ⟨_, _, _, _, by unfold fmtD; rw [if_pos hv], pdur_text n.toNat (by omega), durText_len _ (by omega), fun _ => ⟨rfl, by omega⟩⟩
      · exact ⟨_, _, _, _, by unfold fmtD; rw [if_neg hv], rfl, by simp, fun k => absurd k (by decide)⟩
    obtain ⟨t3, f3, H5⟩ := time_some s.data.toList
    obtain ⟨a3, g3, H6⟩ : ∃ x y, fmt t3 = (x, y) := ⟨_, _, rfl⟩
    have P3 : f3 = 0 → g3 = 0 ∧ a3 = s.data.toList := by
      rintro rfl
      rw [text_time H5] at H6
      obtain ⟨rfl, rfl⟩ := Prod.mk.inj H6
      exact ⟨rfl, rfl⟩
    obtain ⟨t4, f4, H7⟩ : ∃ x y, pdur s.data.toList = (x, y) := ⟨_, _, rfl⟩
    obtain ⟨b4, g4, H8⟩ : ∃ x y, fmtD t4 = (x, y) := ⟨_, _, rfl⟩
    have P4 : f4 = 0 → g4 = 0 ∧ b4 = s.data.toList := by
      rintro rfl
      rw [text_pdur H7] at H8
      obtain ⟨rfl, rfl⟩ := Prod.mk.inj H8
      exact ⟨rfl, rfl⟩
    have K1 := Lib.hid H1
    have K3 := Lib.hid H3
    have K4 := Lib.hid H4
    have K6 := Lib.hid H6
    have K7 := Lib.hid H7
    have K8 := Lib.hid H8
    have hbz : (ByteArray.mk b.toArray).size ≤ 4096 := by show b.toArray.size ≤ _; simpa using hb
    clear H1 H3 H4 H6 H7 H8
    have D1 : (e1 = 0 ∧ f1 = 0 ∧ t1 = n) ∨ (e1 == 0) = false := by
      by_cases k : e1 = 0
      · exact .inl ⟨k, P1 k⟩
      · exact .inr (by rw [beq_eq_false_iff_ne]; exact k)
    have D2 : (e2 = 0 ∧ f2 = 0 ∧ t2 = n) ∨ (e2 == 0) = false := by
      by_cases k : e2 = 0
      · exact .inl ⟨k, P2 k⟩
      · exact .inr (by rw [beq_eq_false_iff_ne]; exact k)
    have D3 : (f3 = 0 ∧ g3 = 0 ∧ a3 = s.data.toList) ∨ (f3 == 0) = false := by
      by_cases k : f3 = 0
      · exact .inl ⟨k, P3 k⟩
      · exact .inr (by rw [beq_eq_false_iff_ne]; exact k)
    have D4 : (f4 = 0 ∧ g4 = 0 ∧ b4 = s.data.toList) ∨ (f4 == 0) = false ∧ (f4 != 0) = true := by
      by_cases k : f4 = 0
      · exact .inl ⟨k, P4 k⟩
      · exact .inr ⟨by rw [beq_eq_false_iff_ne]; exact k, by rw [bne_iff_ne]; exact k⟩
    clear P1 P2 P3 P4
    rcases D1 with ⟨rfl, rfl, rfl⟩ | D1 <;> rcases D2 with ⟨rfl, rfl, rfl⟩ | D2 <;> rcases D3 with ⟨rfl, rfl, rfl⟩ | D3 <;> rcases D4 with ⟨rfl, rfl, rfl⟩ | ⟨D4, D5⟩
    all_goals
      go_enter Try.func11, Try.ntmps11
      go_wp2_with fail
      refine (fmt_c _ _ _ K1 _).mono ?_
      rintro ee w1 ⟨rfl, b1⟩
      go_wp2_with fail
      refine (parse_c _ _ _ H2 _).mono ?_
      rintro ee w2 ⟨rfl, b2⟩
      have b3 := bl_next b1 b2
      clear b1 b2
      go_wp2_with fail
      refine (fmtD_c _ _ _ K3 _).mono ?_
      rintro ee w4 ⟨rfl, b4⟩
      have b5 := bl_next b3 b4
      have m5 := ml_next hm b5
      clear b3 b4
      go_wp2_with fail
      refine (pdur_c _ _ _ K4 hbz ml _ m5).mono ?_
      rintro ee w6 ⟨rfl, b6⟩
      have b7 := bl_next b5 b6
      clear b5 b6 m5
      go_wp2_with fail
      refine (parse_c _ _ _ H5 _).mono ?_
      rintro ee w8 ⟨rfl, b8⟩
      have b9 := bl_next b7 b8
      clear b7 b8
      go_wp2_with fail
      refine (fmt_c _ _ _ K6 _).mono ?_
      rintro ee w10 ⟨rfl, b10⟩
      have b11 := bl_next b9 b10
      have m11 := ml_next hm b11
      clear b9 b10
      go_wp2_with fail
      refine (pdur_c _ _ _ K7 h ml _ m11).mono ?_
      rintro ee w12 ⟨rfl, b12⟩
      have b13 := bl_next b11 b12
      clear b11 b12 m11
      go_wp2_with fail
      refine (fmtD_c _ _ _ K8 _).mono ?_
      rintro ee w14 ⟨rfl, b14⟩
      have b15 := bl_next b13 b14
      have m15 := ml_next hm b15
      clear b13 b14
      go_wp2_with fail
      refine (example_c ml _ m15).mono ?_
      rintro ee w16 ⟨rfl, b16⟩
      go_wp2
      go_ret
      exact ⟨rfl, bl_next b15 b16⟩
  · have hi : (4096 : Int) < (s.size : Int) := by omega
    go_enter Try.func11, Try.ntmps11
    go_wp2_with fail
    refine (example_c ml _ hm).mono ?_
    rintro ee w4 ⟨rfl, b4⟩
    go_wp2
    go_ret
    exact ⟨rfl, b4⟩
end Go.Proofs.Ytnmapjflofoflaa
