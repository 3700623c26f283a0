/-
  THE WALKS OF THE LAWS OF NUMBER, SECOND PART: each law returns true, and writes nothing that was there. Conditions: each integer is an int, each string has at most maxLen bytes.
-/
import Derived.Test.YtekhdcapiiecfaaNumLawsA
namespace Go.Proofs.Ytekhdcapiiecfaa
open Go.RowKit
open Num

theorem clamps_law (n lo hi : Int) (w : World) : Calls Try.prog 6 #[.int .i64 n, .int .i64 lo, .int .i64 hi] w fun r w' => r = .returned (.bool true) ∧ Bl w w' := by
  go_enter Try.func6, Try.ntmps6
  go_wp2_with (first
    | (go_at_call 18; refine (clamp_c _ _ _ _).mono ?_; rintro e w1 ⟨rfl, rfl⟩)
    | (go_at_call 19; refine (refClamp_c _ _ _ _).mono ?_; rintro e w1 ⟨rfl, rfl⟩)
    | (go_at_call 13; refine (example_c _).mono ?_; rintro e w1 ⟨rfl, hb⟩))
  go_ret
  exact ⟨rfl, hb⟩

set_option maxHeartbeats 2000000 in
theorem formats_law (n : Int) (hn : isInt n) (w : World) : Calls Try.prog 3 #[.int .i64 n] w fun r w' => r = .returned (.bool true) ∧ Bl w w' := by
  obtain ⟨n0, n1⟩ := hn
  have HP := Lib.hid (parse_itoa n n0 n1)
  obtain ⟨t, ht⟩ : ∃ t, t = itoa n := ⟨_, rfl⟩
  have hlen : t.length ≤ 20 := by
    rw [ht]
    unfold itoa
    split
    · have := length_19 n.natAbs (by omega)
      simp
      omega
    · have := length_19 n.toNat (by omega)
      omega
  have HT := Lib.hid ht
  clear ht
  go_enter Try.func3, Try.ntmps3
  go_wp2_with (first
    | (go_at_call 10; refine (format_c _ n0 n1 _).mono ?_; rintro e w1 ⟨rfl, b1⟩; rw [← HT.out])
    | (go_at_call 11; refine (parse_c ⟨t.toArray⟩ n 0 (by show _ = _; rw [HT.out]; exact HP.out) (by show t.toArray.size ≤ _; unfold maxLen; simp; omega) _).mono ?_; rintro e w2 ⟨rfl, b2⟩)
    | (go_at_call 12; refine (refFormat_c _ n0 n1 _).mono ?_; rintro e w1 ⟨rfl, rfl⟩; rw [← HT.out])
    | (go_at_call 13; refine (example_c _).mono ?_; rintro e w3 ⟨rfl, b3⟩))
  go_ret
  exact ⟨rfl, bl_next (bl_next b1 b2) b3⟩

set_option maxHeartbeats 2000000 in
theorem parses_law (s : ByteArray) (lo hi : Int) (hs : s.size ≤ maxLen) (w : World) : Calls Try.prog 7 #[.string s, .int .i64 lo, .int .i64 hi] w fun r w' => r = .returned (.bool true) ∧ Bl w w' := by
  have hs' := hs
  unfold maxLen at hs'
  obtain ⟨n, e, H1⟩ : ∃ n e, Hid (parse s.data.toList = (n, e)) := ⟨_, _, rfl⟩
  obtain ⟨k, g, H2⟩ : ∃ n e, Hid (parseR s.data.toList lo hi = (n, e)) := ⟨_, _, rfl⟩
  go_enter Try.func7, Try.ntmps7
  by_cases hlen : 200 < (s.size : Int)
  · go_wp2_with (go_at_call 13; refine (example_c _).mono ?_; rintro e w3 ⟨rfl, b3⟩)
    go_ret
    exact ⟨rfl, b3⟩
  · go_wp2_with (first
      | (go_at_call 11; refine (parse_c _ _ _ H1 hs _).mono ?_; rintro e w1 ⟨rfl, b1⟩)
      | (go_at_call 20; refine (refParse_c _ _ _ H1 hs _).mono ?_; rintro e w1 ⟨rfl, rfl⟩)
      | (go_at_call 21; refine (parseRange_c _ _ _ _ _ H2 hs _).mono ?_; rintro e w2 ⟨rfl, b2⟩)
      | (go_at_call 22; refine (refParseRange_c _ _ _ _ _ H2 hs _).mono ?_; rintro e w1 ⟨rfl, rfl⟩)
      | (go_at_call 13; refine (example_c _).mono ?_; rintro e w3 ⟨rfl, b3⟩))
    go_ret
    exact ⟨rfl, bl_next (bl_next b1 b2) b3⟩

set_option maxHeartbeats 2000000 in
theorem prices_law (c : Int) (s : ByteArray) (hs : s.size ≤ maxLen) (w : World) : Calls Try.prog 4 #[.int .i64 c, .string s] w fun r w' => r = .returned (.bool true) ∧ Bl w w' := by
  have hs' := hs
  unfold maxLen at hs'
  obtain ⟨t, e, H1⟩ : ∃ t e, Hid (fmtPrice c = (t, e)) := ⟨_, _, rfl⟩
  obtain ⟨k, g, h2⟩ := price_some s.data.toList
  have H2 := Lib.hid h2
  clear h2
  go_enter Try.func4, Try.ntmps4
  by_cases hlen : 200 < (s.size : Int)
  · go_wp2_with (go_at_call 13; refine (example_c _).mono ?_; rintro e w3 ⟨rfl, b3⟩)
    go_ret
    exact ⟨rfl, b3⟩
  · go_wp2_with (first
      | (go_at_call 14; refine (formatPrice_c _ _ _ H1 _).mono ?_; rintro e w1 ⟨rfl, b1⟩)
      | (go_at_call 15; refine (refFormatPrice_c _ _ _ H1 _).mono ?_; rintro e w1 ⟨rfl, rfl⟩)
      | (go_at_call 16; refine (parsePrice_c _ _ _ H2.out hs _).mono ?_; rintro e w2 ⟨rfl, b2⟩)
      | (go_at_call 17; refine (refParsePrice_c _ _ _ H2.out hs _).mono ?_; rintro e w4 ⟨rfl, b4⟩)
      | (go_at_call 13; refine (example_c _).mono ?_; rintro e w3 ⟨rfl, b3⟩))
    go_ret
    exact ⟨rfl, bl_next (bl_next (bl_next b1 b2) b4) b3⟩

set_option maxHeartbeats 2000000 in
theorem computes_law (a b : Int) (ha : isInt a) (hb : isInt b) (w : World) : Calls Try.prog 9 #[.int .i64 a, .int .i64 b] w fun r w' => r = .returned (.bool true) ∧ Bl w w' := by
  obtain ⟨n1, o1, h1⟩ := sum_some (a + b)
  obtain ⟨n2, o2, h2⟩ := sum_some (a - b)
  obtain ⟨n3, o3, h3⟩ := sum_some (a * b)
  obtain ⟨n4, o4, h4⟩ := quot_some a b
  have H1 := Lib.hid h1
  have H2 := Lib.hid h2
  have H3 := Lib.hid h3
  have H4 := Lib.hid h4
  clear h1 h2 h3 h4
  go_enter Try.func9, Try.ntmps9
  go_wp2_with (first
    | (go_at_call 23; refine (add_c _ _ _ _ H1.out ha hb _).mono ?_; rintro e w1 ⟨rfl, b1⟩)
    | (go_at_call 26; refine (refAdd_c _ _ _ _ H1.out ha hb _).mono ?_; rintro e w1 ⟨rfl, b2⟩)
    | (go_at_call 24; refine (sub_c _ _ _ _ H2.out ha hb _).mono ?_; rintro e w1 ⟨rfl, b3⟩)
    | (go_at_call 27; refine (refSub_c _ _ _ _ H2.out ha hb _).mono ?_; rintro e w1 ⟨rfl, b4⟩)
    | (go_at_call 28; refine (mul_c _ _ _ _ H3.out ha hb _).mono ?_; rintro e w1 ⟨rfl, b5⟩)
    | (go_at_call 29; refine (refMul_c _ _ _ _ H3.out ha hb _).mono ?_; rintro e w1 ⟨rfl, b6⟩)
    | (go_at_call 25; refine (div_c _ _ _ _ H4.out ha hb _).mono ?_; rintro e w1 ⟨rfl, b7⟩)
    | (go_at_call 30; refine (refDiv_c _ _ _ _ H4.out ha hb _).mono ?_; rintro e w1 ⟨rfl, b8⟩)
    | (go_at_call 13; refine (example_c _).mono ?_; rintro e w3 ⟨rfl, b9⟩))
  go_ret
  exact ⟨rfl, bl_next (bl_next (bl_next (bl_next (bl_next (bl_next (bl_next (bl_next b1 b2) b3) b4) b5) b6) b7) b8) b9⟩
end Go.Proofs.Ytekhdcapiiecfaa
