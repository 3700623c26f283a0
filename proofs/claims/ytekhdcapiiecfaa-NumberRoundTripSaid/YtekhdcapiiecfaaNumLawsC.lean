/-
  THE WALKS OF THE LAWS OF NUMBER, THIRD PART: the round trip, and what is undone. Conditions: each integer is an int, each string has at most maxLen bytes.
-/
import Derived.Test.YtekhdcapiiecfaaNumLawsA
namespace Go.Proofs.Ytekhdcapiiecfaa
open Go.RowKit
open Num

theorem text_eq {s : ByteArray} {l : List UInt8} (h : l = s.data.toList) : str l = .string s := by
  have : (⟨l.toArray⟩ : ByteArray) = s := by
    apply ByteArray.ext
    simp [h]
  unfold str
  rw [this]

set_option maxHeartbeats 4000000 in
theorem trip_law (s : ByteArray) (hs : s.size ≤ maxLen) (w : World) : Calls Try.prog 5 #[.string s] w fun r w' => r = .returned (.bool true) ∧ Bl w w' := by
  have hs' := hs
  unfold maxLen at hs'
  obtain ⟨n, e, H1⟩ : ∃ n e, Hid (parse s.data.toList = (n, e)) := ⟨_, _, rfl⟩
  obtain ⟨k, g, h2⟩ := price_some s.data.toList
  have H2 := Lib.hid h2
  have H3 := Lib.hid (price_text h2)
  clear h2
  by_cases hlen : 200 < (s.size : Int)
  · go_enter Try.func5, Try.ntmps5
    go_wp2_with (go_at_call 13; refine (example_c _).mono ?_; rintro e w3 ⟨rfl, b3⟩)
    go_ret
    exact ⟨rfl, b3⟩
  have hb := parse_bounds H1.out
  obtain ⟨n0, n1⟩ := hb
  by_cases he : e = 0
  · subst he
    have HT := Lib.hid (text_eq (itoa_parse H1.out))
    by_cases hg : g = 0
    · subst hg
      have HP := Lib.hid (H3.out.1 rfl)
      go_enter Try.func5, Try.ntmps5
      go_wp2_with (first
        | (go_at_call 11; refine (parse_c _ _ _ H1 hs _).mono ?_; rintro e w1 ⟨rfl, b1⟩)
        | (go_at_call 10; refine (format_c _ n0 n1 _).mono ?_; rintro e w1 ⟨rfl, b2⟩; rw [HT.out])
        | (go_at_call 16; refine (parsePrice_c _ _ _ H2.out hs _).mono ?_; rintro e w2 ⟨rfl, b4⟩)
        | (go_at_call 14; refine (formatPrice_c _ _ _ HP _).mono ?_; rintro e w1 ⟨rfl, b5⟩)
        | (go_at_call 13; refine (example_c _).mono ?_; rintro e w3 ⟨rfl, b3⟩))
      go_ret
      exact ⟨rfl, bl_next (bl_next (bl_next (bl_next b1 b2) b4) b5) b3⟩
    · have hg' : (g != 0) = true := by simpa using hg
      obtain rfl := H3.out.2 hg
      go_enter Try.func5, Try.ntmps5
      go_wp2_with (first
        | (go_at_call 11; refine (parse_c _ _ _ H1 hs _).mono ?_; rintro e w1 ⟨rfl, b1⟩)
        | (go_at_call 10; refine (format_c _ n0 n1 _).mono ?_; rintro e w1 ⟨rfl, b2⟩; rw [HT.out])
        | (go_at_call 16; refine (parsePrice_c _ _ _ H2.out hs _).mono ?_; rintro e w2 ⟨rfl, b4⟩)
        | (go_at_call 13; refine (example_c _).mono ?_; rintro e w3 ⟨rfl, b3⟩))
      go_ret
      exact ⟨rfl, bl_next (bl_next (bl_next b1 b2) b4) b3⟩
  · have he' : (e == 0) = false := by simpa using he
    by_cases hg : g = 0
    · subst hg
      have HP := Lib.hid (H3.out.1 rfl)
      go_enter Try.func5, Try.ntmps5
      go_wp2_with (first
        | (go_at_call 11; refine (parse_c _ _ _ H1 hs _).mono ?_; rintro e w1 ⟨rfl, b1⟩)
        | (go_at_call 16; refine (parsePrice_c _ _ _ H2.out hs _).mono ?_; rintro e w2 ⟨rfl, b4⟩)
        | (go_at_call 14; refine (formatPrice_c _ _ _ HP _).mono ?_; rintro e w1 ⟨rfl, b5⟩)
        | (go_at_call 13; refine (example_c _).mono ?_; rintro e w3 ⟨rfl, b3⟩))
      go_ret
      exact ⟨rfl, bl_next (bl_next (bl_next b1 b4) b5) b3⟩
    · have hg' : (g != 0) = true := by simpa using hg
      obtain rfl := H3.out.2 hg
      go_enter Try.func5, Try.ntmps5
      go_wp2_with (first
        | (go_at_call 11; refine (parse_c _ _ _ H1 hs _).mono ?_; rintro e w1 ⟨rfl, b1⟩)
        | (go_at_call 16; refine (parsePrice_c _ _ _ H2.out hs _).mono ?_; rintro e w2 ⟨rfl, b4⟩)
        | (go_at_call 13; refine (example_c _).mono ?_; rintro e w3 ⟨rfl, b3⟩))
      go_ret
      exact ⟨rfl, bl_next (bl_next b1 b4) b3⟩

/-! ### what is undone -/
theorem rest_eq (a b : Int) : wrap64 (a - wrap64 (a.fdiv b * b)) = wrap64 (a - a.fdiv b * b) := by
  unfold wrap64
  omega
theorem rest_fmod (a b : Int) : a - a.fdiv b * b = a.fmod b := by
  have := Int.mul_fdiv_add_fmod a b
  rw [Int.mul_comm] at this
  omega
theorem fmod_pos (a : Int) {b : Int} (hb : 0 < b) : 0 ≤ a.fmod b ∧ a.fmod b < b := ⟨Int.fmod_nonneg_of_pos a hb, Int.fmod_lt_of_pos a hb⟩
theorem fmod_neg (a : Int) {b : Int} (hb : b < 0) : a.fmod b ≤ 0 ∧ b < a.fmod b := by
  have h := fmod_pos (-a) (b := -b) (by omega)
  have e : (-a).fmod (-b) = -(a.fmod b) := Int.neg_fmod_neg a b
  omega

theorem rest_case (a b : Int) (hb : isInt b) (hb0 : ¬ b = 0) : ∃ r : Int, wrap64 (a - wrap64 (a.fdiv b * b)) = r ∧ ((r = 0) ∨ (0 < b ∧ 0 < r ∧ r < b) ∨ (b < 0 ∧ r < 0 ∧ b < r)) := by
  obtain ⟨b0, b1⟩ := hb
  refine ⟨_, rfl, ?_⟩
  rw [rest_eq, rest_fmod]
  by_cases h : 0 < b
  · have := fmod_pos a h
    rw [IntWalk.wrap64_in _ (by omega)]
    omega
  · have := fmod_neg a (b := b) (by omega)
    rw [IntWalk.wrap64_in _ (by omega)]
    omega

set_option maxHeartbeats 1000000 in
theorem undoes_yy (a b n q : Int) (ha : isInt a) (hb : isInt b) (H1 : Hid (Sum (a + b) n true)) (H3 : Hid (Sum (n - b) a true)) (hi : isInt n) (H2 : Hid (Quot a b q true)) (r : Int) (hr : wrap64 (a - wrap64 (q * b)) = r) (hc : (r = 0) ∨ (0 < b ∧ 0 < r ∧ r < b) ∨ (b < 0 ∧ r < 0 ∧ b < r)) (w : World) : Calls Try.prog 8 #[.int .i64 a, .int .i64 b] w fun r w' => r = .returned (.bool true) ∧ Bl w w' := by
  rcases hc with rfl | ⟨c1, c2, c3⟩ | ⟨c1, c2, c3⟩
  all_goals
    · skip
      go_enter Try.func8, Try.ntmps8
      go_wp2_with fail
      refine (add_c _ _ _ _ H1.out ha hb _).mono ?_
      rintro e w1 ⟨rfl, b1⟩
      go_wp2_with fail
      refine (sub_c _ _ _ _ H3.out hi hb _).mono ?_
      rintro e w2 ⟨rfl, b2⟩
      go_wp2_with fail
      refine (div_c _ _ _ _ H2.out ha hb _).mono ?_
      rintro e w3 ⟨rfl, b3⟩
      go_wp2_with fail
      refine (example_c _).mono ?_
      rintro e w4 ⟨rfl, b4⟩
      go_wp2
      go_ret
      exact ⟨rfl, bl_next (bl_next (bl_next b1 b2) b3) b4⟩

set_option maxHeartbeats 1000000 in
theorem undoes_yn (a b n : Int) (ha : isInt a) (hb : isInt b) (H1 : Hid (Sum (a + b) n true)) (H3 : Hid (Sum (n - b) a true)) (hi : isInt n) (H2 : Hid (Quot a b 0 false)) (hc : b = 0 ∨ b = -1) (w : World) : Calls Try.prog 8 #[.int .i64 a, .int .i64 b] w fun r w' => r = .returned (.bool true) ∧ Bl w w' := by
  rcases hc with hc | hc
  all_goals
    · subst hc
      go_enter Try.func8, Try.ntmps8
      go_wp2_with fail
      refine (add_c _ _ _ _ H1.out ha hb _).mono ?_
      rintro e w1 ⟨rfl, b1⟩
      go_wp2_with fail
      refine (sub_c _ _ _ _ H3.out hi hb _).mono ?_
      rintro e w2 ⟨rfl, b2⟩
      go_wp2_with fail
      refine (div_c _ _ _ _ H2.out ha hb _).mono ?_
      rintro e w3 ⟨rfl, b3⟩
      go_wp2_with fail
      refine (example_c _).mono ?_
      rintro e w4 ⟨rfl, b4⟩
      go_wp2
      go_ret
      exact ⟨rfl, bl_next (bl_next (bl_next b1 b2) b3) b4⟩

set_option maxHeartbeats 1000000 in
theorem undoes_ny (a b n q : Int) (ha : isInt a) (hb : isInt b) (H1 : Hid (Sum (a + b) n false)) (H2 : Hid (Quot a b q true)) (r : Int) (hr : wrap64 (a - wrap64 (q * b)) = r) (hc : (r = 0) ∨ (0 < b ∧ 0 < r ∧ r < b) ∨ (b < 0 ∧ r < 0 ∧ b < r)) (w : World) : Calls Try.prog 8 #[.int .i64 a, .int .i64 b] w fun r w' => r = .returned (.bool true) ∧ Bl w w' := by
  rcases hc with rfl | ⟨c1, c2, c3⟩ | ⟨c1, c2, c3⟩
  all_goals
    · skip
      go_enter Try.func8, Try.ntmps8
      go_wp2_with fail
      refine (add_c _ _ _ _ H1.out ha hb _).mono ?_
      rintro e w1 ⟨rfl, b1⟩
      go_wp2_with fail
      refine (div_c _ _ _ _ H2.out ha hb _).mono ?_
      rintro e w3 ⟨rfl, b3⟩
      go_wp2_with fail
      refine (example_c _).mono ?_
      rintro e w4 ⟨rfl, b4⟩
      go_wp2
      go_ret
      exact ⟨rfl, bl_next (bl_next b1 b3) b4⟩

set_option maxHeartbeats 1000000 in
theorem undoes_nn (a b n : Int) (ha : isInt a) (hb : isInt b) (H1 : Hid (Sum (a + b) n false)) (H2 : Hid (Quot a b 0 false)) (hc : b = 0 ∨ b = -1) (w : World) : Calls Try.prog 8 #[.int .i64 a, .int .i64 b] w fun r w' => r = .returned (.bool true) ∧ Bl w w' := by
  rcases hc with hc | hc
  all_goals
    · subst hc
      go_enter Try.func8, Try.ntmps8
      go_wp2_with fail
      refine (add_c _ _ _ _ H1.out ha hb _).mono ?_
      rintro e w1 ⟨rfl, b1⟩
      go_wp2_with fail
      refine (div_c _ _ _ _ H2.out ha hb _).mono ?_
      rintro e w3 ⟨rfl, b3⟩
      go_wp2_with fail
      refine (example_c _).mono ?_
      rintro e w4 ⟨rfl, b4⟩
      go_wp2
      go_ret
      exact ⟨rfl, bl_next (bl_next b1 b3) b4⟩

theorem undoes_law (a b : Int) (ha : isInt a) (hb : isInt b) (w : World) : Calls Try.prog 8 #[.int .i64 a, .int .i64 b] w fun r w' => r = .returned (.bool true) ∧ Bl w w' := by
  have hq : (Quot a b 0 false ∧ (b = 0 ∨ b = -1)) ∨ (∃ q r : Int, Quot a b q true ∧ wrap64 (a - wrap64 (q * b)) = r ∧ ((r = 0) ∨ (0 < b ∧ 0 < r ∧ r < b) ∨ (b < 0 ∧ r < 0 ∧ b < r))) := by
    by_cases h : b = 0 ∨ (b = -1 ∧ a = -9223372036854775808)
    · exact .inl ⟨.no h, by omega⟩
    · obtain ⟨r, hr, hc⟩ := rest_case a b hb (fun k => h (.inl k))
      exact .inr ⟨_, r, .yes (fun k => h (.inl k)) (fun k => h (.inr k)), hr, hc⟩
  have hs : Sum (a + b) 0 false ∨ (isInt (a + b) ∧ Sum (a + b) (a + b) true ∧ Sum (a + b - b) a true) := by
    by_cases h : isInt (a + b)
    · exact .inr ⟨h, .yes h, by rw [show a + b - b = a by omega]; exact .yes ha⟩
    · exact .inl (.no h)
  rcases hs with h1 | ⟨hi, h1, h3⟩ <;> rcases hq with ⟨h2, hc⟩ | ⟨q, r, h2, hr, hc⟩
  · exact undoes_nn a b _ ha hb h1 h2 hc w
  · exact undoes_ny a b _ q ha hb h1 h2 r hr hc w
  · exact undoes_yn a b _ ha hb h1 h3 hi h2 hc w
  · exact undoes_yy a b _ q ha hb h1 h3 hi h2 r hr hc w
end Go.Proofs.Ytekhdcapiiecfaa
