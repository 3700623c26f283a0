/-
  THE WALKS OF DateOrders AND DateWeeks. Conditions: each integer is an int.
-/
import Derived.Test.YtlkkkdflafikaaaDatLawsB
namespace Go.Proofs.Ytlkkkdflafikaaa
open Go.RowKit
open Num Clk Dat

set_option maxRecDepth 1000000 in
set_option maxHeartbeats 8000000 in
theorem orders_1 (a b : Int) (l k m n : List UInt8) (Ha : Hid (dfmt a = (l, 0))) (Hb : Hid (dfmt b = (k, 0))) (Hc : Hid (mfmt a = (m, 0))) (Hd : Hid (mfmt b = (n, 0))) (p q : Bool) (h1 : decide (a < b) = p) (h2 : (a == b) = q) (h3 : Op.bytesLess l k = p) (h4 : (l == k) = q) (h5 : Op.bytesLess m n = p) (h6 : (m == n) = q) (w : World) : Calls Try.prog 13 #[.int .i64 a, .int .i64 b] w fun r w' => r = .returned (.bool true) ∧ Bl w w' := by
  go_enter Try.func13, Try.ntmps13
  go_wp2_with fail
  refine (dFormat_c _ _ _ Ha _).mono ?_
  rintro e1 w1 ⟨rfl, b1⟩
  go_wp2_with fail
  refine (dFormat_c _ _ _ Hb _).mono ?_
  rintro e2 w2 ⟨rfl, b2⟩
  have c2 := bl_next b1 b2
  go_wp2_with fail
  refine (dStamp_c _ _ _ Hc _).mono ?_
  rintro e3 w3 ⟨rfl, b3⟩
  have c3 := bl_next c2 b3
  go_wp2_with fail
  refine (dStamp_c _ _ _ Hd _).mono ?_
  rintro e4 w4 ⟨rfl, b4⟩
  have c4 := bl_next c3 b4
  go_wp2_with fail
  refine (example_c _).mono ?_
  rintro e5 w5 ⟨rfl, b5⟩
  have c5 := bl_next c4 b5
  go_wp2
  go_ret
  exact ⟨rfl, c5⟩

set_option maxRecDepth 1000000 in
set_option maxHeartbeats 8000000 in
theorem orders_2 (a b : Int) (l k m n : List UInt8) (e f : Int) (Ha : Hid (dfmt a = (l, e))) (Hb : Hid (dfmt b = (k, f))) (hef : e = 11 ∨ (e = 0 ∧ f = 11)) (Hc : Hid (mfmt a = (m, 0))) (Hd : Hid (mfmt b = (n, 0))) (hL2 : Op.bytesLess m n = decide (a < b)) (hE2 : (a == b) = (m == n)) (w : World) : Calls Try.prog 13 #[.int .i64 a, .int .i64 b] w fun r w' => r = .returned (.bool true) ∧ Bl w w' := by
  rcases hef with rfl | ⟨rfl, rfl⟩
  all_goals
    go_enter Try.func13, Try.ntmps13
    go_wp2_with fail
    refine (dFormat_c _ _ _ Ha _).mono ?_
    rintro e1 w1 ⟨rfl, b1⟩
    go_wp2_with fail
    refine (dFormat_c _ _ _ Hb _).mono ?_
    rintro e2 w2 ⟨rfl, b2⟩
    have c2 := bl_next b1 b2
    go_wp2_with fail
    refine (dStamp_c _ _ _ Hc _).mono ?_
    rintro e3 w3 ⟨rfl, b3⟩
    have c3 := bl_next c2 b3
    go_wp2_with fail
    refine (dStamp_c _ _ _ Hd _).mono ?_
    rintro e4 w4 ⟨rfl, b4⟩
    have c4 := bl_next c3 b4
    go_wp2_with fail
    refine (example_c _).mono ?_
    rintro e5 w5 ⟨rfl, b5⟩
    have c5 := bl_next c4 b5
    go_wp2
    go_ret
    exact ⟨rfl, c5⟩

set_option maxRecDepth 1000000 in
set_option maxHeartbeats 8000000 in
theorem orders_3 (a b : Int) (l k m n : List UInt8) (e f g h : Int) (Ha : Hid (dfmt a = (l, e))) (Hb : Hid (dfmt b = (k, f))) (hef : e = 11 ∨ (e = 0 ∧ f = 11)) (Hc : Hid (mfmt a = (m, g))) (Hd : Hid (mfmt b = (n, h))) (hgh : g = 11 ∨ (g = 0 ∧ h = 11)) (w : World) : Calls Try.prog 13 #[.int .i64 a, .int .i64 b] w fun r w' => r = .returned (.bool true) ∧ Bl w w' := by
  rcases hef with rfl | ⟨rfl, rfl⟩ <;> rcases hgh with rfl | ⟨rfl, rfl⟩
  all_goals
    go_enter Try.func13, Try.ntmps13
    go_wp2_with fail
    refine (dFormat_c _ _ _ Ha _).mono ?_
    rintro e1 w1 ⟨rfl, b1⟩
    go_wp2_with fail
    refine (dFormat_c _ _ _ Hb _).mono ?_
    rintro e2 w2 ⟨rfl, b2⟩
    have c2 := bl_next b1 b2
    go_wp2_with fail
    refine (dStamp_c _ _ _ Hc _).mono ?_
    rintro e3 w3 ⟨rfl, b3⟩
    have c3 := bl_next c2 b3
    go_wp2_with fail
    refine (dStamp_c _ _ _ Hd _).mono ?_
    rintro e4 w4 ⟨rfl, b4⟩
    have c4 := bl_next c3 b4
    go_wp2_with fail
    refine (example_c _).mono ?_
    rintro e5 w5 ⟨rfl, b5⟩
    have c5 := bl_next c4 b5
    go_wp2
    go_ret
    exact ⟨rfl, c5⟩

theorem beq_of {a b : Int} {l k : List UInt8} (h1 : l = k → a = b) (h2 : a = b → l = k) : (a == b) = (l == k) := by
  rw [Bool.eq_iff_iff, beq_iff_eq, beq_iff_eq]
  exact ⟨h2, h1⟩
theorem orders_law (a b : Int) (w : World) : Calls Try.prog 13 #[.int .i64 a, .int .i64 b] w fun r w' => r = .returned (.bool true) ∧ Bl w w' := by
  rcases mfmt_cases a with ⟨a0, a1, ea⟩ | ⟨na, ea⟩
  · rcases mfmt_cases b with ⟨b0, b1, eb⟩ | ⟨nb, eb⟩
    · have hL2 := less_mtext a b ⟨a0, a1⟩ ⟨b0, b1⟩
      have hE2 : (a == b) = (mtext a == mtext b) := beq_of (mtext_inj ⟨a0, a1⟩ ⟨b0, b1⟩) (fun h => by rw [h])
      rcases dfmt_cases a with ⟨c0, c1, fa⟩ | ⟨nc, fa⟩
      · rcases dfmt_cases b with ⟨d0, d1, fb⟩ | ⟨nd, fb⟩
        · exact orders_1 a b _ _ _ _ fa fb ea eb _ _ rfl rfl (less_dtext a b ⟨c0, c1⟩ ⟨d0, d1⟩) (beq_of (dtext_inj ⟨c0, c1⟩ ⟨d0, d1⟩) (fun h => by rw [h])).symm hL2 hE2.symm w
        · exact orders_2 a b _ _ _ _ _ _ fa fb (.inr ⟨rfl, rfl⟩) ea eb hL2 hE2 w
      · exact orders_2 a b _ _ _ _ _ _ fa (show Hid (dfmt b = ((dfmt b).1, (dfmt b).2)) from rfl) (.inl rfl) ea eb hL2 hE2 w
    · rcases dfmt_cases a with ⟨c0, c1, fa⟩ | ⟨nc, fa⟩
      · rcases dfmt_cases b with ⟨d0, d1, fb⟩ | ⟨nd, fb⟩
        · exact absurd ⟨d0, by omega⟩ nb
        · exact orders_3 a b _ _ _ _ _ _ _ _ fa fb (.inr ⟨rfl, rfl⟩) ea eb (.inr ⟨rfl, rfl⟩) w
      · exact orders_3 a b _ _ _ _ _ _ _ _ fa (show Hid (dfmt b = ((dfmt b).1, (dfmt b).2)) from rfl) (.inl rfl) ea eb (.inr ⟨rfl, rfl⟩) w
  · rcases dfmt_cases a with ⟨c0, c1, fa⟩ | ⟨nc, fa⟩
    · exact absurd ⟨c0, by omega⟩ na
    · exact orders_3 a b _ _ _ _ _ _ _ _ fa (show Hid (dfmt b = ((dfmt b).1, (dfmt b).2)) from rfl) (.inl rfl) ea (show Hid (mfmt b = ((mfmt b).1, (mfmt b).2)) from rfl) (.inl rfl) w

/-! ### DateWeeks -/
theorem next_day (d : Int) (h0 : 0 ≤ d) (h1 : d < 36524) :
    (dayOf d < mlen (yearOf d) (monthOf d) ∧ yearOf (d + 1) = yearOf d ∧ monthOf (d + 1) = monthOf d ∧ dayOf (d + 1) = dayOf d + 1) ∨
    (dayOf d = mlen (yearOf d) (monthOf d) ∧ monthOf d < 12 ∧ yearOf (d + 1) = yearOf d ∧ monthOf (d + 1) = monthOf d + 1 ∧ dayOf (d + 1) = 1) ∨
    (dayOf d = mlen (yearOf d) (monthOf d) ∧ monthOf d = 12 ∧ yearOf (d + 1) = yearOf d + 1 ∧ monthOf (d + 1) = 1 ∧ dayOf (d + 1) = 1) := by
  obtain ⟨a, b, c⟩ := mon_spec d h0 (by omega)
  have hs := cum_succ (mon d)
  by_cases h : d + 1 < cum (mon d + 1)
  · have e : mon (d + 1) = mon d := mon_eq a ⟨by omega, h⟩
    left
    unfold yearOf monthOf dayOf
    rw [e]
    exact ⟨by omega, rfl, rfl, by omega⟩
  · have hd : d + 1 = cum (mon d + 1) := by omega
    have hlt : mon d + 1 < 1200 := by
      rcases Nat.lt_or_ge (mon d + 1) 1200 with k | k
      · exact k
      · have : mon d + 1 = 1200 := by omega
        rw [this, cum_all] at hd
        omega
    have e : mon (d + 1) = mon d + 1 := mon_eq hlt ⟨by omega, by
      have := cum_succ (mon d + 1)
      have := mlen_bd (2000 + ((mon d + 1 : Nat) : Int) / 12) (1 + ((mon d + 1 : Nat) : Int) % 12)
      omega⟩
    right
    unfold yearOf monthOf dayOf
    rw [e]
    omega

set_option maxRecDepth 1000000 in
set_option maxHeartbeats 8000000 in
theorem weeks_1 (d y m x : Int) (h0 : 0 ≤ d) (h1 : d < 36524) (hy : Hid (yearOf d = y)) (hm : Hid (monthOf d = m)) (hx : Hid (dayOf d = x)) (hlt : x < mlen y m) (hz : Hid (yearOf (d + 1) = y ∧ monthOf (d + 1) = m ∧ dayOf (d + 1) = x + 1)) (hx31 : x ≤ 31) (hx1 : 1 ≤ x) (w : World) : Calls Try.prog 12 #[.int .i64 d] w fun r w' => r = .returned (.bool true) ∧ Bl w w' := by
  obtain ⟨a, A⟩ : ∃ a, (d + 5) % 7 = a := ⟨_, rfl⟩
  obtain ⟨b, B⟩ : ∃ b, (d + 1 + 5) % 7 = b := ⟨_, rfl⟩
  have a0 : 0 ≤ a := by omega
  have a1 : a ≤ 6 := by omega
  have q : (b != (a + 1) % 7) = false := by rw [bne_eq_false_iff_eq]; omega
  have H1 : Hid (weekday d = (a, true)) := by show _ = _; unfold weekday; rw [if_pos (by omega), A]
  have H2 : Hid (weekday (d + 1) = (b, true)) := by show _ = _; unfold weekday; rw [if_pos (by omega), B]
  obtain ⟨⟨y0, y1⟩, ⟨m0, m1⟩, _⟩ := civil_bd d h0 (by omega)
  rw [hy.out] at y0 y1
  rw [hm.out] at m0 m1
  have HD : Hid (days y m = (mlen y m, true)) := days_yes ⟨y0, y1⟩ ⟨m0, m1⟩
  have hl := mlen_bd y m
  clear A B
  generalize mlen y m = n at *
  obtain ⟨l0, l1⟩ := hl
  go_enter Try.func12, Try.ntmps12
  go_wp2_with fail
  refine (weekday_c _ _ _ H1 _).mono ?_
  rintro e1 w1 ⟨rfl, rfl⟩
  go_wp2_with fail
  refine (weekday_c _ _ _ H2 _).mono ?_
  rintro e2 w2 ⟨rfl, rfl⟩
  go_wp2_with fail
  refine (civil_yes d h0 (by omega) _).mono ?_
  rintro e3 w3 ⟨he, b3⟩
  unfold CivRes at he
  rw [hy.out, hm.out, hx.out] at he
  subst he
  go_wp2_with fail
  refine (civil_yes (d + 1) (by omega) (by omega) _).mono ?_
  rintro e4 w4 ⟨he, b4⟩
  unfold CivRes at he
  rw [hz.out.1, hz.out.2.1, hz.out.2.2] at he
  subst he
  have c4 := bl_next b3 b4
  go_wp2_with fail
  refine (days_c _ _ _ _ HD _).mono ?_
  rintro e5 w5 ⟨rfl, b5⟩
  have c5 := bl_next c4 b5
  go_wp2_with fail
  refine (example_c _).mono ?_
  rintro e6 w6 ⟨rfl, b6⟩
  have c6 := bl_next c5 b6
  go_wp2
  go_ret
  exact ⟨rfl, c6⟩

set_option maxRecDepth 1000000 in
set_option maxHeartbeats 8000000 in
theorem weeks_2 (d y m x : Int) (h0 : 0 ≤ d) (h1 : d < 36524) (hy : Hid (yearOf d = y)) (hm : Hid (monthOf d = m)) (hx : Hid (dayOf d = x)) (HX : Hid (x = mlen y m)) (hm12 : m < 12) (hz : Hid (yearOf (d + 1) = y ∧ monthOf (d + 1) = m + 1 ∧ dayOf (d + 1) = 1)) (w : World) : Calls Try.prog 12 #[.int .i64 d] w fun r w' => r = .returned (.bool true) ∧ Bl w w' := by
  obtain ⟨a, A⟩ : ∃ a, (d + 5) % 7 = a := ⟨_, rfl⟩
  obtain ⟨b, B⟩ : ∃ b, (d + 1 + 5) % 7 = b := ⟨_, rfl⟩
  have a0 : 0 ≤ a := by omega
  have a1 : a ≤ 6 := by omega
  have q : (b != (a + 1) % 7) = false := by rw [bne_eq_false_iff_eq]; omega
  have H1 : Hid (weekday d = (a, true)) := by show _ = _; unfold weekday; rw [if_pos (by omega), A]
  have H2 : Hid (weekday (d + 1) = (b, true)) := by show _ = _; unfold weekday; rw [if_pos (by omega), B]
  obtain ⟨⟨y0, y1⟩, ⟨m0, m1⟩, _⟩ := civil_bd d h0 (by omega)
  rw [hy.out] at y0 y1
  rw [hm.out] at m0 m1
  have HD : Hid (days y m = (mlen y m, true)) := days_yes ⟨y0, y1⟩ ⟨m0, m1⟩
  have hl := mlen_bd y m
  clear A B
  generalize mlen y m = n at *
  obtain ⟨l0, l1⟩ := hl
  have q1 : (x == n) = true := by rw [beq_iff_eq]; exact HX.out
  have q2 : n ≤ x := by have := HX.out; omega
  go_enter Try.func12, Try.ntmps12
  go_wp2_with fail
  refine (weekday_c _ _ _ H1 _).mono ?_
  rintro e1 w1 ⟨rfl, rfl⟩
  go_wp2_with fail
  refine (weekday_c _ _ _ H2 _).mono ?_
  rintro e2 w2 ⟨rfl, rfl⟩
  go_wp2_with fail
  refine (civil_yes d h0 (by omega) _).mono ?_
  rintro e3 w3 ⟨he, b3⟩
  unfold CivRes at he
  rw [hy.out, hm.out, hx.out] at he
  subst he
  go_wp2_with fail
  refine (civil_yes (d + 1) (by omega) (by omega) _).mono ?_
  rintro e4 w4 ⟨he, b4⟩
  unfold CivRes at he
  rw [hz.out.1, hz.out.2.1, hz.out.2.2] at he
  subst he
  have c4 := bl_next b3 b4
  go_wp2_with fail
  refine (days_c _ _ _ _ HD _).mono ?_
  rintro e5 w5 ⟨rfl, b5⟩
  have c5 := bl_next c4 b5
  go_wp2_with fail
  refine (example_c _).mono ?_
  rintro e6 w6 ⟨rfl, b6⟩
  have c6 := bl_next c5 b6
  go_wp2
  go_ret
  exact ⟨rfl, c6⟩

set_option maxRecDepth 1000000 in
set_option maxHeartbeats 8000000 in
theorem weeks_3 (d y m x : Int) (h0 : 0 ≤ d) (h1 : d < 36524) (hy : Hid (yearOf d = y)) (hm : Hid (monthOf d = m)) (hx : Hid (dayOf d = x)) (HX : Hid (x = mlen y m)) (hm12 : 12 ≤ m) (hz : Hid (yearOf (d + 1) = y + 1 ∧ monthOf (d + 1) = 1 ∧ dayOf (d + 1) = 1)) (w : World) : Calls Try.prog 12 #[.int .i64 d] w fun r w' => r = .returned (.bool true) ∧ Bl w w' := by
  obtain ⟨a, A⟩ : ∃ a, (d + 5) % 7 = a := ⟨_, rfl⟩
  obtain ⟨b, B⟩ : ∃ b, (d + 1 + 5) % 7 = b := ⟨_, rfl⟩
  have a0 : 0 ≤ a := by omega
  have a1 : a ≤ 6 := by omega
  have q : (b != (a + 1) % 7) = false := by rw [bne_eq_false_iff_eq]; omega
  have H1 : Hid (weekday d = (a, true)) := by show _ = _; unfold weekday; rw [if_pos (by omega), A]
  have H2 : Hid (weekday (d + 1) = (b, true)) := by show _ = _; unfold weekday; rw [if_pos (by omega), B]
  obtain ⟨⟨y0, y1⟩, ⟨m0, m1⟩, _⟩ := civil_bd d h0 (by omega)
  rw [hy.out] at y0 y1
  rw [hm.out] at m0 m1
  have HD : Hid (days y m = (mlen y m, true)) := days_yes ⟨y0, y1⟩ ⟨m0, m1⟩
  have hl := mlen_bd y m
  clear A B
  generalize mlen y m = n at *
  obtain ⟨l0, l1⟩ := hl
  have q1 : (x == n) = true := by rw [beq_iff_eq]; exact HX.out
  have q2 : n ≤ x := by have := HX.out; omega
  go_enter Try.func12, Try.ntmps12
  go_wp2_with fail
  refine (weekday_c _ _ _ H1 _).mono ?_
  rintro e1 w1 ⟨rfl, rfl⟩
  go_wp2_with fail
  refine (weekday_c _ _ _ H2 _).mono ?_
  rintro e2 w2 ⟨rfl, rfl⟩
  go_wp2_with fail
  refine (civil_yes d h0 (by omega) _).mono ?_
  rintro e3 w3 ⟨he, b3⟩
  unfold CivRes at he
  rw [hy.out, hm.out, hx.out] at he
  subst he
  go_wp2_with fail
  refine (civil_yes (d + 1) (by omega) (by omega) _).mono ?_
  rintro e4 w4 ⟨he, b4⟩
  unfold CivRes at he
  rw [hz.out.1, hz.out.2.1, hz.out.2.2] at he
  subst he
  have c4 := bl_next b3 b4
  go_wp2_with fail
  refine (days_c _ _ _ _ HD _).mono ?_
  rintro e5 w5 ⟨rfl, b5⟩
  have c5 := bl_next c4 b5
  go_wp2_with fail
  refine (example_c _).mono ?_
  rintro e6 w6 ⟨rfl, b6⟩
  have c6 := bl_next c5 b6
  go_wp2
  go_ret
  exact ⟨rfl, c6⟩

set_option maxRecDepth 1000000 in
set_option maxHeartbeats 8000000 in
theorem weeks_0 (d : Int) (h : d < 0 ∨ (0 ≤ d ∧ 36524 ≤ d)) (w : World) : Calls Try.prog 12 #[.int .i64 d] w fun r w' => r = .returned (.bool true) ∧ Bl w w' := by
  rcases h with h | ⟨h, h'⟩
  all_goals
    go_enter Try.func12, Try.ntmps12
    go_wp2_with fail
    refine (example_c _).mono ?_
    rintro e1 w1 ⟨rfl, b1⟩
    go_wp2
    go_ret
    exact ⟨rfl, b1⟩

theorem weeks_law (d : Int) (w : World) : Calls Try.prog 12 #[.int .i64 d] w fun r w' => r = .returned (.bool true) ∧ Bl w w' := by
  by_cases h : 0 ≤ d ∧ d < 36524
  · rcases next_day d h.1 h.2 with ⟨k1, k2, k3, k4⟩ | ⟨k1, k2, k3, k4, k5⟩ | ⟨k1, k2, k3, k4, k5⟩
    · exact weeks_1 d _ _ _ h.1 h.2 rfl rfl rfl k1 ⟨k2, k3, k4⟩ (by have := mlen_bd (yearOf d) (monthOf d); omega) (civil_bd d h.1 (by omega)).2.2.1 w
    · exact weeks_2 d _ _ _ h.1 h.2 rfl rfl rfl k1 k2 ⟨k3, k4, k5⟩ w
    · exact weeks_3 d _ _ _ h.1 h.2 rfl rfl rfl k1 (by omega) ⟨k3, k4, k5⟩ w
  · exact weeks_0 d (by omega) w
end Go.Proofs.Ytlkkkdflafikaaa
