/-
  THE CONTRACTS OF FREQUENCY, FIRST PART: sound, count, last, moved, and the reference's. Conditions: those of each contract.
-/
import Derived.Test.YtknecohjajjloaaRows
import Derived.Test.YtknecohjajjloaaFrqPlain
import Derived.Test.YtknecohjajjloaaBase
import Derived.WalkSpells
import Derived.WalkLawsBesides
import Derived.Lib.Hide
import Derived.Lib.SmallJoins
import Derived.Deep.QuietTactic
import Derived.BigQuiet
import Derived.Deep.RegionHeld3
import Derived.Deep.DeepCutAuto
namespace Go.Proofs.Ytknecohjajjloaa
open Go.RowKit
open Frq

theorem ret_int {k : IntKind} {a b : Int} (h : a = b) : Ending.returned (.int k a) = .returned (.int k b) := by rw [h]
theorem ret_bool {a b : Bool} (h : a = b) : Ending.returned (.bool a) = .returned (.bool b) := by rw [h]
/-- A frequency as a value. -/
abbrev FreqD.val (f : FreqD) : Value := .agg #[.int .i64 f.trip, .int .i64 f.frm, .int .i64 f.to, .int .i64 f.every]

set_option maxHeartbeats 4000000 in
theorem sound_b (f : FreqD) (b : Bool) (H : Hid (soundB f = b)) (w : World) : Calls Try.prog 26 #[.agg #[.int .i64 f.trip, .int .i64 f.frm, .int .i64 f.to, .int .i64 f.every]] w fun e w' => e = .returned (.bool b) ∧ Bl w w' := by
  rcases sound_cases f with ⟨h, k⟩ | ⟨h, k⟩
  · obtain rfl : b = true := H.out.symm.trans k
    obtain ⟨h1, h2, h3, h4, h5⟩ := h
    clear k H
    go_enter Try.func26, Try.ntmps26
    go_wp2
    go_ret
    exact ⟨by first | rfl | (simp; omega), bl_alloc (bl_refl _) _⟩
  · obtain rfl : b = false := H.out.symm.trans k
    clear k H
    rcases h with h1 | ⟨h1, h2⟩ | ⟨h1, h2, h3⟩ | ⟨h1, h2, h3, h4⟩ | ⟨h1, h2, h3, h4, h5⟩
    all_goals
      go_enter Try.func26, Try.ntmps26
      go_wp2
      go_ret
      exact ⟨by first | rfl | (simp; done) | (simp; omega), bl_alloc (bl_refl _) _⟩
set_option maxHeartbeats 4000000 in
theorem rsound_b (f : FreqD) (b : Bool) (H : Hid (soundB f = b)) (w : World) : Calls Try.prog 18 #[.agg #[.int .i64 f.trip, .int .i64 f.frm, .int .i64 f.to, .int .i64 f.every]] w fun e w' => e = .returned (.bool b) ∧ Bl w w' := by
  rcases rsound_cases f with ⟨h, k⟩ | ⟨h, k⟩
  · obtain rfl : b = true := H.out.symm.trans k
    obtain ⟨h1, h2, h3, h4, h5⟩ := h
    clear k H
    go_enter Try.func18, Try.ntmps18
    go_wp2
    go_ret
    exact ⟨by first | rfl | (simp; omega), bl_alloc (bl_refl _) _⟩
  · obtain rfl : b = false := H.out.symm.trans k
    clear k H
    rcases h with h1 | ⟨h1, h2⟩ | ⟨h1, h2, h3⟩ | ⟨h1, h2, h3, h4⟩ | ⟨h1, h2, h3, h4, h5⟩ | ⟨h1, h2, h3, h4, h5, h6⟩ | ⟨h1, h2, h3, h4, h5, h6, h7⟩
    all_goals
      go_enter Try.func18, Try.ntmps18
      go_wp2
      go_ret
      exact ⟨by first | rfl | (simp; done) | (simp; omega), bl_alloc (bl_refl _) _⟩
set_option maxHeartbeats 1000000 in
theorem count_c (f : FreqD) (h : Hid (sound f)) (w : World) : Calls Try.prog 28 #[.agg #[.int .i64 f.trip, .int .i64 f.frm, .int .i64 f.to, .int .i64 f.every]] w fun e w' => e = .returned (.int .i64 (cnt f)) ∧ Bl w w' := by
  have HE := Lib.hid (cnt_eq f h.out)
  have hb := cnt_bd f h.out
  have HC : Hid ((f.to - f.frm - 1) / f.every + 1 = cnt f) := rfl
  obtain ⟨b0, b1⟩ := hb
  rw [← HC.out] at b0 b1
  obtain ⟨h1, h2, h3, h4, h5⟩ := h.out
  go_enter Try.func28, Try.ntmps28
  go_wp2
  go_ret
  exact ⟨ret_int (by first | exact HE.out | exact HC.out), bl_alloc (bl_refl _) _⟩
set_option maxHeartbeats 1000000 in
theorem rcount_c (f : FreqD) (h : Hid (sound f)) (w : World) : Calls Try.prog 25 #[.agg #[.int .i64 f.trip, .int .i64 f.frm, .int .i64 f.to, .int .i64 f.every]] w fun e w' => e = .returned (.int .i64 (cnt f)) ∧ Bl w w' := by
  have HE := Lib.hid (cnt_eq f h.out)
  have hb := cnt_bd f h.out
  have HC : Hid ((f.to - f.frm - 1) / f.every + 1 = cnt f) := rfl
  obtain ⟨b0, b1⟩ := hb
  rw [← HC.out] at b0 b1
  obtain ⟨h1, h2, h3, h4, h5⟩ := h.out
  go_enter Try.func25, Try.ntmps25
  go_wp2
  go_ret
  exact ⟨ret_int (by first | exact HE.out | exact HC.out), bl_alloc (bl_refl _) _⟩

/-- The last start. -/
def lastS (f : FreqD) : Int := f.frm + (cnt f - 1) * f.every
theorem last_bd (f : FreqD) (h : sound f) : 0 ≤ (cnt f - 1) * f.every ∧ (cnt f - 1) * f.every ≤ 172800 ∧ lastS f ≤ 172800 := by
  have hc := cnt_bd f h
  have := (cnt_lt f h (cnt f - 1).toNat).2 (by omega)
  rw [show (((cnt f - 1).toNat : Nat) : Int) = cnt f - 1 by omega] at this
  obtain ⟨h1, h2, h3, h4, h5⟩ := h
  have := Int.mul_nonneg (a := cnt f - 1) (b := f.every) (by omega) (by omega)
  unfold lastS
  omega
set_option maxHeartbeats 2000000 in
theorem last_c (f : FreqD) (h : Hid (sound f)) (w : World) : Calls Try.prog 34 #[.agg #[.int .i64 f.trip, .int .i64 f.frm, .int .i64 f.to, .int .i64 f.every]] w fun e w' => e = .returned (.int .i64 (lastS f)) ∧ Bl w w' := by
  obtain ⟨b0, b1⟩ := cnt_bd f h.out
  obtain ⟨l0, l1, l2⟩ := last_bd f h.out
  have HL : Hid (f.frm + (cnt f - 1) * f.every = lastS f) := rfl
  rw [← HL.out] at l2
  obtain ⟨h1, h2, h3, h4, h5⟩ := h.out
  have E1 := IntWalk.i64_in (cnt f - 1) (by omega)
  have E2 := IntWalk.i64_in ((cnt f - 1) * f.every) (by omega)
  have E3 := IntWalk.i64_in (f.frm + (cnt f - 1) * f.every) (by omega)
  go_enter Try.func34, Try.ntmps34
  go_wp2_with fail
  go_region_held3 (fun w' => w'.cell? ⟨w.heap.size, 0, none⟩ = some (.int .i64 f.trip) ∧ w'.cell? ⟨w.heap.size, 1, none⟩ = some (.int .i64 f.frm) ∧ w'.cell? ⟨w.heap.size, 2, none⟩ = some (.int .i64 f.to) ∧ w'.cell? ⟨w.heap.size, 3, none⟩ = some (.int .i64 f.every)) ((first | (go_keep; done) | (refine ⟨?_, ?_, ?_, ?_⟩ <;> (rw [(bl_cell b1).1 _ _ (by simp)]; first | assumption | (simp [World.cell?_alloc_new]; done) | trace_state)))) (first | (go_at_call 28; refine (count_c f h _).mono ?_; rintro e w' ⟨rfl, b1⟩))
  all_goals
    go_wp2
    go_ret
    exact ⟨ret_int HL.out, by first | exact bl_next (bl_alloc (bl_refl _) _) b1 | exact bl_next (bl_drew (bl_alloc (bl_refl _) _)) b1 | exact bl_drew (bl_next (bl_alloc (bl_refl _) _) b1)⟩

/-! ### moved -/
def isInt (x : Int) : Prop := -9223372036854775808 ≤ x ∧ x ≤ 9223372036854775807
theorem and32 (n : Int) : bits .and .i64 n 4294967295 = n % 4294967296 := by
  have h127 : (BitVec.ofInt 64 4294967295).toNat = 2 ^ 32 - 1 := by decide
  have key : (BitVec.ofInt 64 n &&& BitVec.ofInt 64 4294967295).toNat = (n % ((2 ^ 64 : Nat) : Int)).toNat % 2 ^ 32 := by
    rw [BitVec.toNat_and, BitVec.toNat_ofInt, h127, Nat.and_two_pow_sub_one_eq_mod]
  show IntKind.i64.wrap ((BitVec.ofInt 64 n &&& BitVec.ofInt 64 4294967295).toNat : Nat) = n % 4294967296
  rw [key, IntKind.wrap_i64]
  omega
theorem or0 (n : Int) (h0 : 0 ≤ n) (h1 : n < 4294967296) : bits .or .i64 0 n = n := by
  have key : (BitVec.ofInt 64 0 ||| BitVec.ofInt 64 n).toNat = n.toNat := by
    rw [show BitVec.ofInt 64 0 = 0#64 from rfl, BitVec.zero_or, BitVec.toNat_ofInt]
    omega
  show IntKind.i64.wrap ((BitVec.ofInt 64 0 ||| BitVec.ofInt 64 n).toNat : Nat) = n
  rw [key, IntKind.wrap_i64]
  omega
theorem far_no (a : Int) (h0 : -2305843009213693952 ≤ a) (h1 : a ≤ 2305843009213693952) (w : World) : Calls Try.prog 35 #[.int .i64 a] w fun e w' => e = .returned (.bool false) ∧ w = w' := by
  go_enter Try.func35, Try.ntmps35
  go_wp2
  go_ret
  exact ⟨by first | rfl | (simp; omega), rfl⟩
theorem far_yes (a : Int) (h : a < -2305843009213693952 ∨ (-2305843009213693952 ≤ a ∧ 2305843009213693952 < a)) (w : World) : Calls Try.prog 35 #[.int .i64 a] w fun e w' => e = .returned (.bool true) ∧ w = w' := by
  rcases h with h | ⟨h, h'⟩
  all_goals
    go_enter Try.func35, Try.ntmps35
    go_wp2
    go_ret
    exact ⟨by first | rfl | (simp; omega), rfl⟩
/-- A moved time and whether it is one. -/
def MRes (t first start : Int) (e : Ending) : Prop := ∃ n, e = .returned (.tuple #[.int .i64 n, .bool (near t first start)]) ∧ (near t first start = true → n = t - first + start)
theorem mres {t first start n : Int} {b : Bool} (hb : near t first start = b) (hn : near t first start = true → n = t - first + start) : MRes t first start (.returned (.tuple #[.int .i64 n, .bool b])) := ⟨n, by rw [hb], hn⟩
theorem near_iff (t first start : Int) : near t first start = true ↔ 0 ≤ t - first + start ∧ t - first + start ≤ 172800 := by simp [near]
theorem near_dec {t first start : Int} {p : Prop} [Decidable p] (h : (0 ≤ t - first + start ∧ t - first + start ≤ 172800) ↔ p) : near t first start = decide p := by
  rw [Bool.eq_iff_iff, near_iff, decide_eq_true_iff]
  exact h
set_option maxHeartbeats 2000000 in
theorem wide_c (t first start : Int) (ht : isInt t) (hf : isInt first) (hs : isInt start) (w : World) : Calls Try.prog 36 #[.int .i64 t, .int .i64 first, .int .i64 start] w fun e w' => MRes t first start e ∧ w = w' := by
  unfold isInt at *
  obtain ⟨t0, t1⟩ := ht
  obtain ⟨f0, f1⟩ := hf
  obtain ⟨s0, s1⟩ := hs
  have a1 := and32 t
  have a2 := and32 first
  have a3 := and32 start
  have a4 := and32 (t % 4294967296 - first % 4294967296 + start % 4294967296)
  have w0 : wrap64 0 = 0 := IntWalk.wrap64_in 0 ⟨by omega, by omega⟩
  by_cases hz : t / 4294967296 - first / 4294967296 + start / 4294967296 + (t % 4294967296 - first % 4294967296 + start % 4294967296) / 4294967296 = 0
  · have o := or0 ((t % 4294967296 - first % 4294967296 + start) % 4294967296) (by omega) (by omega)
    have HN := Lib.hid (near_dec (t := t) (first := first) (start := start) (p := (t % 4294967296 - first % 4294967296 + start) % 4294967296 ≤ 172800) (by omega))
    have HV := Lib.hid (show near t first start = true → (t % 4294967296 - first % 4294967296 + start) % 4294967296 = t - first + start by intro k; rw [near_iff] at k; omega)
    go_enter Try.func36, Try.ntmps36
    go_wp2
    go_ret2
    exact ⟨mres HN.out HV.out, rfl⟩
  · have q : (t / 4294967296 - first / 4294967296 + start / 4294967296 + (t % 4294967296 - first % 4294967296 + start % 4294967296) / 4294967296 == 0) = false := by rw [beq_eq_false_iff_ne]; exact hz
    have HN := Lib.hid (show near t first start = false by
      cases k : near t first start with
      | false => rfl
      | true => rw [near_iff] at k; omega)
    clear hz
    go_enter Try.func36, Try.ntmps36
    go_wp2
    go_ret2
    exact ⟨mres HN.out (fun k => absurd (HN.out.symm.trans k) (by decide)), rfl⟩
set_option maxHeartbeats 2000000 in
theorem moved_c (t first start : Int) (ht : isInt t) (hf : isInt first) (hs : isInt start) (w : World) : Calls Try.prog 30 #[.int .i64 t, .int .i64 first, .int .i64 start] w fun e w' => MRes t first start e ∧ w = w' := by
  have HT := Lib.hid ht
  have HF := Lib.hid hf
  have HS := Lib.hid hs
  unfold isInt at ht hf hs
  obtain ⟨t0, t1⟩ := ht
  obtain ⟨f0, f1⟩ := hf
  obtain ⟨s0, s1⟩ := hs
  by_cases at' : -2305843009213693952 ≤ t ∧ t ≤ 2305843009213693952
  · obtain ⟨p0, p1⟩ := at'
    by_cases af : -2305843009213693952 ≤ first ∧ first ≤ 2305843009213693952
    · obtain ⟨p2, p3⟩ := af
      by_cases ast : -2305843009213693952 ≤ start ∧ start ≤ 2305843009213693952
      · obtain ⟨p4, p5⟩ := ast
        by_cases h0 : 0 ≤ t - first + start
        · have HN := Lib.hid (near_dec (t := t) (first := first) (start := start) (p := t - first + start ≤ 172800) (by omega))
          go_enter Try.func30, Try.ntmps30
          go_wp2_with fail
          refine (far_no t p0 p1 _).mono ?_
          rintro e w1 ⟨rfl, rfl⟩
          go_wp2_with fail
          refine (far_no first p2 p3 _).mono ?_
          rintro e w1 ⟨rfl, rfl⟩
          go_wp2_with fail
          refine (far_no start p4 p5 _).mono ?_
          rintro e w1 ⟨rfl, rfl⟩
          go_wp2
          go_ret2
          exact ⟨mres HN.out (fun _ => rfl), rfl⟩
        · have HN := Lib.hid (show near t first start = false by
            cases k : near t first start with
            | false => rfl
            | true => rw [near_iff] at k; omega)
          have h0' : t - first + start < 0 := by omega
          clear h0
          go_enter Try.func30, Try.ntmps30
          go_wp2_with fail
          refine (far_no t p0 p1 _).mono ?_
          rintro e w1 ⟨rfl, rfl⟩
          go_wp2_with fail
          refine (far_no first p2 p3 _).mono ?_
          rintro e w1 ⟨rfl, rfl⟩
          go_wp2_with fail
          refine (far_no start p4 p5 _).mono ?_
          rintro e w1 ⟨rfl, rfl⟩
          go_wp2
          go_ret2
          exact ⟨mres HN.out (fun k => absurd (HN.out.symm.trans k) (by decide)), rfl⟩
      · have HA := Lib.hid (show start < -2305843009213693952 ∨ (-2305843009213693952 ≤ start ∧ 2305843009213693952 < start) by omega)
        clear ast
        go_enter Try.func30, Try.ntmps30
        go_wp2_with fail
        refine (far_no t p0 p1 _).mono ?_
        rintro e w1 ⟨rfl, rfl⟩
        go_wp2_with fail
        refine (far_no first p2 p3 _).mono ?_
        rintro e w1 ⟨rfl, rfl⟩
        go_wp2_with fail
        refine (far_yes start HA.out _).mono ?_
        rintro e w1 ⟨rfl, rfl⟩
        go_wp2_with fail
        refine (wide_c t first start HT.out HF.out HS.out _).mono ?_
        rintro e w1 ⟨⟨n, rfl, HN⟩, rfl⟩
        have HN := Lib.hid HN
        go_wp2
        go_ret2
        exact ⟨⟨n, rfl, HN.out⟩, rfl⟩
    · have HA := Lib.hid (show first < -2305843009213693952 ∨ (-2305843009213693952 ≤ first ∧ 2305843009213693952 < first) by omega)
      clear af
      go_enter Try.func30, Try.ntmps30
      go_wp2_with fail
      refine (far_no t p0 p1 _).mono ?_
      rintro e w1 ⟨rfl, rfl⟩
      go_wp2_with fail
      refine (far_yes first HA.out _).mono ?_
      rintro e w1 ⟨rfl, rfl⟩
      go_wp2_with fail
      refine (wide_c t first start HT.out HF.out HS.out _).mono ?_
      rintro e w1 ⟨⟨n, rfl, HN⟩, rfl⟩
      have HN := Lib.hid HN
      go_wp2
      go_ret2
      exact ⟨⟨n, rfl, HN.out⟩, rfl⟩
  · have HA := Lib.hid (show t < -2305843009213693952 ∨ (-2305843009213693952 ≤ t ∧ 2305843009213693952 < t) by omega)
    clear at'
    go_enter Try.func30, Try.ntmps30
    go_wp2_with fail
    refine (far_yes t HA.out _).mono ?_
    rintro e w1 ⟨rfl, rfl⟩
    go_wp2_with fail
    refine (wide_c t first start HT.out HF.out HS.out _).mono ?_
    rintro e w1 ⟨⟨n, rfl, HN⟩, rfl⟩
    have HN := Lib.hid HN
    go_wp2
    go_ret2
    exact ⟨⟨n, rfl, HN.out⟩, rfl⟩
end Go.Proofs.Ytknecohjajjloaa
