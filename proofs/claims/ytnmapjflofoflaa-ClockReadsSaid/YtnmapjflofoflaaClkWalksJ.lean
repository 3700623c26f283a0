/-
  THE CONTRACTS OF CLOCK, TENTH PART: ParseDuration. Conditions: those of each contract.
-/
import Derived.Test.YtnmapjflofoflaaClkWalksI
namespace Go.Proofs.Ytnmapjflofoflaa
open Go.RowKit
open Num Clk

theorem leadS_bd (l : List UInt8) : 0 ≤ (leadS l).1 ∧ (leadS l).1 ≤ 1000000 := by
  unfold leadS; split
  · dsimp only; omega
  · exact ⟨Int.le_refl _, by decide⟩

set_option maxHeartbeats 2000000 in
theorem pdur_none (s : ByteArray) (H : Hid (partsS s.data.toList = none)) (hs : s.size ≤ 4096) (w : World) :
    Calls Try.prog 24 #[.string s] w fun e w' => e = .returned (.tuple #[.int .i64 0, .int .i64 3]) ∧ Bl w w' := by
  go_enter Try.func24, Try.ntmps24
  go_wp2_with fail
  refine (parts_none s H hs w).mono ?_
  rintro e w1 ⟨rfl, b1⟩
  go_wp2
  go_ret2
  exact ⟨rfl, b1⟩

set_option maxHeartbeats 2000000 in
theorem pdur_one (s : ByteArray) (a : List UInt8) (H : Hid (partsS s.data.toList = some [a])) (v : Int) (ok : Bool) (r e : Int) (HL : Hid (leadS a = (v, ok))) (HS : Hid (sumS [a] = (r, e)))
   (hs : s.size ≤ 4096) (hal : a.length ≤ 4096) (m : Int) (w : World) (hm : w.cell? ⟨0, 0, none⟩ = some (.int .i64 m)) :
    Calls Try.prog 24 #[.string s] w fun ee w' => ee = .returned (.tuple #[.int .i64 r, .int .i64 e]) ∧ Bl w w' := by
  have HL0 := HL
  have hb := leadS_bd a
  rw [HL.out] at hb
  have hS := HS.out
  unfold sumS at hS
  dsimp only at hS hb
  rw [HL.out] at hS
  dsimp only at hS
  go_enter Try.func24, Try.ntmps24
  go_wp2_with fail
  refine (parts_some s [a] H hs m w hm).mono ?_
  rintro ee w1 ⟨g, rfl, hg, hc, b1⟩
  have c0 : w1.cell? ⟨g, 0, none⟩ = some (str a) := hc 0 (by simp)
  clear hc
  simp only [List.length_cons, List.length_nil]
  have hsz : (ByteArray.mk a.toArray).size ≤ maxLen := by show a.toArray.size ≤ _; unfold maxLen; simp; omega
  go_wp2_with fail
  refine (leading_c _ v ok (by show _ = _; exact HL.out) hsz w1).mono ?_
  rintro ee w2 ⟨rfl, b2⟩
  have b3 := bl_next b1 b2
  clear HL HL0 hsz HS H
  cases ok with
  | false =>
    rw [if_neg (by simp)] at hS
    obtain ⟨rfl, rfl⟩ := Prod.mk.inj hS
    clear hS
    go_wp2
    go_ret2
    exact ⟨rfl, b3⟩
  | true =>
    by_cases h59 : v ≤ 59
    · rw [if_pos ⟨rfl, h59⟩] at hS
      obtain ⟨rfl, rfl⟩ := Prod.mk.inj hS
      clear hS
      have q1 : decide (59 < v) = false := decide_eq_false (by omega)
      have q2 : (59 < v) = False := eq_false (by omega)
      go_wp2_with fail
      refine wp_loop_rounds 1 ?_
      rw [rounds_succ]
      go_wp2
      go_ret2
      exact ⟨rfl, b3⟩
    · rw [if_neg (by omega)] at hS
      obtain ⟨rfl, rfl⟩ := Prod.mk.inj hS
      clear hS
      have q1 : decide (59 < v) = true := decide_eq_true (by omega)
      go_wp2
      go_ret2
      exact ⟨rfl, b3⟩

theorem follS_bd (l : List UInt8) : 0 ≤ (follS l).1 ∧ (follS l).1 ≤ 59 := by
  unfold follS
  split
  · split
    · rename_i x y h
      obtain ⟨h1, h2, h3⟩ := h
      have := dig_bd h1
      have := dig_bd h2
      unfold pair
      dsimp only
      omega
    · exact ⟨Int.le_refl _, by decide⟩
  · exact ⟨Int.le_refl _, by decide⟩

set_option maxHeartbeats 4000000 in
theorem pdur_two (s : ByteArray) (a b : List UInt8) (H : Hid (partsS s.data.toList = some [a, b])) (v n : Int) (ok ok1 : Bool) (r e : Int) (HL : Hid (leadS a = (v, ok))) (HF : Hid (follS b = (n, ok1))) (HS : Hid (sumS [a, b] = (r, e)))
   (hs : s.size ≤ 4096) (hal : a.length ≤ 4096) (m : Int) (w : World) (hm : w.cell? ⟨0, 0, none⟩ = some (.int .i64 m)) :
    Calls Try.prog 24 #[.string s] w fun ee w' => ee = .returned (.tuple #[.int .i64 r, .int .i64 e]) ∧ Bl w w' := by
  have hb := leadS_bd a
  have hf := follS_bd b
  rw [HL.out] at hb
  rw [HF.out] at hf
  have hS := HS.out
  unfold sumS at hS
  dsimp only at hS hb hf
  rw [HL.out, HF.out] at hS
  dsimp only at hS
  go_enter Try.func24, Try.ntmps24
  go_wp2_with fail
  refine (parts_some s [a, b] H hs m w hm).mono ?_
  rintro ee w1 ⟨g, rfl, hg, hc, b1⟩
  have c0 : w1.cell? ⟨g, 0, none⟩ = some (str a) := hc 0 (by simp)
  have c1 : w1.cell? ⟨g, 1, none⟩ = some (str b) := hc 1 (by simp)
  clear hc
  simp only [List.length_cons, List.length_nil]
  have hsz : (ByteArray.mk a.toArray).size ≤ maxLen := by show a.toArray.size ≤ _; unfold maxLen; simp; omega
  go_wp2_with fail
  refine (leading_c _ v ok (by show _ = _; exact HL.out) hsz w1).mono ?_
  rintro ee w2 ⟨rfl, b2⟩
  have b3 := bl_next b1 b2
  have c1' : w2.cell? ⟨g, 1, none⟩ = some (str b) := by rw [(bl_cell b2).1 g 1 hg]; exact c1
  clear HL hsz HS H c0 c1
  cases ok with
  | false =>
    rw [if_neg (by simp)] at hS
    obtain ⟨rfl, rfl⟩ := Prod.mk.inj hS
    clear hS HF
    go_wp2
    go_ret2
    exact ⟨rfl, b3⟩
  | true =>
    by_cases h59 : v ≤ 59
    · have q1 : decide (59 < v) = false := decide_eq_false (by omega)
      have q2 : (59 < v) = False := eq_false (by omega)
      by_cases h0 : v = 0
      · subst h0
        rw [if_neg (by simp)] at hS
        obtain ⟨rfl, rfl⟩ := Prod.mk.inj hS
        clear hS HF
        go_wp2
        go_ret2
        exact ⟨rfl, b3⟩
      · have q3 : (v == 0) = false := by rw [beq_eq_false_iff_ne]; exact h0
        have HV := Lib.hid h59
        have HV0 := Lib.hid h0
        clear h59 h0
        go_wp2_with fail
        refine wp_loop_rounds 2 ?_
        rw [rounds_succ]
        go_wp2_with fail
        refine (following_c _ n ok1 (by show _ = _; exact HF.out) w2).mono ?_
        rintro ee w4 ⟨rfl, b4⟩
        have b5 := bl_next b3 b4
        clear HF
        cases ok1 with
        | false =>
          rw [if_neg (by simp)] at hS
          obtain ⟨rfl, rfl⟩ := Prod.mk.inj hS
          clear hS
          go_wp2
          go_ret2
          exact ⟨rfl, b5⟩
        | true =>
          rw [if_pos ⟨by simp, HV.out, HV0.out, by simp⟩] at hS
          obtain ⟨rfl, rfl⟩ := Prod.mk.inj hS
          clear hS
          have E1 := IntWalk.i64_in (60 * v) (by omega)
          have E2 := IntWalk.i64_in (60 * v + n) (by have := HV.out; omega)
          have q5 : decide (359999 < 60 * v + n) = false := decide_eq_false (by have := HV.out; omega)
          go_wp2_with fail
          rw [rounds_succ]
          go_wp2
          go_ret2
          exact ⟨rfl, b5⟩
    · rw [if_neg (by omega)] at hS
      obtain ⟨rfl, rfl⟩ := Prod.mk.inj hS
      clear hS HF
      have q1 : decide (59 < v) = true := decide_eq_true (by omega)
      go_wp2
      go_ret2
      exact ⟨rfl, b3⟩

set_option maxHeartbeats 8000000 in
theorem pdur_three (s : ByteArray) (a b c : List UInt8) (H : Hid (partsS s.data.toList = some [a, b, c])) (v n k : Int) (ok ok1 ok2 : Bool) (r e : Int) (HL : Hid (leadS a = (v, ok))) (HF : Hid (follS b = (n, ok1))) (HG : Hid (follS c = (k, ok2))) (HS : Hid (sumS [a, b, c] = (r, e)))
   (hs : s.size ≤ 4096) (hal : a.length ≤ 4096) (m : Int) (w : World) (hm : w.cell? ⟨0, 0, none⟩ = some (.int .i64 m)) :
    Calls Try.prog 24 #[.string s] w fun ee w' => ee = .returned (.tuple #[.int .i64 r, .int .i64 e]) ∧ Bl w w' := by
  have hb := leadS_bd a
  have hf := follS_bd b
  have hk := follS_bd c
  rw [HL.out] at hb
  rw [HF.out] at hf
  rw [HG.out] at hk
  have hS := HS.out
  unfold sumS at hS
  dsimp only at hS hb hf hk
  rw [HL.out, HF.out, HG.out] at hS
  dsimp only at hS
  go_enter Try.func24, Try.ntmps24
  go_wp2_with fail
  refine (parts_some s [a, b, c] H hs m w hm).mono ?_
  rintro ee w1 ⟨g, rfl, hg, hc, b1⟩
  have c0 : w1.cell? ⟨g, 0, none⟩ = some (str a) := hc 0 (by simp)
  have c1 : w1.cell? ⟨g, 1, none⟩ = some (str b) := hc 1 (by simp)
  have c2 : w1.cell? ⟨g, 2, none⟩ = some (str c) := hc 2 (by simp)
  clear hc
  simp only [List.length_cons, List.length_nil]
  have hsz : (ByteArray.mk a.toArray).size ≤ maxLen := by show a.toArray.size ≤ _; unfold maxLen; simp; omega
  go_wp2_with fail
  refine (leading_c _ v ok (by show _ = _; exact HL.out) hsz w1).mono ?_
  rintro ee w2 ⟨rfl, b2⟩
  have b3 := bl_next b1 b2
  have c1' : w2.cell? ⟨g, 1, none⟩ = some (str b) := by rw [(bl_cell b2).1 g 1 hg]; exact c1
  have c2' : w2.cell? ⟨g, 2, none⟩ = some (str c) := by rw [(bl_cell b2).1 g 2 hg]; exact c2
  have hg2 : g < w2.heap.size := Nat.lt_of_lt_of_le hg b2.size
  clear HL hsz HS H c0 c1 c2
  cases ok with
  | false =>
    rw [if_neg (by simp)] at hS
    obtain ⟨rfl, rfl⟩ := Prod.mk.inj hS
    clear hS HF HG
    go_wp2
    go_ret2
    exact ⟨rfl, b3⟩
  | true =>
    by_cases h0 : v = 0
    · subst h0
      rw [if_neg (by simp)] at hS
      obtain ⟨rfl, rfl⟩ := Prod.mk.inj hS
      clear hS HF HG
      go_wp2
      go_ret2
      exact ⟨rfl, b3⟩
    · have q3 : (v == 0) = false := by rw [beq_eq_false_iff_ne]; exact h0
      have HV0 := Lib.hid h0
      clear h0
      go_wp2_with fail
      refine wp_loop_rounds 3 ?_
      rw [rounds_succ]
      go_wp2_with fail
      refine (following_c _ n ok1 (by show _ = _; exact HF.out) w2).mono ?_
      rintro ee w4 ⟨rfl, b4⟩
      have b5 := bl_next b3 b4
      have c2'' : w4.cell? ⟨g, 2, none⟩ = some (str c) := by rw [(bl_cell b4).1 g 2 hg2]; exact c2'
      clear HF
      cases ok1 with
      | false =>
        rw [if_neg (by simp)] at hS
        obtain ⟨rfl, rfl⟩ := Prod.mk.inj hS
        clear hS HG
        go_wp2
        go_ret2
        exact ⟨rfl, b5⟩
      | true =>
        have E1 := IntWalk.i64_in (60 * v) (by omega)
        have E2 := IntWalk.i64_in (60 * v + n) (by omega)
        go_wp2_with fail
        rw [rounds_succ]
        go_wp2_with fail
        refine (following_c _ k ok2 (by show _ = _; exact HG.out) w4).mono ?_
        rintro ee w5 ⟨rfl, b6⟩
        have b7 := bl_next b5 b6
        clear HG
        cases ok2 with
        | false =>
          rw [if_neg (by simp)] at hS
          obtain ⟨rfl, rfl⟩ := Prod.mk.inj hS
          clear hS
          go_wp2
          go_ret2
          exact ⟨rfl, b7⟩
        | true =>
          rw [if_pos ⟨by simp, HV0.out, by simp, by simp⟩] at hS
          have E3 := IntWalk.i64_in (60 * (60 * v + n)) (by omega)
          have E4 := IntWalk.i64_in (60 * (60 * v + n) + k) (by omega)
          go_wp2_with fail
          rw [rounds_succ]
          by_cases ht : 60 * (60 * v + n) + k ≤ 359999
          · rw [if_pos ht] at hS
            obtain ⟨rfl, rfl⟩ := Prod.mk.inj hS
            have q5 : decide (359999 < 60 * (60 * v + n) + k) = false := decide_eq_false (by omega)
            clear hS ht
            go_wp2
            go_ret2
            exact ⟨rfl, b7⟩
          · rw [if_neg ht] at hS
            obtain ⟨rfl, rfl⟩ := Prod.mk.inj hS
            have q5 : decide (359999 < 60 * (60 * v + n) + k) = true := decide_eq_true (by omega)
            clear hS ht
            go_wp2
            go_ret2
            exact ⟨rfl, b7⟩

theorem parts_first {l a : List UInt8} {t : List (List UInt8)} (h : partsS l = some (a :: t)) : a.length ≤ l.length := by
  have hu := take_len l
  have h1 := cut_len (Lib.trimSuffix l [115]) [109]
  have h2 := cut_len (Lib.cut (Lib.trimSuffix l [115]) [109]).1 [104]
  unfold partsS at h
  split at h
  · split at h
    · split at h
      · obtain ⟨rfl, _⟩ := List.cons.inj (Option.some.inj h); omega
      · obtain ⟨rfl, _⟩ := List.cons.inj (Option.some.inj h); omega
    · obtain ⟨rfl, _⟩ := List.cons.inj (Option.some.inj h); omega
  · simp at h

/-- The contract of ParseDuration. -/
theorem pdur_c (s : ByteArray) (r e : Int) (H : Hid (pdur s.data.toList = (r, e))) (hs : s.size ≤ 4096) (m : Int) (w : World) (hm : w.cell? ⟨0, 0, none⟩ = some (.int .i64 m)) :
    Calls Try.prog 24 #[.string s] w fun ee w' => ee = .returned (.tuple #[.int .i64 r, .int .i64 e]) ∧ Bl w w' := by
  have h := H.out
  unfold pdur at h
  have hsz : s.data.toList.length = s.size := by simp
  rcases partsS_cases s.data.toList with k | ⟨a, k⟩ | ⟨a, b, k⟩ | ⟨a, b, c, k⟩
  · rw [k] at h
    obtain ⟨rfl, rfl⟩ := Prod.mk.inj h
    exact pdur_none s k hs w
  · rw [k] at h
    exact pdur_one s a k _ _ r e rfl h hs (by have := parts_first k; omega) m w hm
  · rw [k] at h
    exact pdur_two s a b k _ _ _ _ r e rfl rfl h hs (by have := parts_first k; omega) m w hm
  · rw [k] at h
    exact pdur_three s a b c k _ _ _ _ _ _ r e rfl rfl rfl h hs (by have := parts_first k; omega) m w hm
end Go.Proofs.Ytnmapjflofoflaa
