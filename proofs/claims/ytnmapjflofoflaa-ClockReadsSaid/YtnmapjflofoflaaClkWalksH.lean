/-
  THE CONTRACTS OF CLOCK, EIGHTH PART: following; the reference's plain, value, below60. Conditions: those of each contract.
-/
import Derived.Test.YtnmapjflofoflaaClkWalksG
namespace Go.Proofs.Ytnmapjflofoflaa
open Go.RowKit
open Num Clk

/-- Two digits below 60. -/
def Two60 (s : ByteArray) (x y : UInt8) : Prop := s.data.toList = [x, y] ∧ isDig x = true ∧ isDig y = true ∧ x.toNat < 54
theorem two60_of {s : ByteArray} {n : Int} {ok : Bool} (H : follS s.data.toList = (n, ok)) : (∃ x y, Two60 s x y ∧ n = pair x y ∧ ok = true) ∨ ((¬ ∃ x y, Two60 s x y) ∧ n = 0 ∧ ok = false) := by
  by_cases h : ∃ x y, Two60 s x y
  · obtain ⟨x, y, hl, hx, hy, h6⟩ := h
    rw [hl] at H
    simp only [follS, hx, hy, h6, and_self, if_true, Prod.mk.injEq] at H
    exact .inl ⟨x, y, ⟨hl, hx, hy, h6⟩, H.1.symm, H.2.symm⟩
  · refine .inr ⟨h, ?_⟩
    generalize hl : s.data.toList = l at H
    match l, H with
    | [], H => simp only [follS, Prod.mk.injEq] at H; exact ⟨H.1.symm, H.2.symm⟩
    | [_], H => simp only [follS, Prod.mk.injEq] at H; exact ⟨H.1.symm, H.2.symm⟩
    | [x, y], H =>
      have : ¬ (isDig x = true ∧ isDig y = true ∧ x.toNat < 54) := fun k => h ⟨x, y, hl, k⟩
      simp only [follS, if_neg this, Prod.mk.injEq] at H
      exact ⟨H.1.symm, H.2.symm⟩
    | _ :: _ :: _ :: _, H => simp only [follS, Prod.mk.injEq] at H; exact ⟨H.1.symm, H.2.symm⟩

/-- What a text of two bytes is that is no number below 60. -/
theorem not60 {s : ByteArray} (h : ¬ ∃ x y, Two60 s x y) (h2 : s.size = 2) (h0 : 0 < s.size) (h1 : 1 < s.size) : (((s[0]'h0).toNat : Int) < 48 ∨ (48 ≤ ((s[0]'h0).toNat : Int) ∧ 53 < ((s[0]'h0).toNat : Int)) ∨
    ((48 ≤ ((s[0]'h0).toNat : Int) ∧ ((s[0]'h0).toNat : Int) ≤ 53) ∧ (((s[1]'h1).toNat : Int) < 48 ∨ (48 ≤ ((s[1]'h1).toNat : Int) ∧ 57 < ((s[1]'h1).toNat : Int))))) := by
  have hx := bytes_get s 0 h0
  have hy := bytes_get s 1 h1
  have hlen : s.data.toList.length = 2 := by simpa using h2
  match hl : s.data.toList, hlen with
  | [x, y], _ =>
    simp only [hl, List.getElem_cons_zero, List.getElem_cons_succ] at hx hy
    rw [← hx, ← hy]
    have : ¬ ((48 ≤ x.toNat ∧ x.toNat ≤ 57) ∧ (48 ≤ y.toNat ∧ y.toNat ≤ 57) ∧ x.toNat < 54) := fun k => h ⟨x, y, hl, (isDig_iff x).2 k.1, (isDig_iff y).2 k.2.1, k.2.2⟩
    omega
theorem is60 {s : ByteArray} {x y : UInt8} (h : Two60 s x y) : s.size = 2 ∧ (∀ h0 : 0 < s.size, (s[0]'h0) = x) ∧ (∀ h1 : 1 < s.size, (s[1]'h1) = y) := by
  obtain ⟨hl, _⟩ := h
  have h2 : s.size = 2 := by
    have : s.data.toList.length = s.size := by simp
    rw [hl] at this
    simpa using this.symm
  exact ⟨h2, fun h0 => by rw [← bytes_get s 0 h0]; simp [hl], fun h1 => by rw [← bytes_get s 1 h1]; simp [hl]⟩

set_option maxHeartbeats 1000000 in
theorem following_c (s : ByteArray) (n : Int) (ok : Bool) (H : Hid (follS s.data.toList = (n, ok))) (w : World) :
    Calls Try.prog 37 #[.string s] w fun e w' => e = .returned (.tuple #[.int .i64 n, .bool ok]) ∧ Bl w w' := by
  rcases two60_of H.out with ⟨x, y, ht, hn, rfl⟩ | ⟨ht, rfl, rfl⟩
  · obtain ⟨h2, ex, ey⟩ := is60 ht
    have h0 : 0 < s.size := by omega
    have h1 : 1 < s.size := by omega
    have bx := dig_bd ht.2.1
    have b_y := dig_bd ht.2.2.1
    have b6 : (x.toNat : Int) ≤ 53 := by have := ht.2.2.2; omega
    rw [← ex h0] at bx b6
    rw [← ey h1] at b_y
    have HT := Lib.hid ht
    have HN := Lib.hid hn
    have hs2 : (s.size : Int) = 2 := by omega
    clear H ht hn ex ey h2
    go_enter Try.func37, Try.ntmps37
    go_wp2_with (go_at_call 30; refine (pair_c s x y HT.out.1 HT.out.2.1 HT.out.2.2.1 _).mono ?_; rintro e w1 ⟨rfl, m1, rfl⟩)
    go_ret2
    exact ⟨ret2_int (by rw [HN.out]), bl_drewN (bl_refl _) _⟩
  · clear H
    by_cases h2 : s.size = 2
    · have h0 : 0 < s.size := by omega
      have h1 : 1 < s.size := by omega
      have hs2 : (s.size : Int) = 2 := by omega
      have hc := not60 ht h2 h0 h1
      clear ht h2
      rcases hc with k | ⟨k1, k2⟩ | ⟨⟨k1, k2⟩, k3 | ⟨k3, k4⟩⟩
      all_goals
        go_enter Try.func37, Try.ntmps37
        go_wp2
        go_ret2
        exact ⟨rfl, bl_refl _⟩
    · have hs2 : ¬ (s.size : Int) = 2 := by omega
      clear ht h2
      go_enter Try.func37, Try.ntmps37
      go_wp2
      go_ret2
      exact ⟨rfl, bl_refl _⟩

set_option maxHeartbeats 1000000 in
theorem below60_c (s : ByteArray) (n : Int) (ok : Bool) (H : Hid (follS s.data.toList = (n, ok))) (w : World) :
    Calls Try.prog 40 #[.string s] w fun e w' => e = .returned (.bool ok) ∧ w = w' := by
  rcases two60_of H.out with ⟨x, y, ht, hn, rfl⟩ | ⟨ht, rfl, rfl⟩
  · obtain ⟨h2, ex, ey⟩ := is60 ht
    have h0 : 0 < s.size := by omega
    have h1 : 1 < s.size := by omega
    have b6 : ((s[0]'h0).toNat : Int) < 54 := by rw [ex h0]; have := ht.2.2.2; omega
    have D0 : Hid (isDig (s[0]'h0) = true) := by show _ = _; rw [ex h0]; exact ht.2.1
    have D1 : Hid (isDig (s[1]'h1) = true) := by show _ = _; rw [ey h1]; exact ht.2.2.1
    have hs2 : (s.size : Int) = 2 := by omega
    clear H ht hn ex ey h2
    go_enter Try.func40, Try.ntmps40
    go_wp2_with fail
    refine (digit_b _ true D0 _).mono ?_
    rintro e w1 ⟨rfl, rfl⟩
    go_wp2_with fail
    refine (digit_b _ true D1 _).mono ?_
    rintro e w1 ⟨rfl, rfl⟩
    go_wp2
    go_ret
    exact ⟨rfl, rfl⟩
  · clear H
    by_cases h2 : s.size = 2
    · have h0 : 0 < s.size := by omega
      have h1 : 1 < s.size := by omega
      have hs2 : (s.size : Int) = 2 := by omega
      have hc := not60 ht h2 h0 h1
      clear ht h2
      cases h5 : isDig (s[0]'h0) with
      | false =>
        have D0 := Lib.hid h5
        clear h5 hc
        go_enter Try.func40, Try.ntmps40
        go_wp2_with fail
        refine (digit_b _ false D0 _).mono ?_
        rintro e w1 ⟨rfl, rfl⟩
        go_wp2
        go_ret
        exact ⟨rfl, rfl⟩
      | true =>
        have b0 := dig_bd h5
        have D0 := Lib.hid h5
        clear h5
        cases h6 : isDig (s[1]'h1) with
        | false =>
          have D1 := Lib.hid h6
          clear h6 hc
          go_enter Try.func40, Try.ntmps40
          go_wp2_with fail
          refine (digit_b _ true D0 _).mono ?_
          rintro e w1 ⟨rfl, rfl⟩
          go_wp2_with fail
          refine (digit_b _ false D1 _).mono ?_
          rintro e w1 ⟨rfl, rfl⟩
          go_wp2
          go_ret
          exact ⟨rfl, rfl⟩
        | true =>
          have b1 := dig_bd h6
          have D1 := Lib.hid h6
          have b6 : ¬ ((s[0]'h0).toNat : Int) < 54 := by omega
          have b7 : decide (((s[0]'h0).toNat : Int) < 54) = false := decide_eq_false b6
          clear h6 hc b0 b1
          go_enter Try.func40, Try.ntmps40
          go_wp2_with fail
          refine (digit_b _ true D0 _).mono ?_
          rintro e w1 ⟨rfl, rfl⟩
          go_wp2_with fail
          refine (digit_b _ true D1 _).mono ?_
          rintro e w1 ⟨rfl, rfl⟩
          go_wp2
          go_ret
          exact ⟨rfl, rfl⟩
    · have hs2 : ¬ (s.size : Int) = 2 := by omega
      have hs3 : ((s.size : Int) == 2) = false := by simpa using hs2
      clear ht h2
      go_enter Try.func40, Try.ntmps40
      go_wp2
      go_ret
      exact ⟨rfl, rfl⟩

set_option maxHeartbeats 1000000 in
theorem plain_c (s : ByteArray) (b : Bool) (H : Hid (canon s.data.toList = b)) (hs : s.size ≤ maxLen) (w : World) :
    Calls Try.prog 38 #[.string s] w fun e w' => e = .returned (.bool b) ∧ w = w' := by
  unfold maxLen at hs
  obtain ⟨p, hp, hd, hn⟩ := first_bad (fun _ c => isDig c) s
  have HD := Lib.hid hd
  have HN := Lib.hid hn
  have hcp := Lib.hid (canon_parts s)
  clear hd hn
  go_enter Try.func38, Try.ntmps38
  go_wp2
  go_loop [3] (fun i => ∃ k : Nat, k ≤ p ∧ i = .int .i64 k) (fun i => s.size - (intOf i).toNat)
  case atStart => exact ⟨0, Nat.zero_le _, rfl⟩
  case round =>
    obtain ⟨k, hk, rfl⟩ := hrel
    by_cases h1 : k < p
    · have hks : k < s.size := by omega
      have HO := Lib.hid (HD.out k hks h1)
      go_wp2_with (go_at_call 31; refine (digit_b _ true HO _).mono ?_; rintro e w1 ⟨rfl, rfl⟩)
      go_round
      case rel => exact ⟨k + 1, by omega, by go_num⟩
      case measure => simp [intOf]; omega
    · obtain rfl : k = p := by omega
      by_cases h2 : k < s.size
      · have HO := Lib.hid (HN.out h2)
        have HB := Lib.hid (show b = false by
          rw [← H.out, hcp.out]
          have : allDig s.data.toList = false := by
            rw [Bool.eq_false_iff, Ne, allDig_iff]
            intro q
            have := q k h2
            rw [HO.out] at this
            simp at this
          simp [this])
        go_wp2_with (go_at_call 31; refine (digit_b _ false HO _).mono ?_; rintro e w1 ⟨rfl, rfl⟩)
        go_ret
        exact ⟨ret_bool (by rw [HB.out]), rfl⟩
      · have had : allDig s.data.toList = true := by
          rw [allDig_iff]
          intro j hj
          exact HD.out j hj (by omega)
        by_cases h0 : s.size = 0
        · have HB := Lib.hid (show b = false by rw [← H.out, hcp.out]; simp [h0])
          have q1 : ((s.size : Int) == 1) = false := by simp; omega
          have q2 : decide (1 < (s.size : Int)) = false := decide_eq_false (by omega)
          clear hcp had
          go_wp2
          go_ret
          exact ⟨ret_bool (by rw [HB.out]), rfl⟩
        have hps : 0 < s.size := by omega
        have HB := Lib.hid (show b = (decide ((s[0]'hps).toNat ≠ 48) || decide (s.size = 1)) by rw [← H.out, hcp.out, had, dif_pos hps]; simp [h0])
        clear hcp had
        by_cases h3 : s.size = 1
        · have HB2 := Lib.hid (show b = true by rw [HB.out]; simp [h3])
          have q1 : ((s.size : Int) == 1) = true := by simp; omega
          clear h3
          go_wp2
          go_ret
          exact ⟨ret_bool (by rw [HB2.out]), rfl⟩
        · have q1 : ((s.size : Int) == 1) = false := by simp; omega
          have q2 : decide (1 < (s.size : Int)) = true := decide_eq_true (by omega)
          have q3 : (1 : Int) < (s.size : Int) := by omega
          by_cases h4 : (s[0]'hps).toNat = 48
          · have HB2 := Lib.hid (show b = false by rw [HB.out]; simp [h3, h4])
            have q4 : (((s[0]'hps).toNat : Int) != 48) = false := by rw [bne_eq_false_iff_eq]; omega
            clear h4 h3
            go_wp2
            go_ret
            exact ⟨ret_bool (by rw [HB2.out]), rfl⟩
          · have HB2 := Lib.hid (show b = true by rw [HB.out]; simp [h4])
            have q4 : (((s[0]'hps).toNat : Int) != 48) = true := by rw [bne_iff_ne]; omega
            clear h4 h3
            go_wp2
            go_ret
            exact ⟨ret_bool (by rw [HB2.out]), rfl⟩

theorem val_take_le' (l : List UInt8) (k : Nat) : val (l.take k) ≤ val l := val_take_le l k
set_option maxHeartbeats 1000000 in
theorem value_c (s : ByteArray) (hd : allDig s.data.toList = true) (hs : s.size ≤ maxLen) (w : World) :
    Calls Try.prog 39 #[.string s] w fun e w' => e = .returned (.int .i64 (if s.size ≤ 6 then (val s.data.toList : Int) else 1000000)) ∧ w = w' := by
  unfold maxLen at hs
  have HD := Lib.hid ((allDig_iff s).1 hd)
  clear hd
  by_cases h6 : s.size ≤ 6
  · have h6i : (s.size : Int) ≤ 6 := by omega
    rw [if_pos h6]
    clear h6
    go_enter Try.func39, Try.ntmps39
    go_wp2
    go_loop [3, 4] (fun n i => ∃ k v : Nat, k ≤ s.size ∧ i = .int .i64 k ∧ n = .int .i64 v ∧ v + 1 ≤ 10 ^ k ∧ Hid (val (s.data.toList.take k) = v)) (fun _ i => s.size - (intOf i).toNat)
    case atStart => exact ⟨0, 0, by omega, rfl, rfl, by omega, rfl⟩
    case round =>
      obtain ⟨k, v, hk, rfl, rfl, hv, HV⟩ := hrel
      have hv6 : v ≤ 1000000 := by
        have : 10 ^ k ≤ 10 ^ 6 := Nat.pow_le_pow_right (by decide) (by omega)
        omega
      have HVB := Lib.hid hv
      clear hv
      by_cases hlt : k < s.size
      · have hb := dig_bd (HD.out k hlt)
        have HS := Lib.hid (val_step s k hlt)
        go_wp2
        go_round
        case rel => exact ⟨k + 1, 10 * v + ((s[k]'hlt).toNat - 48), by omega, by go_num, by go_num, by have := HVB.out; rw [Nat.pow_succ]; omega, by rw [← HV.out]; exact HS.out⟩
        case measure => simp [intOf]; omega
      · have HE := Lib.hid (show v = val s.data.toList by rw [← HV.out, List.take_of_length_le (by simp; omega)])
        go_wp2
        go_ret
        exact ⟨ret_int (by rw [HE.out]), rfl⟩
  · have h6i : (6 : Int) < (s.size : Int) := by omega
    rw [if_neg h6]
    clear h6
    go_enter Try.func39, Try.ntmps39
    go_wp2
    go_ret
    exact ⟨rfl, rfl⟩
end Go.Proofs.Ytnmapjflofoflaa
