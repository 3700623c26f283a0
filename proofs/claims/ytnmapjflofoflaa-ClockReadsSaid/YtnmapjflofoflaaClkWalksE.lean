/-
  THE CONTRACTS OF CLOCK, FIFTH PART: the reference's Parse. Conditions: those of each contract.
-/
import Derived.Test.YtnmapjflofoflaaClkWalksD
namespace Go.Proofs.Ytnmapjflofoflaa
open Go.RowKit
open Num Clk

theorem three' (pos : Nat) : (((pos : Int) != 2) = false ∧ (pos = 2 ∨ pos = 5)) ∨ (((pos : Int) != 2) = true ∧ ((pos : Int) != 5) = false ∧ (pos = 2 ∨ pos = 5)) ∨ (((pos : Int) != 2) = true ∧ ((pos : Int) != 5) = true ∧ ¬ (pos = 2 ∨ pos = 5)) := by
  rcases three pos with ⟨h, i⟩ | ⟨h, k, i⟩ | ⟨h, k, i⟩
  · exact .inl ⟨by simp only [bne, h]; rfl, i⟩
  · exact .inr (.inl ⟨by simp only [bne, h]; rfl, by simp only [bne, k]; rfl, i⟩)
  · exact .inr (.inr ⟨by simp only [bne, h]; rfl, by simp only [bne, k]; rfl, i⟩)

set_option maxHeartbeats 4000000 in
theorem refParse_bad (s : ByteArray) (h : ¬ Shape s) (w : World) :
    Calls Try.prog 21 #[.string s] w fun r w' => r = .returned (.tuple #[.int .i64 0, .int .i64 3]) ∧ Bl w w' := by
  have HS := Lib.hid h
  clear h
  by_cases h8 : (s.size : Int) = 8
  · have hs1 : 8 ≤ s.size := by omega
    have hs2 : s.size ≤ 8 := by omega
    have h2 : 2 < s.size := by omega
    have h5 : 5 < s.size := by omega
    by_cases d2 : ((s[2]'h2).toNat : Int) = 58
    · by_cases d5 : ((s[5]'h5).toNat : Int) = 58
      · obtain ⟨p, hp, hd, hn⟩ := first_bad okAt s
        have hp8 : p < s.size := by
          rcases Nat.lt_or_ge p s.size with k | k
          · exact k
          · exact absurd ⟨by omega, fun i hi => hd i hi (by omega)⟩ HS.out
        have hnb := hn hp8
        have hp25 : ¬ (p = 2 ∨ p = 5) := by
          rintro (rfl | rfl)
          · exact badAt_dot hnb (.inl rfl) d2
          · exact badAt_dot hnb (.inr rfl) d5
        have HD := Lib.hid hd
        have HN := Lib.hid (badAt_dig hnb hp25)
        have HP := Lib.hid hp25
        clear hd hn hnb hp25
        go_enter Try.func21, Try.ntmps21
        go_wp2
        go_loop [4] (fun i => ∃ k : Nat, k ≤ p ∧ i = .int .i64 k) (fun i => 8 - (intOf i).toNat)
        case atStart => exact ⟨0, Nat.zero_le _, rfl⟩
        case round =>
          obtain ⟨k, hk, rfl⟩ := hrel
          by_cases h1 : k < p
          · have hks : k < s.size := by omega
            have hok := HD.out k hks h1
            rcases three' k with ⟨g2, hi⟩ | ⟨g2, g3, hi⟩ | ⟨g2, g3, hi⟩
            · clear hok hi
              go_wp2
              go_round
              case rel => exact ⟨k + 1, by omega, by go_num⟩
              case measure => simp [intOf]; omega
            · clear hok hi
              go_wp2
              go_round
              case rel => exact ⟨k + 1, by omega, by go_num⟩
              case measure => simp [intOf]; omega
            · have HO := Lib.hid (okAt_dig hok hi)
              clear hok hi
              go_wp2_with (go_at_call 31; refine (digit_b _ true HO _).mono ?_; rintro e w1 ⟨rfl, rfl⟩)
              go_round
              case rel => exact ⟨k + 1, by omega, by go_num⟩
              case measure => simp [intOf]; omega
          · obtain rfl : k = p := by omega
            rcases three' k with ⟨g2, hi⟩ | ⟨g2, g3, hi⟩ | ⟨g2, g3, hi⟩
            · exact absurd hi HP.out
            · exact absurd hi HP.out
            · clear hi
              go_wp2_with (go_at_call 31; refine (digit_b _ false HN _).mono ?_; rintro e w1 ⟨rfl, rfl⟩)
              go_ret2
              exact ⟨rfl, bl_refl _⟩
      · go_enter Try.func21, Try.ntmps21
        go_wp2
        go_ret2
        exact ⟨rfl, bl_refl _⟩
    · go_enter Try.func21, Try.ntmps21
      go_wp2
      go_ret2
      exact ⟨rfl, bl_refl _⟩
  · go_enter Try.func21, Try.ntmps21
    go_wp2
    go_ret2
    exact ⟨rfl, bl_refl _⟩

set_option maxHeartbeats 4000000 in
theorem refParse_good (s : ByteArray) (a b c d e f : UInt8) (n : Int) (ok : Bool) (hl : s.data.toList = [a, b, 58, c, d, 58, e, f]) (ha : isDig a = true) (hb : isDig b = true) (hc : isDig c = true) (hd : isDig d = true) (he : isDig e = true) (hf : isDig f = true)
    (hj : join (pair a b) (pair c d) (pair e f) = (n, ok)) (w : World) :
    Calls Try.prog 21 #[.string s] w fun r w' => r = .returned (.tuple #[.int .i64 n, .int .i64 (if ok then 0 else 10)]) ∧ Bl w w' := by
  have HS := Lib.hid ((shape_list s).2 ⟨a, b, c, d, e, f, hl, ha, hb, hc, hd, he, hf⟩)
  have h8 : s.size = 8 := HS.out.1
  have hs1 : 8 ≤ s.size := by omega
  have hs2 : s.size ≤ 8 := by omega
  have h0 : 0 < s.size := by omega
  have h1 : 1 < s.size := by omega
  have h2 : 2 < s.size := by omega
  have h3 : 3 < s.size := by omega
  have h4 : 4 < s.size := by omega
  have h5 : 5 < s.size := by omega
  have h6 : 6 < s.size := by omega
  have h7 : 7 < s.size := by omega
  have d2 : ((s[2]'h2).toNat : Int) = 58 := okAt_dot (HS.out.2 2 h2) (.inl rfl)
  have d5 : ((s[5]'h5).toNat : Int) = 58 := okAt_dot (HS.out.2 5 h5) (.inr rfl)
  have E0 : Hid (s[0]'h0 = a) := by show _ = _; rw [← bytes_get s 0 h0]; simp [hl]
  have E1 : Hid (s[1]'h1 = b) := by show _ = _; rw [← bytes_get s 1 h1]; simp [hl]
  have E3 : Hid (s[3]'h3 = c) := by show _ = _; rw [← bytes_get s 3 h3]; simp [hl]
  have E4 : Hid (s[4]'h4 = d) := by show _ = _; rw [← bytes_get s 4 h4]; simp [hl]
  have E6 : Hid (s[6]'h6 = e) := by show _ = _; rw [← bytes_get s 6 h6]; simp [hl]
  have E7 : Hid (s[7]'h7 = f) := by show _ = _; rw [← bytes_get s 7 h7]; simp [hl]
  have HJ := Lib.hid hj
  have D := Lib.hid (And.intro ha (And.intro hb (And.intro hc (And.intro hd (And.intro he hf)))))
  have hio : ok = true ∨ ok = false := by cases ok <;> simp
  clear hl hj ha hb hc hd he hf h8
  rcases hio with rfl | rfl
  · skip
    go_enter Try.func21, Try.ntmps21
    go_wp2
    go_loop [4] (fun i => ∃ k : Nat, k ≤ 8 ∧ i = .int .i64 k) (fun i => 8 - (intOf i).toNat)
    case atStart => exact ⟨0, Nat.zero_le _, rfl⟩
    case round =>
      obtain ⟨k, hk, rfl⟩ := hrel
      by_cases hk8 : k < 8
      · have hks : k < s.size := by omega
        have hok := HS.out.2 k hks
        rcases three' k with ⟨g2, hi⟩ | ⟨g2, g3, hi⟩ | ⟨g2, g3, hi⟩
        · clear hok hi
          go_wp2
          go_round
          case rel => exact ⟨k + 1, by omega, by go_num⟩
          case measure => simp [intOf]; omega
        · clear hok hi
          go_wp2
          go_round
          case rel => exact ⟨k + 1, by omega, by go_num⟩
          case measure => simp [intOf]; omega
        · have HO := Lib.hid (okAt_dig hok hi)
          clear hok hi
          go_wp2_with (go_at_call 31; refine (digit_b _ true HO _).mono ?_; rintro e w1 ⟨rfl, rfl⟩)
          go_round
          case rel => exact ⟨k + 1, by omega, by go_num⟩
          case measure => simp [intOf]; omega
      · go_wp2_with fail
        refine (refPair_c s 0 a b h0 h1 E0 E1 D.out.1 D.out.2.1 (by omega) _).mono ?_
        rintro e w1 ⟨rfl, m1, rfl⟩
        go_wp2_with fail
        refine (refPair_c s 3 c d h3 h4 E3 E4 D.out.2.2.1 D.out.2.2.2.1 (by omega) _).mono ?_
        rintro e w1 ⟨rfl, m2, rfl⟩
        go_wp2_with fail
        refine (refPair_c s 6 e f h6 h7 E6 E7 D.out.2.2.2.2.1 D.out.2.2.2.2.2 (by omega) _).mono ?_
        rintro e w1 ⟨rfl, m3, rfl⟩
        go_wp2_with fail
        refine (refJoin_c _ _ _ _ _ HJ _).mono ?_
        rintro e w1 ⟨rfl, rfl⟩
        go_wp2
        go_ret2
        exact ⟨rfl, bl_drewN (bl_refl _) _⟩
  · obtain ⟨rfl, _⟩ := join_no HJ.out
    go_enter Try.func21, Try.ntmps21
    go_wp2
    go_loop [4] (fun i => ∃ k : Nat, k ≤ 8 ∧ i = .int .i64 k) (fun i => 8 - (intOf i).toNat)
    case atStart => exact ⟨0, Nat.zero_le _, rfl⟩
    case round =>
      obtain ⟨k, hk, rfl⟩ := hrel
      by_cases hk8 : k < 8
      · have hks : k < s.size := by omega
        have hok := HS.out.2 k hks
        rcases three' k with ⟨g2, hi⟩ | ⟨g2, g3, hi⟩ | ⟨g2, g3, hi⟩
        · clear hok hi
          go_wp2
          go_round
          case rel => exact ⟨k + 1, by omega, by go_num⟩
          case measure => simp [intOf]; omega
        · clear hok hi
          go_wp2
          go_round
          case rel => exact ⟨k + 1, by omega, by go_num⟩
          case measure => simp [intOf]; omega
        · have HO := Lib.hid (okAt_dig hok hi)
          clear hok hi
          go_wp2_with (go_at_call 31; refine (digit_b _ true HO _).mono ?_; rintro e w1 ⟨rfl, rfl⟩)
          go_round
          case rel => exact ⟨k + 1, by omega, by go_num⟩
          case measure => simp [intOf]; omega
      · go_wp2_with fail
        refine (refPair_c s 0 a b h0 h1 E0 E1 D.out.1 D.out.2.1 (by omega) _).mono ?_
        rintro e w1 ⟨rfl, m1, rfl⟩
        go_wp2_with fail
        refine (refPair_c s 3 c d h3 h4 E3 E4 D.out.2.2.1 D.out.2.2.2.1 (by omega) _).mono ?_
        rintro e w1 ⟨rfl, m2, rfl⟩
        go_wp2_with fail
        refine (refPair_c s 6 e f h6 h7 E6 E7 D.out.2.2.2.2.1 D.out.2.2.2.2.2 (by omega) _).mono ?_
        rintro e w1 ⟨rfl, m3, rfl⟩
        go_wp2_with fail
        refine (refJoin_c _ _ _ _ _ HJ _).mono ?_
        rintro e w1 ⟨rfl, rfl⟩
        go_wp2
        go_ret2
        exact ⟨rfl, bl_drewN (bl_refl _) _⟩

theorem refParse_c (s : ByteArray) (n e : Int) (H : Time s.data.toList n e) (w : World) :
    Calls Try.prog 21 #[.string s] w fun r w' => r = .returned (.tuple #[.int .i64 n, .int .i64 e]) ∧ Bl w w' := by
  generalize hl : s.data.toList = l at H
  cases H with
  | bad h => exact refParse_bad s (by rw [shape_list, hl]; exact h) w
  | out ha hb hc hd he hf h => exact refParse_good s _ _ _ _ _ _ _ _ hl ha hb hc hd he hf h w
  | ok _ ha hb hc hd he hf h => exact refParse_good s _ _ _ _ _ _ _ _ hl ha hb hc hd he hf h w
end Go.Proofs.Ytnmapjflofoflaa
