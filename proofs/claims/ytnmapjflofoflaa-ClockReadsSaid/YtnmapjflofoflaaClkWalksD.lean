/-
  THE CONTRACTS OF CLOCK, FOURTH PART: pair, Parse. Conditions: those of each contract.
-/
import Derived.Test.YtnmapjflofoflaaClkWalksC
namespace Go.Proofs.Ytnmapjflofoflaa
open Go.RowKit
open Num Clk

/-! ### pair -/
/-- A byte of a string, for the walk to take. -/
theorem idx_c (s : ByteArray) (z : Int) (i : Nat) (hz : z = (i : Int)) (hi : i < s.size) (W : World) :
    (Instr.index 9 (.string s) (.int .i64 z)).run Try.prog W = .ok (.int .u8 ((s[i]'hi).toNat : Int)) W := by
  subst hz
  rw [run_index_string W 9 s .i64 _ Try.underlying9, dif_pos ⟨by omega, by omega⟩]
  rfl

theorem pair_c (s : ByteArray) (a b : UInt8) (hs : Hid (s.data.toList = [a, b])) (ha : isDig a = true) (hb : isDig b = true) (w : World) :
    Calls Try.prog 30 #[.string s] w fun e w' => e = .returned (.int .i64 (pair a b)) ∧ ∃ m, w' = w.drewN m := by
  have hsz : s.size = 2 := by
    have : s.data.toList.length = s.size := by simp
    rw [hs.out] at this
    simpa using this.symm
  have h0 : 0 < s.size := by omega
  have h1 : 1 < s.size := by omega
  have e0 : s[0]'h0 = a := by
    rw [← bytes_get s 0 h0]
    simp [hs.out]
  have e1 : s[1]'h1 = b := by
    rw [← bytes_get s 1 h1]
    simp [hs.out]
  have ba := dig_bd ha
  have bb := dig_bd hb
  rw [← e0] at ba
  rw [← e1] at bb
  have HP := Lib.hid (show pair a b = (10 : Int) * (((s[0]'h0).toNat : Int) - (48 : Int)) + (((s[1]'h1).toNat : Int) - 48) by rw [e0, e1]; rfl)
  clear e0 e1 hsz ha hb
  have E1 := Lib.hid (IntWalk.u8_in (((s[0]'h0).toNat : Int) - 48) (by omega))
  have E2 := Lib.hid (IntWalk.i64_in (((s[0]'h0).toNat : Int) - 48) (by omega))
  have E3 := Lib.hid (IntWalk.i64_in ((10 : Int) * (((s[0]'h0).toNat : Int) - (48 : Int))) (by omega))
  have E4 := Lib.hid (IntWalk.u8_in (((s[1]'h1).toNat : Int) - 48) (by omega))
  have E5 := Lib.hid (IntWalk.i64_in (((s[1]'h1).toNat : Int) - 48) (by omega))
  have E6 := Lib.hid (IntWalk.i64_in ((10 : Int) * (((s[0]'h0).toNat : Int) - (48 : Int)) + (((s[1]'h1).toNat : Int) - 48)) (by omega))
  go_enter Try.func30, Try.ntmps30
  go_wp2
  have e1 := E1.out
  have e2 := E2.out
  have e3 := E3.out
  have e4 := E4.out
  have e5 := E5.out
  have e6 := E6.out
  have e7 := fun W => idx_c s 0 0 rfl h0 W
  have e8 := fun W => idx_c s 1 1 rfl h1 W
  go_quiet (fail)
  clear e1 e2 e3 e4 e5 e6 e7 e8
  go_wp2
  go_ret
  exact ⟨ret_int (by rw [HP.out]), nq, rfl⟩

/-! ### Parse -/
theorem list8 {l : List UInt8} (h : l.length = 8) : ∃ a b x c d y e f, l = [a, b, x, c, d, y, e, f] := by
  match l, h with
  | [a, b, x, c, d, y, e, f], _ => exact ⟨_, _, _, _, _, _, _, _, rfl⟩
theorem shape_list (s : ByteArray) : Shape s ↔ ∃ a b c d e f : UInt8, s.data.toList = [a, b, 58, c, d, 58, e, f] ∧ isDig a = true ∧ isDig b = true ∧ isDig c = true ∧ isDig d = true ∧ isDig e = true ∧ isDig f = true := by
  have hlen : s.data.toList.length = s.size := by simp
  constructor
  · rintro ⟨h8, h⟩
    obtain ⟨a, b, x, c, d, y, e, f, hl⟩ := list8 (l := s.data.toList) (by omega)
    have g : ∀ i (hi : i < s.size), okAt i (s.data.toList[i]'(by omega)) = true := fun i hi => by rw [bytes_get s i hi]; exact h i hi
    have g0 := g 0 (by omega)
    have g1 := g 1 (by omega)
    have g2 := g 2 (by omega)
    have g3 := g 3 (by omega)
    have g4 := g 4 (by omega)
    have g5 := g 5 (by omega)
    have g6 := g 6 (by omega)
    have g7 := g 7 (by omega)
    simp only [hl, List.getElem_cons_zero, List.getElem_cons_succ] at g0 g1 g2 g3 g4 g5 g6 g7
    obtain rfl : x = 58 := by simpa [okAt] using g2
    obtain rfl : y = 58 := by simpa [okAt] using g5
    exact ⟨a, b, c, d, e, f, hl, by simpa [okAt] using g0, by simpa [okAt] using g1, by simpa [okAt] using g3, by simpa [okAt] using g4, by simpa [okAt] using g6, by simpa [okAt] using g7⟩
  · rintro ⟨a, b, c, d, e, f, hl, ha, hb, hc, hd, he, hf⟩
    have h8 : s.size = 8 := by rw [← hlen, hl]; rfl
    refine ⟨h8, fun i hi => ?_⟩
    rw [← bytes_get s i hi]
    rw [h8] at hi
    simp only [hl]
    match i, hi with
    | 0, _ => simpa [okAt] using ha
    | 1, _ => simpa [okAt] using hb
    | 2, _ => rfl
    | 3, _ => simpa [okAt] using hc
    | 4, _ => simpa [okAt] using hd
    | 5, _ => rfl
    | 6, _ => simpa [okAt] using he
    | 7, _ => simpa [okAt] using hf

theorem ext_list (s : ByteArray) (i j : Nat) : (s.extract i j).data.toList = (s.data.toList.drop i).take (j - i) := by rw [Lib.extract_data]

set_option maxHeartbeats 2000000 in
theorem parse_c (s : ByteArray) (n e : Int) (H : Time s.data.toList n e) (w : World) :
    Calls Try.prog 20 #[.string s] w fun r w' => r = .returned (.tuple #[.int .i64 n, .int .i64 e]) ∧ Bl w w' := by
  generalize hl : s.data.toList = l at H
  have key : ∀ (a b c d e f : UInt8) (n : Int) (ok : Bool), s.data.toList = [a, b, 58, c, d, 58, e, f] → isDig a = true → isDig b = true → isDig c = true → isDig d = true → isDig e = true → isDig f = true → join (pair a b) (pair c d) (pair e f) = (n, ok) →
      Calls Try.prog 20 #[.string s] w fun r w' => r = .returned (.tuple #[.int .i64 n, .int .i64 (if ok then 0 else 10)]) ∧ Bl w w' := by
    intro a b c d e f n ok hl ha hb hc hd he hf hj
    have HS := Lib.hid ((shape_list s).2 ⟨a, b, c, d, e, f, hl, ha, hb, hc, hd, he, hf⟩)
    have h8 : s.size = 8 := HS.out.1
    have hs1 : 8 ≤ s.size := by omega
    have hs2 : s.size ≤ 8 := by omega
    have H1 : Hid ((s.extract 0 2).data.toList = [a, b]) := by show _ = _; rw [ext_list, hl]; rfl
    have H2 : Hid ((s.extract 3 5).data.toList = [c, d]) := by show _ = _; rw [ext_list, hl]; rfl
    have H3 : Hid ((s.extract 6 s.size).data.toList = [e, f]) := by show _ = _; rw [ext_list, hl, h8]; rfl
    have HJ := Lib.hid hj
    have D := Lib.hid (And.intro ha (And.intro hb (And.intro hc (And.intro hd (And.intro he hf)))))
    clear hl hj ha hb hc hd he hf h8
    cases ok with
    | true =>
      go_enter Try.func20, Try.ntmps20
      go_wp2_with fail
      refine (shaped_b s true (.inl ⟨HS.out, rfl⟩) _).mono ?_
      rintro e w1 ⟨rfl, b1⟩
      go_wp2
      have i2 : (2 : Int) ≤ (s.size : Int) := by omega
      have i5 : (5 : Int) ≤ (s.size : Int) := by omega
      have i6 : (6 : Int) ≤ (s.size : Int) := by omega
      go_quiet ((first
        | (go_at_call 30; with_reducible exact Calls.quiet_of (pair_c _ _ _ H1 D.out.1 D.out.2.1 _))
        | (go_at_call 30; with_reducible exact Calls.quiet_of (pair_c _ _ _ H2 D.out.2.2.1 D.out.2.2.2.1 _))
        | (go_at_call 30; with_reducible exact Calls.quiet_of (pair_c _ _ _ H3 D.out.2.2.2.2.1 D.out.2.2.2.2.2 _))
        | (go_at_call 16; with_reducible exact Calls.quiet_of_same ((join_c _ _ _ _ _ HJ _).mono fun _ _ ⟨he, hw⟩ => ⟨he, hw.symm⟩))))
      go_wp2
      go_ret2
      exact ⟨rfl, bl_drewN b1 _⟩
    | false =>
      obtain ⟨rfl, _⟩ := join_no HJ.out
      go_enter Try.func20, Try.ntmps20
      go_wp2_with fail
      refine (shaped_b s true (.inl ⟨HS.out, rfl⟩) _).mono ?_
      rintro e w1 ⟨rfl, b1⟩
      go_wp2
      have i2 : (2 : Int) ≤ (s.size : Int) := by omega
      have i5 : (5 : Int) ≤ (s.size : Int) := by omega
      have i6 : (6 : Int) ≤ (s.size : Int) := by omega
      go_quiet ((first
        | (go_at_call 30; with_reducible exact Calls.quiet_of (pair_c _ _ _ H1 D.out.1 D.out.2.1 _))
        | (go_at_call 30; with_reducible exact Calls.quiet_of (pair_c _ _ _ H2 D.out.2.2.1 D.out.2.2.2.1 _))
        | (go_at_call 30; with_reducible exact Calls.quiet_of (pair_c _ _ _ H3 D.out.2.2.2.2.1 D.out.2.2.2.2.2 _))
        | (go_at_call 16; with_reducible exact Calls.quiet_of_same ((join_c _ _ _ _ _ HJ _).mono fun _ _ ⟨he, hw⟩ => ⟨he, hw.symm⟩))))
      go_wp2
      go_ret2
      exact ⟨rfl, bl_drewN b1 _⟩
  cases H with
  | bad h =>
    have HS := Lib.hid (show ¬ Shape s by rw [shape_list, hl]; exact h)
    clear h hl key
    go_enter Try.func20, Try.ntmps20
    go_wp2_with fail
    refine (shaped_b s false (.inr ⟨HS.out, rfl⟩) _).mono ?_
    rintro e w1 ⟨rfl, b1⟩
    go_wp2
    go_ret2
    exact ⟨rfl, b1⟩
  | out ha hb hc hd he hf h => exact key _ _ _ _ _ _ _ _ hl ha hb hc hd he hf h
  | ok _ ha hb hc hd he hf h => exact key _ _ _ _ _ _ _ _ hl ha hb hc hd he hf h

/-! ### the reference's Parse -/
theorem digit_b (c : UInt8) (b : Bool) (h : Hid (isDig c = b)) (w : World) : Calls Try.prog 31 #[.int .u8 (c.toNat : Int)] w fun e w' => e = .returned (.bool b) ∧ w = w' := by
  cases b with
  | true =>
    obtain ⟨h0, h1⟩ := dig_bd h.out
    go_enter Try.func31, Try.ntmps31
    go_wp2
    go_ret
    exact ⟨ret_bool (by simp), rfl⟩
  | false =>
    rcases not_dig h.out with h0 | h0
    · go_enter Try.func31, Try.ntmps31
      go_wp2
      go_ret
      exact ⟨rfl, rfl⟩
    · have h1 : (48 : Int) ≤ (c.toNat : Int) := by omega
      go_enter Try.func31, Try.ntmps31
      go_wp2
      go_ret
      exact ⟨ret_bool (by simp; omega), rfl⟩

theorem refPair_c (s : ByteArray) (i : Nat) (a b : UInt8) (h0 : i < s.size) (h1 : i + 1 < s.size) (ea : Hid (s[i]'h0 = a)) (eb : Hid (s[i + 1]'h1 = b)) (ha : isDig a = true) (hb : isDig b = true) (hi : i ≤ 1000) (w : World) :
    Calls Try.prog 32 #[.string s, .int .i64 i] w fun e w' => e = .returned (.int .i64 (pair a b)) ∧ ∃ m, w' = w.drewN m := by
  have ba := dig_bd ha
  have bb := dig_bd hb
  rw [← ea.out] at ba
  rw [← eb.out] at bb
  have HP := Lib.hid (show pair a b = (10 : Int) * (((s[i]'h0).toNat : Int) - (48 : Int)) + (((s[i + 1]'h1).toNat : Int) - 48) by rw [ea.out, eb.out]; rfl)
  clear ha hb
  have E0 := Lib.hid (IntWalk.i64_in ((i : Int) + 1) (by omega))
  have E1 := Lib.hid (IntWalk.u8_in (((s[i]'h0).toNat : Int) - 48) (by omega))
  have E2 := Lib.hid (IntWalk.i64_in (((s[i]'h0).toNat : Int) - 48) (by omega))
  have E3 := Lib.hid (IntWalk.i64_in ((10 : Int) * (((s[i]'h0).toNat : Int) - (48 : Int))) (by omega))
  have E4 := Lib.hid (IntWalk.u8_in (((s[i + 1]'h1).toNat : Int) - 48) (by omega))
  have E5 := Lib.hid (IntWalk.i64_in (((s[i + 1]'h1).toNat : Int) - 48) (by omega))
  have E6 := Lib.hid (IntWalk.i64_in ((10 : Int) * (((s[i]'h0).toNat : Int) - (48 : Int)) + (((s[i + 1]'h1).toNat : Int) - 48)) (by omega))
  go_enter Try.func32, Try.ntmps32
  go_wp2
  have e0 := E0.out
  have e1 := E1.out
  have e2 := E2.out
  have e3 := E3.out
  have e4 := E4.out
  have e5 := E5.out
  have e6 := E6.out
  have e7 := fun W => idx_c s (i : Int) i rfl h0 W
  have e8 := fun W => idx_c s ((i : Int) + 1) (i + 1) (by omega) h1 W
  go_quiet (fail)
  clear e0 e1 e2 e3 e4 e5 e6 e7 e8
  go_wp2
  go_ret
  exact ⟨ret_int (by rw [HP.out]), nq, rfl⟩
end Go.Proofs.Ytnmapjflofoflaa
