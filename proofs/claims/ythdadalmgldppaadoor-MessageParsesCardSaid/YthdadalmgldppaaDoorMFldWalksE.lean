/-
  THE CONTRACTS OF FIELD, FIFTH PART: escape and one. Conditions: those of each contract.
-/
import Derived.Test.YthdadalmgldppaaDoorMFldWalksD
namespace Go.Proofs.YthdadalmgldppaaDoor
open Go.RowKit
open Fld

set_option maxRecDepth 20000 in
set_option maxHeartbeats 1000000 in
theorem escape_c (s : ByteArray) (hs : s.size ≤ maxLen) (h0 : 0 < s.size) (h : (s[0]'h0).toNat = 92) (c : UInt8) (k : Nat) (H : Hid ((oneS s.data.toList).getD (0, 0) = (c, k))) (w : World) :
    Calls Tryd.prog 103 #[.string s] w fun e w' => e = .returned (.tuple #[.int .u8 c.toNat, .int .i64 k]) ∧ Bl w w' := by
  unfold maxLen at hs
  have h92 : ((s[0]'h0).toNat : Int) = 92 := by omega
  by_cases h2 : 2 ≤ s.size
  · by_cases ha : ((s[1]'(by omega)).toNat : Int) = 34
    · obtain ⟨rfl, rfl⟩ : s[1]'(by omega) = c ∧ 2 = k := by have := H.out; rw [one_two h2 h (.inl (by omega))] at this; exact Prod.mk.inj this
      clear H
      go_enter Tryd.func103, Tryd.ntmps103
      go_wp2
      go_ret2
      exact ⟨by simp [ha], bl_refl _⟩
    by_cases hb : ((s[1]'(by omega)).toNat : Int) = 92
    · obtain ⟨rfl, rfl⟩ : s[1]'(by omega) = c ∧ 2 = k := by have := H.out; rw [one_two h2 h (.inr (by omega))] at this; exact Prod.mk.inj this
      clear H
      go_enter Tryd.func103, Tryd.ntmps103
      go_wp2
      go_ret2
      exact ⟨by simp [hb], bl_refl _⟩
    have f1 : (((s[1]'(by omega)).toNat : Int) == 34) = false := by rw [beq_eq_false_iff_ne]; exact ha
    have f2 : (((s[1]'(by omega)).toNat : Int) == 92) = false := by rw [beq_eq_false_iff_ne]; exact hb
    by_cases h4 : 4 ≤ s.size
    · by_cases hx : ((s[1]'(by omega)).toNat : Int) = 120
      · have HX := Lib.hid (one_hex h4 h (by omega))
        by_cases d2 : digV (s[2]'(by omega)) < 16
        · by_cases d3 : digV (s[3]'(by omega)) < 16
          · obtain ⟨hc, rfl⟩ : UInt8.ofNat (16 * digV (s[2]'(by omega)) + digV (s[3]'(by omega))) = c ∧ 4 = k := by have := H.out; rw [HX.out, if_pos ⟨d2, d3⟩] at this; exact Prod.mk.inj this
            have HC := Lib.hid (show ((16 * digV (s[2]'(by omega)) + digV (s[3]'(by omega)) : Nat) : Int) = c.toNat by rw [← hc, UInt8.toNat_ofNat', Nat.mod_eq_of_lt (by omega)])
            clear H HX hc
            have i2 : ((digV (s[2]'(by omega)) : Nat) : Int) < 16 := by omega
            have i3 : ((digV (s[3]'(by omega)) : Nat) : Int) < 16 := by omega
            have e1 : IntKind.u8.wrap (16 * ((digV (s[2]'(by omega)) : Nat) : Int)) = 16 * ((digV (s[2]'(by omega)) : Nat) : Int) := IntWalk.u8_in _ (by omega)
            have e2 : IntKind.u8.wrap (16 * ((digV (s[2]'(by omega)) : Nat) : Int) + ((digV (s[3]'(by omega)) : Nat) : Int)) = 16 * ((digV (s[2]'(by omega)) : Nat) : Int) + ((digV (s[3]'(by omega)) : Nat) : Int) := IntWalk.u8_in _ (by omega)
            go_enter Tryd.func103, Tryd.ntmps103
            go_wp2_with (go_at_call 114; refine (nibble_c _ _).mono ?_)
            rintro e w' ⟨rfl, rfl⟩
            go_wp2_with (go_at_call 114; refine (nibble_c _ _).mono ?_)
            rintro e w' ⟨rfl, rfl⟩
            go_wp2
            go_quiet ((go_at_call 114; exact Calls.quiet_of_same ((nibble_c _ _).mono fun e w' h => ⟨h.1, h.2.symm⟩)))
            generalize hwz : w.drewN _ = wz
            have bz : Bl w wz := by rw [← hwz]; exact bl_drewN (bl_refl _) _
            go_wp2
            go_ret2
            exact ⟨by rw [show ((c.toNat : Nat) : Int) = 16 * ((digV (s[2]'(by omega)) : Nat) : Int) + ((digV (s[3]'(by omega)) : Nat) : Int) by have := HC.out; omega]; rfl, bz⟩
          · obtain ⟨rfl, rfl⟩ : 0 = c ∧ 0 = k := by have := H.out; rw [HX.out, if_neg (fun e => d3 e.2)] at this; exact Prod.mk.inj this
            clear H
            clear HX
            have i2 : ((digV (s[2]'(by omega)) : Nat) : Int) < 16 := by omega
            have i3 : ¬ ((digV (s[3]'(by omega)) : Nat) : Int) < 16 := by omega
            go_enter Tryd.func103, Tryd.ntmps103
            go_wp2_with (go_at_call 114; refine (nibble_c _ _).mono ?_)
            rintro e w' ⟨rfl, rfl⟩
            go_wp2_with (go_at_call 114; refine (nibble_c _ _).mono ?_)
            rintro e w' ⟨rfl, rfl⟩
            go_wp2
            go_ret2
            exact ⟨by simp, bl_refl _⟩
        · obtain ⟨rfl, rfl⟩ : 0 = c ∧ 0 = k := by have := H.out; rw [HX.out, if_neg (fun e => d2 e.1)] at this; exact Prod.mk.inj this
          clear H
          clear HX
          have i2 : ¬ ((digV (s[2]'(by omega)) : Nat) : Int) < 16 := by omega
          go_enter Tryd.func103, Tryd.ntmps103
          go_wp2_with (go_at_call 114; refine (nibble_c _ _).mono ?_)
          rintro e w' ⟨rfl, rfl⟩
          go_wp2
          go_ret2
          exact ⟨by simp, bl_refl _⟩
      · obtain ⟨rfl, rfl⟩ : 0 = c ∧ 0 = k := by have := H.out; rw [one_other h2 h (by omega) (by omega) (.inl (by omega))] at this; exact Prod.mk.inj this
        clear H
        go_enter Tryd.func103, Tryd.ntmps103
        go_wp2
        go_ret2
        exact ⟨by simp, bl_refl _⟩
    · obtain ⟨rfl, rfl⟩ : 0 = c ∧ 0 = k := by have := H.out; rw [one_other h2 h (by omega) (by omega) (.inr (by omega))] at this; exact Prod.mk.inj this
      clear H
      go_enter Tryd.func103, Tryd.ntmps103
      go_wp2
      go_ret2
      exact ⟨by simp, bl_refl _⟩
  · obtain ⟨rfl, rfl⟩ : 0 = c ∧ 0 = k := by have := H.out; rw [one_short (by omega) h] at this; exact Prod.mk.inj this
    clear H
    go_enter Tryd.func103, Tryd.ntmps103
    go_wp2
    go_ret2
    exact ⟨by simp, bl_refl _⟩
set_option maxRecDepth 20000 in
set_option maxHeartbeats 1000000 in
theorem one_c (s : ByteArray) (hs : s.size ≤ maxLen) (h0 : 0 < s.size) (c : UInt8) (k : Nat) (H : Hid ((oneS s.data.toList).getD (0, 0) = (c, k))) (w : World) :
    Calls Tryd.prog 93 #[.string s] w fun e w' => e = .returned (.tuple #[.int .u8 c.toNat, .int .i64 k]) ∧ Bl w w' := by
  unfold maxLen at hs
  by_cases h : ¬ (s[0]'h0).toNat = 92
  · obtain ⟨rfl, rfl⟩ : s[0]'h0 = c ∧ 1 = k := by have := H.out; rw [one_plain h0 h] at this; exact Prod.mk.inj this
    clear H
    have h92 : ¬ ((s[0]'h0).toNat : Int) = 92 := by omega
    go_enter Tryd.func93, Tryd.ntmps93
    go_wp2
    go_ret2
    exact ⟨by simp, bl_refl _⟩
  replace h : (s[0]'h0).toNat = 92 := Decidable.not_not.1 h
  have h92 : ((s[0]'h0).toNat : Int) = 92 := by omega
  by_cases h2 : 2 ≤ s.size
  · by_cases ha : ((s[1]'(by omega)).toNat : Int) = 34
    · obtain ⟨rfl, rfl⟩ : s[1]'(by omega) = c ∧ 2 = k := by have := H.out; rw [one_two h2 h (.inl (by omega))] at this; exact Prod.mk.inj this
      clear H
      go_enter Tryd.func93, Tryd.ntmps93
      go_wp2
      go_ret2
      exact ⟨by simp [ha], bl_refl _⟩
    by_cases hb : ((s[1]'(by omega)).toNat : Int) = 92
    · obtain ⟨rfl, rfl⟩ : s[1]'(by omega) = c ∧ 2 = k := by have := H.out; rw [one_two h2 h (.inr (by omega))] at this; exact Prod.mk.inj this
      clear H
      go_enter Tryd.func93, Tryd.ntmps93
      go_wp2
      go_ret2
      exact ⟨by simp [hb], bl_refl _⟩
    have f1 : (((s[1]'(by omega)).toNat : Int) == 34) = false := by rw [beq_eq_false_iff_ne]; exact ha
    have f2 : (((s[1]'(by omega)).toNat : Int) == 92) = false := by rw [beq_eq_false_iff_ne]; exact hb
    by_cases h4 : 4 ≤ s.size
    · by_cases hx : ((s[1]'(by omega)).toNat : Int) = 120
      · have HX := Lib.hid (one_hex h4 h (by omega))
        by_cases d2 : digV (s[2]'(by omega)) < 16
        · by_cases d3 : digV (s[3]'(by omega)) < 16
          · obtain ⟨hc, rfl⟩ : UInt8.ofNat (16 * digV (s[2]'(by omega)) + digV (s[3]'(by omega))) = c ∧ 4 = k := by have := H.out; rw [HX.out, if_pos ⟨d2, d3⟩] at this; exact Prod.mk.inj this
            have HC := Lib.hid (show ((16 * digV (s[2]'(by omega)) + digV (s[3]'(by omega)) : Nat) : Int) = c.toNat by rw [← hc, UInt8.toNat_ofNat', Nat.mod_eq_of_lt (by omega)])
            clear H HX hc
            have i2 : ((digV (s[2]'(by omega)) : Nat) : Int) < 16 := by omega
            have i3 : ((digV (s[3]'(by omega)) : Nat) : Int) < 16 := by omega
            have e1 : IntKind.u8.wrap (16 * ((digV (s[2]'(by omega)) : Nat) : Int)) = 16 * ((digV (s[2]'(by omega)) : Nat) : Int) := IntWalk.u8_in _ (by omega)
            have e2 : IntKind.u8.wrap (16 * ((digV (s[2]'(by omega)) : Nat) : Int) + ((digV (s[3]'(by omega)) : Nat) : Int)) = 16 * ((digV (s[2]'(by omega)) : Nat) : Int) + ((digV (s[3]'(by omega)) : Nat) : Int) := IntWalk.u8_in _ (by omega)
            go_enter Tryd.func93, Tryd.ntmps93
            go_wp2_with (go_at_call 108; refine (rdigit_c _ _).mono ?_)
            rintro e w' ⟨rfl, rfl⟩
            go_wp2_with (go_at_call 108; refine (rdigit_c _ _).mono ?_)
            rintro e w' ⟨rfl, rfl⟩
            go_wp2
            go_quiet ((go_at_call 108; exact Calls.quiet_of_same ((rdigit_c _ _).mono fun e w' h => ⟨h.1, h.2.symm⟩)))
            generalize hwz : w.drewN _ = wz
            have bz : Bl w wz := by rw [← hwz]; exact bl_drewN (bl_refl _) _
            go_wp2
            go_ret2
            exact ⟨by rw [show ((c.toNat : Nat) : Int) = 16 * ((digV (s[2]'(by omega)) : Nat) : Int) + ((digV (s[3]'(by omega)) : Nat) : Int) by have := HC.out; omega]; rfl, bz⟩
          · obtain ⟨rfl, rfl⟩ : 0 = c ∧ 0 = k := by have := H.out; rw [HX.out, if_neg (fun e => d3 e.2)] at this; exact Prod.mk.inj this
            clear H
            clear HX
            have i2 : ((digV (s[2]'(by omega)) : Nat) : Int) < 16 := by omega
            have i3 : ¬ ((digV (s[3]'(by omega)) : Nat) : Int) < 16 := by omega
            go_enter Tryd.func93, Tryd.ntmps93
            go_wp2_with (go_at_call 108; refine (rdigit_c _ _).mono ?_)
            rintro e w' ⟨rfl, rfl⟩
            go_wp2_with (go_at_call 108; refine (rdigit_c _ _).mono ?_)
            rintro e w' ⟨rfl, rfl⟩
            go_wp2
            go_ret2
            exact ⟨by simp, bl_refl _⟩
        · obtain ⟨rfl, rfl⟩ : 0 = c ∧ 0 = k := by have := H.out; rw [HX.out, if_neg (fun e => d2 e.1)] at this; exact Prod.mk.inj this
          clear H
          clear HX
          have i2 : ¬ ((digV (s[2]'(by omega)) : Nat) : Int) < 16 := by omega
          go_enter Tryd.func93, Tryd.ntmps93
          go_wp2_with (go_at_call 108; refine (rdigit_c _ _).mono ?_)
          rintro e w' ⟨rfl, rfl⟩
          go_wp2
          go_ret2
          exact ⟨by simp, bl_refl _⟩
      · obtain ⟨rfl, rfl⟩ : 0 = c ∧ 0 = k := by have := H.out; rw [one_other h2 h (by omega) (by omega) (.inl (by omega))] at this; exact Prod.mk.inj this
        clear H
        go_enter Tryd.func93, Tryd.ntmps93
        go_wp2
        go_ret2
        exact ⟨by simp, bl_refl _⟩
    · obtain ⟨rfl, rfl⟩ : 0 = c ∧ 0 = k := by have := H.out; rw [one_other h2 h (by omega) (by omega) (.inr (by omega))] at this; exact Prod.mk.inj this
      clear H
      go_enter Tryd.func93, Tryd.ntmps93
      go_wp2
      go_ret2
      exact ⟨by simp, bl_refl _⟩
  · obtain ⟨rfl, rfl⟩ : 0 = c ∧ 0 = k := by have := H.out; rw [one_short (by omega) h] at this; exact Prod.mk.inj this
    clear H
    go_enter Tryd.func93, Tryd.ntmps93
    go_wp2
    go_ret2
    exact ⟨by simp, bl_refl _⟩
end Go.Proofs.YthdadalmgldppaaDoor
