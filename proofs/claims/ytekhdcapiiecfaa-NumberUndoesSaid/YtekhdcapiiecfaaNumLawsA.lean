/-
  THE WALKS OF THE LAWS OF NUMBER: each law returns true, and writes nothing that was there. Conditions: each integer is an int, each string has at most maxLen bytes.
-/
import Derived.Test.YtekhdcapiiecfaaNumWalksE
import Derived.Test.YtekhdcapiiecfaaNumWalksH
import Derived.Test.YtekhdcapiiecfaaNumWalksI
import Derived.Test.YtekhdcapiiecfaaNumWalksJ
namespace Go.Proofs.Ytekhdcapiiecfaa
open Go.RowKit
open Num

set_option maxHeartbeats 2000000 in
theorem example_c (w : World) : Calls Try.prog 13 #[] w fun r w' => r = .returned (.bool true) ∧ Bl w w' := by
  have H1 : Hid (parse [48, 48, 55] = (0, 3)) := by show _ = _; decide
  have H2 : Hid (parse [57, 50, 50, 51, 51, 55, 50, 48, 51, 54, 56, 53, 52, 55, 55, 53, 56, 48, 56] = (0, 2)) := by show _ = _; decide
  have H3 : Quot (-7) 2 (-4) true := .yes (by decide) (by decide)
  have H4 : Quot (-9223372036854775808) (-1) 0 false := .no (.inr ⟨rfl, rfl⟩)
  have H5 : Hid (fmtPrice 1205 = ([49, 50, 46, 48, 53], 0)) := by
    show _ = _
    have h1 : (1205 : Int).toNat = 1205 := rfl
    have h2 : decDigits 12 = [49, 50] := by rw [decDigits_big (by decide), decDigits_small (by decide)]; rfl
    unfold fmtPrice
    rw [if_neg (by decide), h1]
    unfold priceText
    rw [show 1205 / 100 = 12 from rfl, h2]
    rfl
  have H6 : Price [49, 48, 48, 48, 48, 46, 48, 49] 0 2 := show Price ([49, 48, 48, 48, 48] ++ [46, 48, 49]) 0 2 from .big (by decide) (by decide) (by decide) (.inr (by decide))
  have H7 := Lib.hid (show itoa (-120) = [45, 49, 50, 48] by
    unfold itoa
    rw [if_pos (by decide), show (-120 : Int).natAbs = 120 from rfl, decDigits_big (by decide), decDigits_big (by decide), decDigits_small (by decide)]
    rfl)
  go_enter Try.func13, Try.ntmps13
  go_wp2_with fail
  refine (parse_c ⟨#[48, 48, 55]⟩ _ _ H1 (by decide) _).mono ?_
  rintro e w1 ⟨rfl, b1⟩
  go_wp2_with fail
  refine (parse_c ⟨#[57, 50, 50, 51, 51, 55, 50, 48, 51, 54, 56, 53, 52, 55, 55, 53, 56, 48, 56]⟩ _ _ H2 (by decide) _).mono ?_
  rintro e w2 ⟨rfl, b2⟩
  go_wp2_with fail
  refine (div_c _ _ _ _ H3 ⟨by decide, by decide⟩ ⟨by decide, by decide⟩ _).mono ?_
  rintro e w3 ⟨rfl, b3⟩
  go_wp2_with fail
  refine (div_c _ _ _ _ H4 ⟨by decide, by decide⟩ ⟨by decide, by decide⟩ _).mono ?_
  rintro e w4 ⟨rfl, b4⟩
  go_wp2_with fail
  refine (formatPrice_c _ _ _ H5 _).mono ?_
  rintro e w5 ⟨rfl, b5⟩
  go_wp2_with fail
  refine (parsePrice_c ⟨#[49, 48, 48, 48, 48, 46, 48, 49]⟩ _ _ H6 (by decide) _).mono ?_
  rintro e w6 ⟨rfl, b6⟩
  go_wp2_with fail
  refine (format_c _ (by decide) (by decide) _).mono ?_
  rintro e w7 ⟨rfl, b7⟩
  rw [H7.out]
  go_wp2
  go_ret
  exact ⟨rfl, bl_next (bl_next (bl_next (bl_next (bl_next (bl_next b1 b2) b3) b4) b5) b6) b7⟩
end Go.Proofs.Ytekhdcapiiecfaa
