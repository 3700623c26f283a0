/-
  THE WALKS OF THE LAWS OF CLOCK: each law returns true, and writes nothing that was there. Conditions: each integer is an int, each string has at most maxLen bytes, bytealg.MaxLen's cell holds an integer.
-/
import Derived.Test.YtnmapjflofoflaaClkWalksF
import Derived.Test.YtnmapjflofoflaaClkWalksE
import Derived.Test.YtnmapjflofoflaaClkWalksJ
namespace Go.Proofs.Ytnmapjflofoflaa
open Go.RowKit
open Num Clk

/-- bytealg.MaxLen stands in the first block. -/
def Ml (m : Int) (w : World) : Prop := w.cell? ⟨0, 0, none⟩ = some (.int .i64 m)
theorem ml_size {m : Int} {w : World} (h : Ml m w) : 0 < w.heap.size := by
  unfold Ml World.cell? at h
  rcases Nat.eq_zero_or_pos w.heap.size with k | k
  · simp [k] at h
  · exact k
theorem ml_next {m : Int} {w w1 : World} (h : Ml m w) (b : Bl w w1) : Ml m w1 := by
  unfold Ml
  rw [(bl_cell b).1 0 0 (ml_size h)]
  exact h

set_option maxHeartbeats 2000000 in
theorem example_c (m : Int) (w : World) (hm : Ml m w) : Calls Try.prog 15 #[] w fun r w' => r = .returned (.bool true) ∧ Bl w w' := by
  have H1 : Hid (fmt 93600 = ([50, 54, 58, 48, 48, 58, 48, 48], 0)) := by show _ = _; decide
  have H2 : Time [48, 56, 58, 48, 53, 58, 48, 48] 29100 0 := .ok 29100 (by decide) (by decide) (by decide) (by decide) (by decide) (by decide) (by decide)
  have H3 : Time [56, 58, 48, 53, 58, 48, 48] 0 3 := .bad (by rintro ⟨a, b, c, d, e, f, h, _⟩; simp at h)
  have H4 : Time [52, 56, 58, 48, 48, 58, 48, 49] 0 10 := .out (by decide) (by decide) (by decide) (by decide) (by decide) (by decide) (by decide)
  have H5 : Hid (fmtD 3930 = ([49, 104, 48, 53, 109, 51, 48, 115], 0)) := by
    show _ = _
    have h1 : (3930 : Int).toNat = 3930 := rfl
    have h2 : decDigits 1 = [49] := by rw [decDigits_small (by decide)]; rfl
    unfold fmtD
    rw [if_pos (by decide), h1]
    unfold durText
    rw [if_pos (by decide), show 3930 / 3600 = 1 from rfl, h2]
    rfl
  have H6 : Hid (pdur [57, 48, 109, 48, 48, 115] = (0, 3)) := by show _ = _; decide
  have H7 : Hid (pdur [49, 48, 48, 104, 48, 48, 109, 48, 48, 115] = (0, 2)) := by show _ = _; decide
  go_enter Try.func15, Try.ntmps15
  go_wp2_with fail
  refine (fmt_c _ _ _ H1 _).mono ?_
  rintro e w1 ⟨rfl, b1⟩
  go_wp2_with fail
  refine (parse_c ⟨#[48, 56, 58, 48, 53, 58, 48, 48]⟩ _ _ H2 _).mono ?_
  rintro e w2 ⟨rfl, b2⟩
  go_wp2_with fail
  refine (parse_c ⟨#[56, 58, 48, 53, 58, 48, 48]⟩ _ _ H3 _).mono ?_
  rintro e w3 ⟨rfl, b3⟩
  go_wp2_with fail
  refine (parse_c ⟨#[52, 56, 58, 48, 48, 58, 48, 49]⟩ _ _ H4 _).mono ?_
  rintro e w4 ⟨rfl, b4⟩
  go_wp2_with fail
  refine (fmtD_c _ _ _ H5 _).mono ?_
  rintro e w5 ⟨rfl, b5⟩
  have b5' := bl_next (bl_next (bl_next (bl_next b1 b2) b3) b4) b5
  have hm5 := ml_next hm b5'
  go_wp2_with fail
  refine (pdur_c ⟨#[57, 48, 109, 48, 48, 115]⟩ _ _ H6 (by decide) m _ hm5).mono ?_
  rintro e w6 ⟨rfl, b6⟩
  have hm6 := ml_next hm5 b6
  go_wp2_with fail
  refine (pdur_c ⟨#[49, 48, 48, 104, 48, 48, 109, 48, 48, 115]⟩ _ _ H7 (by decide) m _ hm6).mono ?_
  rintro e w7 ⟨rfl, b7⟩
  go_wp2
  go_ret
  exact ⟨rfl, bl_next (bl_next b5' b6) b7⟩
end Go.Proofs.Ytnmapjflofoflaa
