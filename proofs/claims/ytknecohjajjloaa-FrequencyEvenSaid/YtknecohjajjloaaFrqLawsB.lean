/-
  THE LAWS OF FREQUENCY, SECOND PART: FrequencyChecks. Conditions: those of each contract.
-/
import Derived.Test.YtknecohjajjloaaFrqRefCheck
import Derived.Test.YtknecohjajjloaaFrqValid
namespace Go.Proofs.Ytknecohjajjloaa
open Go.RowKit
open Frq

theorem FreqsIn_bl {B : Nat} {w w' : World} {v : Value} {fs : List FreqD} (h : FreqsIn B w v fs) (hb : Bl w w') (hB : B ≤ w.heap.size) : FreqsIn B w' v fs := h.below (hb.mono hB)
theorem checks_law (v : Value) (fs : List FreqD) (vt : Value) (ts : List TripD) (B : Nat) (w : World) (ha : FreqsIn B w v fs) (ht : TripsRd B w vt ts) (hB : B ≤ w.heap.size) :
    Calls Try.prog 3 #[v, vt] w fun e w' => e = .returned (.bool true) ∧ Bl w w' := by
  have HA := Lib.hid ha
  have HT := Lib.hid ht
  clear ha ht
  go_enter Try.func3, Try.ntmps3
  go_wp2_with fail
  rcases Bool.eq_false_or_eq_true (manyB fs 3000) with hm | hm
  · refine (many_c v fs 3000 true hm B w HA.out hB).mono ?_
    rintro e w1 ⟨rfl, b1⟩
    clear hm
    go_wp2_with fail
    refine (example_c _).mono ?_
    rintro e w2 ⟨rfl, b2⟩
    go_wp2
    go_ret
    exact ⟨rfl, bl_next b1 b2⟩
  · refine (many_c v fs 3000 false hm B w HA.out hB).mono ?_
    rintro e w1 ⟨rfl, b1⟩
    have B1 := Lib.hid b1
    have z1 := b1.size
    clear hm b1
    go_wp2_with fail
    rcases Bool.eq_false_or_eq_true (plainB ts) with hp | hp
    · refine (plain_c vt ts true hp B w1 (HT.out.bl B1.out hB) (by omega)).mono ?_
      rintro e w2 ⟨rfl, b2⟩
      have B2 : Hid (Bl w w2) := bl_next B1.out b2
      have z2 := b2.size
      clear b2
      have HI := Lib.hid (HT.out.into hp)
      clear hp
      go_wp2_with fail
      rcases Bool.eq_false_or_eq_true (validB ts) with hv | hv
      · refine (valid_c vt ts true hv B w2 (HT.out.bl B2.out hB) (by omega)).mono ?_
        rintro e w3 ⟨rfl, b3⟩
        have B3 : Hid (Bl w w3) := bl_next B2.out b3
        have z3 := b3.size
        clear b3 hv
        obtain ⟨r, hr⟩ : ∃ r, checkS fs ts = r := ⟨_, rfl⟩
        obtain ⟨r1, r2⟩ := r
        have HR := Lib.hid hr
        clear hr
        go_wp2_with fail
        refine (check_c v fs vt ts (r1, r2) HR B w3 (FreqsIn_bl HA.out B3.out hB) (HI.out.bl B3.out hB) (by omega)).mono ?_
        rintro e w4 ⟨rfl, b4⟩
        have B4 : Hid (Bl w w4) := bl_next B3.out b4
        have z4 := b4.size
        clear b4
        go_wp2_with fail
        refine (rcheck_c v fs vt ts (r1, r2) HR B w4 (FreqsIn_bl HA.out B4.out hB) (HI.out.bl B4.out hB) (by omega)).mono ?_
        rintro e w5 ⟨rfl, b5⟩
        go_wp2_with fail
        refine (example_c _).mono ?_
        rintro e w6 ⟨rfl, b6⟩
        go_wp2
        go_ret
        exact ⟨rfl, bl_next B4.out (bl_next b5 b6)⟩
      · refine (valid_c vt ts false hv B w2 (HT.out.bl B2.out hB) (by omega)).mono ?_
        rintro e w3 ⟨rfl, b3⟩
        clear hv
        go_wp2_with fail
        refine (example_c _).mono ?_
        rintro e w4 ⟨rfl, b4⟩
        go_wp2
        go_ret
        exact ⟨rfl, bl_next B2.out (bl_next b3 b4)⟩
    · refine (plain_c vt ts false hp B w1 (HT.out.bl B1.out hB) (by omega)).mono ?_
      rintro e w2 ⟨rfl, b2⟩
      clear hp
      go_wp2_with fail
      refine (example_c _).mono ?_
      rintro e w3 ⟨rfl, b3⟩
      go_wp2
      go_ret
      exact ⟨rfl, bl_next B1.out (bl_next b2 b3)⟩
end Go.Proofs.Ytknecohjajjloaa
