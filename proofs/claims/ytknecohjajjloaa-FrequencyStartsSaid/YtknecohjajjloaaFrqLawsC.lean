/-
  THE LAWS OF FREQUENCY, THIRD PART: FrequencyStarts. Conditions: those of each contract.
-/
import Derived.Test.YtknecohjajjloaaFrqInst
import Derived.Test.YtknecohjajjloaaFrqLawsB
namespace Go.Proofs.Ytknecohjajjloaa
open Go.RowKit
open Frq

set_option maxHeartbeats 4000000 in
theorem starts_law (v : Value) (fs : List FreqD) (trip : Int) (B : Nat) (w : World) (ha : FreqsIn B w v fs) (hB : B ≤ w.heap.size) :
    Calls Try.prog 6 #[v, .int .i64 trip] w fun e w' => e = .returned (.bool true) ∧ Bl w w' := by
  have HA := Lib.hid ha
  rcases Bool.eq_false_or_eq_true (manyB fs 1000) with hm | hm
  · go_enter Try.func6, Try.ntmps6
    go_wp2_with fail
    refine (many_c v fs 1000 true hm B w HA.out hB).mono ?_
    rintro e w1 ⟨rfl, b1⟩
    clear hm
    go_wp2_with fail
    refine (example_c _).mono ?_
    rintro e w2 ⟨rfl, b2⟩
    go_wp2
    go_ret
    exact ⟨rfl, bl_next b1 b2⟩
  have h100 : fs.length ≤ 100 := by
    unfold manyB at hm
    rw [Bool.or_eq_false_iff] at hm
    have := of_decide_eq_false hm.1
    omega
  have TAIL : ∀ (wz : World), Bl w wz → Hid (Calls Try.prog 21 #[v, .int .i64 trip] wz fun e w' => ∃ v', e = .returned v' ∧ IntsIn w'.heap.size w' v' (fold (allS fs trip)) ∧ Bl wz w') := fun wz hb => inst_c v fs trip h100 B wz (FreqsIn_bl HA.out hb hB) (by have := hb.size; omega)
  have TAILR : ∀ (wz : World), Bl w wz → Hid (Calls Try.prog 22 #[v, .int .i64 trip] wz fun e w' => ∃ v', e = .returned v' ∧ IntsIn w'.heap.size w' v' (fold (allS fs trip)) ∧ Bl wz w') := fun wz hb => rinst_c v fs trip h100 B wz (FreqsIn_bl HA.out hb hB) (by have := hb.size; omega)
  obtain ⟨r, hr⟩ : ∃ r, repB fs trip = r := ⟨_, rfl⟩
  have HRP := Lib.hid hr
  have HTI := Lib.hid TAIL
  have HTR := Lib.hid TAILR
  clear TAIL TAILR hr
  by_cases h0 : 0 < fs.length
  · obtain ⟨b1, o1, cap1, rfl, l1, m1, hb1, hc1⟩ := ha.open h0
    have H1 := Lib.hid hc1
    clear ha hc1
    go_enter Try.func6, Try.ntmps6
    go_wp2_with fail
    refine (many_c _ fs 1000 false hm B w HA.out hB).mono ?_
    rintro e w1 ⟨rfl, bm⟩
    clear hm
    go_wp2_with fail
    go_loopw [5] (fun i wr => ∃ k : Nat, k ≤ fs.length ∧ i = .int .i64 k ∧ Bl w wr) (fun i _ => fs.length - (intOf i).toNat)
    case atStart => exact ⟨0, Nat.zero_le _, rfl, bm⟩
    case round =>
      obtain ⟨k, hk, rfl, hbl⟩ := hrel
      have hzw := hbl.size
      by_cases hlt : k < fs.length
      · obtain ⟨x, hx⟩ : ∃ x, fs[k]? = some x := ⟨_, List.getElem?_eq_getElem hlt⟩
        have c1 : ∀ j u, (freqCells x)[j]? = some u → wr.cell? ⟨b1, o1 + k * 4 + j, none⟩ = some u := fun j u hu => by rw [(bl_cell hbl).1 _ _ (by omega)]; exact H1.out k x hx j u hu
        have d10 : wr.cell? ⟨b1, o1 + k * 4, none⟩ = some (.int .i64 x.trip) := c1 0 _ rfl
        have d11 := c1 1 _ rfl
        have d12 := c1 2 _ rfl
        have d13 := c1 3 _ rfl
        have hkI : (k : Int) < (fs.length : Int) := by omega
        have hb1w : b1 < wr.heap.size := by omega
        have hold : ∀ w' : World, Bl wr w' → w'.cell? ⟨b1, o1 + k * 4, none⟩ = some (.int .i64 x.trip) ∧ w'.cell? ⟨b1, o1 + k * 4 + 1, none⟩ = some (.int .i64 x.frm) ∧ w'.cell? ⟨b1, o1 + k * 4 + 2, none⟩ = some (.int .i64 x.to) ∧ w'.cell? ⟨b1, o1 + k * 4 + 3, none⟩ = some (.int .i64 x.every) := fun w' hb => ⟨((bl_cell hb).1 _ _ hb1w).trans d10, ((bl_cell hb).1 _ _ hb1w).trans d11, ((bl_cell hb).1 _ _ hb1w).trans d12, ((bl_cell hb).1 _ _ hb1w).trans d13⟩
        clear hx c1
        go_wp2_with fail
        go_region_held3 (fun w' => w'.cell? ⟨b1, o1 + k * 4, none⟩ = some (.int .i64 x.trip) ∧ w'.cell? ⟨b1, o1 + k * 4 + 1, none⟩ = some (.int .i64 x.frm) ∧ w'.cell? ⟨b1, o1 + k * 4 + 2, none⟩ = some (.int .i64 x.to) ∧ w'.cell? ⟨b1, o1 + k * 4 + 3, none⟩ = some (.int .i64 x.every)) (first | exact hold _ (bl_drew (bl_refl _)) | exact hold _ (bl_next (bl_drew (bl_refl _)) b3) | exact hold _ (bl_next (bl_next (bl_drew (bl_refl _)) b3) b4) | exact hold _ (bl_next (bl_next (bl_next (bl_drew (bl_refl _)) b3) b4) b5)) (first | (go_at_call 17; refine (starts_c x _).mono ?_; rintro e w3 ⟨v3, rfl, i3, b3⟩) | (go_at_call 20; refine (rstarts_c x _).mono ?_; rintro e w4 ⟨v4, rfl, i4, b4⟩) | (go_at_call 19; refine (sameInts_c _ _ (starts x) _ _ (SlIn.bl i3 b4) i4 (Nat.le_refl _)).mono ?_; rintro e w5 ⟨rfl, b5⟩))
        all_goals
          have BZ := Lib.hid (bl_next hbl (bl_next (bl_next (bl_next (bl_drew (bl_refl _)) b3) b4) b5))
          go_wp2
          go_roundw
          case rel => exact ⟨k + 1, by omega, by go_num, BZ.out⟩
          case measure => simp [intOf]; omega
      · go_wp2_with fail
        refine (HTI.out wr hbl).out.mono ?_
        rintro e w2 ⟨v2, rfl, i2, b2⟩
        go_wp2_with fail
        refine (HTR.out w2 (bl_next hbl b2)).out.mono ?_
        rintro e w3 ⟨v3, rfl, i3, b3⟩
        go_wp2_with fail
        refine (sameInts_c _ _ _ _ _ (SlIn.bl i2 b3) i3 (Nat.le_refl _)).mono ?_
        rintro e w4 ⟨rfl, b4⟩
        have B4 := Lib.hid (bl_next hbl (bl_next b2 (bl_next b3 b4)))
        clear i2 i3 b2 b3 b4
        go_wp2_with fail
        refine (rep_b _ fs trip r HRP B _ (FreqsIn_bl HA.out B4.out hB) (by have := B4.out.size; omega)).mono ?_
        rintro e w5 ⟨rfl, b5⟩
        have B5 := Lib.hid (bl_next B4.out b5)
        go_wp2_with fail
        refine (rrep_b _ fs trip r HRP B _ (FreqsIn_bl HA.out B5.out hB) (by have := B5.out.size; omega)).mono ?_
        rintro e w6 ⟨rfl, b6⟩
        go_wp2_with fail
        refine (example_c _).mono ?_
        rintro e w7 ⟨rfl, b7⟩
        go_wp2
        go_ret
        exact ⟨rfl, bl_next B5.out (bl_next b6 b7)⟩
  · obtain ⟨a1, c1, rfl, m1, rfl⟩ := ha.empty (by omega)
    go_enter Try.func6, Try.ntmps6
    go_wp2_with fail
    refine (many_c _ [] 1000 false hm B w HA.out hB).mono ?_
    rintro e w1 ⟨rfl, bm⟩
    clear hm
    go_wp2_with fail
    refine wp_loop_rounds 1 ?_
    rw [rounds_succ]
    go_wp2_with fail
    refine (HTI.out w1 bm).out.mono ?_
    rintro e w2 ⟨v2, rfl, i2, b2⟩
    go_wp2_with fail
    refine (HTR.out w2 (bl_next bm b2)).out.mono ?_
    rintro e w3 ⟨v3, rfl, i3, b3⟩
    go_wp2_with fail
    refine (sameInts_c _ _ _ _ _ (SlIn.bl i2 b3) i3 (Nat.le_refl _)).mono ?_
    rintro e w4 ⟨rfl, b4⟩
    have B4 := Lib.hid (bl_next bm (bl_next b2 (bl_next b3 b4)))
    clear i2 i3 b2 b3 b4
    go_wp2_with fail
    refine (rep_b _ [] trip r HRP B _ (FreqsIn_bl HA.out B4.out hB) (by have := B4.out.size; omega)).mono ?_
    rintro e w5 ⟨rfl, b5⟩
    have B5 := Lib.hid (bl_next B4.out b5)
    go_wp2_with fail
    refine (rrep_b _ [] trip r HRP B _ (FreqsIn_bl HA.out B5.out hB) (by have := B5.out.size; omega)).mono ?_
    rintro e w6 ⟨rfl, b6⟩
    go_wp2_with fail
    refine (example_c _).mono ?_
    rintro e w7 ⟨rfl, b7⟩
    go_wp2
    go_ret
    exact ⟨rfl, bl_next B5.out (bl_next b6 b7)⟩
end Go.Proofs.Ytknecohjajjloaa
