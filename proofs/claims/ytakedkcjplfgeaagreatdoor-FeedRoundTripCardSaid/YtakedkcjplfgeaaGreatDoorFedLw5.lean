/-
  THE LAWS OF FEED, FIFTH PART: FeedRoundTrip. Conditions: those of each contract.
-/
import Derived.Test.YtakedkcjplfgeaaGreatDoorExtra
import Derived.Test.YtakedkcjplfgeaaGreatDoorFedLw3
import Derived.Test.YtakedkcjplfgeaaGreatDoorPkEx2
import Derived.Test.YtakedkcjplfgeaaGreatDoorFedEqC
import Derived.Test.YtakedkcjplfgeaaGreatDoorFedFew
import Derived.Test.YtakedkcjplfgeaaGreatDoorExtra5
namespace Go.Proofs.YtakedkcjplfgeaaGreatDoor
open Go.RowKit
open Frq Thr Tt Num Clk Dat Fld

theorem format_len {t : TtD} {s : List UInt8} {e : Int} (h : formatF t = (s, e)) : s.length ≤ 65536 := by
  unfold formatF at h
  split at h
  · rw [Prod.mk.injEq] at h
    rw [← h.1]
    decide
  · unfold textS at h
    split at h
    · rw [Prod.mk.injEq] at h
      rw [← h.1]
      decide
    · split at h
      · rw [Prod.mk.injEq] at h
        rw [← h.1]
        decide
      · rw [Prod.mk.injEq] at h
        rw [← h.1]
        omega
set_option maxRecDepth 100000 in
set_option maxHeartbeats 16000000 in
theorem feedRoundTrip_c (V : TtV) (ts : List TripD) (t : TtD) (m : Int) (w : World) (rd : TtRd w.heap.size w V ts t) (ok : TtOk t) (env : Env m w) :
    Calls Tryz.prog 5 #[ttV V t] w fun q w' => q = .returned (.bool true) ∧ Bl w w' := by
  have RA := Lib.hid rd
  have OK := Lib.hid ok
  have HE := Lib.hid env
  obtain ⟨v0, v1, v2, v3, v4, v5, v6, v7, v8, v9⟩ := V
  obtain ⟨a0, k0, (rfl : v0 = _), -, -⟩ := rd.stops.val
  obtain ⟨a1, k1, (rfl : v1 = _), -, -⟩ := rd.routes.val
  obtain ⟨a2, k2, (rfl : v2 = _), -, -⟩ := rd.cals.val
  obtain ⟨a3, k3, (rfl : v3 = _), -, -⟩ := rd.excs.val
  obtain ⟨a4, k4, (rfl : v4 = _), -, -⟩ := rd.trips.sl.val
  obtain ⟨a5, k5, (rfl : v5 = _), -, -⟩ := rd.freqs.val
  obtain ⟨a6, k6, (rfl : v6 = _), -, -⟩ := rd.thrus.val
  obtain ⟨a7, k7, (rfl : v7 = _), -, -⟩ := rd.guars.val
  obtain ⟨a8, k8, (rfl : v8 = _), -, -⟩ := rd.paths.val
  obtain ⟨a9, k9, (rfl : v9 = _), -, -⟩ := rd.prods.val
  clear rd ok env
  unfold ttV
  simp only [List.length_map] at RA ⊢
  obtain ⟨w2, hw2⟩ : ∃ w2, w.alloc (.cells #[.slice a0 t.stops.length k0, .slice a1 t.routes.length k1, .slice a2 t.cals.length k2, .slice a3 t.excs.length k3, .slice a4 ts.length k4, .slice a5 t.freqs.length k5, .slice a6 t.thrus.length k6, .slice a7 t.guars.length k7, .slice a8 t.paths.length k8, .slice a9 t.fares.prods.length k9, .int .i64 t.fares.disc, .int .i64 t.fares.within, .int .i64 t.fares.cap] 36) = w2 := ⟨_, rfl⟩
  have HA := Lib.hid (show w2.heap[w.heap.size]? = some (.cells #[.slice a0 t.stops.length k0, .slice a1 t.routes.length k1, .slice a2 t.cals.length k2, .slice a3 t.excs.length k3, .slice a4 ts.length k4, .slice a5 t.freqs.length k5, .slice a6 t.thrus.length k6, .slice a7 t.guars.length k7, .slice a8 t.paths.length k8, .slice a9 t.fares.prods.length k9, .int .i64 t.fares.disc, .int .i64 t.fares.within, .int .i64 t.fares.cap] 36 (0, 0)) by rw [← hw2]; exact heap_alloc_new w _)
  have B2 := Lib.hid (show Bl w w2 by rw [← hw2]; exact bl_alloc (bl_refl _) _)
  have HW := Lib.hid hw2
  have hfew := few_c ⟨.slice a0 t.stops.length k0, .slice a1 t.routes.length k1, .slice a2 t.cals.length k2, .slice a3 t.excs.length k3, .slice a4 ts.length k4, .slice a5 t.freqs.length k5, .slice a6 t.thrus.length k6, .slice a7 t.guars.length k7, .slice a8 t.paths.length k8, .slice a9 t.fares.prods.length k9⟩ ts t w.heap.size w2 (RA.out.bl B2.out (Nat.le_refl _)) B2.out.size
  unfold ttV at hfew
  simp only at hfew
  clear hw2
  obtain ⟨p0, p1, p2, p3, p4, p5, p6, p7, p8, p9, p10, p11, p12⟩ := tt_cells HA.out
  go_enter Tryz.func5, Tryz.ntmps5
  go_wp2_with fail
  rw [HW.out]
  go_wp2_with (go_at_call 13; refine hfew.mono ?_)
  first | rintro y3 w3 ⟨bf, rfl⟩ b3 | rintro y3 w3 ⟨⟨bf, rfl⟩, b3⟩
  have HA3 := Lib.hid (blk_bl HA.out b3)
  have B3 := Lib.hid (bl_next B2.out b3)
  clear hfew b3 p0 p1 p2 p3 p4 p5 p6 p7 p8 p9 p10 p11 p12 HA HW B2
  cases bf
  · have hx := exHolds_c m w3 (HE.out.bl B3.out)
    go_wp2_with (go_at_call 9; refine hx.mono ?_)
    first | rintro y6 w6 rfl b6 | rintro y6 w6 ⟨rfl, b6⟩
    go_wp2
    go_ret
    exact ⟨rfl, bl_next B3.out b6⟩
  obtain ⟨⟨s, e⟩, hf⟩ : ∃ p, formatF t = p := ⟨_, rfl⟩
  have HF := Lib.hid hf
  have hfmt := fformat_c ⟨.slice a0 t.stops.length k0, .slice a1 t.routes.length k1, .slice a2 t.cals.length k2, .slice a3 t.excs.length k3, .slice a4 ts.length k4, .slice a5 t.freqs.length k5, .slice a6 t.thrus.length k6, .slice a7 t.guars.length k7, .slice a8 t.paths.length k8, .slice a9 t.fares.prods.length k9⟩ ts t s e HF OK w.heap.size w3 (RA.out.bl B3.out (Nat.le_refl _)) B3.out.size (HE.out.bl B3.out).nm
  unfold ttV at hfmt
  simp only at hfmt
  obtain ⟨p0, p1, p2, p3, p4, p5, p6, p7, p8, p9, p10, p11, p12⟩ := tt_cells HA3.out
  clear hf
  go_wp2_with (go_at_call 14; refine hfmt.mono ?_)
  first | rintro y4 w4 rfl b4 | rintro y4 w4 ⟨rfl, b4⟩
  have HA4 := Lib.hid (blk_bl HA3.out b4)
  have B4 := Lib.hid (bl_next B3.out b4)
  clear hfmt b4 p0 p1 p2 p3 p4 p5 p6 p7 p8 p9 p10 p11 p12 HA3 B3
  by_cases he : e = 0
  rotate_left
  · obtain rfl := format_error HF.out he
    have f1 : (e != 0) = true := by rw [bne_iff_ne]; exact he
    have hx := exHolds_c m w4 (HE.out.bl B4.out)
    clear he HF
    rw [show str [] = .string ⟨#[]⟩ from rfl]
    go_wp2_with (go_at_call 9; refine hx.mono ?_)
    first | rintro y6 w6 rfl b6 | rintro y6 w6 ⟨rfl, b6⟩
    go_wp2
    go_ret
    exact ⟨rfl, bl_next B4.out b6⟩
  subst he
  have hsl := format_len HF.out
  obtain ⟨n0, hn0⟩ : ∃ n : Int, 0 = n := ⟨0, rfl⟩
  obtain ⟨e0, he0⟩ : ∃ n : Int, 0 = n := ⟨0, rfl⟩
  have hpc := fparse_o ⟨s.toArray⟩ (by show s.toArray.size ≤ _; rw [List.size_toArray]; omega) m t n0 e0 (Lib.hid (by rw [← hn0, ← he0]; exact round_trip HF.out)) w4 (HE.out.bl B4.out)
  have f1 : (n0 == 0) = true := by rw [← hn0]; rfl
  have f2 : (e0 == 0) = true := by rw [← he0]; rfl
  clear hsl HF hn0 he0
  go_wp2_with (go_at_call 10; refine hpc.mono ?_)
  rintro y5 w5 ⟨us, d0, d1, d2, d3, d4, d5, d6, d7, d8, d9, dk0, dk1, dk2, dk3, dk4, dk5, dk6, dk7, dk8, dk9, rfl, RD5, -, B5⟩
  obtain ⟨w6, hw6⟩ : ∃ w6, w5.alloc (.cells #[.slice d0 t.stops.length dk0, .slice d1 t.routes.length dk1, .slice d2 t.cals.length dk2, .slice d3 t.excs.length dk3, .slice d4 us.length dk4, .slice d5 t.freqs.length dk5, .slice d6 t.thrus.length dk6, .slice d7 t.guars.length dk7, .slice d8 t.paths.length dk8, .slice d9 t.fares.prods.length dk9, .int .i64 t.fares.disc, .int .i64 t.fares.within, .int .i64 t.fares.cap] 36) = w6 := ⟨_, rfl⟩
  have b6 : Bl w5 w6 := by rw [← hw6]; exact bl_alloc (bl_refl _) _
  have A6 := Lib.hid (show w6.heap[w5.heap.size]? = some (.cells #[.slice d0 t.stops.length dk0, .slice d1 t.routes.length dk1, .slice d2 t.cals.length dk2, .slice d3 t.excs.length dk3, .slice d4 us.length dk4, .slice d5 t.freqs.length dk5, .slice d6 t.thrus.length dk6, .slice d7 t.guars.length dk7, .slice d8 t.paths.length dk8, .slice d9 t.fares.prods.length dk9, .int .i64 t.fares.disc, .int .i64 t.fares.within, .int .i64 t.fares.cap] 36 (0, 0)) by rw [← hw6]; exact heap_alloc_new w5 _)
  have HW6 := Lib.hid hw6
  have HA6 := Lib.hid (blk_bl HA4.out (bl_next B5.out b6))
  have B6 := Lib.hid (bl_next B4.out (bl_next B5.out b6))
  have heq := equal_c ⟨.slice a0 t.stops.length k0, .slice a1 t.routes.length k1, .slice a2 t.cals.length k2, .slice a3 t.excs.length k3, .slice a4 ts.length k4, .slice a5 t.freqs.length k5, .slice a6 t.thrus.length k6, .slice a7 t.guars.length k7, .slice a8 t.paths.length k8, .slice a9 t.fares.prods.length k9⟩ ⟨.slice d0 t.stops.length dk0, .slice d1 t.routes.length dk1, .slice d2 t.cals.length dk2, .slice d3 t.excs.length dk3, .slice d4 us.length dk4, .slice d5 t.freqs.length dk5, .slice d6 t.thrus.length dk6, .slice d7 t.guars.length dk7, .slice d8 t.paths.length dk8, .slice d9 t.fares.prods.length dk9⟩ ts us t w6.heap.size w6 ((RA.out.bl B6.out (Nat.le_refl _)).up B6.out.size) ((RD5.out.bl b6 (Nat.le_refl _)).up b6.size) (Nat.le_refl _)
  unfold ttV at heq
  simp only at heq
  clear b6 hpc RD5 B5 HA4 B4 HW6
  obtain ⟨p0, p1, p2, p3, p4, p5, p6, p7, p8, p9, p10, p11, p12⟩ := tt_cells HA6.out
  obtain ⟨q0, q1, q2, q3, q4, q5, q6, q7, q8, q9, q10, q11, q12⟩ := tt_cells A6.out
  go_wp2_with (go_at_call 12; refine heq.mono ?_)
  clear hw6
  first | rintro y7 w7 rfl b7 | rintro y7 w7 ⟨rfl, b7⟩
  have B7 := Lib.hid (bl_next B6.out b7)
  have hx := exHolds_c m w7 (HE.out.bl B7.out)
  clear heq b7 p0 p1 p2 p3 p4 p5 p6 p7 p8 p9 p10 p11 p12 q0 q1 q2 q3 q4 q5 q6 q7 q8 q9 q10 q11 q12
  go_wp2_with (go_at_call 9; refine hx.mono ?_)
  first | rintro y8 w8 rfl b8 | rintro y8 w8 ⟨rfl, b8⟩
  go_wp2
  go_ret
  exact ⟨rfl, bl_next B7.out b8⟩
end Go.Proofs.YtakedkcjplfgeaaGreatDoor
