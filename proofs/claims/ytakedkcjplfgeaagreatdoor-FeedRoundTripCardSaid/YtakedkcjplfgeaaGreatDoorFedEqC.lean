/-
  EQUAL TIMETABLES: trips and Equal of the reference 22, at timetables that read the same. Conditions: those of each contract.
-/
import Derived.Test.YtakedkcjplfgeaaGreatDoorExtra
import Derived.Test.YtakedkcjplfgeaaGreatDoorFedEqA
import Derived.Test.YtakedkcjplfgeaaGreatDoorFedEqB
import Derived.Deep.QuietTactic
import Derived.BigQuiet
namespace Go.Proofs.YtakedkcjplfgeaaGreatDoor
open Go.RowKit
open Frq Thr Tt

set_option maxRecDepth 100000 in
set_option maxHeartbeats 16000000 in
theorem eqtrips_c (v v' : Value) (tsa tsb : List TripD) (hs : tsa.map xOf = tsb.map xOf) (B : Nat) (w : World) (ra : TripsRd B w v tsa) (rb : TripsRd B w v' tsb) (hB : B ≤ w.heap.size) :
    Calls Tryz.prog 28 #[v, v'] w fun q w' => q = .returned (.bool true) ∧ Bl w w' := by
  have RA := Lib.hid ra
  have RB := Lib.hid rb
  have HS := Lib.hid hs
  obtain ⟨a, ka, (rfl : v = _), la, ma⟩ := ra.sl.val
  obtain ⟨b, kb, (rfl : v' = _), lb, mb⟩ := rb.sl.val
  have hl : tsb.length = tsa.length := by have := congrArg List.length hs; simpa using this.symm
  rw [hl] at RB lb ⊢
  have HL := Lib.hid hl
  clear ra rb hs hl
  go_enter Tryz.func28, Tryz.ntmps28
  go_wp2_with fail
  go_loopw [5] (fun i wr => ∃ k : Nat, (k ≤ tsa.length ∧ i = .int .i64 k) ∧ Hid (Bl w wr)) (fun i _ => tsa.length - (intOf i).toNat)
  case atStart => exact ⟨0, ⟨Nat.zero_le _, rfl⟩, bl_refl _⟩
  case round =>
    obtain ⟨k, ⟨hk, rfl⟩, HBL⟩ := hrel
    by_cases hlx : k < tsa.length
    · obtain ⟨x, hx⟩ : ∃ x, tsa[k]? = some x := ⟨_, List.getElem?_eq_getElem hlx⟩
      obtain ⟨y, hy⟩ : ∃ y, tsb[k]? = some y := ⟨_, List.getElem?_eq_getElem (by rw [HL.out]; exact hlx)⟩
      have hxy : xOf x = xOf y := by
        have h1 := congrArg (·[k]?) HS.out
        simp only [List.getElem?_map, hx, hy, Option.map_some, Option.some.injEq] at h1
        exact h1
      have h1 : y.id = x.id := by
        have h2 := congrArg TripX.id hxy
        have h3 : x.id.data.toList = y.id.data.toList := h2
        apply ByteArray.ext
        rw [← Array.toList_inj]
        exact h3.symm
      obtain ⟨il, hil⟩ : ∃ il : List UInt8, Value.string x.id = str il := ⟨x.id.data.toList, rfl⟩
      have hil2 : Value.string y.id = str il := by rw [h1]; exact hil
      have h2 : y.rt = x.rt := (congrArg TripX.route hxy).symm
      have h3 : y.cal = x.cal := (congrArg TripX.cal hxy).symm
      have h4 : y.step = x.step := (congrArg TripX.free hxy).symm
      have h5 : y.calls = x.calls := (congrArg TripX.calls hxy).symm
      have cax := (RA.out.ok x (List.mem_of_getElem? hx)).calls
      have cay := (RB.out.ok y (List.mem_of_getElem? hy)).calls
      rw [h5] at cay
      obtain ⟨ax, cx, hvx, lx, mx⟩ := cax.val
      obtain ⟨ay, cy, hvy, -, -⟩ := cay.val
      rw [hvx] at cax
      rw [hvy] at cay
      obtain ⟨ba, oa, rfl, lba, xa⟩ := (RA.out.sl.out HBL.out hB).getB hx
      obtain ⟨bb, ob, rfl, lbb, xb⟩ := (RB.out.sl.out HBL.out hB).getB hy
      have da0 : wr.cell? ⟨ba, oa + k * 5, none⟩ = some (str il) := by rw [← hil]; exact xa 0 _ rfl
      have da1 : wr.cell? ⟨ba, oa + k * 5 + 1, none⟩ = some (.int .i64 x.rt) := xa 1 _ rfl
      have da2 : wr.cell? ⟨ba, oa + k * 5 + 2, none⟩ = some (.int .i64 x.cal) := xa 2 _ rfl
      have da3 : wr.cell? ⟨ba, oa + k * 5 + 3, none⟩ = some (.bool x.step) := xa 3 _ rfl
      have da4 : wr.cell? ⟨ba, oa + k * 5 + 4, none⟩ = some (.slice ax x.calls.length cx) := by rw [← hvx]; exact xa 4 _ rfl
      have db0 : wr.cell? ⟨bb, ob + k * 5, none⟩ = some (str il) := by rw [← hil2]; exact xb 0 _ rfl
      have db1 : wr.cell? ⟨bb, ob + k * 5 + 1, none⟩ = some (.int .i64 x.rt) := by rw [← h2]; exact xb 1 _ rfl
      have db2 : wr.cell? ⟨bb, ob + k * 5 + 2, none⟩ = some (.int .i64 x.cal) := by rw [← h3]; exact xb 2 _ rfl
      have db3 : wr.cell? ⟨bb, ob + k * 5 + 3, none⟩ = some (.bool x.step) := by rw [← h4]; exact xb 3 _ rfl
      have db4 : wr.cell? ⟨bb, ob + k * 5 + 4, none⟩ = some (.slice ay x.calls.length cy) := by rw [← hvy]; exact xb 4 _ rfl
      have hkI : (k : Int) < (tsa.length : Int) := by omega
      have HCX := Lib.hid cax
      have HCY := Lib.hid cay
      have hBr : B ≤ wr.heap.size := Nat.le_trans hB HBL.out.size
      have F4 := Lib.hid (show ∀ W, Bl wr W → W.cell? ⟨ba, oa + k * 5 + 4, none⟩ = some (.slice ax x.calls.length cx) ∧ W.cell? ⟨bb, ob + k * 5 + 4, none⟩ = some (.slice ay x.calls.length cy) from fun W h => ⟨((bl_cell h).1 _ _ (by omega)).trans da4, ((bl_cell h).1 _ _ (by omega)).trans db4⟩)
      clear hil hil2 xa xb hx hy hxy h1 h2 h3 h4 h5 cax cay hvx hvy
      go_wp2_with fail
      go_quiet (fail)
      clear da0 da1 da2 da3 da4 db0 db1 db2 db3 db4
      rename World => wo
      go_wp2_with fail
      go_loopw [6] (fun i wr => ∃ q : Nat, (q ≤ x.calls.length ∧ i = .int .i64 q) ∧ Hid (Bl wo wr)) (fun i _ => x.calls.length - (intOf i).toNat)
      case atStart => exact ⟨0, ⟨Nat.zero_le _, rfl⟩, bl_drewN (bl_refl _) _⟩
      case round =>
        obtain ⟨q, ⟨hq, rfl⟩, HB2⟩ := hrel
        obtain ⟨da4, db4⟩ := F4.out _ HB2.out
        by_cases hlq : q < x.calls.length
        · obtain ⟨c, hc⟩ : ∃ c, x.calls[q]? = some c := ⟨_, List.getElem?_eq_getElem hlq⟩
          have hb2 := bl_next HBL.out HB2.out
          obtain ⟨bc, oc, rfl, lbc, xc⟩ := (HCX.out.out hb2 hB).getB hc
          obtain ⟨bd, od, rfl, lbd, xd⟩ := (HCY.out.out hb2 hB).getB hc
          clear hb2
          have dc0 : wr.cell? ⟨bc, oc + q * 5, none⟩ = some (.int .i64 c.stop) := xc 0 _ rfl
          have dd0 : wr.cell? ⟨bd, od + q * 5, none⟩ = some (.int .i64 c.stop) := xd 0 _ rfl
          have dc1 : wr.cell? ⟨bc, oc + q * 5 + 1, none⟩ = some (.int .i64 c.arrive) := xc 1 _ rfl
          have dd1 : wr.cell? ⟨bd, od + q * 5 + 1, none⟩ = some (.int .i64 c.arrive) := xd 1 _ rfl
          have dc2 : wr.cell? ⟨bc, oc + q * 5 + 2, none⟩ = some (.int .i64 c.depart) := xc 2 _ rfl
          have dd2 : wr.cell? ⟨bd, od + q * 5 + 2, none⟩ = some (.int .i64 c.depart) := xd 2 _ rfl
          have dc3 : wr.cell? ⟨bc, oc + q * 5 + 3, none⟩ = some (.bool c.board) := xc 3 _ rfl
          have dd3 : wr.cell? ⟨bd, od + q * 5 + 3, none⟩ = some (.bool c.board) := xd 3 _ rfl
          have dc4 : wr.cell? ⟨bc, oc + q * 5 + 4, none⟩ = some (.bool c.alight) := xc 4 _ rfl
          have dd4 : wr.cell? ⟨bd, od + q * 5 + 4, none⟩ = some (.bool c.alight) := xd 4 _ rfl
          have hqI : (q : Int) < (x.calls.length : Int) := by omega
          clear xc xd hc
          go_wp2_with fail
          go_region
          have HB9 := Lib.hid (bl_drew HB2.out)
          clear HB2
          go_wp2
          go_roundw
          case rel => exact ⟨q + 1, ⟨by omega, by go_num⟩, HB9⟩
          case measure => simp [intOf]; omega
        · have HB9 := Lib.hid (bl_next HBL.out HB2.out)
          go_wp2
          go_roundw
          case rel => exact ⟨k + 1, ⟨by omega, by go_num⟩, HB9⟩
          case measure => simp [intOf]; omega
    · go_wp2
      go_ret
      exact ⟨rfl, HBL.out⟩
/-- A timetable's block, its cells one by one. -/
theorem tt_cells {w : World} {b : Nat} {v0 v1 v2 v3 v4 v5 v6 v7 v8 v9 v10 v11 v12 : Value} {e : TypeId} (h : w.heap[b]? = some (.cells #[v0, v1, v2, v3, v4, v5, v6, v7, v8, v9, v10, v11, v12] e (0, 0))) :
    w.cell? ⟨b, 0, none⟩ = some v0 ∧ w.cell? ⟨b, 1, none⟩ = some v1 ∧ w.cell? ⟨b, 2, none⟩ = some v2 ∧ w.cell? ⟨b, 3, none⟩ = some v3 ∧ w.cell? ⟨b, 4, none⟩ = some v4 ∧ w.cell? ⟨b, 5, none⟩ = some v5 ∧ w.cell? ⟨b, 6, none⟩ = some v6 ∧ w.cell? ⟨b, 7, none⟩ = some v7 ∧ w.cell? ⟨b, 8, none⟩ = some v8 ∧ w.cell? ⟨b, 9, none⟩ = some v9 ∧ w.cell? ⟨b, 10, none⟩ = some v10 ∧ w.cell? ⟨b, 11, none⟩ = some v11 ∧ w.cell? ⟨b, 12, none⟩ = some v12 :=
  ⟨blk_cell h 0 _ rfl, blk_cell h 1 _ rfl, blk_cell h 2 _ rfl, blk_cell h 3 _ rfl, blk_cell h 4 _ rfl, blk_cell h 5 _ rfl, blk_cell h 6 _ rfl, blk_cell h 7 _ rfl, blk_cell h 8 _ rfl, blk_cell h 9 _ rfl, blk_cell h 10 _ rfl, blk_cell h 11 _ rfl, blk_cell h 12 _ rfl⟩
set_option maxRecDepth 100000 in
set_option maxHeartbeats 16000000 in
theorem equal_c (V W : TtV) (tsa tsb : List TripD) (t : TtD) (B : Nat) (w : World) (ra : TtRd B w V tsa t) (rb : TtRd B w W tsb t) (hB : B ≤ w.heap.size) :
    Calls Tryz.prog 12 #[ttV V t, ttV W t] w fun q w' => q = .returned (.bool true) ∧ Bl w w' := by
  have RA := Lib.hid ra
  have RB := Lib.hid rb
  obtain ⟨v0, v1, v2, v3, v4, v5, v6, v7, v8, v9⟩ := V
  obtain ⟨u0, u1, u2, u3, u4, u5, u6, u7, u8, u9⟩ := W
  obtain ⟨a0, ka0, (rfl : v0 = _), -, -⟩ := ra.stops.val
  obtain ⟨a1, ka1, (rfl : v1 = _), -, -⟩ := ra.routes.val
  obtain ⟨a2, ka2, (rfl : v2 = _), -, -⟩ := ra.cals.val
  obtain ⟨a3, ka3, (rfl : v3 = _), -, -⟩ := ra.excs.val
  obtain ⟨a4, ka4, (rfl : v4 = _), -, -⟩ := ra.trips.sl.val
  obtain ⟨a5, ka5, (rfl : v5 = _), -, -⟩ := ra.freqs.val
  obtain ⟨a6, ka6, (rfl : v6 = _), -, -⟩ := ra.thrus.val
  obtain ⟨a7, ka7, (rfl : v7 = _), -, -⟩ := ra.guars.val
  obtain ⟨a8, ka8, (rfl : v8 = _), -, -⟩ := ra.paths.val
  obtain ⟨a9, ka9, (rfl : v9 = _), -, -⟩ := ra.prods.val
  obtain ⟨b0, kb0, (rfl : u0 = _), -, -⟩ := rb.stops.val
  obtain ⟨b1, kb1, (rfl : u1 = _), -, -⟩ := rb.routes.val
  obtain ⟨b2, kb2, (rfl : u2 = _), -, -⟩ := rb.cals.val
  obtain ⟨b3, kb3, (rfl : u3 = _), -, -⟩ := rb.excs.val
  obtain ⟨b4, kb4, (rfl : u4 = _), -, -⟩ := rb.trips.sl.val
  obtain ⟨b5, kb5, (rfl : u5 = _), -, -⟩ := rb.freqs.val
  obtain ⟨b6, kb6, (rfl : u6 = _), -, -⟩ := rb.thrus.val
  obtain ⟨b7, kb7, (rfl : u7 = _), -, -⟩ := rb.guars.val
  obtain ⟨b8, kb8, (rfl : u8 = _), -, -⟩ := rb.paths.val
  obtain ⟨b9, kb9, (rfl : u9 = _), -, -⟩ := rb.prods.val
  clear ra rb
  unfold ttV
  simp only [List.length_map] at RA RB ⊢
  obtain ⟨w2, hw2⟩ : ∃ w2, (w.alloc (.cells #[.slice a0 t.stops.length ka0, .slice a1 t.routes.length ka1, .slice a2 t.cals.length ka2, .slice a3 t.excs.length ka3, .slice a4 tsa.length ka4, .slice a5 t.freqs.length ka5, .slice a6 t.thrus.length ka6, .slice a7 t.guars.length ka7, .slice a8 t.paths.length ka8, .slice a9 t.fares.prods.length ka9, .int .i64 t.fares.disc, .int .i64 t.fares.within, .int .i64 t.fares.cap] 36)).alloc (.cells #[.slice b0 t.stops.length kb0, .slice b1 t.routes.length kb1, .slice b2 t.cals.length kb2, .slice b3 t.excs.length kb3, .slice b4 tsb.length kb4, .slice b5 t.freqs.length kb5, .slice b6 t.thrus.length kb6, .slice b7 t.guars.length kb7, .slice b8 t.paths.length kb8, .slice b9 t.fares.prods.length kb9, .int .i64 t.fares.disc, .int .i64 t.fares.within, .int .i64 t.fares.cap] 36) = w2 := ⟨_, rfl⟩
  have hb2 : Bl w w2 := by rw [← hw2]; exact bl_alloc (bl_alloc (bl_refl _) _) _
  have HA := Lib.hid (show w2.heap[w.heap.size]? = some (.cells #[.slice a0 t.stops.length ka0, .slice a1 t.routes.length ka1, .slice a2 t.cals.length ka2, .slice a3 t.excs.length ka3, .slice a4 tsa.length ka4, .slice a5 t.freqs.length ka5, .slice a6 t.thrus.length ka6, .slice a7 t.guars.length ka7, .slice a8 t.paths.length ka8, .slice a9 t.fares.prods.length ka9, .int .i64 t.fares.disc, .int .i64 t.fares.within, .int .i64 t.fares.cap] 36 (0, 0)) by
    rw [← hw2]
    exact blk_bl (heap_alloc_new w _) (bl_alloc (bl_refl _) _))
  have HB := Lib.hid (show w2.heap[w.heap.size + 1]? = some (.cells #[.slice b0 t.stops.length kb0, .slice b1 t.routes.length kb1, .slice b2 t.cals.length kb2, .slice b3 t.excs.length kb3, .slice b4 tsb.length kb4, .slice b5 t.freqs.length kb5, .slice b6 t.thrus.length kb6, .slice b7 t.guars.length kb7, .slice b8 t.paths.length kb8, .slice b9 t.fares.prods.length kb9, .int .i64 t.fares.disc, .int .i64 t.fares.within, .int .i64 t.fares.cap] 36 (0, 0)) by
    rw [← hw2]
    have := heap_alloc_new (w.alloc (.cells #[.slice a0 t.stops.length ka0, .slice a1 t.routes.length ka1, .slice a2 t.cals.length ka2, .slice a3 t.excs.length ka3, .slice a4 tsa.length ka4, .slice a5 t.freqs.length ka5, .slice a6 t.thrus.length ka6, .slice a7 t.guars.length ka7, .slice a8 t.paths.length ka8, .slice a9 t.fares.prods.length ka9, .int .i64 t.fares.disc, .int .i64 t.fares.within, .int .i64 t.fares.cap] 36)) (.cells #[.slice b0 t.stops.length kb0, .slice b1 t.routes.length kb1, .slice b2 t.cals.length kb2, .slice b3 t.excs.length kb3, .slice b4 tsb.length kb4, .slice b5 t.freqs.length kb5, .slice b6 t.thrus.length kb6, .slice b7 t.guars.length kb7, .slice b8 t.paths.length kb8, .slice b9 t.fares.prods.length kb9, .int .i64 t.fares.disc, .int .i64 t.fares.within, .int .i64 t.fares.cap] 36)
    simpa using this)
  have B2 := Lib.hid hb2
  have HW := Lib.hid hw2
  have HH : Hid (∀ W', Bl w2 W' → TtRd B W' ⟨.slice a0 t.stops.length ka0, .slice a1 t.routes.length ka1, .slice a2 t.cals.length ka2, .slice a3 t.excs.length ka3, .slice a4 tsa.length ka4, .slice a5 t.freqs.length ka5, .slice a6 t.thrus.length ka6, .slice a7 t.guars.length ka7, .slice a8 t.paths.length ka8, .slice a9 t.fares.prods.length ka9⟩ tsa t ∧ TtRd B W' ⟨.slice b0 t.stops.length kb0, .slice b1 t.routes.length kb1, .slice b2 t.cals.length kb2, .slice b3 t.excs.length kb3, .slice b4 tsb.length kb4, .slice b5 t.freqs.length kb5, .slice b6 t.thrus.length kb6, .slice b7 t.guars.length kb7, .slice b8 t.paths.length kb8, .slice b9 t.fares.prods.length kb9⟩ tsb t ∧ B ≤ W'.heap.size) := Lib.hid (fun W' h => ⟨RA.out.bl (bl_next B2.out h) hB, RB.out.bl (bl_next B2.out h) hB, Nat.le_trans hB (bl_next B2.out h).size⟩)
  obtain ⟨h1, h2, h3⟩ := HH.out _ (bl_refl _)
  have hc := heads_c _ _ tsa tsb t B w2 h1 h2 h3
  unfold ttV at hc
  clear hb2 hw2 h1 h2 h3
  obtain ⟨p0, p1, p2, p3, p4, p5, p6, p7, p8, p9, p10, p11, p12⟩ := tt_cells HA.out
  obtain ⟨q0, q1, q2, q3, q4, q5, q6, q7, q8, q9, q10, q11, q12⟩ := tt_cells HB.out
  go_enter Tryz.func12, Tryz.ntmps12
  go_wp2_with fail
  rw [HW.out]
  go_wp2_with (go_at_call 27; refine hc.mono ?_)
  rintro y3 w3 ⟨rfl, b3⟩
  clear hc p0 p1 p2 p3 p4 p5 p6 p7 p8 p9 p10 p11 p12 q0 q1 q2 q3 q4 q5 q6 q7 q8 q9 q10 q11 q12
  obtain ⟨p0, p1, p2, p3, p4, p5, p6, p7, p8, p9, p10, p11, p12⟩ := tt_cells (blk_bl HA.out b3)
  obtain ⟨q0, q1, q2, q3, q4, q5, q6, q7, q8, q9, q10, q11, q12⟩ := tt_cells (blk_bl HB.out b3)
  obtain ⟨h1, h2, h3⟩ := HH.out _ b3
  have hc := eqtrips_c _ _ tsa tsb (h1.same.symm.trans h2.same) B w3 h1.trips h2.trips h3
  have B3 := Lib.hid b3
  clear b3 h1 h2 h3
  go_wp2_with (go_at_call 28; refine hc.mono ?_)
  rintro y4 w4 ⟨rfl, b4⟩
  clear hc p0 p1 p2 p3 p4 p5 p6 p7 p8 p9 p10 p11 p12 q0 q1 q2 q3 q4 q5 q6 q7 q8 q9 q10 q11 q12
  have b4 := bl_next B3.out b4
  obtain ⟨p0, p1, p2, p3, p4, p5, p6, p7, p8, p9, p10, p11, p12⟩ := tt_cells (blk_bl HA.out b4)
  obtain ⟨q0, q1, q2, q3, q4, q5, q6, q7, q8, q9, q10, q11, q12⟩ := tt_cells (blk_bl HB.out b4)
  obtain ⟨h1, h2, h3⟩ := HH.out _ b4
  have hc := tails_c _ _ tsa tsb t B w4 h1 h2 h3
  unfold ttV at hc
  have B4 := Lib.hid b4
  clear b4 h1 h2 h3
  go_wp2_with (go_at_call 29; refine hc.mono ?_)
  rintro y5 w5 ⟨rfl, b5⟩
  clear hc p0 p1 p2 p3 p4 p5 p6 p7 p8 p9 p10 p11 p12 q0 q1 q2 q3 q4 q5 q6 q7 q8 q9 q10 q11 q12
  have b5 := bl_next B4.out b5
  obtain ⟨-, -, -, -, -, -, -, -, -, -, p10, p11, p12⟩ := tt_cells (blk_bl HA.out b5)
  obtain ⟨-, -, -, -, -, -, -, -, -, -, q10, q11, q12⟩ := tt_cells (blk_bl HB.out b5)
  have B5 := Lib.hid (bl_next B2.out b5)
  clear b5
  go_wp2
  go_ret
  exact ⟨rfl, B5.out⟩
end Go.Proofs.YtakedkcjplfgeaaGreatDoor
