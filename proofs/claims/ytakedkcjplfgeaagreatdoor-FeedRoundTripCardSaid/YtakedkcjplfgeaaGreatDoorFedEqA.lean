/-
  EQUAL TIMETABLES: heads of the reference 22, at timetables that read the same. Conditions: those of each contract.
-/
import Derived.Test.YtakedkcjplfgeaaGreatDoorExtra
import Derived.Test.YtakedkcjplfgeaaGreatDoorPkWrA
import Derived.BigRegion
namespace Go.Proofs.YtakedkcjplfgeaaGreatDoor
open Go.RowKit
open Frq Thr Tt

theorem week_eq (d0 d1 d2 d3 d4 d5 d6 : Bool) (W : World) : Sem.run Tryz.prog (Op.equalIn 9999 59 (.agg #[.bool d0, .bool d1, .bool d2, .bool d3, .bool d4, .bool d5, .bool d6]) (.agg #[.bool d0, .bool d1, .bool d2, .bool d3, .bool d4, .bool d5, .bool d6])) W = .ok true W := by
  cases d0 <;> cases d1 <;> cases d2 <;> cases d3 <;> cases d4 <;> cases d5 <;> cases d6 <;> kernel_rfl
set_option maxRecDepth 100000 in
set_option maxHeartbeats 16000000 in
theorem heads_c (V W : TtV) (tsa tsb : List TripD) (t : TtD) (B : Nat) (w : World) (ra : TtRd B w V tsa t) (rb : TtRd B w W tsb t) (hB : B ≤ w.heap.size) :
    Calls Tryz.prog 27 #[ttV V t, ttV W t] w fun q w' => q = .returned (.bool true) ∧ Bl w w' := by
  have RA := Lib.hid ra
  have RB := Lib.hid rb
  obtain ⟨v0, v1, v2, v3, v4, v5, v6, v7, v8, v9⟩ := V
  obtain ⟨a0, ka0, (rfl : v0 = _), la0, ma0⟩ := ra.stops.val
  obtain ⟨a1, ka1, (rfl : v1 = _), la1, ma1⟩ := ra.routes.val
  obtain ⟨a2, ka2, (rfl : v2 = _), la2, ma2⟩ := ra.cals.val
  obtain ⟨a3, ka3, (rfl : v3 = _), la3, ma3⟩ := ra.excs.val
  obtain ⟨a4, ka4, (rfl : v4 = _), la4, ma4⟩ := ra.trips.sl.val
  obtain ⟨a5, ka5, (rfl : v5 = _), la5, ma5⟩ := ra.freqs.val
  obtain ⟨a6, ka6, (rfl : v6 = _), la6, ma6⟩ := ra.thrus.val
  obtain ⟨a7, ka7, (rfl : v7 = _), la7, ma7⟩ := ra.guars.val
  obtain ⟨a8, ka8, (rfl : v8 = _), la8, ma8⟩ := ra.paths.val
  obtain ⟨a9, ka9, (rfl : v9 = _), la9, ma9⟩ := ra.prods.val
  obtain ⟨v0, v1, v2, v3, v4, v5, v6, v7, v8, v9⟩ := W
  obtain ⟨b0, kb0, (rfl : v0 = _), lb0, mb0⟩ := rb.stops.val
  obtain ⟨b1, kb1, (rfl : v1 = _), lb1, mb1⟩ := rb.routes.val
  obtain ⟨b2, kb2, (rfl : v2 = _), lb2, mb2⟩ := rb.cals.val
  obtain ⟨b3, kb3, (rfl : v3 = _), lb3, mb3⟩ := rb.excs.val
  obtain ⟨b4, kb4, (rfl : v4 = _), lb4, mb4⟩ := rb.trips.sl.val
  obtain ⟨b5, kb5, (rfl : v5 = _), lb5, mb5⟩ := rb.freqs.val
  obtain ⟨b6, kb6, (rfl : v6 = _), lb6, mb6⟩ := rb.thrus.val
  obtain ⟨b7, kb7, (rfl : v7 = _), lb7, mb7⟩ := rb.guars.val
  obtain ⟨b8, kb8, (rfl : v8 = _), lb8, mb8⟩ := rb.paths.val
  obtain ⟨b9, kb9, (rfl : v9 = _), lb9, mb9⟩ := rb.prods.val
  clear ra rb
  unfold ttV
  simp only [List.length_map] at RA RB la5 la6 lb5 lb6 ⊢
  obtain ⟨w2, hw2⟩ : ∃ w2, (w.alloc (.cells #[.slice a0 t.stops.length ka0, .slice a1 t.routes.length ka1, .slice a2 t.cals.length ka2, .slice a3 t.excs.length ka3, .slice a4 tsa.length ka4, .slice a5 t.freqs.length ka5, .slice a6 t.thrus.length ka6, .slice a7 t.guars.length ka7, .slice a8 t.paths.length ka8, .slice a9 t.fares.prods.length ka9, .int .i64 t.fares.disc, .int .i64 t.fares.within, .int .i64 t.fares.cap] 36)).alloc (.cells #[.slice b0 t.stops.length kb0, .slice b1 t.routes.length kb1, .slice b2 t.cals.length kb2, .slice b3 t.excs.length kb3, .slice b4 tsb.length kb4, .slice b5 t.freqs.length kb5, .slice b6 t.thrus.length kb6, .slice b7 t.guars.length kb7, .slice b8 t.paths.length kb8, .slice b9 t.fares.prods.length kb9, .int .i64 t.fares.disc, .int .i64 t.fares.within, .int .i64 t.fares.cap] 36) = w2 := ⟨_, rfl⟩
  have HA := Lib.hid (show w2.heap[w.heap.size]? = some (.cells #[.slice a0 t.stops.length ka0, .slice a1 t.routes.length ka1, .slice a2 t.cals.length ka2, .slice a3 t.excs.length ka3, .slice a4 tsa.length ka4, .slice a5 t.freqs.length ka5, .slice a6 t.thrus.length ka6, .slice a7 t.guars.length ka7, .slice a8 t.paths.length ka8, .slice a9 t.fares.prods.length ka9, .int .i64 t.fares.disc, .int .i64 t.fares.within, .int .i64 t.fares.cap] 36 (0, 0)) by rw [← hw2]; exact blk_bl (heap_alloc_new w _) (bl_alloc (bl_refl _) _))
  have HB := Lib.hid (show w2.heap[w.heap.size + 1]? = some (.cells #[.slice b0 t.stops.length kb0, .slice b1 t.routes.length kb1, .slice b2 t.cals.length kb2, .slice b3 t.excs.length kb3, .slice b4 tsb.length kb4, .slice b5 t.freqs.length kb5, .slice b6 t.thrus.length kb6, .slice b7 t.guars.length kb7, .slice b8 t.paths.length kb8, .slice b9 t.fares.prods.length kb9, .int .i64 t.fares.disc, .int .i64 t.fares.within, .int .i64 t.fares.cap] 36 (0, 0)) by
    rw [← hw2]
    have := heap_alloc_new (w.alloc (.cells #[.slice a0 t.stops.length ka0, .slice a1 t.routes.length ka1, .slice a2 t.cals.length ka2, .slice a3 t.excs.length ka3, .slice a4 tsa.length ka4, .slice a5 t.freqs.length ka5, .slice a6 t.thrus.length ka6, .slice a7 t.guars.length ka7, .slice a8 t.paths.length ka8, .slice a9 t.fares.prods.length ka9, .int .i64 t.fares.disc, .int .i64 t.fares.within, .int .i64 t.fares.cap] 36)) (.cells #[.slice b0 t.stops.length kb0, .slice b1 t.routes.length kb1, .slice b2 t.cals.length kb2, .slice b3 t.excs.length kb3, .slice b4 tsb.length kb4, .slice b5 t.freqs.length kb5, .slice b6 t.thrus.length kb6, .slice b7 t.guars.length kb7, .slice b8 t.paths.length kb8, .slice b9 t.fares.prods.length kb9, .int .i64 t.fares.disc, .int .i64 t.fares.within, .int .i64 t.fares.cap] 36)
    rw [show (w.alloc (.cells #[.slice a0 t.stops.length ka0, .slice a1 t.routes.length ka1, .slice a2 t.cals.length ka2, .slice a3 t.excs.length ka3, .slice a4 tsa.length ka4, .slice a5 t.freqs.length ka5, .slice a6 t.thrus.length ka6, .slice a7 t.guars.length ka7, .slice a8 t.paths.length ka8, .slice a9 t.fares.prods.length ka9, .int .i64 t.fares.disc, .int .i64 t.fares.within, .int .i64 t.fares.cap] 36)).heap.size = w.heap.size + 1 by simp] at this
    exact this)
  have B2 := Lib.hid (show Bl w w2 by rw [← hw2]; exact bl_alloc (bl_alloc (bl_refl _) _) _)
  have ca0 : w2.cell? ⟨w.heap.size, 0, none⟩ = some (.slice a0 t.stops.length ka0) := blk_cell HA.out 0 _ rfl
  have cb0 : w2.cell? ⟨w.heap.size + 1, 0, none⟩ = some (.slice b0 t.stops.length kb0) := blk_cell HB.out 0 _ rfl
  have ca1 : w2.cell? ⟨w.heap.size, 1, none⟩ = some (.slice a1 t.routes.length ka1) := blk_cell HA.out 1 _ rfl
  have cb1 : w2.cell? ⟨w.heap.size + 1, 1, none⟩ = some (.slice b1 t.routes.length kb1) := blk_cell HB.out 1 _ rfl
  have ca2 : w2.cell? ⟨w.heap.size, 2, none⟩ = some (.slice a2 t.cals.length ka2) := blk_cell HA.out 2 _ rfl
  have cb2 : w2.cell? ⟨w.heap.size + 1, 2, none⟩ = some (.slice b2 t.cals.length kb2) := blk_cell HB.out 2 _ rfl
  have ca3 : w2.cell? ⟨w.heap.size, 3, none⟩ = some (.slice a3 t.excs.length ka3) := blk_cell HA.out 3 _ rfl
  have cb3 : w2.cell? ⟨w.heap.size + 1, 3, none⟩ = some (.slice b3 t.excs.length kb3) := blk_cell HB.out 3 _ rfl
  go_enter Tryz.func27, Tryz.ntmps27
  go_wp2_with fail
  clear hw2 ca0 cb0 ca1 cb1 ca2 cb2 ca3 cb3
  have HBL : Hid (Bl w2 w2) := bl_refl _
  go_loopw [5] (fun i wr => ∃ k : Nat, (k ≤ t.stops.length ∧ i = .int .i64 k) ∧ Hid (Bl w2 wr)) (fun i _ => t.stops.length - (intOf i).toNat)
  case atStart => exact ⟨0, ⟨Nat.zero_le _, rfl⟩, HBL⟩
  case round =>
    clear HBL
    obtain ⟨k, ⟨hk, rfl⟩, HBL⟩ := hrel
    have HAr := Lib.hid (blk_bl HA.out HBL.out)
    have HBr := Lib.hid (blk_bl HB.out HBL.out)
    have ca0 : wr.cell? ⟨w.heap.size, 0, none⟩ = some (.slice a0 t.stops.length ka0) := blk_cell HAr.out 0 _ rfl
    have cb0 : wr.cell? ⟨w.heap.size + 1, 0, none⟩ = some (.slice b0 t.stops.length kb0) := blk_cell HBr.out 0 _ rfl
    by_cases hlx : k < t.stops.length
    · obtain ⟨x, hx⟩ : ∃ x, t.stops[k]? = some x := ⟨_, List.getElem?_eq_getElem (by first | exact hlx | (rw [List.length_map]; exact hlx))⟩
      obtain ⟨ba, oa, rfl, la, xa⟩ := (RA.out.stops.out (bl_next B2.out HBL.out) hB).getB hx
      obtain ⟨bb, ob, rfl, lb, xb⟩ := (RB.out.stops.out (bl_next B2.out HBL.out) hB).getB hx
      have da0 : wr.cell? ⟨ba, oa + k * 4, none⟩ = some (str x.id) := xa 0 _ rfl
      have db0 : wr.cell? ⟨bb, ob + k * 4, none⟩ = some (str x.id) := xb 0 _ rfl
      have da1 : wr.cell? ⟨ba, oa + k * 4 + 1, none⟩ = some (.int .i64 x.zone) := xa 1 _ rfl
      have db1 : wr.cell? ⟨bb, ob + k * 4 + 1, none⟩ = some (.int .i64 x.zone) := xb 1 _ rfl
      have da2 : wr.cell? ⟨ba, oa + k * 4 + 2, none⟩ = some (.bool x.free) := xa 2 _ rfl
      have db2 : wr.cell? ⟨bb, ob + k * 4 + 2, none⟩ = some (.bool x.free) := xb 2 _ rfl
      have da3 : wr.cell? ⟨ba, oa + k * 4 + 3, none⟩ = some (.int .i64 x.change) := xa 3 _ rfl
      have db3 : wr.cell? ⟨bb, ob + k * 4 + 3, none⟩ = some (.int .i64 x.change) := xb 3 _ rfl
      have hkI : (k : Int) < (t.stops.length : Int) := by omega
      clear xa xb hx
      go_wp2_with fail
      go_region
      have HB9 := Lib.hid (bl_drew HBL.out)
      clear HBL
      go_wp2
      go_roundw
      case rel => exact ⟨k + 1, ⟨by omega, by go_num⟩, HB9⟩
      case measure => simp [intOf]; omega
    · skip
      have ca1 : wr.cell? ⟨w.heap.size, 1, none⟩ = some (.slice a1 t.routes.length ka1) := blk_cell HAr.out 1 _ rfl
      have cb1 : wr.cell? ⟨w.heap.size + 1, 1, none⟩ = some (.slice b1 t.routes.length kb1) := blk_cell HBr.out 1 _ rfl
      go_wp2_with fail
      clear ca1 cb1 ca0 cb0 HAr HBr
      go_loopw [6] (fun i wr => ∃ k : Nat, (k ≤ t.routes.length ∧ i = .int .i64 k) ∧ Hid (Bl w2 wr)) (fun i _ => t.routes.length - (intOf i).toNat)
      case atStart => exact ⟨0, ⟨Nat.zero_le _, rfl⟩, HBL⟩
      case round =>
        clear HBL
        obtain ⟨k, ⟨hk, rfl⟩, HBL⟩ := hrel
        have HAr := Lib.hid (blk_bl HA.out HBL.out)
        have HBr := Lib.hid (blk_bl HB.out HBL.out)
        have ca1 : wr.cell? ⟨w.heap.size, 1, none⟩ = some (.slice a1 t.routes.length ka1) := blk_cell HAr.out 1 _ rfl
        have cb1 : wr.cell? ⟨w.heap.size + 1, 1, none⟩ = some (.slice b1 t.routes.length kb1) := blk_cell HBr.out 1 _ rfl
        by_cases hlx : k < t.routes.length
        · obtain ⟨x, hx⟩ : ∃ x, t.routes[k]? = some x := ⟨_, List.getElem?_eq_getElem (by first | exact hlx | (rw [List.length_map]; exact hlx))⟩
          obtain ⟨ba, oa, rfl, la, xa⟩ := (RA.out.routes.out (bl_next B2.out HBL.out) hB).getB hx
          obtain ⟨bb, ob, rfl, lb, xb⟩ := (RB.out.routes.out (bl_next B2.out HBL.out) hB).getB hx
          have da0 : wr.cell? ⟨ba, oa + k * 3, none⟩ = some (str x.id) := xa 0 _ rfl
          have db0 : wr.cell? ⟨bb, ob + k * 3, none⟩ = some (str x.id) := xb 0 _ rfl
          have da1 : wr.cell? ⟨ba, oa + k * 3 + 1, none⟩ = some (.int .i64 x.mode) := xa 1 _ rfl
          have db1 : wr.cell? ⟨bb, ob + k * 3 + 1, none⟩ = some (.int .i64 x.mode) := xb 1 _ rfl
          have da2 : wr.cell? ⟨ba, oa + k * 3 + 2, none⟩ = some (.bool x.bikes) := xa 2 _ rfl
          have db2 : wr.cell? ⟨bb, ob + k * 3 + 2, none⟩ = some (.bool x.bikes) := xb 2 _ rfl
          have hkI : (k : Int) < (t.routes.length : Int) := by omega
          clear xa xb hx
          go_wp2_with fail
          go_region
          have HB9 := Lib.hid (bl_drew HBL.out)
          clear HBL
          go_wp2
          go_roundw
          case rel => exact ⟨k + 1, ⟨by omega, by go_num⟩, HB9⟩
          case measure => simp [intOf]; omega
        · skip
          have ca2 : wr.cell? ⟨w.heap.size, 2, none⟩ = some (.slice a2 t.cals.length ka2) := blk_cell HAr.out 2 _ rfl
          have cb2 : wr.cell? ⟨w.heap.size + 1, 2, none⟩ = some (.slice b2 t.cals.length kb2) := blk_cell HBr.out 2 _ rfl
          go_wp2_with fail
          clear ca2 cb2 ca1 cb1 HAr HBr
          go_loopw [7] (fun i wr => ∃ k : Nat, (k ≤ t.cals.length ∧ i = .int .i64 k) ∧ Hid (Bl w2 wr)) (fun i _ => t.cals.length - (intOf i).toNat)
          case atStart => exact ⟨0, ⟨Nat.zero_le _, rfl⟩, HBL⟩
          case round =>
            clear HBL
            obtain ⟨k, ⟨hk, rfl⟩, HBL⟩ := hrel
            have HAr := Lib.hid (blk_bl HA.out HBL.out)
            have HBr := Lib.hid (blk_bl HB.out HBL.out)
            have ca2 : wr.cell? ⟨w.heap.size, 2, none⟩ = some (.slice a2 t.cals.length ka2) := blk_cell HAr.out 2 _ rfl
            have cb2 : wr.cell? ⟨w.heap.size + 1, 2, none⟩ = some (.slice b2 t.cals.length kb2) := blk_cell HBr.out 2 _ rfl
            by_cases hlx : k < t.cals.length
            · obtain ⟨x, hx⟩ : ∃ x, t.cals[k]? = some x := ⟨_, List.getElem?_eq_getElem (by first | exact hlx | (rw [List.length_map]; exact hlx))⟩
              obtain ⟨ba, oa, rfl, la, xa⟩ := (RA.out.cals.out (bl_next B2.out HBL.out) hB).getB hx
              obtain ⟨bb, ob, rfl, lb, xb⟩ := (RB.out.cals.out (bl_next B2.out HBL.out) hB).getB hx
              have da0 : wr.cell? ⟨ba, oa + k * 10, none⟩ = some (str x.id) := xa 0 _ rfl
              have db0 : wr.cell? ⟨bb, ob + k * 10, none⟩ = some (str x.id) := xb 0 _ rfl
              have da1 : wr.cell? ⟨ba, oa + k * 10 + 1, none⟩ = some (.bool x.week.d0) := xa 1 _ rfl
              have db1 : wr.cell? ⟨bb, ob + k * 10 + 1, none⟩ = some (.bool x.week.d0) := xb 1 _ rfl
              have da2 : wr.cell? ⟨ba, oa + k * 10 + 2, none⟩ = some (.bool x.week.d1) := xa 2 _ rfl
              have db2 : wr.cell? ⟨bb, ob + k * 10 + 2, none⟩ = some (.bool x.week.d1) := xb 2 _ rfl
              have da3 : wr.cell? ⟨ba, oa + k * 10 + 3, none⟩ = some (.bool x.week.d2) := xa 3 _ rfl
              have db3 : wr.cell? ⟨bb, ob + k * 10 + 3, none⟩ = some (.bool x.week.d2) := xb 3 _ rfl
              have da4 : wr.cell? ⟨ba, oa + k * 10 + 4, none⟩ = some (.bool x.week.d3) := xa 4 _ rfl
              have db4 : wr.cell? ⟨bb, ob + k * 10 + 4, none⟩ = some (.bool x.week.d3) := xb 4 _ rfl
              have da5 : wr.cell? ⟨ba, oa + k * 10 + 5, none⟩ = some (.bool x.week.d4) := xa 5 _ rfl
              have db5 : wr.cell? ⟨bb, ob + k * 10 + 5, none⟩ = some (.bool x.week.d4) := xb 5 _ rfl
              have da6 : wr.cell? ⟨ba, oa + k * 10 + 6, none⟩ = some (.bool x.week.d5) := xa 6 _ rfl
              have db6 : wr.cell? ⟨bb, ob + k * 10 + 6, none⟩ = some (.bool x.week.d5) := xb 6 _ rfl
              have da7 : wr.cell? ⟨ba, oa + k * 10 + 7, none⟩ = some (.bool x.week.d6) := xa 7 _ rfl
              have db7 : wr.cell? ⟨bb, ob + k * 10 + 7, none⟩ = some (.bool x.week.d6) := xb 7 _ rfl
              have da8 : wr.cell? ⟨ba, oa + k * 10 + 8, none⟩ = some (.int .i64 x.frm) := xa 8 _ rfl
              have db8 : wr.cell? ⟨bb, ob + k * 10 + 8, none⟩ = some (.int .i64 x.frm) := xb 8 _ rfl
              have da9 : wr.cell? ⟨ba, oa + k * 10 + 9, none⟩ = some (.int .i64 x.to) := xa 9 _ rfl
              have db9 : wr.cell? ⟨bb, ob + k * 10 + 9, none⟩ = some (.int .i64 x.to) := xb 9 _ rfl
              have hkI : (k : Int) < (t.cals.length : Int) := by omega
              clear xa xb hx
              have hwk := week_eq x.week.d0 x.week.d1 x.week.d2 x.week.d3 x.week.d4 x.week.d5 x.week.d6
              go_wp2_with fail
              go_region
              have HB9 := Lib.hid (bl_drew HBL.out)
              clear HBL
              go_wp2
              go_roundw
              case rel => exact ⟨k + 1, ⟨by omega, by go_num⟩, HB9⟩
              case measure => simp [intOf]; omega
            · skip
              have ca3 : wr.cell? ⟨w.heap.size, 3, none⟩ = some (.slice a3 t.excs.length ka3) := blk_cell HAr.out 3 _ rfl
              have cb3 : wr.cell? ⟨w.heap.size + 1, 3, none⟩ = some (.slice b3 t.excs.length kb3) := blk_cell HBr.out 3 _ rfl
              go_wp2_with fail
              clear ca3 cb3 ca2 cb2 HAr HBr
              go_loopw [8] (fun i wr => ∃ k : Nat, (k ≤ t.excs.length ∧ i = .int .i64 k) ∧ Hid (Bl w2 wr)) (fun i _ => t.excs.length - (intOf i).toNat)
              case atStart => exact ⟨0, ⟨Nat.zero_le _, rfl⟩, HBL⟩
              case round =>
                clear HBL
                obtain ⟨k, ⟨hk, rfl⟩, HBL⟩ := hrel
                have HAr := Lib.hid (blk_bl HA.out HBL.out)
                have HBr := Lib.hid (blk_bl HB.out HBL.out)
                have ca3 : wr.cell? ⟨w.heap.size, 3, none⟩ = some (.slice a3 t.excs.length ka3) := blk_cell HAr.out 3 _ rfl
                have cb3 : wr.cell? ⟨w.heap.size + 1, 3, none⟩ = some (.slice b3 t.excs.length kb3) := blk_cell HBr.out 3 _ rfl
                by_cases hlx : k < t.excs.length
                · obtain ⟨x, hx⟩ : ∃ x, t.excs[k]? = some x := ⟨_, List.getElem?_eq_getElem (by first | exact hlx | (rw [List.length_map]; exact hlx))⟩
                  obtain ⟨ba, oa, rfl, la, xa⟩ := (RA.out.excs.out (bl_next B2.out HBL.out) hB).getB hx
                  obtain ⟨bb, ob, rfl, lb, xb⟩ := (RB.out.excs.out (bl_next B2.out HBL.out) hB).getB hx
                  have da0 : wr.cell? ⟨ba, oa + k * 3, none⟩ = some (.int .i64 x.cal) := xa 0 _ rfl
                  have db0 : wr.cell? ⟨bb, ob + k * 3, none⟩ = some (.int .i64 x.cal) := xb 0 _ rfl
                  have da1 : wr.cell? ⟨ba, oa + k * 3 + 1, none⟩ = some (.int .i64 x.day) := xa 1 _ rfl
                  have db1 : wr.cell? ⟨bb, ob + k * 3 + 1, none⟩ = some (.int .i64 x.day) := xb 1 _ rfl
                  have da2 : wr.cell? ⟨ba, oa + k * 3 + 2, none⟩ = some (.bool x.added) := xa 2 _ rfl
                  have db2 : wr.cell? ⟨bb, ob + k * 3 + 2, none⟩ = some (.bool x.added) := xb 2 _ rfl
                  have hkI : (k : Int) < (t.excs.length : Int) := by omega
                  clear xa xb hx
                  go_wp2_with fail
                  go_region
                  have HB9 := Lib.hid (bl_drew HBL.out)
                  clear HBL
                  go_wp2
                  go_roundw
                  case rel => exact ⟨k + 1, ⟨by omega, by go_num⟩, HB9⟩
                  case measure => simp [intOf]; omega
                · skip
                  go_wp2
                  go_ret
                  exact ⟨rfl, bl_next B2.out HBL.out⟩
end Go.Proofs.YtakedkcjplfgeaaGreatDoor
