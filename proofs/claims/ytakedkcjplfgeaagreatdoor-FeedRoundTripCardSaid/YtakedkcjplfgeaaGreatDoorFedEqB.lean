/-
  EQUAL TIMETABLES: tails of the reference 22, at timetables that read the same. Conditions: those of each contract.
-/
import Derived.Test.YtakedkcjplfgeaaGreatDoorExtra
import Derived.Test.YtakedkcjplfgeaaGreatDoorPkWrA
import Derived.BigRegion
namespace Go.Proofs.YtakedkcjplfgeaaGreatDoor
open Go.RowKit
open Frq Thr Tt

set_option maxRecDepth 100000 in
set_option maxHeartbeats 16000000 in
theorem tails_c (V W : TtV) (tsa tsb : List TripD) (t : TtD) (B : Nat) (w : World) (ra : TtRd B w V tsa t) (rb : TtRd B w W tsb t) (hB : B ≤ w.heap.size) :
    Calls Tryz.prog 29 #[ttV V t, ttV W t] w fun q w' => q = .returned (.bool true) ∧ Bl w w' := by
  have RA := Lib.hid ra
  have RB := Lib.hid rb
  obtain ⟨v0, v1, v2, v3, v4, v5, v6, v7, v8, v9⟩ := V
  obtain ⟨a0, ka0, (rfl : v0 = _), la0, ma0⟩ := ra.stops.val
  obtain ⟨a1, ka1, (rfl : v1 = _), la1, ma1⟩ := ra.routes.val
  obtain ⟨a2, ka2, (rfl : v2 = _), la2, ma2⟩ := ra.cals.val
  obtain ⟨a3, ka3, (rfl : v3 = _), la3, ma3⟩ := ra.excs.val
  obtain ⟨a4, ka4, (rfl : v4 = _), la4, ma4⟩ := ra.trips.sl.val
  obtain ⟨a5, ka5, (rfl : v5 = _), la5, ma5⟩ := ra.freqs.val
  obtain ⟨a6, ka6, (rfl : v6 = _), la6, ma6⟩ := ra.thrus.val
  obtain ⟨a7, ka7, (rfl : v7 = _), la7, ma7⟩ := ra.guars.val
  obtain ⟨a8, ka8, (rfl : v8 = _), la8, ma8⟩ := ra.paths.val
  obtain ⟨a9, ka9, (rfl : v9 = _), la9, ma9⟩ := ra.prods.val
  obtain ⟨v0, v1, v2, v3, v4, v5, v6, v7, v8, v9⟩ := W
  obtain ⟨b0, kb0, (rfl : v0 = _), lb0, mb0⟩ := rb.stops.val
  obtain ⟨b1, kb1, (rfl : v1 = _), lb1, mb1⟩ := rb.routes.val
  obtain ⟨b2, kb2, (rfl : v2 = _), lb2, mb2⟩ := rb.cals.val
  obtain ⟨b3, kb3, (rfl : v3 = _), lb3, mb3⟩ := rb.excs.val
  obtain ⟨b4, kb4, (rfl : v4 = _), lb4, mb4⟩ := rb.trips.sl.val
  obtain ⟨b5, kb5, (rfl : v5 = _), lb5, mb5⟩ := rb.freqs.val
  obtain ⟨b6, kb6, (rfl : v6 = _), lb6, mb6⟩ := rb.thrus.val
  obtain ⟨b7, kb7, (rfl : v7 = _), lb7, mb7⟩ := rb.guars.val
  obtain ⟨b8, kb8, (rfl : v8 = _), lb8, mb8⟩ := rb.paths.val
  obtain ⟨b9, kb9, (rfl : v9 = _), lb9, mb9⟩ := rb.prods.val
  clear ra rb
  unfold ttV
  simp only [List.length_map] at RA RB la5 la6 lb5 lb6 ⊢
  obtain ⟨w2, hw2⟩ : ∃ w2, (w.alloc (.cells #[.slice a0 t.stops.length ka0, .slice a1 t.routes.length ka1, .slice a2 t.cals.length ka2, .slice a3 t.excs.length ka3, .slice a4 tsa.length ka4, .slice a5 t.freqs.length ka5, .slice a6 t.thrus.length ka6, .slice a7 t.guars.length ka7, .slice a8 t.paths.length ka8, .slice a9 t.fares.prods.length ka9, .int .i64 t.fares.disc, .int .i64 t.fares.within, .int .i64 t.fares.cap] 36)).alloc (.cells #[.slice b0 t.stops.length kb0, .slice b1 t.routes.length kb1, .slice b2 t.cals.length kb2, .slice b3 t.excs.length kb3, .slice b4 tsb.length kb4, .slice b5 t.freqs.length kb5, .slice b6 t.thrus.length kb6, .slice b7 t.guars.length kb7, .slice b8 t.paths.length kb8, .slice b9 t.fares.prods.length kb9, .int .i64 t.fares.disc, .int .i64 t.fares.within, .int .i64 t.fares.cap] 36) = w2 := ⟨_, rfl⟩
  have HA := Lib.hid (show w2.heap[w.heap.size]? = some (.cells #[.slice a0 t.stops.length ka0, .slice a1 t.routes.length ka1, .slice a2 t.cals.length ka2, .slice a3 t.excs.length ka3, .slice a4 tsa.length ka4, .slice a5 t.freqs.length ka5, .slice a6 t.thrus.length ka6, .slice a7 t.guars.length ka7, .slice a8 t.paths.length ka8, .slice a9 t.fares.prods.length ka9, .int .i64 t.fares.disc, .int .i64 t.fares.within, .int .i64 t.fares.cap] 36 (0, 0)) by rw [← hw2]; exact blk_bl (heap_alloc_new w _) (bl_alloc (bl_refl _) _))
  have HB := Lib.hid (show w2.heap[w.heap.size + 1]? = some (.cells #[.slice b0 t.stops.length kb0, .slice b1 t.routes.length kb1, .slice b2 t.cals.length kb2, .slice b3 t.excs.length kb3, .slice b4 tsb.length kb4, .slice b5 t.freqs.length kb5, .slice b6 t.thrus.length kb6, .slice b7 t.guars.length kb7, .slice b8 t.paths.length kb8, .slice b9 t.fares.prods.length kb9, .int .i64 t.fares.disc, .int .i64 t.fares.within, .int .i64 t.fares.cap] 36 (0, 0)) by
    rw [← hw2]
    have := heap_alloc_new (w.alloc (.cells #[.slice a0 t.stops.length ka0, .slice a1 t.routes.length ka1, .slice a2 t.cals.length ka2, .slice a3 t.excs.length ka3, .slice a4 tsa.length ka4, .slice a5 t.freqs.length ka5, .slice a6 t.thrus.length ka6, .slice a7 t.guars.length ka7, .slice a8 t.paths.length ka8, .slice a9 t.fares.prods.length ka9, .int .i64 t.fares.disc, .int .i64 t.fares.within, .int .i64 t.fares.cap] 36)) (.cells #[.slice b0 t.stops.length kb0, .slice b1 t.routes.length kb1, .slice b2 t.cals.length kb2, .slice b3 t.excs.length kb3, .slice b4 tsb.length kb4, .slice b5 t.freqs.length kb5, .slice b6 t.thrus.length kb6, .slice b7 t.guars.length kb7, .slice b8 t.paths.length kb8, .slice b9 t.fares.prods.length kb9, .int .i64 t.fares.disc, .int .i64 t.fares.within, .int .i64 t.fares.cap] 36)
    rw [show (w.alloc (.cells #[.slice a0 t.stops.length ka0, .slice a1 t.routes.length ka1, .slice a2 t.cals.length ka2, .slice a3 t.excs.length ka3, .slice a4 tsa.length ka4, .slice a5 t.freqs.length ka5, .slice a6 t.thrus.length ka6, .slice a7 t.guars.length ka7, .slice a8 t.paths.length ka8, .slice a9 t.fares.prods.length ka9, .int .i64 t.fares.disc, .int .i64 t.fares.within, .int .i64 t.fares.cap] 36)).heap.size = w.heap.size + 1 by simp] at this
    exact this)
  have B2 := Lib.hid (show Bl w w2 by rw [← hw2]; exact bl_alloc (bl_alloc (bl_refl _) _) _)
  have ca5 : w2.cell? ⟨w.heap.size, 5, none⟩ = some (.slice a5 t.freqs.length ka5) := blk_cell HA.out 5 _ rfl
  have cb5 : w2.cell? ⟨w.heap.size + 1, 5, none⟩ = some (.slice b5 t.freqs.length kb5) := blk_cell HB.out 5 _ rfl
  have ca6 : w2.cell? ⟨w.heap.size, 6, none⟩ = some (.slice a6 t.thrus.length ka6) := blk_cell HA.out 6 _ rfl
  have cb6 : w2.cell? ⟨w.heap.size + 1, 6, none⟩ = some (.slice b6 t.thrus.length kb6) := blk_cell HB.out 6 _ rfl
  have ca7 : w2.cell? ⟨w.heap.size, 7, none⟩ = some (.slice a7 t.guars.length ka7) := blk_cell HA.out 7 _ rfl
  have cb7 : w2.cell? ⟨w.heap.size + 1, 7, none⟩ = some (.slice b7 t.guars.length kb7) := blk_cell HB.out 7 _ rfl
  have ca8 : w2.cell? ⟨w.heap.size, 8, none⟩ = some (.slice a8 t.paths.length ka8) := blk_cell HA.out 8 _ rfl
  have cb8 : w2.cell? ⟨w.heap.size + 1, 8, none⟩ = some (.slice b8 t.paths.length kb8) := blk_cell HB.out 8 _ rfl
  have ca9 : w2.cell? ⟨w.heap.size, 9, none⟩ = some (.slice a9 t.fares.prods.length ka9) := blk_cell HA.out 9 _ rfl
  have cb9 : w2.cell? ⟨w.heap.size + 1, 9, none⟩ = some (.slice b9 t.fares.prods.length kb9) := blk_cell HB.out 9 _ rfl
  go_enter Tryz.func29, Tryz.ntmps29
  go_wp2_with fail
  clear hw2 ca5 cb5 ca6 cb6 ca7 cb7 ca8 cb8 ca9 cb9
  have HBL : Hid (Bl w2 w2) := bl_refl _
  go_loopw [5] (fun i wr => ∃ k : Nat, (k ≤ t.freqs.length ∧ i = .int .i64 k) ∧ Hid (Bl w2 wr)) (fun i _ => t.freqs.length - (intOf i).toNat)
  case atStart => exact ⟨0, ⟨Nat.zero_le _, rfl⟩, HBL⟩
  case round =>
    clear HBL
    obtain ⟨k, ⟨hk, rfl⟩, HBL⟩ := hrel
    have HAr := Lib.hid (blk_bl HA.out HBL.out)
    have HBr := Lib.hid (blk_bl HB.out HBL.out)
    have ca5 : wr.cell? ⟨w.heap.size, 5, none⟩ = some (.slice a5 t.freqs.length ka5) := blk_cell HAr.out 5 _ rfl
    have cb5 : wr.cell? ⟨w.heap.size + 1, 5, none⟩ = some (.slice b5 t.freqs.length kb5) := blk_cell HBr.out 5 _ rfl
    by_cases hlx : k < t.freqs.length
    · obtain ⟨x, hx⟩ : ∃ x, (t.freqs.map freqOf)[k]? = some x := ⟨_, List.getElem?_eq_getElem (by first | exact hlx | (rw [List.length_map]; exact hlx))⟩
      obtain ⟨ba, oa, rfl, la, xa⟩ := (RA.out.freqs.out (bl_next B2.out HBL.out) hB).getB hx
      obtain ⟨bb, ob, rfl, lb, xb⟩ := (RB.out.freqs.out (bl_next B2.out HBL.out) hB).getB hx
      have da0 : wr.cell? ⟨ba, oa + k * 4, none⟩ = some (.int .i64 x.trip) := xa 0 _ rfl
      have db0 : wr.cell? ⟨bb, ob + k * 4, none⟩ = some (.int .i64 x.trip) := xb 0 _ rfl
      have da1 : wr.cell? ⟨ba, oa + k * 4 + 1, none⟩ = some (.int .i64 x.frm) := xa 1 _ rfl
      have db1 : wr.cell? ⟨bb, ob + k * 4 + 1, none⟩ = some (.int .i64 x.frm) := xb 1 _ rfl
      have da2 : wr.cell? ⟨ba, oa + k * 4 + 2, none⟩ = some (.int .i64 x.to) := xa 2 _ rfl
      have db2 : wr.cell? ⟨bb, ob + k * 4 + 2, none⟩ = some (.int .i64 x.to) := xb 2 _ rfl
      have da3 : wr.cell? ⟨ba, oa + k * 4 + 3, none⟩ = some (.int .i64 x.every) := xa 3 _ rfl
      have db3 : wr.cell? ⟨bb, ob + k * 4 + 3, none⟩ = some (.int .i64 x.every) := xb 3 _ rfl
      have hkI : (k : Int) < (t.freqs.length : Int) := by omega
      clear xa xb hx
      go_wp2_with fail
      go_region
      have HB9 := Lib.hid (bl_drew HBL.out)
      clear HBL
      go_wp2
      go_roundw
      case rel => exact ⟨k + 1, ⟨by omega, by go_num⟩, HB9⟩
      case measure => simp [intOf]; omega
    · skip
      have ca6 : wr.cell? ⟨w.heap.size, 6, none⟩ = some (.slice a6 t.thrus.length ka6) := blk_cell HAr.out 6 _ rfl
      have cb6 : wr.cell? ⟨w.heap.size + 1, 6, none⟩ = some (.slice b6 t.thrus.length kb6) := blk_cell HBr.out 6 _ rfl
      go_wp2_with fail
      clear ca6 cb6 ca5 cb5 HAr HBr
      go_loopw [6] (fun i wr => ∃ k : Nat, (k ≤ t.thrus.length ∧ i = .int .i64 k) ∧ Hid (Bl w2 wr)) (fun i _ => t.thrus.length - (intOf i).toNat)
      case atStart => exact ⟨0, ⟨Nat.zero_le _, rfl⟩, HBL⟩
      case round =>
        clear HBL
        obtain ⟨k, ⟨hk, rfl⟩, HBL⟩ := hrel
        have HAr := Lib.hid (blk_bl HA.out HBL.out)
        have HBr := Lib.hid (blk_bl HB.out HBL.out)
        have ca6 : wr.cell? ⟨w.heap.size, 6, none⟩ = some (.slice a6 t.thrus.length ka6) := blk_cell HAr.out 6 _ rfl
        have cb6 : wr.cell? ⟨w.heap.size + 1, 6, none⟩ = some (.slice b6 t.thrus.length kb6) := blk_cell HBr.out 6 _ rfl
        by_cases hlx : k < t.thrus.length
        · obtain ⟨x, hx⟩ : ∃ x, (t.thrus.map thruOf)[k]? = some x := ⟨_, List.getElem?_eq_getElem (by first | exact hlx | (rw [List.length_map]; exact hlx))⟩
          obtain ⟨ba, oa, rfl, la, xa⟩ := (RA.out.thrus.out (bl_next B2.out HBL.out) hB).getB hx
          obtain ⟨bb, ob, rfl, lb, xb⟩ := (RB.out.thrus.out (bl_next B2.out HBL.out) hB).getB hx
          have da0 : wr.cell? ⟨ba, oa + k * 2, none⟩ = some (.int .i64 x.frm) := xa 0 _ rfl
          have db0 : wr.cell? ⟨bb, ob + k * 2, none⟩ = some (.int .i64 x.frm) := xb 0 _ rfl
          have da1 : wr.cell? ⟨ba, oa + k * 2 + 1, none⟩ = some (.int .i64 x.to) := xa 1 _ rfl
          have db1 : wr.cell? ⟨bb, ob + k * 2 + 1, none⟩ = some (.int .i64 x.to) := xb 1 _ rfl
          have hkI : (k : Int) < (t.thrus.length : Int) := by omega
          clear xa xb hx
          go_wp2_with fail
          go_region
          have HB9 := Lib.hid (bl_drew HBL.out)
          clear HBL
          go_wp2
          go_roundw
          case rel => exact ⟨k + 1, ⟨by omega, by go_num⟩, HB9⟩
          case measure => simp [intOf]; omega
        · skip
          have ca7 : wr.cell? ⟨w.heap.size, 7, none⟩ = some (.slice a7 t.guars.length ka7) := blk_cell HAr.out 7 _ rfl
          have cb7 : wr.cell? ⟨w.heap.size + 1, 7, none⟩ = some (.slice b7 t.guars.length kb7) := blk_cell HBr.out 7 _ rfl
          go_wp2_with fail
          clear ca7 cb7 ca6 cb6 HAr HBr
          go_loopw [7] (fun i wr => ∃ k : Nat, (k ≤ t.guars.length ∧ i = .int .i64 k) ∧ Hid (Bl w2 wr)) (fun i _ => t.guars.length - (intOf i).toNat)
          case atStart => exact ⟨0, ⟨Nat.zero_le _, rfl⟩, HBL⟩
          case round =>
            clear HBL
            obtain ⟨k, ⟨hk, rfl⟩, HBL⟩ := hrel
            have HAr := Lib.hid (blk_bl HA.out HBL.out)
            have HBr := Lib.hid (blk_bl HB.out HBL.out)
            have ca7 : wr.cell? ⟨w.heap.size, 7, none⟩ = some (.slice a7 t.guars.length ka7) := blk_cell HAr.out 7 _ rfl
            have cb7 : wr.cell? ⟨w.heap.size + 1, 7, none⟩ = some (.slice b7 t.guars.length kb7) := blk_cell HBr.out 7 _ rfl
            by_cases hlx : k < t.guars.length
            · obtain ⟨x, hx⟩ : ∃ x, t.guars[k]? = some x := ⟨_, List.getElem?_eq_getElem (by first | exact hlx | (rw [List.length_map]; exact hlx))⟩
              obtain ⟨ba, oa, rfl, la, xa⟩ := (RA.out.guars.out (bl_next B2.out HBL.out) hB).getB hx
              obtain ⟨bb, ob, rfl, lb, xb⟩ := (RB.out.guars.out (bl_next B2.out HBL.out) hB).getB hx
              have da0 : wr.cell? ⟨ba, oa + k * 3, none⟩ = some (.int .i64 x.frm) := xa 0 _ rfl
              have db0 : wr.cell? ⟨bb, ob + k * 3, none⟩ = some (.int .i64 x.frm) := xb 0 _ rfl
              have da1 : wr.cell? ⟨ba, oa + k * 3 + 1, none⟩ = some (.int .i64 x.to) := xa 1 _ rfl
              have db1 : wr.cell? ⟨bb, ob + k * 3 + 1, none⟩ = some (.int .i64 x.to) := xb 1 _ rfl
              have da2 : wr.cell? ⟨ba, oa + k * 3 + 2, none⟩ = some (.int .i64 x.stop) := xa 2 _ rfl
              have db2 : wr.cell? ⟨bb, ob + k * 3 + 2, none⟩ = some (.int .i64 x.stop) := xb 2 _ rfl
              have hkI : (k : Int) < (t.guars.length : Int) := by omega
              clear xa xb hx
              go_wp2_with fail
              go_region
              have HB9 := Lib.hid (bl_drew HBL.out)
              clear HBL
              go_wp2
              go_roundw
              case rel => exact ⟨k + 1, ⟨by omega, by go_num⟩, HB9⟩
              case measure => simp [intOf]; omega
            · skip
              have ca8 : wr.cell? ⟨w.heap.size, 8, none⟩ = some (.slice a8 t.paths.length ka8) := blk_cell HAr.out 8 _ rfl
              have cb8 : wr.cell? ⟨w.heap.size + 1, 8, none⟩ = some (.slice b8 t.paths.length kb8) := blk_cell HBr.out 8 _ rfl
              go_wp2_with fail
              clear ca8 cb8 ca7 cb7 HAr HBr
              go_loopw [8] (fun i wr => ∃ k : Nat, (k ≤ t.paths.length ∧ i = .int .i64 k) ∧ Hid (Bl w2 wr)) (fun i _ => t.paths.length - (intOf i).toNat)
              case atStart => exact ⟨0, ⟨Nat.zero_le _, rfl⟩, HBL⟩
              case round =>
                clear HBL
                obtain ⟨k, ⟨hk, rfl⟩, HBL⟩ := hrel
                have HAr := Lib.hid (blk_bl HA.out HBL.out)
                have HBr := Lib.hid (blk_bl HB.out HBL.out)
                have ca8 : wr.cell? ⟨w.heap.size, 8, none⟩ = some (.slice a8 t.paths.length ka8) := blk_cell HAr.out 8 _ rfl
                have cb8 : wr.cell? ⟨w.heap.size + 1, 8, none⟩ = some (.slice b8 t.paths.length kb8) := blk_cell HBr.out 8 _ rfl
                by_cases hlx : k < t.paths.length
                · obtain ⟨x, hx⟩ : ∃ x, t.paths[k]? = some x := ⟨_, List.getElem?_eq_getElem (by first | exact hlx | (rw [List.length_map]; exact hlx))⟩
                  obtain ⟨ba, oa, rfl, la, xa⟩ := (RA.out.paths.out (bl_next B2.out HBL.out) hB).getB hx
                  obtain ⟨bb, ob, rfl, lb, xb⟩ := (RB.out.paths.out (bl_next B2.out HBL.out) hB).getB hx
                  have da0 : wr.cell? ⟨ba, oa + k * 4, none⟩ = some (.int .i64 x.frm) := xa 0 _ rfl
                  have db0 : wr.cell? ⟨bb, ob + k * 4, none⟩ = some (.int .i64 x.frm) := xb 0 _ rfl
                  have da1 : wr.cell? ⟨ba, oa + k * 4 + 1, none⟩ = some (.int .i64 x.to) := xa 1 _ rfl
                  have db1 : wr.cell? ⟨bb, ob + k * 4 + 1, none⟩ = some (.int .i64 x.to) := xb 1 _ rfl
                  have da2 : wr.cell? ⟨ba, oa + k * 4 + 2, none⟩ = some (.int .i64 x.secs) := xa 2 _ rfl
                  have db2 : wr.cell? ⟨bb, ob + k * 4 + 2, none⟩ = some (.int .i64 x.secs) := xb 2 _ rfl
                  have da3 : wr.cell? ⟨ba, oa + k * 4 + 3, none⟩ = some (.bool x.free) := xa 3 _ rfl
                  have db3 : wr.cell? ⟨bb, ob + k * 4 + 3, none⟩ = some (.bool x.free) := xb 3 _ rfl
                  have hkI : (k : Int) < (t.paths.length : Int) := by omega
                  clear xa xb hx
                  go_wp2_with fail
                  go_region
                  have HB9 := Lib.hid (bl_drew HBL.out)
                  clear HBL
                  go_wp2
                  go_roundw
                  case rel => exact ⟨k + 1, ⟨by omega, by go_num⟩, HB9⟩
                  case measure => simp [intOf]; omega
                · skip
                  have ca9 : wr.cell? ⟨w.heap.size, 9, none⟩ = some (.slice a9 t.fares.prods.length ka9) := blk_cell HAr.out 9 _ rfl
                  have cb9 : wr.cell? ⟨w.heap.size + 1, 9, none⟩ = some (.slice b9 t.fares.prods.length kb9) := blk_cell HBr.out 9 _ rfl
                  go_wp2_with fail
                  clear ca9 cb9 ca8 cb8 HAr HBr
                  go_loopw [9] (fun i wr => ∃ k : Nat, (k ≤ t.fares.prods.length ∧ i = .int .i64 k) ∧ Hid (Bl w2 wr)) (fun i _ => t.fares.prods.length - (intOf i).toNat)
                  case atStart => exact ⟨0, ⟨Nat.zero_le _, rfl⟩, HBL⟩
                  case round =>
                    clear HBL
                    obtain ⟨k, ⟨hk, rfl⟩, HBL⟩ := hrel
                    have HAr := Lib.hid (blk_bl HA.out HBL.out)
                    have HBr := Lib.hid (blk_bl HB.out HBL.out)
                    have ca9 : wr.cell? ⟨w.heap.size, 9, none⟩ = some (.slice a9 t.fares.prods.length ka9) := blk_cell HAr.out 9 _ rfl
                    have cb9 : wr.cell? ⟨w.heap.size + 1, 9, none⟩ = some (.slice b9 t.fares.prods.length kb9) := blk_cell HBr.out 9 _ rfl
                    by_cases hlx : k < t.fares.prods.length
                    · obtain ⟨x, hx⟩ : ∃ x, t.fares.prods[k]? = some x := ⟨_, List.getElem?_eq_getElem (by first | exact hlx | (rw [List.length_map]; exact hlx))⟩
                      obtain ⟨ba, oa, rfl, la, xa⟩ := (RA.out.prods.out (bl_next B2.out HBL.out) hB).getB hx
                      obtain ⟨bb, ob, rfl, lb, xb⟩ := (RB.out.prods.out (bl_next B2.out HBL.out) hB).getB hx
                      have da0 : wr.cell? ⟨ba, oa + k * 6, none⟩ = some (str x.id) := xa 0 _ rfl
                      have db0 : wr.cell? ⟨bb, ob + k * 6, none⟩ = some (str x.id) := xb 0 _ rfl
                      have da1 : wr.cell? ⟨ba, oa + k * 6 + 1, none⟩ = some (.int .i64 x.price) := xa 1 _ rfl
                      have db1 : wr.cell? ⟨bb, ob + k * 6 + 1, none⟩ = some (.int .i64 x.price) := xb 1 _ rfl
                      have da2 : wr.cell? ⟨ba, oa + k * 6 + 2, none⟩ = some (.int .i64 x.rides) := xa 2 _ rfl
                      have db2 : wr.cell? ⟨bb, ob + k * 6 + 2, none⟩ = some (.int .i64 x.rides) := xb 2 _ rfl
                      have da3 : wr.cell? ⟨ba, oa + k * 6 + 3, none⟩ = some (.int .i64 x.zones) := xa 3 _ rfl
                      have db3 : wr.cell? ⟨bb, ob + k * 6 + 3, none⟩ = some (.int .i64 x.zones) := xb 3 _ rfl
                      have da4 : wr.cell? ⟨ba, oa + k * 6 + 4, none⟩ = some (.int .i64 x.secs) := xa 4 _ rfl
                      have db4 : wr.cell? ⟨bb, ob + k * 6 + 4, none⟩ = some (.int .i64 x.secs) := xb 4 _ rfl
                      have da5 : wr.cell? ⟨ba, oa + k * 6 + 5, none⟩ = some (.int .i64 x.modes) := xa 5 _ rfl
                      have db5 : wr.cell? ⟨bb, ob + k * 6 + 5, none⟩ = some (.int .i64 x.modes) := xb 5 _ rfl
                      have hkI : (k : Int) < (t.fares.prods.length : Int) := by omega
                      clear xa xb hx
                      go_wp2_with fail
                      go_region
                      have HB9 := Lib.hid (bl_drew HBL.out)
                      clear HBL
                      go_wp2
                      go_roundw
                      case rel => exact ⟨k + 1, ⟨by omega, by go_num⟩, HB9⟩
                      case measure => simp [intOf]; omega
                    · skip
                      go_wp2
                      go_ret
                      exact ⟨rfl, bl_next B2.out HBL.out⟩
end Go.Proofs.YtakedkcjplfgeaaGreatDoor
