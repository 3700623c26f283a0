/-
  FEW OF THE REFERENCE 22 returns. Conditions: those of the contract.
-/
import Derived.Test.YtakedkcjplfgeaaGreatDoorExtra
import Derived.Test.YtakedkcjplfgeaaGreatDoorFedEqC
namespace Go.Proofs.YtakedkcjplfgeaaGreatDoor
open Go.RowKit
open Frq Thr Tt

/-- A bool is returned. -/
def AnyB (q : Ending) : Prop := ∃ b : Bool, q = .returned (.bool b)
set_option maxRecDepth 100000 in
set_option maxHeartbeats 16000000 in
theorem few_c (V : TtV) (ts : List TripD) (t : TtD) (B : Nat) (w : World) (rd : TtRd B w V ts t) (hB : B ≤ w.heap.size) :
    Calls Tryz.prog 13 #[ttV V t] w fun q w' => AnyB q ∧ Bl w w' := by
  have RA := Lib.hid rd
  obtain ⟨v0, v1, v2, v3, v4, v5, v6, v7, v8, v9⟩ := V
  obtain ⟨a0, k0, (rfl : v0 = _), -, -⟩ := rd.stops.val
  obtain ⟨a1, k1, (rfl : v1 = _), -, -⟩ := rd.routes.val
  obtain ⟨a2, k2, (rfl : v2 = _), -, -⟩ := rd.cals.val
  obtain ⟨a3, k3, (rfl : v3 = _), -, -⟩ := rd.excs.val
  obtain ⟨a4, k4, (rfl : v4 = _), l4, m4⟩ := rd.trips.sl.val
  obtain ⟨a5, k5, (rfl : v5 = _), -, -⟩ := rd.freqs.val
  obtain ⟨a6, k6, (rfl : v6 = _), -, -⟩ := rd.thrus.val
  obtain ⟨a7, k7, (rfl : v7 = _), -, -⟩ := rd.guars.val
  obtain ⟨a8, k8, (rfl : v8 = _), -, -⟩ := rd.paths.val
  obtain ⟨a9, k9, (rfl : v9 = _), -, -⟩ := rd.prods.val
  have hts : ts.length ≤ 9223372036854775807 := Nat.le_trans l4 m4
  clear rd l4 m4
  unfold ttV
  simp only [List.length_map] at RA ⊢
  obtain ⟨w2, hw2⟩ : ∃ w2, w.alloc (.cells #[.slice a0 t.stops.length k0, .slice a1 t.routes.length k1, .slice a2 t.cals.length k2, .slice a3 t.excs.length k3, .slice a4 ts.length k4, .slice a5 t.freqs.length k5, .slice a6 t.thrus.length k6, .slice a7 t.guars.length k7, .slice a8 t.paths.length k8, .slice a9 t.fares.prods.length k9, .int .i64 t.fares.disc, .int .i64 t.fares.within, .int .i64 t.fares.cap] 36) = w2 := ⟨_, rfl⟩
  have HA := Lib.hid (show w2.heap[w.heap.size]? = some (.cells #[.slice a0 t.stops.length k0, .slice a1 t.routes.length k1, .slice a2 t.cals.length k2, .slice a3 t.excs.length k3, .slice a4 ts.length k4, .slice a5 t.freqs.length k5, .slice a6 t.thrus.length k6, .slice a7 t.guars.length k7, .slice a8 t.paths.length k8, .slice a9 t.fares.prods.length k9, .int .i64 t.fares.disc, .int .i64 t.fares.within, .int .i64 t.fares.cap] 36 (0, 0)) by rw [← hw2]; exact heap_alloc_new w _)
  have B2 := Lib.hid (show Bl w w2 by rw [← hw2]; exact bl_alloc (bl_refl _) _)
  obtain ⟨p0, p1, p2, p3, p4, p5, p6, p7, p8, p9, p10, p11, p12⟩ := tt_cells HA.out
  clear p10 p11 p12
  by_cases g0 : (70 : Int) < (t.stops.length : Int)
  · go_enter Tryz.func13, Tryz.ntmps13
    go_wp2
    go_ret
    exact ⟨⟨_, rfl⟩, B2.out⟩
  by_cases g1 : (70 : Int) < (t.routes.length : Int)
  · go_enter Tryz.func13, Tryz.ntmps13
    go_wp2
    go_ret
    exact ⟨⟨_, rfl⟩, B2.out⟩
  by_cases g2 : (70 : Int) < (t.cals.length : Int)
  · go_enter Tryz.func13, Tryz.ntmps13
    go_wp2
    go_ret
    exact ⟨⟨_, rfl⟩, B2.out⟩
  by_cases g3 : (70 : Int) < (t.excs.length : Int)
  · go_enter Tryz.func13, Tryz.ntmps13
    go_wp2
    go_ret
    exact ⟨⟨_, rfl⟩, B2.out⟩
  by_cases g4 : (40 : Int) < (ts.length : Int)
  · go_enter Tryz.func13, Tryz.ntmps13
    go_wp2
    go_ret
    exact ⟨⟨_, rfl⟩, B2.out⟩
  by_cases g5 : (70 : Int) < (t.freqs.length : Int)
  · go_enter Tryz.func13, Tryz.ntmps13
    go_wp2
    go_ret
    exact ⟨⟨_, rfl⟩, B2.out⟩
  by_cases g6 : (140 : Int) < (t.thrus.length : Int)
  · go_enter Tryz.func13, Tryz.ntmps13
    go_wp2
    go_ret
    exact ⟨⟨_, rfl⟩, B2.out⟩
  by_cases g7 : (140 : Int) < (t.guars.length : Int)
  · go_enter Tryz.func13, Tryz.ntmps13
    go_wp2
    go_ret
    exact ⟨⟨_, rfl⟩, B2.out⟩
  by_cases g8 : (70 : Int) < (t.paths.length : Int)
  · go_enter Tryz.func13, Tryz.ntmps13
    go_wp2
    go_ret
    exact ⟨⟨_, rfl⟩, B2.out⟩
  by_cases g9 : (20 : Int) < (t.fares.prods.length : Int)
  · go_enter Tryz.func13, Tryz.ntmps13
    go_wp2
    go_ret
    exact ⟨⟨_, rfl⟩, B2.out⟩
  go_enter Tryz.func13, Tryz.ntmps13
  go_wp2_with fail
  clear hw2 p0 p1 p2 p3 p4 p5 p6 p7 p8 p9 g0 g1 g2 g3 g4 g5 g6 g7 g8 g9
  go_loopw [3] (fun i wr => ∃ k : Nat, (k ≤ ts.length ∧ i = .int .i64 k) ∧ Hid (Bl w2 wr)) (fun i _ => ts.length - (intOf i).toNat)
  case atStart => exact ⟨0, ⟨Nat.zero_le _, rfl⟩, bl_refl _⟩
  case round =>
    obtain ⟨k, ⟨hk, rfl⟩, HBL⟩ := hrel
    obtain ⟨-, -, -, -, p4, -, -, -, -, -, -, -, -⟩ := tt_cells (blk_bl HA.out HBL.out)
    by_cases hlx : k < ts.length
    · obtain ⟨x, hx⟩ : ∃ x, ts[k]? = some x := ⟨_, List.getElem?_eq_getElem hlx⟩
      have hb2 := bl_next B2.out HBL.out
      obtain ⟨ax, cx, hvx, -, -⟩ := (RA.out.trips.ok x (List.mem_of_getElem? hx)).calls.val
      obtain ⟨bc, oc, rfl, lbc, xc⟩ := (RA.out.trips.sl.out hb2 hB).getB hx
      have d4 : wr.cell? ⟨bc, oc + k * 5 + 4, none⟩ = some (.slice ax x.calls.length cx) := by rw [← hvx]; exact xc 4 _ rfl
      have hkI : (k : Int) < (ts.length : Int) := by omega
      have HB2 := Lib.hid hb2
      clear xc hx hvx hb2
      by_cases g4 : (40 : Int) < (x.calls.length : Int)
      · go_wp2
        go_ret
        exact ⟨⟨_, rfl⟩, HB2.out⟩
      · go_wp2
        go_roundw
        case rel => exact ⟨k + 1, ⟨by omega, by go_num⟩, HBL⟩
        case measure => simp [intOf]; omega
    · have HB2 := Lib.hid (bl_next B2.out HBL.out)
      go_wp2
      go_ret
      exact ⟨⟨_, rfl⟩, HB2.out⟩
end Go.Proofs.YtakedkcjplfgeaaGreatDoor
