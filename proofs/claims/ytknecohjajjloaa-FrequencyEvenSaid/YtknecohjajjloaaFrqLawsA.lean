/-
  THE LAWS OF FREQUENCY, FIRST PART: FrequencyShifts. Conditions: those of each contract.
-/
import Derived.Test.YtknecohjajjloaaFrqWalksH
namespace Go.Proofs.Ytknecohjajjloaa
open Go.RowKit
open Frq

theorem shifts_law (id : ByteArray) (rt cal : Int) (step : Bool) (v : Value) (cs : List CallD) (start : Int) (hst : isInt start) (B : Nat) (w : World) (hcs : CallsIn B w v cs) (hB : B ≤ w.heap.size) (hok : ∀ c ∈ cs, okT c) :
    Calls Try.prog 4 #[.agg #[.string id, .int .i64 rt, .int .i64 cal, .bool step, v], .int .i64 start] w fun e w' => e = .returned (.bool true) ∧ Bl w w' := by
  have HC := Lib.hid hcs
  have HO := Lib.hid hok
  have HI := Lib.hid hst
  obtain ⟨a, cap, rfl, -, -, -⟩ := hcs
  clear hok hst
  go_enter Try.func4, Try.ntmps4
  go_wp2_with fail
  obtain ⟨w1, hw1⟩ : ∃ w1, w.alloc (.cells #[.string id, .int .i64 rt, .int .i64 cal, .bool step, .slice a cs.length cap] 33) = w1 := ⟨_, rfl⟩
  rw [hw1]
  have s1 : w1.heap.size = w.heap.size + 1 := by rw [← hw1]; simp
  have b1 : Bl w w1 := by rw [← hw1]; exact bl_alloc (bl_refl _) _
  have k1 : ∀ j u, (tripCells ⟨id, rt, cal, step, .slice a cs.length cap, cs⟩)[j]? = some u → w1.cell? ⟨w.heap.size, j, none⟩ = some u := by
    intro j u hu
    rw [← hw1, World.cell?_alloc_at (hn := rfl)]
    simpa [tripCells] using hu
  have B1 := Lib.hid b1
  have K1 := Lib.hid k1
  clear hw1 b1 k1
  obtain ⟨w2, hw2⟩ : ∃ w2, w1.alloc (.cells #[.string id, .int .i64 rt, .int .i64 cal, .bool step, .slice a cs.length cap] 33) = w2 := ⟨_, rfl⟩
  have b2 : Bl w1 w2 := by rw [← hw2]; exact bl_alloc (bl_refl _) _
  have i2 : SlIn tripCells 5 w2.heap.size w2 (.slice (some ⟨w1.heap.size, 0, none⟩) 1 1) [⟨id, rt, cal, step, .slice a cs.length cap, cs⟩] := by
    rw [← hw2]; exact slIn_new tripCells_len _ w1 _ _ 1 1 rfl (by omega) (by unfold maxLen; omega) rfl
  have hz2 := b2.size
  have hBw : B ≤ w2.heap.size := by omega
  have C2 : Hid (CallsIn B w2 (.slice a cs.length cap) cs) := HC.out.below ((bl_next B1.out b2).mono hB)
  have IT : TripsRd w2.heap.size w2 (.slice (some ⟨w1.heap.size, 0, none⟩) 1 1) [⟨id, rt, cal, step, .slice a cs.length cap, cs⟩] := ⟨i2, fun t ht => by
    rw [List.mem_singleton] at ht
    rw [ht]
    exact ⟨C2.out.mono hBw, HO.out⟩⟩
  have B2 := Lib.hid (bl_next B1.out b2)
  have B12 := Lib.hid b2
  rw [show w.heap.size + 1 = w1.heap.size from s1.symm, hw2]
  clear hw2 b2 i2
  rcases Bool.eq_false_or_eq_true (plainB [⟨id, rt, cal, step, .slice a cs.length cap, cs⟩]) with hp | hp
  · refine (plain_c _ _ true hp _ w2 IT (Nat.le_refl _)).mono ?_
    rintro e w3 ⟨rfl, b3⟩
    have hlen : cs.length ≤ 1000 := (IT.into hp).ok _ (List.mem_singleton.2 rfl) |>.len
    have B3 : Hid (Bl w1 w3) := bl_next B12.out b3
    have s3 : w1.heap.size ≤ w3.heap.size := B3.out.size
    have t0 : w3.cell? ⟨w.heap.size, 0, none⟩ = some (.string id) := ((bl_cell B3.out).1 _ _ (by omega)).trans (K1.out 0 _ rfl)
    have t1 : w3.cell? ⟨w.heap.size, 1, none⟩ = some (.int .i64 rt) := ((bl_cell B3.out).1 _ _ (by omega)).trans (K1.out 1 _ rfl)
    have t2 : w3.cell? ⟨w.heap.size, 2, none⟩ = some (.int .i64 cal) := ((bl_cell B3.out).1 _ _ (by omega)).trans (K1.out 2 _ rfl)
    have t3 : w3.cell? ⟨w.heap.size, 3, none⟩ = some (.bool step) := ((bl_cell B3.out).1 _ _ (by omega)).trans (K1.out 3 _ rfl)
    have t4 : w3.cell? ⟨w.heap.size, 4, none⟩ = some (.slice a cs.length cap) := ((bl_cell B3.out).1 _ _ (by omega)).trans (K1.out 4 _ rfl)
    clear IT hp b3
    go_wp2_with fail
    refine (calls_c id rt cal step _ cs start HI.out B w3 (HC.out.below ((bl_next B1.out B3.out).mono hB)) (by omega) HO.out hlen).mono ?_
    rintro e w4 ⟨⟨v4, rfl, i4⟩, b4⟩
    have I4 := Lib.hid i4
    have B4 := Lib.hid b4
    have s4 := b4.size
    have hb4 : Bl w1 w4 := bl_next B3.out b4
    clear i4 b4 t0 t1 t2 t3 t4
    have t0 : w4.cell? ⟨w.heap.size, 0, none⟩ = some (.string id) := ((bl_cell hb4).1 _ _ (by omega)).trans (K1.out 0 _ rfl)
    have t1 : w4.cell? ⟨w.heap.size, 1, none⟩ = some (.int .i64 rt) := ((bl_cell hb4).1 _ _ (by omega)).trans (K1.out 1 _ rfl)
    have t2 : w4.cell? ⟨w.heap.size, 2, none⟩ = some (.int .i64 cal) := ((bl_cell hb4).1 _ _ (by omega)).trans (K1.out 2 _ rfl)
    have t3 : w4.cell? ⟨w.heap.size, 3, none⟩ = some (.bool step) := ((bl_cell hb4).1 _ _ (by omega)).trans (K1.out 3 _ rfl)
    have t4 : w4.cell? ⟨w.heap.size, 4, none⟩ = some (.slice a cs.length cap) := ((bl_cell hb4).1 _ _ (by omega)).trans (K1.out 4 _ rfl)
    have HB4 := Lib.hid hb4
    clear hb4
    go_wp2_with fail
    refine (rcalls_c id rt cal step _ cs start B w4 (HC.out.below ((bl_next B1.out HB4.out).mono hB)) (by omega) HO.out hlen).mono ?_
    rintro e w5 ⟨⟨v5, rfl, i5⟩, b5⟩
    have I5 := Lib.hid i5
    have B5 := Lib.hid b5
    clear i5 b5 t0 t1 t2 t3 t4
    go_wp2_with fail
    refine (sameCalls_c _ _ _ _ _ (I4.out.bl B5.out) I5.out (Nat.le_refl _)).mono ?_
    rintro e w6 ⟨rfl, b6⟩
    go_wp2_with fail
    refine (example_c _).mono ?_
    rintro e w7 ⟨rfl, b7⟩
    go_wp2
    go_ret
    exact ⟨rfl, bl_next B1.out (bl_next HB4.out (bl_next B5.out (bl_next b6 b7)))⟩
  · refine (plain_c _ _ false hp _ w2 IT (Nat.le_refl _)).mono ?_
    rintro e w3 ⟨rfl, b3⟩
    clear IT hp
    go_wp2_with fail
    refine (example_c _).mono ?_
    rintro e w4 ⟨rfl, b4⟩
    go_wp2
    go_ret
    exact ⟨rfl, bl_next B2.out (bl_next b3 b4)⟩
end Go.Proofs.Ytknecohjajjloaa
