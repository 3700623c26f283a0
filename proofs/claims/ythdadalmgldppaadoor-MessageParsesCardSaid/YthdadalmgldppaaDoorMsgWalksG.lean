/-
  THE CONTRACTS OF MESSAGE, SEVENTH PART: checkKind at the kinds with calls; Check of the program. Conditions: those of each contract.
-/
import Derived.Test.YthdadalmgldppaaDoorMsgWalksF
namespace Go.Proofs.YthdadalmgldppaaDoor
open Go.RowKit
open Msg

/-- What stands in the two blocks that checkKind lays. -/
structure KindAt (g : Nat) (m : MsgD) (v : Value) (b1 b2 b3 b4 b5 : Bool) (w : World) : Prop where
  c8 : w.cell? ⟨g, 8, none⟩ = some (.int .i64 m.call)
  c9 : w.cell? ⟨g, 9, none⟩ = some (.int .i64 m.secs)
  c10 : w.cell? ⟨g, 10, none⟩ = some (.int .i64 m.route)
  c11 : w.cell? ⟨g, 11, none⟩ = some (.bool m.step)
  c12 : w.cell? ⟨g, 12, none⟩ = some v
  d0 : w.cell? ⟨g + 1, 0, none⟩ = some (.bool b1)
  d1 : w.cell? ⟨g + 1, 1, none⟩ = some (.bool b2)
  d2 : w.cell? ⟨g + 1, 2, none⟩ = some (.bool b3)
  d3 : w.cell? ⟨g + 1, 3, none⟩ = some (.bool b4)
  d4 : w.cell? ⟨g + 1, 4, none⟩ = some (.bool b5)
theorem kindAt_new (m : MsgD) (v : Value) (b1 b2 b3 b4 b5 : Bool) (w : World) : KindAt w.heap.size m v b1 b2 b3 b4 b5
    ((w.alloc (.cells #[.int .i64 m.src, .int .i64 m.seq, .int .i64 m.iss, .int .i64 m.exp, .int .i64 m.kind, str m.trip, .int .i64 m.day, .int .i64 m.inst, .int .i64 m.call, .int .i64 m.secs, .int .i64 m.route, .bool m.step, v] 24)).alloc
      (.cells #[.bool b1, .bool b2, .bool b3, .bool b4, .bool b5] 41)) := by
  constructor <;> simp
theorem KindAt.next {g : Nat} {m : MsgD} {v : Value} {b1 b2 b3 b4 b5 : Bool} {w w' : World} (h : KindAt g m v b1 b2 b3 b4 b5 w) (hb : Bl w w') (hg : g + 1 < w.heap.size) : KindAt g m v b1 b2 b3 b4 b5 w' := by
  obtain ⟨h1, h2, h3, h4, h5, h6, h7, h8, h9, h10⟩ := h
  refine ⟨?_, ?_, ?_, ?_, ?_, ?_, ?_, ?_, ?_, ?_⟩
  all_goals
    rw [(bl_cell hb).1 _ _ (by omega)]
    assumption
set_option maxRecDepth 20000 in
set_option maxHeartbeats 8000000 in
theorem kind_reroute (m : MsgD) (v : Value) (h1 : uCall m.kind = false) (h2 : uSecs m.kind = false) (h3 : uRoute m.kind = false) (h4 : uCalls m.kind = true) (B : Nat) (w : World) (hv : CallsIn B w v m.calls) (hB : B ≤ w.heap.size) :
    Calls Tryd.prog 26 #[msgV m v, .agg #[.bool false, .bool false, .bool false, .bool false, .bool true]] w fun e w' => e = .returned (.int .i64 (kindErr m)) ∧ Bl w w' := by
  have HV := Lib.hid hv
  obtain ⟨a, cap, rfl, l1, l2, l3⟩ := hv
  clear l3
  obtain ⟨ce, hce⟩ : ∃ ce, callsErr 64 0 3155932800 m.calls = ce := ⟨_, rfl⟩
  have HC := Lib.hid hce
  go_enter Tryd.func26, Tryd.ntmps26
  go_wp2_with fail
  have hk := kindAt_new m (.slice a m.calls.length cap) false false false false true w
  have hbl : Bl w ((w.alloc (.cells #[.int .i64 m.src, .int .i64 m.seq, .int .i64 m.iss, .int .i64 m.exp, .int .i64 m.kind, str m.trip, .int .i64 m.day, .int .i64 m.inst, .int .i64 m.call, .int .i64 m.secs, .int .i64 m.route, .bool m.step, .slice a m.calls.length cap] 24)).alloc
      (.cells #[.bool false, .bool false, .bool false, .bool false, .bool true] 41)) := bl_alloc (bl_alloc (bl_refl _) _) _
  have hsz : w.heap.size + 2 ≤ ((w.alloc (.cells #[.int .i64 m.src, .int .i64 m.seq, .int .i64 m.iss, .int .i64 m.exp, .int .i64 m.kind, str m.trip, .int .i64 m.day, .int .i64 m.inst, .int .i64 m.call, .int .i64 m.secs, .int .i64 m.route, .bool m.step, .slice a m.calls.length cap] 24)).alloc
      (.cells #[.bool false, .bool false, .bool false, .bool false, .bool true] 41)).heap.size := by simp
  generalize ((w.alloc (.cells #[.int .i64 m.src, .int .i64 m.seq, .int .i64 m.iss, .int .i64 m.exp, .int .i64 m.kind, str m.trip, .int .i64 m.day, .int .i64 m.inst, .int .i64 m.call, .int .i64 m.secs, .int .i64 m.route, .bool m.step, .slice a m.calls.length cap] 24)).alloc
      (.cells #[.bool false, .bool false, .bool false, .bool false, .bool true] 41)) = w2 at hk hbl hsz
  refine (calls_c _ m.calls 64 0 3155932800 ce HC B w2 (HV.out.below (hbl.mono hB)) (by omega)).mono ?_
  rintro e w3 ⟨⟨i, rfl⟩, b3⟩
  have B3 := bl_next hbl b3
  obtain ⟨c8, c9, c10, c11, c12, d0, d1, d2, d3, d4⟩ := hk.next b3 (by omega)
  clear hk hbl hsz b3
  by_cases h0 : ce = 0
  · subst h0
    go_wp2
    all_goals
      go_ret
      refine ⟨ret_int ?_, B3⟩
      unfold kindErr
      simp [*]
  · have g0 : (ce != 0) = true := by rw [bne_iff_ne]; exact h0
    go_wp2
    go_ret
    refine ⟨ret_int ?_, B3⟩
    unfold kindErr
    simp [*]
set_option maxRecDepth 20000 in
set_option maxHeartbeats 8000000 in
theorem kind_add (m : MsgD) (v : Value) (h1 : uCall m.kind = false) (h2 : uSecs m.kind = false) (h3 : uRoute m.kind = true) (h4 : uCalls m.kind = true) (B : Nat) (w : World) (hv : CallsIn B w v m.calls) (hB : B ≤ w.heap.size) :
    Calls Tryd.prog 26 #[msgV m v, .agg #[.bool false, .bool false, .bool true, .bool true, .bool true]] w fun e w' => e = .returned (.int .i64 (kindErr m)) ∧ Bl w w' := by
  have HV := Lib.hid hv
  obtain ⟨a, cap, rfl, l1, l2, l3⟩ := hv
  clear l3
  obtain ⟨ce, hce⟩ : ∃ ce, callsErr 64 0 3155932800 m.calls = ce := ⟨_, rfl⟩
  have HC := Lib.hid hce
  go_enter Tryd.func26, Tryd.ntmps26
  obtain ⟨b, hb⟩ : ∃ b, outside m.route 0 63 = b := ⟨_, rfl⟩
  cases b with
  | true =>
    go_wp2_with (go_at_call 23; refine (within_c _ _ _ _).mono ?_; rintro e w' ⟨rfl, rfl⟩)
    all_goals
      go_ret
      refine ⟨ret_int ?_, bl_alloc (bl_alloc (bl_refl _) _) _⟩
      unfold kindErr
      simp [*]
  | false =>
  go_wp2_with (go_at_call 23; refine (within_c _ _ _ _).mono ?_; rintro e w' ⟨rfl, rfl⟩)
  have hk := kindAt_new m (.slice a m.calls.length cap) false false true true true w
  have hbl : Bl w ((w.alloc (.cells #[.int .i64 m.src, .int .i64 m.seq, .int .i64 m.iss, .int .i64 m.exp, .int .i64 m.kind, str m.trip, .int .i64 m.day, .int .i64 m.inst, .int .i64 m.call, .int .i64 m.secs, .int .i64 m.route, .bool m.step, .slice a m.calls.length cap] 24)).alloc
      (.cells #[.bool false, .bool false, .bool true, .bool true, .bool true] 41)) := bl_alloc (bl_alloc (bl_refl _) _) _
  have hsz : w.heap.size + 2 ≤ ((w.alloc (.cells #[.int .i64 m.src, .int .i64 m.seq, .int .i64 m.iss, .int .i64 m.exp, .int .i64 m.kind, str m.trip, .int .i64 m.day, .int .i64 m.inst, .int .i64 m.call, .int .i64 m.secs, .int .i64 m.route, .bool m.step, .slice a m.calls.length cap] 24)).alloc
      (.cells #[.bool false, .bool false, .bool true, .bool true, .bool true] 41)).heap.size := by simp
  generalize ((w.alloc (.cells #[.int .i64 m.src, .int .i64 m.seq, .int .i64 m.iss, .int .i64 m.exp, .int .i64 m.kind, str m.trip, .int .i64 m.day, .int .i64 m.inst, .int .i64 m.call, .int .i64 m.secs, .int .i64 m.route, .bool m.step, .slice a m.calls.length cap] 24)).alloc
      (.cells #[.bool false, .bool false, .bool true, .bool true, .bool true] 41)) = w2 at hk hbl hsz
  refine (calls_c _ m.calls 64 0 3155932800 ce HC B w2 (HV.out.below (hbl.mono hB)) (by omega)).mono ?_
  rintro e w3 ⟨⟨i, rfl⟩, b3⟩
  have B3 := bl_next hbl b3
  obtain ⟨c8, c9, c10, c11, c12, d0, d1, d2, d3, d4⟩ := hk.next b3 (by omega)
  clear hk hbl hsz b3
  by_cases h0 : ce = 0
  · subst h0
    go_wp2
    all_goals
      go_ret
      refine ⟨ret_int ?_, B3⟩
      unfold kindErr
      simp [*]
  · have g0 : (ce != 0) = true := by rw [bne_iff_ne]; exact h0
    go_wp2
    go_ret
    refine ⟨ret_int ?_, B3⟩
    unfold kindErr
    simp [*]
end Go.Proofs.YthdadalmgldppaaDoor
