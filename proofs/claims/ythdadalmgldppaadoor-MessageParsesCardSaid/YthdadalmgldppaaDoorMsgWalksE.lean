/-
  THE CONTRACTS OF MESSAGE, FIFTH PART: within, used, Check of the program. Conditions: those of each contract.
-/
import Derived.Test.YthdadalmgldppaaDoorMsgWalksD
import Derived.Test.YthdadalmgldppaaDoorDaDatWalksA
namespace Go.Proofs.YthdadalmgldppaaDoor
open Go.RowKit
open Msg

/-- A message as a value: its list of calls is the value v. -/
abbrev msgV (m : MsgD) (v : Value) : Value := .agg #[.int .i64 m.src, .int .i64 m.seq, .int .i64 m.iss, .int .i64 m.exp, .int .i64 m.kind, str m.trip, .int .i64 m.day, .int .i64 m.inst, .int .i64 m.call, .int .i64 m.secs, .int .i64 m.route, .bool m.step, v]
abbrev usesV (k : Int) : Value := .agg #[.bool (uCall k), .bool (uSecs k), .bool (uRoute k), .bool (uRoute k), .bool (uCalls k)]
theorem within_c (n lo hi : Int) (w : World) :
    Calls Tryd.prog 23 #[.int .i64 n, .int .i64 lo, .int .i64 hi] w fun e w' => e = .returned (.bool (!outside n lo hi)) ∧ w = w' := by
  go_enter Tryd.func23, Tryd.ntmps23
  go_wp2
  all_goals
    go_ret
    refine ⟨ret_bool ?_, rfl⟩
    unfold outside
    rw [Bool.eq_iff_iff]
    simp
    omega
theorem used_c (k : Int) (w : World) :
    Calls Tryd.prog 27 #[.int .i64 k] w fun e w' => e = .returned (usesV k) ∧ Bl w w' := by
  by_cases h1 : k = 1
  · subst h1
    go_enter Tryd.func27, Tryd.ntmps27
    go_wp2
    refine bodyPost_ret (results_cell_row rfl _ _ w.heap.size 41 _ (0, 0) _ rfl (heap_alloc_new w _) Tryd.underlying41 rfl (by kernel_rfl)) rfl ?_
    exact ⟨rfl, bl_alloc (bl_refl _) _⟩
  by_cases h3 : k = 3
  · subst h3
    go_enter Tryd.func27, Tryd.ntmps27
    go_wp2
    refine bodyPost_ret (results_cell_row rfl _ _ w.heap.size 41 _ (0, 0) _ rfl (heap_alloc_new w _) Tryd.underlying41 rfl (by kernel_rfl)) rfl ?_
    exact ⟨rfl, bl_alloc (bl_refl _) _⟩
  by_cases h4 : k = 4
  · subst h4
    go_enter Tryd.func27, Tryd.ntmps27
    go_wp2
    refine bodyPost_ret (results_cell_row rfl _ _ w.heap.size 41 _ (0, 0) _ rfl (heap_alloc_new w _) Tryd.underlying41 rfl (by kernel_rfl)) rfl ?_
    exact ⟨rfl, bl_alloc (bl_refl _) _⟩
  by_cases h5 : k = 5
  · subst h5
    go_enter Tryd.func27, Tryd.ntmps27
    go_wp2
    refine bodyPost_ret (results_cell_row rfl _ _ w.heap.size 41 _ (0, 0) _ rfl (heap_alloc_new w _) Tryd.underlying41 rfl (by kernel_rfl)) rfl ?_
    exact ⟨rfl, bl_alloc (bl_refl _) _⟩
  have e1 : (k == 1) = false := by rw [beq_eq_false_iff_ne]; exact h1
  have e3 : (k == 3) = false := by rw [beq_eq_false_iff_ne]; exact h3
  have e4 : (k == 4) = false := by rw [beq_eq_false_iff_ne]; exact h4
  have e5 : (k == 5) = false := by rw [beq_eq_false_iff_ne]; exact h5
  go_enter Tryd.func27, Tryd.ntmps27
  go_wp2
  refine bodyPost_ret (results_cell_row rfl _ _ w.heap.size 41 _ (0, 0) _ rfl (heap_alloc_new w _) Tryd.underlying41 rfl (by kernel_rfl)) rfl ?_
  exact ⟨by simp [uCall, uSecs, uRoute, uCalls, e1, e3, e4, e5], bl_alloc (bl_refl _) _⟩
end Go.Proofs.YthdadalmgldppaaDoor
