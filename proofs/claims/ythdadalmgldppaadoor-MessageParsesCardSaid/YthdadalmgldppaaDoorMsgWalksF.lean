/-
  THE CONTRACTS OF MESSAGE, SIXTH PART: checkKind and Check of the program. Conditions: those of each contract.
-/
import Derived.Test.YthdadalmgldppaaDoorMsgWalksE
namespace Go.Proofs.YthdadalmgldppaaDoor
open Go.RowKit
open Msg

set_option maxRecDepth 20000 in
set_option maxHeartbeats 4000000 in
theorem kind_none (m : MsgD) (v : Value) (h1 : uCall m.kind = false) (h2 : uSecs m.kind = false) (h3 : uRoute m.kind = false) (h4 : uCalls m.kind = false) (B : Nat) (w : World) (hv : CallsIn B w v m.calls) :
    Calls Tryd.prog 26 #[msgV m v, .agg #[.bool false, .bool false, .bool false, .bool false, .bool false]] w fun e w' => e = .returned (.int .i64 (kindErr m)) ∧ Bl w w' := by
  obtain ⟨a, cap, rfl, l1, l2, l3⟩ := hv
  clear l3
  go_enter Tryd.func26, Tryd.ntmps26
  go_wp2_with fail
  all_goals
    go_ret
    refine ⟨ret_int ?_, bl_alloc (bl_alloc (bl_refl _) _) _⟩
    unfold kindErr
    simp [*]
  all_goals first
    | (intro hz; simp_all)
    | (apply List.length_eq_zero_iff.1; omega)
set_option maxRecDepth 20000 in
set_option maxHeartbeats 4000000 in
theorem kind_skip (m : MsgD) (v : Value) (h1 : uCall m.kind = true) (h2 : uSecs m.kind = false) (h3 : uRoute m.kind = false) (h4 : uCalls m.kind = false) (B : Nat) (w : World) (hv : CallsIn B w v m.calls) :
    Calls Tryd.prog 26 #[msgV m v, .agg #[.bool true, .bool false, .bool false, .bool false, .bool false]] w fun e w' => e = .returned (.int .i64 (kindErr m)) ∧ Bl w w' := by
  obtain ⟨a, cap, rfl, l1, l2, l3⟩ := hv
  clear l3
  obtain ⟨b, hb⟩ : ∃ b, outside m.call 0 31 = b := ⟨_, rfl⟩
  have HB := Lib.hid hb
  have hw := within_c m.call 0 31
  rw [hb] at hw
  clear hb
  go_enter Tryd.func26, Tryd.ntmps26
  cases b
  all_goals
    go_wp2_with (go_at_call 23; refine (hw _).mono ?_; rintro e w' ⟨rfl, rfl⟩)
    all_goals
      go_ret
      refine ⟨ret_int ?_, bl_alloc (bl_alloc (bl_refl _) _) _⟩
      have hb := HB.out
      unfold kindErr
      simp [*]
  all_goals first
    | (intro hz; simp_all)
    | (apply List.length_eq_zero_iff.1; omega)
set_option maxRecDepth 20000 in
set_option maxHeartbeats 8000000 in
theorem kind_delay (m : MsgD) (v : Value) (h1 : uCall m.kind = true) (h2 : uSecs m.kind = true) (h3 : uRoute m.kind = false) (h4 : uCalls m.kind = false) (B : Nat) (w : World) (hv : CallsIn B w v m.calls) :
    Calls Tryd.prog 26 #[msgV m v, .agg #[.bool true, .bool true, .bool false, .bool false, .bool false]] w fun e w' => e = .returned (.int .i64 (kindErr m)) ∧ Bl w w' := by
  obtain ⟨a, cap, rfl, l1, l2, l3⟩ := hv
  clear l3
  obtain ⟨b, hb⟩ : ∃ b, outside m.call 0 31 = b := ⟨_, rfl⟩
  obtain ⟨c, hc⟩ : ∃ c, outside m.secs (-43200) 43200 = c := ⟨_, rfl⟩
  go_enter Tryd.func26, Tryd.ntmps26
  cases b <;> cases c
  all_goals
    go_wp2_with (go_at_call 23; refine (within_c _ _ _ _).mono ?_; rintro e w' ⟨rfl, rfl⟩)
    all_goals
      go_ret
      refine ⟨ret_int ?_, bl_alloc (bl_alloc (bl_refl _) _) _⟩
      unfold kindErr
      simp [*]
  all_goals first
    | (intro hz; simp_all)
    | (apply List.length_eq_zero_iff.1; omega)
end Go.Proofs.YthdadalmgldppaaDoor
