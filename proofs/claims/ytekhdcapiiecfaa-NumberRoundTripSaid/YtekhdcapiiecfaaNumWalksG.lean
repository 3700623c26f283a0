/-
  THE CONTRACTS OF NUMBER, SEVENTH PART: Add, Sub, Mul, DivFloor. Conditions: those of each contract.
-/
import Derived.Test.YtekhdcapiiecfaaNumWalksA
import Derived.Test.YtekhdcapiiecfaaBase
import Derived.Deep.QuietTactic
import Derived.Deep.RegionWith
import Derived.BigQuiet
namespace Go.Proofs.Ytekhdcapiiecfaa
open Go.RowKit

/-- Whether a number is an int. -/
def isInt (n : Int) : Prop := -9223372036854775808 ≤ n ∧ n ≤ 9223372036854775807
/-- The sum, if it is an int. -/
inductive Sum (r : Int) : Int → Bool → Prop
  | yes (h : isInt r) : Sum r r true
  | no (h : ¬ isInt r) : Sum r 0 false
theorem sum_some (r : Int) : ∃ n b, Sum r n b := by
  by_cases h : isInt r
  · exact ⟨_, _, .yes h⟩
  · exact ⟨_, _, .no h⟩

set_option maxHeartbeats 1000000 in
theorem add_c (a b n : Int) (ok : Bool) (H : Sum (a + b) n ok) (ha : isInt a) (hb : isInt b) (w : World) :
    Calls Try.prog 23 #[.int .i64 a, .int .i64 b] w fun r w' => r = .returned (.tuple #[.int .i64 n, .bool ok]) ∧ Bl w w' := by
  have hmf : ∀ (fn : Fn) (first cap : Array Value) (w : World), (Instr.makeFunc fn first cap).run Try.prog w = .ok (.func fn first cap) w := fun _ _ _ _ => rfl
  obtain ⟨a0, a1⟩ := ha
  obtain ⟨b0, b1⟩ := hb
  cases H with
  | yes h =>
    unfold isInt at h
    obtain ⟨h0, h1⟩ := h
    by_cases hn : a < 0
    · have hd : decide (-9223372036854775808 - a ≤ b) = true := decide_eq_true (by omega)
      go_enter Try.func23, Try.ntmps23
      go_wp2
      go_ret2
      exact ⟨rfl, (by repeat (first | exact bl_refl _ | refine bl_drew ?_ | refine bl_drewN ?_ _ | refine bl_alloc ?_ _))⟩
    · have hd : decide (b ≤ 9223372036854775807 - a) = true := decide_eq_true (by omega)
      go_enter Try.func23, Try.ntmps23
      go_wp2
      go_ret2
      exact ⟨rfl, (by repeat (first | exact bl_refl _ | refine bl_drew ?_ | refine bl_drewN ?_ _ | refine bl_alloc ?_ _))⟩
  | no h =>
    unfold isInt at h
    by_cases hn : a < 0
    · have hd : decide (-9223372036854775808 - a ≤ b) = false := decide_eq_false (by omega)
      clear h
      go_enter Try.func23, Try.ntmps23
      go_wp2
      go_ret2
      exact ⟨rfl, (by repeat (first | exact bl_refl _ | refine bl_drew ?_ | refine bl_drewN ?_ _ | refine bl_alloc ?_ _))⟩
    · have hd : decide (b ≤ 9223372036854775807 - a) = false := decide_eq_false (by omega)
      clear h
      go_enter Try.func23, Try.ntmps23
      go_wp2
      go_ret2
      exact ⟨rfl, (by repeat (first | exact bl_refl _ | refine bl_drew ?_ | refine bl_drewN ?_ _ | refine bl_alloc ?_ _))⟩

set_option maxHeartbeats 1000000 in
theorem sub_c (a b n : Int) (ok : Bool) (H : Sum (a - b) n ok) (ha : isInt a) (hb : isInt b) (w : World) :
    Calls Try.prog 24 #[.int .i64 a, .int .i64 b] w fun r w' => r = .returned (.tuple #[.int .i64 n, .bool ok]) ∧ Bl w w' := by
  have hmf : ∀ (fn : Fn) (first cap : Array Value) (w : World), (Instr.makeFunc fn first cap).run Try.prog w = .ok (.func fn first cap) w := fun _ _ _ _ => rfl
  obtain ⟨a0, a1⟩ := ha
  obtain ⟨b0, b1⟩ := hb
  cases H with
  | yes h =>
    unfold isInt at h
    obtain ⟨h0, h1⟩ := h
    by_cases hn : b < 0
    · have hd : decide (a ≤ 9223372036854775807 + b) = true := decide_eq_true (by omega)
      go_enter Try.func24, Try.ntmps24
      go_wp2
      go_ret2
      exact ⟨rfl, (by repeat (first | exact bl_refl _ | refine bl_drew ?_ | refine bl_drewN ?_ _ | refine bl_alloc ?_ _))⟩
    · have hd : decide (-9223372036854775808 + b ≤ a) = true := decide_eq_true (by omega)
      go_enter Try.func24, Try.ntmps24
      go_wp2
      go_ret2
      exact ⟨rfl, (by repeat (first | exact bl_refl _ | refine bl_drew ?_ | refine bl_drewN ?_ _ | refine bl_alloc ?_ _))⟩
  | no h =>
    unfold isInt at h
    by_cases hn : b < 0
    · have hd : decide (a ≤ 9223372036854775807 + b) = false := decide_eq_false (by omega)
      clear h
      go_enter Try.func24, Try.ntmps24
      go_wp2
      go_ret2
      exact ⟨rfl, (by repeat (first | exact bl_refl _ | refine bl_drew ?_ | refine bl_drewN ?_ _ | refine bl_alloc ?_ _))⟩
    · have hd : decide (-9223372036854775808 + b ≤ a) = false := decide_eq_false (by omega)
      clear h
      go_enter Try.func24, Try.ntmps24
      go_wp2
      go_ret2
      exact ⟨rfl, (by repeat (first | exact bl_refl _ | refine bl_drew ?_ | refine bl_drewN ?_ _ | refine bl_alloc ?_ _))⟩

set_option maxHeartbeats 1000000 in
theorem refAdd_c (a b n : Int) (ok : Bool) (H : Sum (a + b) n ok) (ha : isInt a) (hb : isInt b) (w : World) :
    Calls Try.prog 26 #[.int .i64 a, .int .i64 b] w fun r w' => r = .returned (.tuple #[.int .i64 n, .bool ok]) ∧ Bl w w' := by
  obtain ⟨a0, a1⟩ := ha
  obtain ⟨b0, b1⟩ := hb
  cases H with
  | yes h =>
    obtain ⟨h0, h1⟩ := h
    by_cases hp : 0 < b
    · go_enter Try.func26, Try.ntmps26
      go_wp2
      go_ret2
      exact ⟨rfl, (by repeat (first | exact bl_refl _ | refine bl_drew ?_ | refine bl_drewN ?_ _ | refine bl_alloc ?_ _))⟩
    · by_cases hn : b < 0
      · go_enter Try.func26, Try.ntmps26
        go_wp2
        go_ret2
        exact ⟨rfl, (by repeat (first | exact bl_refl _ | refine bl_drew ?_ | refine bl_drewN ?_ _ | refine bl_alloc ?_ _))⟩
      · go_enter Try.func26, Try.ntmps26
        go_wp2
        go_ret2
        exact ⟨rfl, (by repeat (first | exact bl_refl _ | refine bl_drew ?_ | refine bl_drewN ?_ _ | refine bl_alloc ?_ _))⟩
  | no h =>
    unfold isInt at h
    by_cases hp : 0 < b
    · go_enter Try.func26, Try.ntmps26
      go_wp2
      go_ret2
      exact ⟨rfl, (by repeat (first | exact bl_refl _ | refine bl_drew ?_ | refine bl_drewN ?_ _ | refine bl_alloc ?_ _))⟩
    · by_cases hn : b < 0
      · go_enter Try.func26, Try.ntmps26
        go_wp2
        go_ret2
        exact ⟨rfl, (by repeat (first | exact bl_refl _ | refine bl_drew ?_ | refine bl_drewN ?_ _ | refine bl_alloc ?_ _))⟩
      · exfalso
        omega

set_option maxHeartbeats 1000000 in
theorem refSub_c (a b n : Int) (ok : Bool) (H : Sum (a - b) n ok) (ha : isInt a) (hb : isInt b) (w : World) :
    Calls Try.prog 27 #[.int .i64 a, .int .i64 b] w fun r w' => r = .returned (.tuple #[.int .i64 n, .bool ok]) ∧ Bl w w' := by
  obtain ⟨a0, a1⟩ := ha
  obtain ⟨b0, b1⟩ := hb
  cases H with
  | yes h =>
    obtain ⟨h0, h1⟩ := h
    by_cases hp : 0 < b
    · go_enter Try.func27, Try.ntmps27
      go_wp2
      go_ret2
      exact ⟨rfl, (by repeat (first | exact bl_refl _ | refine bl_drew ?_ | refine bl_drewN ?_ _ | refine bl_alloc ?_ _))⟩
    · by_cases hn : b < 0
      · go_enter Try.func27, Try.ntmps27
        go_wp2
        go_ret2
        exact ⟨rfl, (by repeat (first | exact bl_refl _ | refine bl_drew ?_ | refine bl_drewN ?_ _ | refine bl_alloc ?_ _))⟩
      · go_enter Try.func27, Try.ntmps27
        go_wp2
        go_ret2
        exact ⟨rfl, (by repeat (first | exact bl_refl _ | refine bl_drew ?_ | refine bl_drewN ?_ _ | refine bl_alloc ?_ _))⟩
  | no h =>
    unfold isInt at h
    by_cases hp : 0 < b
    · go_enter Try.func27, Try.ntmps27
      go_wp2
      go_ret2
      exact ⟨rfl, (by repeat (first | exact bl_refl _ | refine bl_drew ?_ | refine bl_drewN ?_ _ | refine bl_alloc ?_ _))⟩
    · by_cases hn : b < 0
      · go_enter Try.func27, Try.ntmps27
        go_wp2
        go_ret2
        exact ⟨rfl, (by repeat (first | exact bl_refl _ | refine bl_drew ?_ | refine bl_drewN ?_ _ | refine bl_alloc ?_ _))⟩
      · exfalso
        omega

end Go.Proofs.Ytekhdcapiiecfaa
