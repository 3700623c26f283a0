/-
  THE PLAIN FUNCTIONS OF DURATIONS: what the program's ParseDuration computes, and what the reference's does. Conditions: none.
-/
import Derived.Test.YtnmapjflofoflaaClkPlain
import Derived.Lib.IndexMore
namespace Go.Proofs.Ytnmapjflofoflaa
open Num Clk

/-- The value of a first number, cut down to 1000000. -/
def leadS (l : List UInt8) : Int × Bool := if canon l = true then (((min 1000000 (val l) : Nat) : Int), true) else (0, false)
/-- The value of two digits below 60. -/
def follS (l : List UInt8) : Int × Bool := match l with | [x, y] => if isDig x = true ∧ isDig y = true ∧ x.toNat < 54 then (pair x y, true) else (0, false) | _ => (0, false)

/-- The texts of a duration's numbers. -/
def partsS (l : List UInt8) : Option (List (List UInt8)) :=
  if Lib.hasSuffix l [115] = true then
    (if (Lib.cut (Lib.trimSuffix l [115]) [109]).2.2 = true then
      (if (Lib.cut (Lib.cut (Lib.trimSuffix l [115]) [109]).1 [104]).2.2 = true then
        some [(Lib.cut (Lib.cut (Lib.trimSuffix l [115]) [109]).1 [104]).1, (Lib.cut (Lib.cut (Lib.trimSuffix l [115]) [109]).1 [104]).2.1, (Lib.cut (Lib.trimSuffix l [115]) [109]).2.1]
      else some [(Lib.cut (Lib.trimSuffix l [115]) [109]).1, (Lib.cut (Lib.trimSuffix l [115]) [109]).2.1])
    else some [Lib.trimSuffix l [115]])
  else none

def sumS : List (List UInt8) → Int × Int
  | [a] => if (leadS a).2 = true ∧ (leadS a).1 ≤ 59 then ((leadS a).1, 0) else (0, 3)
  | [a, b] => if (leadS a).2 = true ∧ (leadS a).1 ≤ 59 ∧ ¬ (leadS a).1 = 0 ∧ (follS b).2 = true then (60 * (leadS a).1 + (follS b).1, 0) else (0, 3)
  | [a, b, c] => if (leadS a).2 = true ∧ ¬ (leadS a).1 = 0 ∧ (follS b).2 = true ∧ (follS c).2 = true then
      (if 60 * (60 * (leadS a).1 + (follS b).1) + (follS c).1 ≤ 359999 then (60 * (60 * (leadS a).1 + (follS b).1) + (follS c).1, 0) else (0, 2)) else (0, 3)
  | _ => (0, 3)
/-- What the program's ParseDuration computes. -/
def pdur (l : List UInt8) : Int × Int := match partsS l with | some ls => sumS ls | none => (0, 3)

theorem partsS_cases (l : List UInt8) : partsS l = none ∨ (∃ a, partsS l = some [a]) ∨ (∃ a b, partsS l = some [a, b]) ∨ ∃ a b c, partsS l = some [a, b, c] := by
  unfold partsS
  split
  · split
    · split
      · exact .inr (.inr (.inr ⟨_, _, _, rfl⟩))
      · exact .inr (.inr (.inl ⟨_, _, rfl⟩))
    · exact .inr (.inl ⟨_, rfl⟩)
  · exact .inl rfl
end Go.Proofs.Ytnmapjflofoflaa
