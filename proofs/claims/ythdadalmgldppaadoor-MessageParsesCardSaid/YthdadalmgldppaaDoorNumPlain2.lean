/-
  THE PLAIN MATHEMATICS OF DECIMAL NUMBERS, SECOND PART: lengths, and the digits ahead of the last one. Conditions: none.
-/
import Derived.Test.YthdadalmgldppaaDoorNumPlain
namespace Go.Proofs.YthdadalmgldppaaDoor.Num

theorem length_decDigits (u : Nat) : (decDigits u).length ≤ u / 10 + 1 := by
  induction u using Nat.strongRecOn with
  | _ u ih =>
    by_cases h : u < 10
    · rw [decDigits_small h]; simp
    · rw [decDigits_big h]
      have := ih (u / 10) (by omega)
      simp only [List.length_append, List.length_cons, List.length_nil]
      omega

theorem length_lt_pow (k u : Nat) (h : u < 10 ^ (k + 1)) : (decDigits u).length ≤ k + 1 := by
  induction k generalizing u with
  | zero => rw [decDigits_small (by simpa using h)]; simp
  | succ k ih =>
    by_cases hs : u < 10
    · rw [decDigits_small hs]; simp
    · rw [decDigits_big hs]
      have := ih (u / 10) (by rw [Nat.pow_succ] at h; omega)
      simp only [List.length_append, List.length_cons, List.length_nil]
      omega
theorem length_19 (u : Nat) (h : u ≤ 9223372036854775808) : (decDigits u).length ≤ 19 := by
  refine length_lt_pow 18 u ?_
  have : (10 : Nat) ^ (18 + 1) = 10000000000000000000 := by decide
  omega
theorem length_pos (u : Nat) : 0 < (decDigits u).length := by
  have := decDigits_ne u
  cases h : decDigits u with
  | nil => exact absurd h this
  | cons a t => simp

/-- The digits ahead of the last one. -/
def front (m : Nat) : List UInt8 := if 9 < m then decDigits (m / 10) else []
theorem decDigits_front (m : Nat) : decDigits m = front m ++ [UInt8.ofNat (48 + m % 10)] := by
  unfold front
  by_cases h : 9 < m
  · rw [if_pos h, decDigits_big (by omega)]
  · rw [if_neg h, decDigits_small (by omega), Nat.mod_eq_of_lt (by omega)]
    rfl
/-- The digits of a number, none of nought. -/
def some0 (m : Nat) : List UInt8 := if 0 < m then decDigits m else []
theorem front_some (m : Nat) : front m = some0 (m / 10) := by
  unfold front some0
  by_cases h : 9 < m
  · rw [if_pos h, if_pos (by omega)]
  · rw [if_neg h, if_neg (by omega)]


end Go.Proofs.YthdadalmgldppaaDoor.Num
