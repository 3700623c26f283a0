/-
  THE PLAIN MATHEMATICS OF FIELDS, FOURTH PART: the library's Split at one byte, in our words. Conditions: none.
-/
import Derived.Test.YtonmfcnkdgdkbaaDoorFldPlain3
import Derived.Lib.SplitLaws
namespace Go.Proofs.YtonmfcnkdgdkbaaDoor.Fld
open Go

theorem index_eq0 (c : UInt8) (l : List UInt8) : Lib.index (c :: l) [c] = 0 := by rw [Lib.index]; simp [List.isPrefixOf]
theorem index_ne (b c : UInt8) (l : List UInt8) (h : b ≠ c) : Lib.index (b :: l) [c] = if Lib.index l [c] == -1 then -1 else Lib.index l [c] + 1 := by
  have hp : ([c] : List UInt8).isPrefixOf (b :: l) = false := by simp [List.isPrefixOf, Ne.symm h]
  rw [Lib.index, hp]
  simp
theorem splitK_L (c : UInt8) : ∀ s : List UInt8, Lib.splitK [c] 0 (Lib.count s [c]) s = splitL c s
  | [] => by
    rw [Lib.count_miss (by simp [Lib.index])]
    rfl
  | b :: l => by
    have ih := splitK_L c l
    by_cases h : b = c
    · subst h
      rw [Lib.count_cons_eq, splitL_sep, Nat.add_comm, Lib.splitK, index_eq0]
      simp [ih]
    · rw [Lib.count_cons_ne b c l h]
      by_cases hm : Lib.index l [c] = -1
      · have hm' : Lib.index (b :: l) [c] = -1 := by rw [index_ne b c l h, if_pos (beq_iff_eq.2 hm)]
        rw [Lib.count_miss hm] at ih ⊢
        have ih' : [l] = splitL c l := ih
        exact (splitL_other h ih'.symm).symm
      · have hge := Lib.index_ge l [c]
        obtain ⟨j, hj⟩ : ∃ j : Nat, Lib.index l [c] = j := ⟨(Lib.index l [c]).toNat, by omega⟩
        have hj' : Lib.index (b :: l) [c] = ((j + 1 : Nat) : Int) := by rw [index_ne b c l h, if_neg (fun e => hm (beq_iff_eq.1 e)), hj]; omega
        rw [Lib.count_hit (by simp) hj, Nat.add_comm, Lib.splitK, hj, if_neg (by rw [beq_iff_eq]; omega)] at ih
        rw [Lib.count_hit (by simp) hj, Nat.add_comm, Lib.splitK, hj', if_neg (by rw [beq_iff_eq]; omega)]
        rw [splitL_other h ih.symm]
        simp
end Go.Proofs.YtonmfcnkdgdkbaaDoor.Fld
