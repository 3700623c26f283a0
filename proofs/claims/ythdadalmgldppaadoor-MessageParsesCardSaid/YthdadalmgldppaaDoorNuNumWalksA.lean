/-
  THE CONTRACTS OF NUMBER, FIRST PART: Clamp, plain, value, the reference's digit and digits. Conditions: those of each contract.
-/
import Derived.Test.YthdadalmgldppaaDoorRows
import Derived.Test.YthdadalmgldppaaDoorNumPlain
import Derived.WalkKit
import Derived.WalkSpells
import Derived.WalkLawsBesides
import Derived.Lib.Hide
namespace Go.Proofs.YthdadalmgldppaaDoor.Nu
open Go.RowKit
open Num

theorem ret_int {k : IntKind} {a b : Int} (h : a = b) : Ending.returned (.int k a) = .returned (.int k b) := by rw [h]
theorem ret_bool {a b : Bool} (h : a = b) : Ending.returned (.bool a) = .returned (.bool b) := by rw [h]

/-! ### Clamp -/
def clampS (n lo hi : Int) : Int := if n < lo then lo else if hi < n then hi else n
theorem first_non (s : ByteArray) : ∃ p : Nat, p ≤ s.size ∧ (∀ k (h : k < s.size), k < p → isDig (s[k]'h) = true) ∧ ∀ h : p < s.size, isDig (s[p]'h) = false := by
  suffices H : ∀ n, n ≤ s.size → (∀ k (h : k < s.size), k < s.size - n → isDig (s[k]'h) = true) → ∃ p : Nat, p ≤ s.size ∧ (∀ k (h : k < s.size), k < p → isDig (s[k]'h) = true) ∧ ∀ h : p < s.size, isDig (s[p]'h) = false from
    H s.size (Nat.le_refl _) (fun k h hk => by omega)
  intro n
  induction n with
  | zero => intro _ h; exact ⟨s.size, Nat.le_refl _, fun k hk _ => h k hk (by omega), fun h => absurd h (by omega)⟩
  | succ n ih =>
    intro hn h
    by_cases hd : isDig (s[s.size - (n + 1)]'(by omega)) = true
    · refine ih (by omega) fun k hk hlt => ?_
      by_cases e : k = s.size - (n + 1)
      · subst e; exact hd
      · exact h k hk (by omega)
    · exact ⟨s.size - (n + 1), by omega, h, fun _ => by simpa using hd⟩

theorem bytes_get (s : ByteArray) (k : Nat) (h : k < s.size) : s.data.toList[k]'(by simpa using h) = s[k]'h := by simp; rfl
theorem allDig_iff (s : ByteArray) : allDig s.data.toList = true ↔ ∀ k (h : k < s.size), isDig (s[k]'h) = true := by
  simp only [allDig, List.all_eq_true]
  constructor
  · intro h k hk
    have := h (s.data.toList[k]'(by simpa using hk)) (List.getElem_mem _)
    rwa [bytes_get s k hk] at this
  · intro h c hc
    obtain ⟨k, hk, rfl⟩ := List.getElem_of_mem hc
    have hk' : k < s.size := by simpa using hk
    rw [bytes_get s k hk']
    exact h k hk'

theorem isDig_bounds {c : UInt8} (h : isDig c = true) : 48 ≤ (c.toNat : Int) ∧ (c.toNat : Int) ≤ 57 := by
  rw [isDig_iff] at h; omega
theorem not_dig {c : UInt8} (h : isDig c = false) : (c.toNat : Int) < 48 ∨ 57 < (c.toNat : Int) := by
  have : ¬ (48 ≤ c.toNat ∧ c.toNat ≤ 57) := by rw [← isDig_iff, h]; simp
  omega

theorem canon_parts (s : ByteArray) : canon s.data.toList = (allDig s.data.toList && !decide (s.size = 0) && (if h : 0 < s.size then decide ((s[0]'h).toNat ≠ 48) || decide (s.size = 1) else true)) := by
  by_cases h : 0 < s.size
  · have h' : 0 < s.data.toList.length := by simpa using h
    cases hl : s.data.toList with
    | nil => rw [hl] at h'; simp at h'
    | cons a t =>
      have ha : s[0]'h = a := by rw [← bytes_get s 0 h]; simp [hl]
      have hsz : s.size = t.length + 1 := by
        have : s.data.toList.length = s.size := by simp
        rw [hl] at this
        simpa using this.symm
      have h48 : (a = 48) ↔ a.toNat = 48 := ⟨fun e => by rw [e]; rfl, fun e => UInt8.toNat.inj (by simpa using e)⟩
      simp only [canon, ha, hsz]
      by_cases h1 : a = 48
      · cases t <;> simp [h1]
      · have h2 : ¬ a.toNat = 48 := fun e => h1 (h48.2 e)
        simp [h1, h2]
  · have h0 : s.size = 0 := by omega
    have : s.data.toList = [] := List.length_eq_zero_iff.1 (by simpa using h0)
    simp [canon, this, h0]
end Go.Proofs.YthdadalmgldppaaDoor.Nu
