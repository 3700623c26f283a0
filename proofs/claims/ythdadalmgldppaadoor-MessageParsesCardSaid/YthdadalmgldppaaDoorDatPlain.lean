/-
  THE PLAIN MATHEMATICS OF DAYS AND DATES FROM 2000 TO 2099: integers and lists of bytes; no program in sight. Conditions: none.
-/
import Derived.Test.YthdadalmgldppaaDoorClkPlain
namespace Go.Proofs.YthdadalmgldppaaDoor.Dat
open Num Clk

/-- Is there a calendar of this year, and is it a leap year? -/
def leapB (y : Int) : Bool := (decide (2000 ≤ y) && decide (y ≤ 2099)) && decide (y % 4 = 0)
/-- The length of a month of a year of the calendar. -/
def mlen (y m : Int) : Int := if m = 2 then (if y % 4 = 0 then 29 else 28) else if m = 4 ∨ m = 6 ∨ m = 9 ∨ m = 11 then 30 else 31
def days (y m : Int) : Int × Bool := if (2000 ≤ y ∧ y ≤ 2099) ∧ (1 ≤ m ∧ m ≤ 12) then (mlen y m, true) else (0, false)
/-- The days ahead of the month with the index i, counted from January 2000. -/
def cum : Nat → Int
  | 0 => 0
  | i + 1 => cum i + mlen (2000 + (i : Int) / 12) (1 + (i : Int) % 12)
def fromCivil (y m d : Int) : Int × Bool :=
  if (2000 ≤ y ∧ y ≤ 2099) ∧ (1 ≤ m ∧ m ≤ 12) ∧ (1 ≤ d ∧ d ≤ mlen y m) then (cum (12 * (y - 2000) + m - 1).toNat + d - 1, true) else (0, false)

theorem mlen_bd (y m : Int) : 28 ≤ mlen y m ∧ mlen y m ≤ 31 := by
  unfold mlen
  split
  · split <;> omega
  · split <;> omega
theorem cum_succ (i : Nat) : cum (i + 1) = cum i + mlen (2000 + (i : Int) / 12) (1 + (i : Int) % 12) := rfl
theorem cum_mono (i k : Nat) : cum i + 28 * (k : Int) ≤ cum (i + k) := by
  induction k with
  | zero => simp
  | succ k ih =>
    have := mlen_bd (2000 + ((i + k : Nat) : Int) / 12) (1 + ((i + k : Nat) : Int) % 12)
    rw [← Nat.add_assoc, cum_succ]
    omega
theorem cum_le {i j : Nat} (h : i ≤ j) : cum i + 28 * ((j : Int) - (i : Int)) ≤ cum j := by
  have := cum_mono i (j - i)
  rw [show i + (j - i) = j by omega] at this
  omega
theorem cum_nonneg (i : Nat) : 28 * (i : Int) ≤ cum i := by
  have := cum_le (Nat.zero_le i)
  simp [cum] at this
  omega

/-- One month's index of the year with the index k. -/
theorem cum_month (k j : Nat) (h : j < 12) : cum (12 * k + j + 1) = cum (12 * k + j) + mlen (2000 + (k : Int)) (1 + (j : Int)) := by
  rw [cum_succ]
  rw [show ((12 * k + j : Nat) : Int) / 12 = k by omega, show ((12 * k + j : Nat) : Int) % 12 = j by omega]

/-- The days of a year ahead of its month with the index j. -/
def cj (lp : Int) : Nat → Int
  | 0 => 0
  | 1 => 31
  | 2 => 59 + lp
  | 3 => 90 + lp
  | 4 => 120 + lp
  | 5 => 151 + lp
  | 6 => 181 + lp
  | 7 => 212 + lp
  | 8 => 243 + lp
  | 9 => 273 + lp
  | 10 => 304 + lp
  | 11 => 334 + lp
  | _ => 365 + lp
def lpI (y : Int) : Int := if y % 4 = 0 then 1 else 0
theorem lpI_cases (y : Int) : (y % 4 = 0 ∧ lpI y = 1) ∨ (y % 4 ≠ 0 ∧ lpI y = 0) := by
  unfold lpI
  by_cases h : y % 4 = 0
  · exact .inl ⟨h, if_pos h⟩
  · exact .inr ⟨h, if_neg h⟩
theorem cj_succ (y : Int) (j : Nat) (h : j < 12) : cj (lpI y) (j + 1) = cj (lpI y) j + mlen y (1 + (j : Int)) := by
  have h2 : mlen y 2 = 28 + lpI y := by
    unfold mlen lpI
    split <;> split <;> simp_all
  match j, h with
  | 0, _ => simp [cj, mlen]
  | 1, _ => show 59 + lpI y = 31 + mlen y 2; rw [h2]; omega
  | 2, _ => show 90 + lpI y = 59 + lpI y + mlen y 3; simp [mlen]; omega
  | 3, _ => show 120 + lpI y = 90 + lpI y + mlen y 4; simp [mlen]; omega
  | 4, _ => show 151 + lpI y = 120 + lpI y + mlen y 5; simp [mlen]; omega
  | 5, _ => show 181 + lpI y = 151 + lpI y + mlen y 6; simp [mlen]; omega
  | 6, _ => show 212 + lpI y = 181 + lpI y + mlen y 7; simp [mlen]; omega
  | 7, _ => show 243 + lpI y = 212 + lpI y + mlen y 8; simp [mlen]; omega
  | 8, _ => show 273 + lpI y = 243 + lpI y + mlen y 9; simp [mlen]; omega
  | 9, _ => show 304 + lpI y = 273 + lpI y + mlen y 10; simp [mlen]; omega
  | 10, _ => show 334 + lpI y = 304 + lpI y + mlen y 11; simp [mlen]; omega
  | 11, _ => show 365 + lpI y = 334 + lpI y + mlen y 12; simp [mlen]; omega
theorem cum_year_month (k j : Nat) (h : j ≤ 12) : cum (12 * k + j) = cum (12 * k) + cj (lpI (2000 + (k : Int))) j := by
  induction j with
  | zero => simp [cj]
  | succ j ih =>
    rw [← Nat.add_assoc, cum_month k j (by omega), ih (by omega), cj_succ _ j (by omega)]
    omega
theorem cum_year (k : Nat) : cum (12 * k) = 365 * (k : Int) + ((k : Int) + 3) / 4 := by
  induction k with
  | zero => rfl
  | succ k ih =>
    rw [show 12 * (k + 1) = 12 * k + 12 by omega, cum_year_month k 12 (Nat.le_refl _), ih]
    show _ + (365 + lpI (2000 + (k : Int))) = _
    rcases lpI_cases (2000 + (k : Int)) with ⟨h, e⟩ | ⟨h, e⟩ <;> rw [e] <;> omega
theorem cum_at (k j : Nat) (h : j ≤ 12) : cum (12 * k + j) = 365 * (k : Int) + ((k : Int) + 3) / 4 + cj (lpI (2000 + (k : Int))) j := by
  rw [cum_year_month k j h, cum_year]
theorem cum_all : cum 1200 = 36525 := by
  have := cum_year 100
  simpa using this

/-- The index of the month of a day. -/
def monF (d : Int) : Nat → Nat → Nat
  | 0, i => i
  | f + 1, i => if d < cum (i + 1) then i else monF d f (i + 1)
def mon (d : Int) : Nat := monF d 1200 0
theorem monF_spec (d : Int) (f i : Nat) (h0 : cum i ≤ d) (h1 : d < cum (i + f)) : i ≤ monF d f i ∧ monF d f i < i + f ∧ cum (monF d f i) ≤ d ∧ d < cum (monF d f i + 1) := by
  induction f generalizing i with
  | zero => simp at h1; omega
  | succ f ih =>
    unfold monF
    by_cases h : d < cum (i + 1)
    · rw [if_pos h]; exact ⟨Nat.le_refl _, by omega, h0, h⟩
    · rw [if_neg h]
      have := ih (i + 1) (by omega) (by rw [show i + 1 + f = i + (f + 1) by omega]; exact h1)
      omega
theorem mon_spec (d : Int) (h0 : 0 ≤ d) (h1 : d ≤ 36524) : mon d < 1200 ∧ cum (mon d) ≤ d ∧ d < cum (mon d + 1) := by
  have := monF_spec d 1200 0 (by simpa [cum] using h0) (by rw [Nat.zero_add, cum_all]; omega)
  unfold mon
  omega
theorem mon_uniq {d : Int} {i j : Nat} (hi : cum i ≤ d ∧ d < cum (i + 1)) (hj : cum j ≤ d ∧ d < cum (j + 1)) : i = j := by
  rcases Nat.lt_trichotomy i j with h | h | h
  · have := cum_le (show i + 1 ≤ j by omega); omega
  · exact h
  · have := cum_le (show j + 1 ≤ i by omega); omega
theorem mon_eq {d : Int} {i : Nat} (h : i < 1200) (hi : cum i ≤ d ∧ d < cum (i + 1)) : mon d = i := by
  have h0 := cum_nonneg i
  have h1 := cum_le (show i + 1 ≤ 1200 by omega)
  rw [cum_all] at h1
  have := mon_spec d (by omega) (by omega)
  exact mon_uniq ⟨this.2.1, this.2.2⟩ hi
/-- The date of a day. -/
def yearOf (d : Int) : Int := 2000 + (mon d : Int) / 12
def monthOf (d : Int) : Int := 1 + (mon d : Int) % 12
def dayOf (d : Int) : Int := d - cum (mon d) + 1
theorem civil_bd (d : Int) (h0 : 0 ≤ d) (h1 : d ≤ 36524) : (2000 ≤ yearOf d ∧ yearOf d ≤ 2099) ∧ (1 ≤ monthOf d ∧ monthOf d ≤ 12) ∧ (1 ≤ dayOf d ∧ dayOf d ≤ mlen (yearOf d) (monthOf d)) := by
  obtain ⟨a, b, c⟩ := mon_spec d h0 h1
  rw [cum_succ] at c
  unfold yearOf monthOf dayOf
  omega
theorem mon_date (d : Int) : (12 * (yearOf d - 2000) + monthOf d - 1).toNat = mon d := by
  unfold yearOf monthOf
  omega
theorem from_civil (d : Int) (h0 : 0 ≤ d) (h1 : d ≤ 36524) : fromCivil (yearOf d) (monthOf d) (dayOf d) = (d, true) := by
  unfold fromCivil
  rw [if_pos (civil_bd d h0 h1), mon_date, Prod.mk.injEq]
  exact ⟨by unfold dayOf; omega, rfl⟩
theorem fromCivil_yes {y m d n : Int} (h : fromCivil y m d = (n, true)) : (2000 ≤ y ∧ y ≤ 2099) ∧ (1 ≤ m ∧ m ≤ 12) ∧ (1 ≤ d ∧ d ≤ mlen y m) ∧ n = cum (12 * (y - 2000) + m - 1).toNat + d - 1 := by
  unfold fromCivil at h
  split at h
  · rename_i hc
    rw [Prod.mk.injEq] at h
    exact ⟨hc.1, hc.2.1, hc.2.2, h.1.symm⟩
  · simp at h
theorem fromCivil_no {y m d n : Int} (h : fromCivil y m d = (n, false)) : n = 0 ∧ ¬ ((2000 ≤ y ∧ y ≤ 2099) ∧ (1 ≤ m ∧ m ≤ 12) ∧ (1 ≤ d ∧ d ≤ mlen y m)) := by
  unfold fromCivil at h
  split at h
  · simp at h
  · rename_i hc
    rw [Prod.mk.injEq] at h
    exact ⟨h.1.symm, hc⟩
theorem civil_from {y m d n : Int} (h : fromCivil y m d = (n, true)) : (0 ≤ n ∧ n ≤ 36524) ∧ yearOf n = y ∧ monthOf n = m ∧ dayOf n = d := by
  obtain ⟨hy, hm, hd, rfl⟩ := fromCivil_yes h
  obtain ⟨i, hi⟩ : ∃ i : Nat, i = (12 * (y - 2000) + m - 1).toNat := ⟨_, rfl⟩
  have hi1 : (i : Int) = 12 * (y - 2000) + m - 1 := by omega
  rw [← hi]
  have e1 : 2000 + (i : Int) / 12 = y := by omega
  have e2 : 1 + (i : Int) % 12 = m := by omega
  have hs := cum_succ i
  rw [e1, e2] at hs
  have hme : mon (cum i + d - 1) = i := mon_eq (by omega) ⟨by omega, by omega⟩
  have h0 := cum_nonneg i
  have h1 := cum_le (show i + 1 ≤ 1200 by omega)
  rw [cum_all] at h1
  unfold yearOf monthOf dayOf
  rw [hme]
  exact ⟨⟨by omega, by omega⟩, e1, e2, by omega⟩
end Go.Proofs.YthdadalmgldppaaDoor.Dat
