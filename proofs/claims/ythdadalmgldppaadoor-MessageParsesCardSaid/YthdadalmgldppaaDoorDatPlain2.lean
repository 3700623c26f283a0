/-
  THE PLAIN MATHEMATICS OF DAYS AND DATES, SECOND PART: what the walks of Civil and FromCivil find. Conditions: none.
-/
import Derived.Test.YthdadalmgldppaaDoorDatPlain
namespace Go.Proofs.YthdadalmgldppaaDoor.Dat
open Num Clk

theorem civ_found {d y r : Int} {k : Nat} (hy : 2000 ≤ y ∧ y ≤ 2099) (hd : d = 365 * (y - 2000) + (y - 2000 + 3) / 4 + r) (hk : k < 12) (h0 : cj (lpI y) k ≤ r) (h1 : r < cj (lpI y) k + mlen y (1 + (k : Int))) :
    yearOf d = y ∧ monthOf d = (k : Int) + 1 ∧ dayOf d = r - cj (lpI y) k + 1 := by
  obtain ⟨n, rfl⟩ : ∃ n : Nat, y = 2000 + (n : Int) := ⟨(y - 2000).toNat, by omega⟩
  have hc := cum_at n k (by omega)
  have hm := cum_month n k hk
  have e : mon d = 12 * n + k := mon_eq (by omega) ⟨by omega, by omega⟩
  unfold yearOf monthOf dayOf
  rw [e]
  omega
theorem days_at (i : Nat) (h : i < 1200) : days (2000 + (i : Int) / 12) (1 + (i : Int) % 12) = (mlen (2000 + (i : Int) / 12) (1 + (i : Int) % 12), true) := by
  unfold days
  rw [if_pos (by omega)]
theorem cum_bd (i : Nat) (h : i ≤ 1200) : 0 ≤ cum i ∧ cum i ≤ 36525 := by
  have h0 := cum_nonneg i
  have h1 := cum_le h
  rw [cum_all] at h1
  omega
theorem ref_found {d : Int} {i : Nat} (h : i < 1200) (h0 : cum i ≤ d) (h1 : d < cum i + mlen (2000 + (i : Int) / 12) (1 + (i : Int) % 12)) : yearOf d = 2000 + (i : Int) / 12 ∧ monthOf d = 1 + (i : Int) % 12 ∧ dayOf d = d - cum i + 1 := by
  have e : mon d = i := mon_eq h ⟨h0, by rw [cum_succ]; exact h1⟩
  unfold yearOf monthOf dayOf
  rw [e]
  exact ⟨rfl, rfl, rfl⟩
/-- The number of a date's day, by the years and months ahead. -/
theorem from_sum {y m d : Int} (hy : 2000 ≤ y ∧ y ≤ 2099) (hm : 1 ≤ m ∧ m ≤ 12) (k : Nat) (hk : (k : Int) = m - 1) :
    365 * (y - 2000) + (y - 2000 + 3) / 4 + d - 1 + cj (lpI y) k = cum (12 * (y - 2000) + m - 1).toNat + d - 1 := by
  obtain ⟨n, rfl⟩ : ∃ n : Nat, y = 2000 + (n : Int) := ⟨(y - 2000).toNat, by omega⟩
  have hc := cum_at n k (by omega)
  rw [show (12 * (2000 + (n : Int) - 2000) + m - 1).toNat = 12 * n + k by omega]
  omega
theorem cj_bd (y : Int) (k : Nat) (h : k ≤ 12) : 0 ≤ cj (lpI y) k ∧ cj (lpI y) k ≤ 366 := by
  have := lpI_cases y
  match k, h with
  | 0, _ => simp [cj]
  | 1, _ => simp [cj]
  | 2, _ => simp [cj]; omega
  | 3, _ => simp [cj]; omega
  | 4, _ => simp [cj]; omega
  | 5, _ => simp [cj]; omega
  | 6, _ => simp [cj]; omega
  | 7, _ => simp [cj]; omega
  | 8, _ => simp [cj]; omega
  | 9, _ => simp [cj]; omega
  | 10, _ => simp [cj]; omega
  | 11, _ => simp [cj]; omega
  | 12, _ => simp [cj]; omega
theorem cj_all (y : Int) : cj (lpI y) 12 = 365 + lpI y := rfl
theorem split_low {d : Int} (h0 : 0 ≤ d) (h1 : d ≤ 36524) (h : d % 1461 < 366) :
    (2000 ≤ 2000 + d / 1461 * 4 ∧ 2000 + d / 1461 * 4 ≤ 2099) ∧ d = 365 * (2000 + d / 1461 * 4 - 2000) + (2000 + d / 1461 * 4 - 2000 + 3) / 4 + d % 1461 ∧ d % 1461 < 365 + lpI (2000 + d / 1461 * 4) := by
  have : lpI (2000 + d / 1461 * 4) = 1 := by unfold lpI; rw [if_pos (by omega)]
  omega
theorem split_high {d : Int} (h0 : 0 ≤ d) (h1 : d ≤ 36524) (h : 366 ≤ d % 1461) :
    (2000 ≤ 2000 + d / 1461 * 4 + (1 + (d % 1461 - 366) / 365) ∧ 2000 + d / 1461 * 4 + (1 + (d % 1461 - 366) / 365) ≤ 2099) ∧
    d = 365 * (2000 + d / 1461 * 4 + (1 + (d % 1461 - 366) / 365) - 2000) + (2000 + d / 1461 * 4 + (1 + (d % 1461 - 366) / 365) - 2000 + 3) / 4 + (d % 1461 - 366) % 365 ∧
    (d % 1461 - 366) % 365 < 365 + lpI (2000 + d / 1461 * 4 + (1 + (d % 1461 - 366) / 365)) := by
  have := lpI_cases (2000 + d / 1461 * 4 + (1 + (d % 1461 - 366) / 365))
  omega
end Go.Proofs.YthdadalmgldppaaDoor.Dat
