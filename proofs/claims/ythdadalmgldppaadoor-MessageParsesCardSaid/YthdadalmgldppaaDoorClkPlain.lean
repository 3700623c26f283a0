/-
  THE PLAIN MATHEMATICS OF TIMES OF DAY AND DURATIONS: lists of bytes and integers; no program in sight. Conditions: none.
-/
import Derived.Test.YthdadalmgldppaaDoorNumPlain2
namespace Go.Proofs.YthdadalmgldppaaDoor.Clk
open Num

/-- A number below 100 in two digits. -/
def two (n : Nat) : List UInt8 := [UInt8.ofNat (48 + n / 10), UInt8.ofNat (48 + n % 10)]
/-- The text of a time of day. -/
def clockText (t : Nat) : List UInt8 := two (t / 3600) ++ 58 :: (two (t / 60 % 60) ++ 58 :: two (t % 60))
def fmt (t : Int) : List UInt8 × Int := if 0 ≤ t ∧ t ≤ 172800 then (clockText t.toNat, 0) else ([], 10)
/-- The time of day with these parts, or none. -/
def join (h m s : Int) : Int × Bool := if (0 ≤ h ∧ h ≤ 48) ∧ (0 ≤ m ∧ m ≤ 59) ∧ (0 ≤ s ∧ s ≤ 59) ∧ 3600 * h + 60 * m + s ≤ 172800 then (3600 * h + 60 * m + s, true) else (0, false)

/-- The number that two digits show. -/
def pair (a b : UInt8) : Int := 10 * ((a.toNat : Int) - 48) + ((b.toNat : Int) - 48)

/-- The time of day, and the error, of a text. -/
inductive Time : List UInt8 → Int → Int → Prop
  | bad {l : List UInt8} (h : ¬ ∃ a b c d e f : UInt8, l = [a, b, 58, c, d, 58, e, f] ∧ isDig a = true ∧ isDig b = true ∧ isDig c = true ∧ isDig d = true ∧ isDig e = true ∧ isDig f = true) : Time l 0 3
  | out {a b c d e f : UInt8} (ha : isDig a = true) (hb : isDig b = true) (hc : isDig c = true) (hd : isDig d = true) (he : isDig e = true) (hf : isDig f = true) (h : join (pair a b) (pair c d) (pair e f) = (0, false)) :
      Time [a, b, 58, c, d, 58, e, f] 0 10
  | ok {a b c d e f : UInt8} (n : Int) (ha : isDig a = true) (hb : isDig b = true) (hc : isDig c = true) (hd : isDig d = true) (he : isDig e = true) (hf : isDig f = true) (h : join (pair a b) (pair c d) (pair e f) = (n, true)) :
      Time [a, b, 58, c, d, 58, e, f] n 0

theorem join_cases (h m s : Int) : join h m s = (0, false) ∨ ∃ n, join h m s = (n, true) := by
  unfold join
  split
  · exact .inr ⟨_, rfl⟩
  · exact .inl rfl
theorem join_yes {h m s n : Int} (k : join h m s = (n, true)) : ((0 ≤ h ∧ h ≤ 48) ∧ (0 ≤ m ∧ m ≤ 59) ∧ (0 ≤ s ∧ s ≤ 59) ∧ 3600 * h + 60 * m + s ≤ 172800) ∧ n = 3600 * h + 60 * m + s := by
  unfold join at k
  split at k
  · rename_i hc
    rw [Prod.mk.injEq] at k
    exact ⟨hc, k.1.symm⟩
  · simp at k
theorem join_no {h m s n : Int} (k : join h m s = (n, false)) : n = 0 ∧ ¬ ((0 ≤ h ∧ h ≤ 48) ∧ (0 ≤ m ∧ m ≤ 59) ∧ (0 ≤ s ∧ s ≤ 59) ∧ 3600 * h + 60 * m + s ≤ 172800) := by
  unfold join at k
  split at k
  · simp at k
  · rename_i hc
    rw [Prod.mk.injEq] at k
    exact ⟨k.1.symm, hc⟩

theorem time_some (l : List UInt8) : ∃ n e, Time l n e := by
  by_cases h : ∃ a b c d e f : UInt8, l = [a, b, 58, c, d, 58, e, f] ∧ isDig a = true ∧ isDig b = true ∧ isDig c = true ∧ isDig d = true ∧ isDig e = true ∧ isDig f = true
  · obtain ⟨a, b, c, d, e, f, rfl, ha, hb, hc, hd, he, hf⟩ := h
    rcases join_cases (pair a b) (pair c d) (pair e f) with k | ⟨n, k⟩
    · exact ⟨_, _, .out ha hb hc hd he hf k⟩
    · exact ⟨_, _, .ok n ha hb hc hd he hf k⟩
  · exact ⟨_, _, .bad h⟩

theorem dig_bd {c : UInt8} (h : isDig c = true) : 48 ≤ (c.toNat : Int) ∧ (c.toNat : Int) ≤ 57 := by
  rw [isDig_iff] at h
  omega
theorem pair_bd {a b : UInt8} (ha : isDig a = true) (hb : isDig b = true) : 0 ≤ pair a b ∧ pair a b ≤ 99 := by
  have := dig_bd ha
  have := dig_bd hb
  unfold pair
  omega
theorem two_digits (n : Nat) (h : n < 100) : isDig (UInt8.ofNat (48 + n / 10)) = true ∧ isDig (UInt8.ofNat (48 + n % 10)) = true ∧ pair (UInt8.ofNat (48 + n / 10)) (UInt8.ofNat (48 + n % 10)) = n := by
  have h1 := toNat_digit (n / 10) (by omega)
  have h2 := toNat_digit (n % 10) (by omega)
  refine ⟨?_, ?_, ?_⟩
  · rw [isDig_iff]; omega
  · rw [isDig_iff]; omega
  · unfold pair
    rw [h1, h2]
    omega
theorem pair_two {a b : UInt8} (ha : isDig a = true) (hb : isDig b = true) (n : Nat) (h : (n : Int) = pair a b) : two n = [a, b] := by
  have h1 := dig_bd ha
  have h2 := dig_bd hb
  unfold pair at h
  have e1 : n / 10 = a.toNat - 48 := by omega
  have e2 : n % 10 = b.toNat - 48 := by omega
  have e3 : UInt8.ofNat (48 + (a.toNat - 48)) = a := by rw [show 48 + (a.toNat - 48) = a.toNat by omega]; simp
  have e4 : UInt8.ofNat (48 + (b.toNat - 48)) = b := by rw [show 48 + (b.toNat - 48) = b.toNat by omega]; simp
  unfold two
  rw [e1, e2, e3, e4]

/-- The text of a time is read as this time. -/
theorem time_text (t : Nat) (h : t ≤ 172800) : Time (clockText t) t 0 := by
  obtain ⟨a1, a2, a3⟩ := two_digits (t / 3600) (by omega)
  obtain ⟨b1, b2, b3⟩ := two_digits (t / 60 % 60) (by omega)
  obtain ⟨c1, c2, c3⟩ := two_digits (t % 60) (by omega)
  refine .ok (t : Int) a1 a2 b1 b2 c1 c2 ?_
  rw [a3, b3, c3]
  unfold join
  rw [if_pos (by omega), Prod.mk.injEq]
  exact ⟨by omega, rfl⟩
/-- A text that is accepted is the text of its time. -/
theorem text_time {l : List UInt8} {n : Int} (h : Time l n 0) : fmt n = (l, 0) := by
  cases h with
  | ok _ ha hb hc hd he hf h =>
    obtain ⟨⟨h1, h2, h3, h4⟩, rfl⟩ := join_yes h
    rename_i a b c d e f
    generalize hx : pair a b = x at *
    generalize hy : pair c d = y at *
    generalize hz : pair e f = z at *
    unfold fmt
    rw [if_pos (by omega)]
    unfold clockText
    rw [pair_two ha hb _ (by rw [hx]; omega), pair_two hc hd _ (by rw [hy]; omega), pair_two he hf _ (by rw [hz]; omega)]
    rfl
theorem time_bd {l : List UInt8} {n e : Int} (h : Time l n e) : 0 ≤ n ∧ n ≤ 172800 ∧ (e ≠ 0 → n = 0) := by
  cases h with
  | bad => exact ⟨by omega, by omega, fun _ => rfl⟩
  | out => exact ⟨by omega, by omega, fun _ => rfl⟩
  | ok _ _ _ _ _ _ _ h =>
    obtain ⟨h1, rfl⟩ := join_yes h
    exact ⟨by omega, by omega, fun k => absurd rfl k⟩
end Go.Proofs.YthdadalmgldppaaDoor.Clk
