/-
  THE PLAIN MATHEMATICS OF DECIMAL NUMBERS AND PRICES: lists of bytes and integers; no program in sight. Conditions: none.
-/
namespace Go.Proofs.YthdadalmgldppaaDoor.Num

/-- The decimal digits of u, the first ahead. -/
def decDigits (u : Nat) : List UInt8 :=
  if h : u < 10 then [UInt8.ofNat (48 + u)] else decDigits (u / 10) ++ [UInt8.ofNat (48 + u % 10)]
termination_by u
decreasing_by omega
/-- The decimal form of an int. -/
def itoa (n : Int) : List UInt8 := if n < 0 then 45 :: decDigits n.natAbs else decDigits n.toNat

/-- A decimal digit. -/
def isDig (c : UInt8) : Bool := decide (48 ≤ c.toNat) && decide (c.toNat ≤ 57)
def allDig (l : List UInt8) : Bool := l.all isDig
/-- Digits without leading zeros. -/
def canon (l : List UInt8) : Bool := allDig l && !l.isEmpty && (l.head? != some 48 || l.length == 1)
/-- The value of digits. -/
def val (l : List UInt8) : Nat := l.foldl (fun m c => 10 * m + (c.toNat - 48)) 0
/-- The greatest int. -/
def big : Nat := 9223372036854775807

theorem val_nil : val [] = 0 := rfl
theorem val_snoc (l : List UInt8) (c : UInt8) : val (l ++ [c]) = 10 * val l + (c.toNat - 48) := by
  simp [val, List.foldl_append]
theorem isDig_iff (c : UInt8) : isDig c = true ↔ 48 ≤ c.toNat ∧ c.toNat ≤ 57 := by simp [isDig]
theorem allDig_snoc (l : List UInt8) (c : UInt8) : allDig (l ++ [c]) = (allDig l && isDig c) := by simp [allDig]
theorem canon_one (c : UInt8) : canon [c] = isDig c := by simp [canon, allDig]

/-- A list is empty or ends with an element. -/
theorem snoc_cases (l : List UInt8) : l = [] ∨ ∃ k c, l = k ++ [c] := by
  by_cases h : l = []
  · exact .inl h
  · exact .inr ⟨l.dropLast, l.getLast h, (List.dropLast_concat_getLast h).symm⟩

theorem canon_snoc {l : List UInt8} {c : UInt8} (h : canon (l ++ [c]) = true) : isDig c = true ∧ (l = [] ∨ (canon l = true ∧ l ≠ [48])) := by
  cases l with
  | nil => exact ⟨by simpa [canon_one] using h, .inl rfl⟩
  | cons a t =>
    simp [canon, allDig] at h
    obtain ⟨⟨ha, ht, hc⟩, hh⟩ := h
    refine ⟨hc, .inr ⟨?_, ?_⟩⟩
    · simp [canon, allDig, ha, hh]
      exact ht
    · intro e
      cases e
      exact hh rfl

theorem val_pos {l : List UInt8} (h : canon l = true) (h0 : l ≠ [48]) : 0 < val l := by
  generalize hn : l.length = n
  induction n using Nat.strongRecOn generalizing l with
  | _ n ih =>
    rcases snoc_cases l with rfl | ⟨k, c, rfl⟩
    · simp [canon] at h
    · obtain ⟨hc, hk⟩ := canon_snoc h
      rw [val_snoc]
      rw [isDig_iff] at hc
      rcases hk with rfl | ⟨hk, hk0⟩
      · have : c.toNat ≠ 48 := by
          intro e
          apply h0
          have : c = 48 := UInt8.toNat.inj (by simpa using e)
          subst this
          rfl
        omega
      · have := ih k.length (by rw [← hn]; simp) hk hk0 rfl
        omega

theorem decDigits_small {u : Nat} (h : u < 10) : decDigits u = [UInt8.ofNat (48 + u)] := by rw [decDigits, dif_pos h]
theorem decDigits_big {u : Nat} (h : ¬ u < 10) : decDigits u = decDigits (u / 10) ++ [UInt8.ofNat (48 + u % 10)] := by rw [decDigits, dif_neg h]

/-- The digits of the value of digits. -/
theorem decDigits_val {l : List UInt8} (h : canon l = true) : decDigits (val l) = l := by
  generalize hn : l.length = n
  induction n using Nat.strongRecOn generalizing l with
  | _ n ih =>
    rcases snoc_cases l with rfl | ⟨k, c, rfl⟩
    · simp [canon] at h
    · obtain ⟨hc, hk⟩ := canon_snoc h
      rw [isDig_iff] at hc
      rw [val_snoc]
      have hb : UInt8.ofNat (48 + (c.toNat - 48)) = c := by
        rw [show 48 + (c.toNat - 48) = c.toNat by omega]
        simp
      rcases hk with rfl | ⟨hk, hk0⟩
      · rw [val_nil, decDigits_small (by omega)]
        simp only [Nat.mul_zero, Nat.zero_add, hb, List.nil_append]
      · have hp := val_pos hk hk0
        rw [decDigits_big (by omega), show (10 * val k + (c.toNat - 48)) / 10 = val k by omega, show (10 * val k + (c.toNat - 48)) % 10 = c.toNat - 48 by omega, hb,
          ih k.length (by rw [← hn]; simp) hk rfl]

theorem toNat_digit (d : Nat) (h : d < 10) : (UInt8.ofNat (48 + d)).toNat = 48 + d := by
  simp
  omega

theorem val_decDigits (u : Nat) : val (decDigits u) = u := by
  induction u using Nat.strongRecOn with
  | _ u ih =>
    by_cases h : u < 10
    · rw [decDigits_small h]
      have := toNat_digit u h
      simp only [val, List.foldl_cons, List.foldl_nil, this]
      omega
    · rw [decDigits_big h, val_snoc, ih (u / 10) (by omega), toNat_digit (u % 10) (by omega)]
      omega

theorem decDigits_ne (u : Nat) : decDigits u ≠ [] := by
  by_cases h : u < 10
  · rw [decDigits_small h]; simp
  · rw [decDigits_big h]; simp

theorem allDig_decDigits (u : Nat) : allDig (decDigits u) = true := by
  induction u using Nat.strongRecOn with
  | _ u ih =>
    by_cases h : u < 10
    · rw [decDigits_small h]
      have := toNat_digit u h
      simp only [allDig, List.all_cons, List.all_nil, Bool.and_true, isDig_iff]
      omega
    · rw [decDigits_big h, allDig_snoc, ih (u / 10) (by omega)]
      have := toNat_digit (u % 10) (by omega)
      simp only [Bool.true_and, isDig_iff]
      omega

theorem head_decDigits (u : Nat) (hu : 0 < u) : (decDigits u).head? ≠ some 48 := by
  induction u using Nat.strongRecOn with
  | _ u ih =>
    by_cases h : u < 10
    · rw [decDigits_small h]
      have := toNat_digit u h
      intro e
      simp only [List.head?_cons, Option.some.injEq] at e
      rw [e] at this
      simp at this
      omega
    · rw [decDigits_big h]
      have := ih (u / 10) (by omega) (by omega)
      have hne := decDigits_ne (u / 10)
      cases hd : decDigits (u / 10) with
      | nil => exact absurd hd hne
      | cons a t =>
        rw [hd] at this
        simpa using this

theorem canon_decDigits (u : Nat) : canon (decDigits u) = true := by
  have h1 := allDig_decDigits u
  have h2 : (decDigits u).isEmpty = false := by
    have := decDigits_ne u
    cases hd : decDigits u with
    | nil => exact absurd hd this
    | cons a t => rfl
  by_cases hu : u = 0
  · subst hu
    rw [decDigits_small (by omega)]
    decide
  · have h3 := head_decDigits u (by omega)
    simp [canon, h1, h2, h3]

theorem decDigits_zero_iff (u : Nat) : decDigits u = [48] ↔ u = 0 := by
  constructor
  · intro h
    have := val_decDigits u
    rw [h] at this
    simpa [val] using this.symm
  · rintro rfl
    rw [decDigits_small (by omega)]
    rfl

/-- The int, and the error, of a string. -/
def parse (l : List UInt8) : Int × Int :=
  if l.head? = some 45 then
    if canon l.tail = true ∧ l.tail ≠ [48] then (if val l.tail ≤ big + 1 then (-(val l.tail : Int), 0) else (0, 2)) else (0, 3)
  else if canon l = true then (if val l ≤ big then ((val l : Int), 0) else (0, 2)) else (0, 3)

theorem head_dig {l : List UInt8} (h : canon l = true) : l.head? ≠ some 45 := by
  cases l with
  | nil => simp
  | cons a t =>
    simp [canon, allDig, isDig] at h
    intro e
    simp only [List.head?_cons, Option.some.injEq] at e
    subst e
    simp at h

/-- The form of an int is parsed as this int. -/
theorem parse_itoa (n : Int) (h0 : -9223372036854775808 ≤ n) (h1 : n ≤ 9223372036854775807) : parse (itoa n) = (n, 0) := by
  unfold parse itoa
  by_cases hn : n < 0
  · rw [if_pos hn, if_pos (by rfl), List.tail_cons, val_decDigits, if_pos ⟨canon_decDigits _, by rw [Ne, decDigits_zero_iff]; omega⟩, if_pos (by unfold big; omega)]
    rw [Prod.mk.injEq]
    exact ⟨by omega, rfl⟩
  · rw [if_neg hn, if_neg (head_dig (canon_decDigits _)), if_pos (canon_decDigits _), val_decDigits, if_pos (by unfold big; omega)]
    rw [Prod.mk.injEq]
    exact ⟨by omega, rfl⟩

/-- A string that is accepted is the form of the result. -/
theorem itoa_parse {l : List UInt8} {n : Int} (h : parse l = (n, 0)) : itoa n = l := by
  unfold parse at h
  by_cases hm : l.head? = some 45
  · rw [if_pos hm] at h
    by_cases hc : canon l.tail = true ∧ l.tail ≠ [48]
    · rw [if_pos hc] at h
      by_cases hv : val l.tail ≤ big + 1
      · rw [if_pos hv, Prod.mk.injEq] at h
        obtain ⟨rfl, _⟩ := h
        have hp := val_pos hc.1 hc.2
        unfold itoa
        rw [if_pos (by omega), show (-(val l.tail : Int)).natAbs = val l.tail by omega, decDigits_val hc.1]
        cases l with
        | nil => simp at hm
        | cons a t =>
          simp only [List.head?_cons, Option.some.injEq] at hm
          subst hm
          rfl
      · rw [if_neg hv] at h
        simp at h
    · rw [if_neg hc] at h
      simp at h
  · rw [if_neg hm] at h
    by_cases hc : canon l = true
    · rw [if_pos hc] at h
      by_cases hv : val l ≤ big
      · rw [if_pos hv, Prod.mk.injEq] at h
        obtain ⟨rfl, _⟩ := h
        unfold itoa
        rw [if_neg (by omega), show ((val l : Int)).toNat = val l by omega, decDigits_val hc]
      · rw [if_neg hv] at h
        simp at h
    · rw [if_neg hc] at h
      simp at h

theorem parse_bounds {l : List UInt8} {n e : Int} (h : parse l = (n, e)) : -9223372036854775808 ≤ n ∧ n ≤ 9223372036854775807 := by
  unfold parse at h
  (repeat' split at h) <;> (rw [Prod.mk.injEq] at h; obtain ⟨rfl, _⟩ := h) <;> (try unfold big at *) <;> omega

/-! ### values of prefixes -/
theorem val_append (a b : List UInt8) : val a * 10 ^ b.length ≤ val (a ++ b) := by
  generalize hn : b.length = n
  induction n generalizing b with
  | zero =>
    obtain rfl : b = [] := List.length_eq_zero_iff.1 hn
    simp
  | succ n ih =>
    rcases snoc_cases b with rfl | ⟨k, c, rfl⟩
    · simp at hn
    · have := ih k (by simp at hn; omega)
      rw [← List.append_assoc, val_snoc, Nat.pow_succ]
      have e : val a * (10 ^ n * 10) = 10 * (val a * 10 ^ n) := by
        rw [← Nat.mul_assoc, Nat.mul_comm]
      omega

theorem val_take_le (l : List UInt8) (k : Nat) : val (l.take k) ≤ val l := by
  have h := val_append (l.take k) (l.drop k)
  rw [List.take_append_drop] at h
  exact Nat.le_trans (Nat.le_mul_of_pos_right _ (Nat.pow_pos (by decide))) h

end Go.Proofs.YthdadalmgldppaaDoor.Num
