/-
  THE PLAIN MATHEMATICS OF FIELDS: forms of strings; no program in sight. Conditions: none.
-/
namespace Go.Proofs.YthdadalmgldppaaDoor.Fld

def ctl (b : UInt8) : Bool := decide (b.toNat < 32) || b.toNat == 127
def specB (b : UInt8) : Bool := b.toNat == 44 || (b.toNat == 34 || (b.toNat == 92 || ctl b))
def plainS (l : List UInt8) : Bool := !l.any specB && (!l.isEmpty && (!(l.head? == some 32) && !(l.getLast? == some 32)))
def hexd (n : Nat) : UInt8 := if n < 10 then UInt8.ofNat (48 + n) else UInt8.ofNat (87 + n)
def escB (b : UInt8) : List UInt8 := if b.toNat == 34 || b.toNat == 92 then [92, b] else if ctl b then [92, 120, hexd (b.toNat / 16), hexd (b.toNat % 16)] else [b]
def inner (l : List UInt8) : List UInt8 := l.flatMap escB
/-- The form of a string. -/
def quoteS (l : List UInt8) : List UInt8 := if plainS l then l else 34 :: (inner l ++ [34])
def digV (b : UInt8) : Nat := if 48 ≤ b.toNat ∧ b.toNat ≤ 57 then b.toNat - 48 else if 97 ≤ b.toNat ∧ b.toNat ≤ 102 then b.toNat - 87 else 16
/-- The first byte that an inner part stands for, and how many bytes it takes. -/
def oneS : List UInt8 → Option (UInt8 × Nat)
  | [] => none
  | c :: r => if c.toNat == 92 then (match r with
      | [] => none
      | d :: r' => if d.toNat == 34 || d.toNat == 92 then some (d, 2) else if d.toNat == 120 then (match r' with
          | x :: y :: _ => if decide (digV x < 16) && decide (digV y < 16) then some (UInt8.ofNat (16 * digV x + digV y), 4) else none
          | _ => none) else none) else some (c, 1)
def decN : Nat → List UInt8 → Option (List UInt8)
  | _, [] => some []
  | 0, _ :: _ => none
  | f + 1, c :: r => match oneS (c :: r) with
      | none => none
      | some (b, k) => (decN f ((c :: r).drop k)).map (b :: ·)
def decS (s : List UInt8) : Option (List UInt8) := decN s.length s

theorem oneS_pos {s : List UInt8} {b : UInt8} {k : Nat} (h : oneS s = some (b, k)) : 1 ≤ k ∧ k ≤ s.length := by
  cases s with
  | nil => simp [oneS] at h
  | cons c r =>
    simp only [oneS] at h
    split at h
    · split at h
      · cases h
      · rename_i d r'
        split at h
        · cases h; simp
        · split at h
          · split at h
            · split at h
              · cases h; simp
              · cases h
            · cases h
          · cases h
    · cases h; simp
theorem decN_fuel : ∀ (f : Nat) (s : List UInt8), s.length ≤ f → decN f s = decN s.length s
  | f, [], _ => by cases f <;> rfl
  | 0, c :: r, h => by simp at h
  | f + 1, c :: r, h => by
    rw [List.length_cons]
    simp only [decN]
    split
    · rfl
    · rename_i b k hk
      obtain ⟨h1, h2⟩ := oneS_pos hk
      have hl : ((c :: r).drop k).length ≤ r.length := by rw [List.length_drop, List.length_cons]; omega
      rw [List.length_cons] at h
      rw [decN_fuel f _ (by omega), decN_fuel r.length _ hl]
theorem decS_nil : decS [] = some [] := rfl
theorem decS_bad {s : List UInt8} (hs : s ≠ []) (h : oneS s = none) : decS s = none := by
  cases s with
  | nil => exact absurd rfl hs
  | cons c r =>
    unfold decS
    rw [List.length_cons]
    simp only [decN, h]
theorem decS_step {s : List UInt8} {b : UInt8} {k : Nat} (h : oneS s = some (b, k)) : decS s = (decS (s.drop k)).map (b :: ·) := by
  cases s with
  | nil => simp [oneS] at h
  | cons c r =>
    obtain ⟨h1, h2⟩ := oneS_pos h
    unfold decS
    rw [List.length_cons]
    simp only [decN, h]
    rw [decN_fuel r.length _ (by rw [List.length_drop, List.length_cons]; omega)]

/-- The string with the form s. -/
def unquoteS (s : List UInt8) : Option (List UInt8) :=
  if plainS s then some s else
  if decide (s.length < 2) || (!(s.head? == some 34) || !(s.getLast? == some 34)) then none else
  match decS (s.drop 1).dropLast with
  | none => none
  | some o => if quoteS o = s then some o else none

theorem u8_lt (b : UInt8) : b.toNat < 256 := b.toNat_lt
theorem hexd_val {n : Nat} (h : n < 16) : (hexd n).toNat = if n < 10 then 48 + n else 87 + n := by
  unfold hexd
  split
  · rw [UInt8.toNat_ofNat', Nat.mod_eq_of_lt (by omega)]
  · rw [UInt8.toNat_ofNat', Nat.mod_eq_of_lt (by omega)]
theorem digV_hexd {n : Nat} (h : n < 16) : digV (hexd n) = n := by
  unfold digV
  rw [hexd_val h]
  split <;> rename_i h1 <;> split <;> rename_i h2 <;> (try split) <;> omega
theorem u8_of (b : UInt8) (n : Nat) (h : n = b.toNat) : UInt8.ofNat n = b := by
  rw [h]
  exact UInt8.ofNat_toNat
/-- What an escape stands for. -/
theorem oneS_esc (b : UInt8) (rest : List UInt8) : oneS (escB b ++ rest) = some (b, (escB b).length) := by
  unfold escB
  split
  · rename_i h
    show oneS (92 :: b :: rest) = _
    simp only [oneS]
    rw [if_pos (by decide), if_pos h]
    rfl
  · rename_i h
    split
    · have hb := u8_lt b
      have h1 : b.toNat / 16 < 16 := by omega
      have h2 : b.toNat % 16 < 16 := by omega
      show oneS (92 :: 120 :: hexd (b.toNat / 16) :: hexd (b.toNat % 16) :: rest) = _
      simp only [oneS]
      rw [if_pos (by decide), if_neg (by decide), if_pos (by decide)]
      rw [digV_hexd h1, digV_hexd h2, decide_eq_true h1, decide_eq_true h2]
      simp only [Bool.and_self, if_true]
      rw [u8_of b _ (by omega)]
      rfl
    · rename_i hc
      show oneS (b :: rest) = _
      simp only [oneS]
      rw [if_neg]
      · rfl
      · intro h92
        rw [Bool.or_eq_true] at h
        exact h (.inr h92)
theorem escB_ne (b : UInt8) : escB b ≠ [] := by
  unfold escB
  split
  · simp
  · split <;> simp
theorem dec_inner : ∀ l : List UInt8, decS (inner l) = some l
  | [] => rfl
  | b :: l => by
    have e : inner (b :: l) = escB b ++ inner l := by simp [inner]
    rw [e, decS_step (oneS_esc b _), List.drop_left, dec_inner l]
    rfl
theorem quote_plain {l : List UInt8} (h : plainS l = true) : quoteS l = l := by unfold quoteS; rw [if_pos h]
theorem quote_not {l : List UInt8} (h : plainS l = false) : quoteS l = 34 :: (inner l ++ [34]) := by unfold quoteS; rw [if_neg (by rw [h]; decide)]
theorem plain_no_quote {l : List UInt8} (h : plainS l = true) : ∀ b ∈ l, specB b = false := by
  unfold plainS at h
  rw [Bool.and_eq_true, Bool.not_eq_true', List.any_eq_false] at h
  intro b hb
  simpa using h.1 b hb
theorem plain_ne {l : List UInt8} (h : plainS l = true) : l ≠ [] := by
  intro e
  rw [e] at h
  simp [plainS] at h
theorem quoted_not_plain (l : List UInt8) : plainS (34 :: (inner l ++ [34])) = false := by
  cases h : plainS (34 :: (inner l ++ [34])) with
  | false => rfl
  | true =>
    have := plain_no_quote h 34 (List.mem_cons_self ..)
    exact absurd this (by decide)
/-- Unquote inverts Quote. -/
theorem unq_quote (o : List UInt8) : unquoteS (quoteS o) = some o := by
  cases h : plainS o with
  | true => rw [quote_plain h]; unfold unquoteS; rw [if_pos h]
  | false =>
    have hq := quote_not h
    unfold unquoteS
    rw [hq, if_neg (by rw [quoted_not_plain]; decide), if_neg]
    · rw [List.drop_succ_cons, List.drop_zero, List.dropLast_concat, dec_inner]
      simp only
      rw [if_pos hq]
    · have hl : (34 :: (inner o ++ [34]) : List UInt8).getLast? = some 34 := by
        rw [show (34 :: (inner o ++ [34]) : List UInt8) = (34 :: inner o) ++ [34] from rfl, List.getLast?_concat]
      rw [hl]
      simp
theorem unq_inv {s o : List UInt8} (h : unquoteS s = some o) : quoteS o = s := by
  unfold unquoteS at h
  split at h
  · rename_i hp
    cases h
    exact quote_plain hp
  · split at h
    · cases h
    · split at h
      · cases h
      · split at h
        · rename_i hq
          cases h
          exact hq
        · cases h
theorem hexd_noctl {n : Nat} (h : n < 16) : ctl (hexd n) = false := by
  unfold ctl
  rw [hexd_val h]
  split
  · rw [decide_eq_false (by omega), Bool.false_or, beq_eq_false_iff_ne]; omega
  · rw [decide_eq_false (by omega), Bool.false_or, beq_eq_false_iff_ne]; omega
/-- A form has no control byte. -/
theorem quote_noctl (o : List UInt8) : ∀ b ∈ quoteS o, ctl b = false := by
  cases h : plainS o with
  | true =>
    rw [quote_plain h]
    intro b hb
    have := plain_no_quote h b hb
    unfold specB at this
    simp only [Bool.or_eq_false_iff] at this
    exact this.2.2.2
  | false =>
    rw [quote_not h]
    intro b hb
    rcases List.mem_cons.1 hb with rfl | hb
    · decide
    · rcases List.mem_append.1 hb with hb | hb
      · obtain ⟨c, -, hc⟩ := List.mem_flatMap.1 hb
        unfold escB at hc
        split at hc
        · rename_i h1
          simp only [List.mem_cons, List.not_mem_nil, or_false] at hc
          rcases hc with rfl | rfl
          · decide
          · simp only [Bool.or_eq_true, beq_iff_eq] at h1
            unfold ctl
            rcases h1 with h1 | h1 <;> rw [h1] <;> decide
        · split at hc
          · have hb := u8_lt c
            simp only [List.mem_cons, List.not_mem_nil, or_false] at hc
            rcases hc with rfl | rfl | rfl | rfl
            · decide
            · decide
            · exact hexd_noctl (by omega)
            · exact hexd_noctl (by omega)
          · rename_i h2
            rw [List.mem_singleton] at hc
            rw [hc]
            simpa using h2
      · rw [List.mem_singleton] at hb
        rw [hb]
        decide
theorem escB_len (b : UInt8) : 1 ≤ (escB b).length ∧ (escB b).length ≤ 4 := by
  unfold escB
  split
  · simp
  · split <;> simp
theorem inner_len : ∀ l : List UInt8, l.length ≤ (inner l).length ∧ (inner l).length ≤ 4 * l.length
  | [] => by simp [inner]
  | b :: l => by
    have e : inner (b :: l) = escB b ++ inner l := by simp [inner]
    have h1 := escB_len b
    have h2 := inner_len l
    rw [e, List.length_append, List.length_cons]
    omega
theorem quote_len (l : List UInt8) : l.length ≤ (quoteS l).length ∧ (quoteS l).length ≤ 4 * l.length + 2 := by
  unfold quoteS
  split
  · omega
  · have := inner_len l
    rw [List.length_cons, List.length_append, List.length_singleton]
    omega
end Go.Proofs.YthdadalmgldppaaDoor.Fld
