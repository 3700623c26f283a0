/-
  THE PLAIN MATHEMATICS OF FIELDS, SECOND PART: lines of fields. Conditions: none.
-/
import Derived.Test.YthdadalmgldppaaDoorFldPlain
namespace Go.Proofs.YthdadalmgldppaaDoor.Fld

/-- The forms of some strings, with commas between them. -/
def joinS : List (List UInt8) → List UInt8
  | [] => []
  | [x] => quoteS x
  | x :: y :: r => quoteS x ++ 44 :: joinS (y :: r)
theorem joinS_cons (x : List UInt8) {r : List (List UInt8)} (h : r ≠ []) : joinS (x :: r) = quoteS x ++ 44 :: joinS r := by
  cases r with
  | nil => exact absurd rfl h
  | cons y r => rfl
theorem joinS_snoc : ∀ (l : List (List UInt8)) (x : List UInt8), l ≠ [] → joinS (l ++ [x]) = joinS l ++ 44 :: quoteS x
  | [], x, h => absurd rfl h
  | [y], x, _ => rfl
  | y :: z :: r, x, _ => by
    rw [List.cons_append, joinS_cons y (by simp), joinS_snoc (z :: r) x (by simp), joinS_cons y (by simp)]
    simp
theorem joinS_append : ∀ (a b : List (List UInt8)), a ≠ [] → b ≠ [] → joinS (a ++ b) = joinS a ++ 44 :: joinS b
  | [], b, h, _ => absurd rfl h
  | [y], b, _, hb => by rw [List.singleton_append, joinS_cons y hb]; rfl
  | y :: z :: r, b, _, hb => by
    rw [List.cons_append, joinS_cons y (by simp), joinS_append (z :: r) b (by simp) hb, joinS_cons y (by simp)]
    simp
theorem joinS_take_le (l : List (List UInt8)) : ∀ k, (joinS (l.take k)).length ≤ (joinS l).length := fun k => by
  by_cases h0 : l.take k = []
  · rw [h0]; exact Nat.zero_le _
  by_cases h1 : l.drop k = []
  · have : l.take k = l := by
      have := List.take_append_drop k l
      rw [h1, List.append_nil] at this
      exact this
    rw [this]
    exact Nat.le_refl _
  · have := joinS_append _ _ h0 h1
    rw [List.take_append_drop] at this
    rw [this, List.length_append]
    omega
/-- The line of a list, and the error. -/
def joinR (l : List (List UInt8)) : List UInt8 × Int := if 64 < l.length then ([], 5) else if 65536 < (joinS l).length then ([], 5) else (joinS l, 0)

/-! ### where a field ends -/
/-- How many bytes a quoted field has behind its first quote, its last one with it. -/
def scanQ : List UInt8 → Nat
  | [] => 0
  | c :: r => if c.toNat == 34 then 1 else if c.toNat == 92 then (match r with
      | [] => 1
      | _ :: r' => 2 + scanQ r') else 1 + scanQ r
def scanC : List UInt8 → Nat
  | [] => 0
  | c :: r => if c.toNat == 44 then 0 else 1 + scanC r
def extS (s : List UInt8) : Nat := match s with
  | [] => 0
  | c :: r => if c.toNat == 34 then 1 + scanQ r else scanC (c :: r)
theorem scanQ_le : ∀ s : List UInt8, scanQ s ≤ s.length
  | [] => Nat.le_refl _
  | c :: r => by
    unfold scanQ
    split
    · simp
    · split
      · split
        · simp
        · rename_i d r'
          have := scanQ_le r'
          simp only [List.length_cons]
          omega
      · have := scanQ_le r
        rw [List.length_cons]
        omega
theorem scanC_le : ∀ s : List UInt8, scanC s ≤ s.length
  | [] => Nat.le_refl _
  | c :: r => by
    unfold scanC
    split
    · simp
    · have := scanC_le r
      rw [List.length_cons]
      omega
theorem extS_le (s : List UInt8) : extS s ≤ s.length := by
  unfold extS
  split
  · simp
  · split
    · have := scanQ_le (by assumption)
      rw [List.length_cons]
      omega
    · exact scanC_le _
theorem scanC_plain : ∀ (l rest : List UInt8), (∀ b ∈ l, specB b = false) → (rest = [] ∨ ∃ r, rest = 44 :: r) → scanC (l ++ rest) = l.length
  | [], rest, _, h => by
    rcases h with rfl | ⟨r, rfl⟩
    · rfl
    · rfl
  | c :: l, rest, h, h' => by
    have hc := h c (List.mem_cons_self ..)
    rw [List.cons_append]
    unfold scanC
    have h44 : (c.toNat == 44) = false := by
      unfold specB at hc
      simp only [Bool.or_eq_false_iff] at hc
      exact hc.1
    rw [if_neg (by rw [h44]; decide), scanC_plain l rest (fun b hb => h b (List.mem_cons_of_mem _ hb)) h', List.length_cons]
    omega
theorem scanQ_skip (c : UInt8) (r : List UInt8) (h1 : (c.toNat == 34) = false) (h2 : (c.toNat == 92) = false) : scanQ (c :: r) = 1 + scanQ r := by
  cases r with
  | nil =>
    simp only [scanQ]
    rw [if_neg (by rw [h1]; decide), if_neg (by rw [h2]; decide)]
  | cons d r =>
    rw [scanQ.eq_def]
    simp only
    rw [if_neg (by rw [h1]; decide), if_neg (by rw [h2]; decide)]
theorem scanQ_esc (d : UInt8) (r : List UInt8) : scanQ (92 :: d :: r) = 2 + scanQ r := by
  simp only [scanQ]
  rw [if_neg (by decide), if_pos (by decide)]
theorem hexd_skip {n : Nat} (h : n < 16) : ((hexd n).toNat == 34) = false ∧ ((hexd n).toNat == 92) = false := by
  rw [beq_eq_false_iff_ne, beq_eq_false_iff_ne, hexd_val h]
  split <;> omega
theorem scanQ_escB (b : UInt8) (r : List UInt8) : scanQ (escB b ++ r) = (escB b).length + scanQ r := by
  unfold escB
  split
  · exact scanQ_esc b r
  · rename_i h
    split
    · have hb := u8_lt b
      obtain ⟨x1, x2⟩ := hexd_skip (show b.toNat / 16 < 16 by omega)
      obtain ⟨y1, y2⟩ := hexd_skip (show b.toNat % 16 < 16 by omega)
      show scanQ (92 :: 120 :: hexd (b.toNat / 16) :: hexd (b.toNat % 16) :: r) = 4 + scanQ r
      rw [scanQ_esc, scanQ_skip _ _ x1 x2, scanQ_skip _ _ y1 y2]
      omega
    · show scanQ (b :: r) = 1 + scanQ r
      simp only [Bool.or_eq_true, not_or, Bool.not_eq_true] at h
      exact scanQ_skip b r h.1 h.2
theorem scanQ_inner : ∀ (l r : List UInt8), scanQ (inner l ++ r) = (inner l).length + scanQ r
  | [], r => by simp [inner]
  | b :: l, r => by
    have e : inner (b :: l) = escB b ++ inner l := by simp [inner]
    rw [e, List.append_assoc, scanQ_escB, scanQ_inner l r, List.length_append]
    omega
/-- A field ends where its form ends. -/
theorem ext_quote (o rest : List UInt8) (h : rest = [] ∨ ∃ r, rest = 44 :: r) : extS (quoteS o ++ rest) = (quoteS o).length := by
  cases hp : plainS o with
  | true =>
    rw [quote_plain hp]
    have hne := plain_ne hp
    have hs := plain_no_quote hp
    cases o with
    | nil => exact absurd rfl hne
    | cons c r =>
      have hc := hs c (List.mem_cons_self ..)
      have h34 : (c.toNat == 34) = false := by
        unfold specB at hc
        simp only [Bool.or_eq_false_iff] at hc
        exact hc.2.1
      show (if (c.toNat == 34) = true then _ else scanC ((c :: r) ++ rest)) = _
      rw [if_neg (by rw [h34]; decide)]
      exact scanC_plain _ _ hs h
  | false =>
    rw [quote_not hp]
    show (if ((34 : UInt8).toNat == 34) = true then 1 + scanQ ((inner o ++ [34]) ++ rest) else scanC (34 :: ((inner o ++ [34]) ++ rest))) = _
    rw [if_pos (by decide), List.append_assoc, scanQ_inner]
    have : scanQ ([34] ++ rest) = 1 := by
      show scanQ (34 :: rest) = 1
      unfold scanQ
      rw [if_pos (by decide)]
    rw [this, List.length_cons, List.length_append, List.length_singleton]
    omega

/-! ### Split -/
/-- The list of a line of at most n fields, or the error. -/
def splitF : Nat → List UInt8 → List (List UInt8) × Int
  | 0, _ => ([], 5)
  | n + 1, s => match unquoteS (s.take (extS s)) with
    | none => ([], 3)
    | some f => match s.drop (extS s) with
      | [] => ([f], 0)
      | c :: r => if c.toNat == 44 then (if (splitF n r).2 = 0 then (f :: (splitF n r).1, 0) else splitF n r) else ([], 3)
def splitS (line : List UInt8) : List (List UInt8) × Int := if 65536 < line.length then ([], 5) else if line = [] then ([], 0) else splitF 64 line
theorem splitF_join : ∀ (n : Nat) (l : List (List UInt8)), l ≠ [] → l.length ≤ n → splitF n (joinS l) = (l, 0)
  | 0, l, h, hl => by cases l with | nil => exact absurd rfl h | cons => simp at hl
  | n + 1, [], h, _ => absurd rfl h
  | n + 1, [x], _, _ => by
    have he : extS (joinS [x]) = (quoteS x).length := by
      have := ext_quote x [] (.inl rfl)
      rw [List.append_nil] at this
      exact this
    simp only [splitF]
    rw [he]
    show (match unquoteS ((quoteS x).take (quoteS x).length) with | none => _ | some f => _) = _
    rw [List.take_length, unq_quote]
    simp only
    rw [show (joinS [x]).drop (quoteS x).length = [] from List.drop_length]
  | n + 1, x :: y :: r, _, hl => by
    have e : joinS (x :: y :: r) = quoteS x ++ 44 :: joinS (y :: r) := rfl
    have he : extS (joinS (x :: y :: r)) = (quoteS x).length := by rw [e]; exact ext_quote x _ (.inr ⟨_, rfl⟩)
    have ih := splitF_join n (y :: r) (by simp) (by simpa using hl)
    simp only [splitF]
    rw [he, e, List.take_left, unq_quote]
    simp only
    rw [List.drop_left]
    simp only
    rw [if_pos (by decide), ih, if_pos rfl]
theorem splitF_inv : ∀ (n : Nat) (s : List UInt8) (l : List (List UInt8)), splitF n s = (l, 0) → l ≠ [] ∧ l.length ≤ n ∧ joinS l = s
  | 0, s, l, h => by
    have h' : (([], 5) : List (List UInt8) × Int) = (l, 0) := h
    rw [Prod.mk.injEq] at h'
    exact absurd h'.2 (by decide)
  | n + 1, s, l, h => by
    simp only [splitF] at h
    split at h
    · rw [Prod.mk.injEq] at h
      exact absurd h.2 (by decide)
    · rename_i f hf
      have hq := unq_inv hf
      split at h
      · rename_i hd
        rw [Prod.mk.injEq] at h
        obtain ⟨rfl, -⟩ := h
        refine ⟨by simp, by simp, ?_⟩
        have := List.take_append_drop (extS s) s
        rw [hd, List.append_nil] at this
        show quoteS f = s
        rw [hq, this]
      · rename_i c r hd
        split at h
        · rename_i hc
          split at h
          · rename_i h0
            rw [Prod.mk.injEq] at h
            obtain ⟨rfl, -⟩ := h
            obtain ⟨i1, i2, i3⟩ := splitF_inv n r (splitF n r).1 (by rw [← h0])
            refine ⟨by simp, by simpa using i2, ?_⟩
            rw [joinS_cons f i1, i3, hq]
            have hc' : c = 44 := by
              have : c.toNat = (44 : UInt8).toNat := by simpa using hc
              exact UInt8.toNat_inj.1 this
            rw [← hc', ← hd, List.take_append_drop]
          · rename_i h0
            rw [h] at h0
            exact absurd rfl h0
        · rw [Prod.mk.injEq] at h
          exact absurd h.2 (by decide)
/-- Split inverts Join. -/
theorem split_join {l : List (List UInt8)} {s : List UInt8} (h : joinR l = (s, 0)) : splitS s = (l, 0) := by
  unfold joinR at h
  split at h
  · rw [Prod.mk.injEq] at h; exact absurd h.2 (by decide)
  · split at h
    · rw [Prod.mk.injEq] at h; exact absurd h.2 (by decide)
    · rw [Prod.mk.injEq] at h
      obtain ⟨rfl, -⟩ := h
      unfold splitS
      rw [if_neg (by assumption)]
      cases l with
      | nil => rfl
      | cons x r =>
        have hne : joinS (x :: r) ≠ [] := by
          intro e
          have hq : quoteS x ≠ [] := by
            cases hp : plainS x with
            | true => rw [quote_plain hp]; exact plain_ne hp
            | false => rw [quote_not hp]; simp
          cases r with
          | nil => exact hq e
          | cons y r => rw [joinS_cons x (by simp)] at e; simp at e
        rw [if_neg hne]
        exact splitF_join 64 _ (by simp) (by omega)
/-- A line that Split accepts is the line of its list. -/
theorem join_split {l : List (List UInt8)} {s : List UInt8} (h : splitS s = (l, 0)) : joinR l = (s, 0) := by
  unfold splitS at h
  split at h
  · rw [Prod.mk.injEq] at h; exact absurd h.2 (by decide)
  · rename_i h1
    split at h
    · rename_i h2
      rw [Prod.mk.injEq] at h
      obtain ⟨rfl, -⟩ := h
      rw [h2]
      rfl
    · obtain ⟨i1, i2, i3⟩ := splitF_inv 64 s l h
      unfold joinR
      rw [if_neg (by omega), i3, if_neg h1]
/-- What Join says of two lists one after the other. -/
theorem join_append {a b : List (List UInt8)} {s : List UInt8} (ha : a ≠ []) (hb : b ≠ []) (h : joinR (a ++ b) = (s, 0)) : joinR a = (joinS a, 0) ∧ joinR b = (joinS b, 0) ∧ s = joinS a ++ 44 :: joinS b := by
  unfold joinR at h
  rw [joinS_append a b ha hb, List.length_append] at h
  split at h
  · rw [Prod.mk.injEq] at h; exact absurd h.2 (by decide)
  · split at h
    · rw [Prod.mk.injEq] at h; exact absurd h.2 (by decide)
    · rename_i h1 h2
      rw [List.length_append, List.length_cons] at h2
      rw [Prod.mk.injEq] at h
      unfold joinR
      refine ⟨?_, ?_, h.1.symm⟩
      · rw [if_neg (by omega), if_neg (by omega)]
      · rw [if_neg (by omega), if_neg (by omega)]
end Go.Proofs.YthdadalmgldppaaDoor.Fld
