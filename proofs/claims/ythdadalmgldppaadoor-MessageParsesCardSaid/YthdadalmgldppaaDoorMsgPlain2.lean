/-
  THE PLAIN MATHEMATICS OF MESSAGES, SECOND PART: a line reads as its message, and a message that was read has this line. Conditions: those of each lemma.
-/
import Derived.Test.YthdadalmgldppaaDoorMsgPlain
namespace Go.Proofs.YthdadalmgldppaaDoor.Msg
open Num Clk Dat Fld

theorem decDigits_len : ∀ (k u : Nat), u < 10 ^ (k + 1) → (decDigits u).length ≤ k + 1
  | 0, u, h => by rw [decDigits_small (by omega)]; simp
  | k + 1, u, h => by
    by_cases hu : u < 10
    · rw [decDigits_small hu]; simp
    · have : u / 10 < 10 ^ (k + 1) := by
        rw [Nat.div_lt_iff_lt_mul (by omega)]
        rw [show (10 : Nat) ^ (k + 1) * 10 = 10 ^ (k + 1 + 1) from (Nat.pow_succ ..).symm]
        exact h
      have := decDigits_len k (u / 10) this
      rw [decDigits_big hu, List.length_append, List.length_singleton]
      omega
theorem itoa_len {n : Int} (h0 : -9223372036854775808 ≤ n) (h1 : n ≤ 9223372036854775807) : (itoa n).length ≤ 20 := by
  unfold itoa
  split
  · have := decDigits_len 18 n.natAbs (by have : (10 : Nat) ^ (18 + 1) = 10000000000000000000 := by decide
                                          omega)
    rw [List.length_cons]
    omega
  · have := decDigits_len 18 n.toNat (by have : (10 : Nat) ^ (18 + 1) = 10000000000000000000 := by decide
                                         omega)
    omega
theorem itoa_ch (n : Int) : ∀ b ∈ itoa n, b ≠ 32 := by
  have hd : ∀ u, ∀ b ∈ decDigits u, b ≠ 32 := fun u b hb e => by
    have := List.all_eq_true.1 (allDig_decDigits u) b hb
    rw [e] at this
    exact absurd this (by decide)
  unfold itoa
  split
  · intro b hb
    rcases List.mem_cons.1 hb with rfl | hb
    · decide
    · exact hd _ b hb
  · exact hd _
theorem joinS_len : ∀ (l : List (List UInt8)) (n : Nat), (∀ x ∈ l, x.length ≤ n) → (joinS l).length ≤ l.length * (4 * n + 3)
  | [], _, _ => Nat.zero_le _
  | [x], n, h => by
    have h1 := (quote_len x).2
    have h2 := h x (List.mem_cons_self ..)
    show (quoteS x).length ≤ _
    rw [List.length_singleton]
    omega
  | x :: y :: r, n, h => by
    have h1 := (quote_len x).2
    have h2 := h x (List.mem_cons_self ..)
    have h3 := joinS_len (y :: r) n fun z hz => h z (List.mem_cons_of_mem _ hz)
    rw [joinS_cons x (by simp), List.length_append, List.length_cons, List.length_cons, Nat.succ_mul]
    omega

/-! ### a call's field -/
theorem split4 {a b c w : List UInt8} (ha : (32 : UInt8) ∉ a) (hb : (32 : UInt8) ∉ b) (hc : (32 : UInt8) ∉ c) (hw : (32 : UInt8) ∉ w) : splitL 32 (a ++ 32 :: (b ++ 32 :: (c ++ 32 :: w))) = [a, b, c, w] := by
  have hw' : splitL 32 w = [w] := by
    clear ha hb hc
    induction w with
    | nil => rfl
    | cons x r ih => exact splitL_other (fun e => hw (by rw [e]; exact List.mem_cons_self ..)) (ih fun h => hw (List.mem_cons_of_mem _ h))
  rw [splitL_app _ a ha, splitL_app _ b hb, splitL_app _ c hc, hw']
/-- What was cut at blanks, put together again. -/
theorem splitL_join (c : UInt8) : ∀ (s : List UInt8) (h : List UInt8) (t : List (List UInt8)), splitL c s = h :: t → s = h ++ t.flatMap (fun x => c :: x)
  | [], h, t, e => by
    have e' : ([[]] : List (List UInt8)) = h :: t := e
    rw [List.cons.injEq] at e'
    rw [← e'.1, ← e'.2]
    rfl
  | b :: r, h, t, e => by
    by_cases hb : b = c
    · rw [hb, splitL_sep, List.cons.injEq] at e
      obtain ⟨rfl, rfl⟩ := e
      obtain ⟨h', t', hr⟩ : ∃ h' t', splitL c r = h' :: t' := by
        cases hs : splitL c r with
        | nil => exact absurd hs (splitL_ne c r)
        | cons x y => exact ⟨x, y, rfl⟩
      have := splitL_join c r h' t' hr
      rw [hr, List.nil_append, List.flatMap_cons, hb, List.cons_append, ← this]
    · obtain ⟨h', t', hr⟩ : ∃ h' t', splitL c r = h' :: t' := by
        cases hs : splitL c r with
        | nil => exact absurd hs (splitL_ne c r)
        | cons x y => exact ⟨x, y, rfl⟩
      rw [splitL_other hb hr, List.cons.injEq] at e
      obtain ⟨rfl, rfl⟩ := e
      have := splitL_join c r h' t' hr
      rw [List.cons_append, ← this]
theorem permS_ch (c : CallD) : (32 : UInt8) ∉ permS c := by
  unfold permS
  split
  · decide
  · split
    · decide
    · split <;> decide
theorem bits_perm (c : CallD) : bitsOf (permS c) = some (c.board, c.alight) := by
  obtain ⟨a, b, d, e, f⟩ := c
  cases e <;> cases f <;> rfl
theorem perm_bits {w : List UInt8} {x y : Bool} (h : bitsOf w = some (x, y)) (a b d : Int) : permS ⟨a, b, d, x, y⟩ = w := by
  unfold bitsOf at h
  split at h
  · rename_i e; rw [Option.some.injEq, Prod.mk.injEq] at h; rw [e, ← h.1, ← h.2]; rfl
  · split at h
    · rename_i e; rw [Option.some.injEq, Prod.mk.injEq] at h; rw [e, ← h.1, ← h.2]; rfl
    · split at h
      · rename_i e; rw [Option.some.injEq, Prod.mk.injEq] at h; rw [e, ← h.1, ← h.2]; rfl
      · split at h
        · rename_i e; rw [Option.some.injEq, Prod.mk.injEq] at h; rw [e, ← h.1, ← h.2]; rfl
        · cases h
def isI (n : Int) : Prop := -9223372036854775808 ≤ n ∧ n ≤ 9223372036854775807
def okCall (c : CallD) : Prop := isI c.stop ∧ isI c.arrive ∧ isI c.depart
theorem readCall_text (c : CallD) (h : okCall c) : readCall (callText c) = (c, [0, 0, 0, 0]) := by
  unfold readCall callText
  rw [split4 (fun h => itoa_ch _ _ h rfl) (fun h => itoa_ch _ _ h rfl) (fun h => itoa_ch _ _ h rfl) (permS_ch c)]
  simp only
  rw [bits_perm, parse_itoa _ h.1.1 h.1.2, parse_itoa _ h.2.1.1 h.2.1.2, parse_itoa _ h.2.2.1 h.2.2.2]
  rfl
theorem text_readCall {s : List UInt8} (h : ∀ e ∈ (readCall s).2, e = 0) : callText (readCall s).1 = s := by
  unfold readCall at h ⊢
  split at h
  · rename_i a b c w hs
    have hj := splitL_join 32 s _ _ hs
    simp only [List.mem_cons, List.not_mem_nil, or_false] at h
    have h1 := h _ (.inl rfl)
    have h2 := h _ (.inr (.inl rfl))
    have h3 := h _ (.inr (.inr (.inl rfl)))
    have h4 := h _ (.inr (.inr (.inr rfl)))
    simp only
    cases hb : bitsOf w with
    | none => rw [hb] at h1; exact absurd h1 (by decide)
    | some p =>
      obtain ⟨x, y⟩ := p
      simp only [Option.getD_some]
      unfold callText
      simp only
      rw [itoa_parse (Prod.ext rfl h2 : parse a = ((parse a).1, 0)), itoa_parse (Prod.ext rfl h3 : parse b = ((parse b).1, 0)), itoa_parse (Prod.ext rfl h4 : parse c = ((parse c).1, 0)), perm_bits hb, hj]
      simp
  · exact absurd (h 3 (List.mem_singleton.2 rfl)) (by decide)
end Go.Proofs.YthdadalmgldppaaDoor.Msg
