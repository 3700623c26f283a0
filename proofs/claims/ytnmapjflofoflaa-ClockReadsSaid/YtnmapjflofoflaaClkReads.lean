/-
  THE PLAIN LAW OF ParseDuration: what the reference computes is what the program computes. Conditions: none.
-/
import Derived.Test.YtnmapjflofoflaaClkWalksL
namespace Go.Proofs.Ytnmapjflofoflaa
open Num Clk

theorem valR_dec (v : Nat) : valR (decDigits v) = (v : Int) ∨ (valR (decDigits v) = 1000000 ∧ 1000000 ≤ v) := by
  unfold valR
  rw [val_decDigits]
  by_cases h : (decDigits v).length ≤ 6
  · rw [if_pos h]; exact .inl rfl
  · rw [if_neg h]
    refine .inr ⟨rfl, ?_⟩
    rcases Nat.lt_or_ge v 1000000 with k | k
    · exact absurd (length_lt_pow 5 v (by simpa using k)) h
    · exact k
theorem valR_two (p : Nat) (h : p < 60) : valR (two p) = (p : Int) := by
  obtain ⟨h1, h2, h3⟩ := two_digits p (by omega)
  have b1 := (isDig_iff _).1 h1
  have b2 := (isDig_iff _).1 h2
  unfold valR
  rw [if_pos (by simp [two])]
  rw [← h3]
  unfold two pair
  simp only [val, List.foldl_cons, List.foldl_nil]
  omega
theorem two_form (p : Nat) : ∃ x y, two p = [x, y] := ⟨_, _, rfl⟩

/-- The three forms of a duration's text. -/
def F1 (v : Nat) : List UInt8 := decDigits v ++ [115]
def F2 (v p : Nat) : List UInt8 := decDigits v ++ 109 :: (two p ++ [115])
def F3 (v p q : Nat) : List UInt8 := decDigits v ++ 104 :: (two p ++ 109 :: (two q ++ [115]))

theorem notmem (v : Nat) : (109 : UInt8) ∉ decDigits v ∧ (104 : UInt8) ∉ decDigits v :=
  ⟨dig_not (canon_dig (canon_decDigits v)) (by decide), dig_not (canon_dig (canon_decDigits v)) (by decide)⟩
theorem lead_val (v : Nat) : leadS (decDigits v) = (((min 1000000 v : Nat) : Int), true) := by
  unfold leadS
  rw [if_pos (canon_decDigits v), val_decDigits]
theorem pdur_f1 (v : Nat) (h : v < 60) : pdur (F1 v) = ((v : Int), 0) := by
  unfold pdur F1
  rw [parts_one (notmem v).1]
  dsimp only [sumS]
  rw [lead_val]
  dsimp only
  rw [if_pos ⟨rfl, by omega⟩, Prod.mk.injEq]
  exact ⟨by omega, rfl⟩
theorem pdur_f2 (v p : Nat) (h0 : 0 < v) (h : v < 60) (hp : p < 60) : pdur (F2 v p) = (60 * (v : Int) + p, 0) := by
  unfold pdur F2
  rw [parts_two (notmem v).1 (notmem v).2]
  dsimp only [sumS]
  rw [lead_val, foll_two p hp]
  dsimp only
  rw [if_pos ⟨rfl, by omega, by omega, rfl⟩, Prod.mk.injEq]
  exact ⟨by omega, rfl⟩
theorem pdur_f3 (v p q : Nat) (h0 : 0 < v) (hp : p < 60) (hq : q < 60) : pdur (F3 v p q) = if 3600 * (v : Int) + 60 * p + q ≤ 359999 then (3600 * (v : Int) + 60 * p + q, 0) else (0, 2) := by
  unfold pdur F3
  rw [parts_three (notmem v).1 (notmem v).2 (dig_not (two_dig p (by omega)) (by decide))]
  dsimp only [sumS]
  rw [lead_val, foll_two p hp, foll_two q hq]
  dsimp only
  rw [if_pos ⟨rfl, by omega, rfl, rfl⟩]
  by_cases h : 3600 * (v : Int) + 60 * p + q ≤ 359999
  · rw [if_pos h, if_pos (by omega), Prod.mk.injEq]
    exact ⟨by omega, rfl⟩
  · rw [if_neg h, if_neg (by omega)]

theorem canon_no {l : List UInt8} {c : UInt8} (h : c ∈ l) (hc : 57 < c.toNat) : canon l = false := by
  cases k : canon l with
  | false => rfl
  | true => exact absurd h (dig_not (canon_dig k) hc)
theorem rdur_f1 (v : Nat) (h : v < 60) : rdur (F1 v) = ((v : Int), 0) := by
  have hp := length_pos v
  have e1 : (F1 v).length = (decDigits v).length + 1 := by simp [F1]
  have hv : valR (decDigits v) = v := by rcases valR_dec v with k | ⟨_, k⟩; exact k; omega
  unfold rdur
  rw [e1, show (decDigits v).length + 1 - 1 = (decDigits v).length by omega, if_pos ⟨by omega, by simp [F1, List.getD]⟩, show (F1 v).take (decDigits v).length = decDigits v by simp [F1], hv, if_pos ⟨canon_decDigits v, by omega⟩]
theorem rdur_mid (a : List UInt8) (ha : 0 < a.length) (p : Nat) (hp : p < 60) : rdur (a ++ 109 :: (two p ++ [115])) = rdur2 a p := by
  have hv := valR_two p hp
  have hf := foll_two p hp
  obtain ⟨x, y, e⟩ := two_form p
  rw [e] at hv hf ⊢
  have e1 : (a ++ 109 :: ([x, y] ++ [115])).length = a.length + 4 := by simp
  unfold rdur
  rw [e1, show a.length + 4 - 1 = a.length + 3 by omega, show a.length + 4 - 4 = a.length by omega, show a.length + 4 - 3 = a.length + 1 by omega]
  have t1 : (a ++ 109 :: ([x, y] ++ [115])).take (a.length + 3) = a ++ [109, x, y] := by rw [List.take_append, List.take_of_length_le (by omega), show a.length + 3 - a.length = 3 by omega]; rfl
  have t2 : (a ++ [109, x, y]).drop (a.length + 1) = [x, y] := by simp [List.drop_append]
  have t3 : (a ++ 109 :: ([x, y] ++ [115])).take a.length = a := by simp
  have g1 : (a ++ 109 :: ([x, y] ++ [115])).getD (a.length + 3) 0 = 115 := by simp [List.getD]
  have g2 : (a ++ 109 :: ([x, y] ++ [115])).getD a.length 0 = 109 := by simp [List.getD]
  rw [t1, t2, t3, g1, g2, hv, hf, if_pos ⟨by omega, rfl⟩, if_neg (fun k => by rw [canon_no (c := 109) (by simp) (by decide)] at k; exact absurd k.1 (by simp)), if_pos ⟨by omega, rfl, rfl⟩]
theorem rdur_f2 (v p : Nat) (h0 : 0 < v) (h : v < 60) (hp : p < 60) : rdur (F2 v p) = (60 * (v : Int) + p, 0) := by
  unfold F2
  rw [rdur_mid _ (length_pos v) p hp]
  have hv : valR (decDigits v) = v := by rcases valR_dec v with k | ⟨_, k⟩; exact k; omega
  unfold rdur2
  rw [hv, if_pos ⟨canon_decDigits v, by omega, by omega⟩]
theorem rdur_f3 (v p q : Nat) (h0 : 0 < v) (hp : p < 60) (hq : q < 60) : rdur (F3 v p q) = if 3600 * (v : Int) + 60 * p + q ≤ 359999 then (3600 * (v : Int) + 60 * p + q, 0) else (0, 2) := by
  have hl := length_pos v
  have e0 : F3 v p q = (decDigits v ++ 104 :: two p) ++ 109 :: (two q ++ [115]) := by simp [F3]
  rw [e0, rdur_mid _ (by simp; omega) q hq]
  have hv := valR_two p hp
  have hf := foll_two p hp
  obtain ⟨x, y, e⟩ := two_form p
  rw [e] at hv hf ⊢
  have e1 : (decDigits v ++ 104 :: [x, y]).length = (decDigits v).length + 3 := by simp
  unfold rdur2
  rw [e1, show (decDigits v).length + 3 - 3 = (decDigits v).length by omega, show (decDigits v).length + 3 - 2 = (decDigits v).length + 1 by omega]
  have t1 : (decDigits v ++ 104 :: [x, y]).take (decDigits v).length = decDigits v := by simp
  have t2 : (decDigits v ++ 104 :: [x, y]).drop ((decDigits v).length + 1) = [x, y] := by simp [List.drop_append]
  have g1 : (decDigits v ++ 104 :: [x, y]).getD (decDigits v).length 0 = 104 := by simp [List.getD]
  have hz : ¬ valR (decDigits v) = 0 := by rcases valR_dec v with k | ⟨k, _⟩ <;> rw [k] <;> omega
  rw [t1, t2, g1, hv, hf, if_neg (fun k => by rw [canon_no (c := 104) (by simp) (by decide)] at k; exact absurd k.1 (by simp)), if_pos ⟨by omega, rfl, rfl, canon_decDigits v, hz⟩]
  rcases valR_dec v with k | ⟨k, kv⟩
  · rw [k]
  · rw [k, if_neg (by omega), if_neg (by omega)]

/-- Is a text of one of the three forms? -/
def Form (l : List UInt8) : Prop := (∃ v, v < 60 ∧ l = F1 v) ∨ (∃ v p, 0 < v ∧ v < 60 ∧ p < 60 ∧ l = F2 v p) ∨ ∃ v p q, 0 < v ∧ p < 60 ∧ q < 60 ∧ l = F3 v p q
theorem form_eq {l : List UInt8} (h : Form l) : rdur l = pdur l := by
  rcases h with ⟨v, h, rfl⟩ | ⟨v, p, h0, h, hp, rfl⟩ | ⟨v, p, q, h0, hp, hq, rfl⟩
  · rw [rdur_f1 v h, pdur_f1 v h]
  · rw [rdur_f2 v p h0 h hp, pdur_f2 v p h0 h hp]
  · rw [rdur_f3 v p q h0 hp hq, pdur_f3 v p q h0 hp hq]
theorem lead_form {l : List UInt8} (h : (leadS l).2 = true) : ∃ k : Nat, (leadS l).1 = ((min 1000000 k : Nat) : Int) ∧ l = decDigits k := lead_back (v := (leadS l).1) (by rw [← h])
theorem foll_form {l : List UInt8} (h : (follS l).2 = true) : ∃ k : Nat, (follS l).1 = (k : Int) ∧ k < 60 ∧ l = two k := foll_back (n := (follS l).1) (by rw [← h])
theorem pdur_form {l : List UInt8} (h : ¬ Form l) : pdur l = (0, 3) := by
  unfold pdur
  rcases partsS_cases l with k | ⟨a, k⟩ | ⟨a, b, k⟩ | ⟨a, b, c, k⟩
  · rw [k]
  · rw [k]
    have hl := parts_back k
    dsimp only [sumS, glue] at hl ⊢
    rw [if_neg]
    rintro ⟨h1, h2⟩
    obtain ⟨v, hv, rfl⟩ := lead_form h1
    exact h (.inl ⟨v, by omega, hl⟩)
  · rw [k]
    have hl := parts_back k
    dsimp only [sumS, glue] at hl ⊢
    rw [if_neg]
    rintro ⟨h1, h2, h3, h4⟩
    obtain ⟨v, hv, rfl⟩ := lead_form h1
    obtain ⟨p, hp, hp6, rfl⟩ := foll_form h4
    exact h (.inr (.inl ⟨v, p, by omega, by omega, hp6, hl⟩))
  · rw [k]
    have hl := parts_back k
    dsimp only [sumS, glue] at hl ⊢
    rw [if_neg]
    rintro ⟨h1, h3, h4, h5⟩
    obtain ⟨v, hv, rfl⟩ := lead_form h1
    obtain ⟨p, hp, hp6, rfl⟩ := foll_form h4
    obtain ⟨q, hq, hq6, rfl⟩ := foll_form h5
    exact h (.inr (.inr ⟨v, p, q, by omega, hp6, hq6, hl⟩))
theorem split_at {l : List UInt8} {n : Nat} {c : UInt8} (h : n < l.length) (hc : l.getD n 0 = c) : l = l.take n ++ c :: l.drop (n + 1) := by
  have e : l[n] = c := by rw [← hc]; simp [List.getD, h]
  conv => lhs; rw [← List.take_append_drop n l, List.drop_eq_getElem_cons h, e]
theorem dec_of {a : List UInt8} (h : canon a = true) : a = decDigits (val a) := (decDigits_val h).symm
theorem valR_lt {a : List UInt8} (h : canon a = true) (h6 : valR a < 60) : (val a : Int) = valR a := by
  have e := dec_of h
  rcases valR_dec (val a) with k | ⟨k, _⟩
  · rw [← e] at k; exact k.symm
  · rw [← e] at k; omega
theorem rdur_form {l : List UInt8} (h : ¬ Form l) : rdur l = (0, 3) := by
  unfold rdur
  by_cases h1 : 2 ≤ l.length ∧ l.getD (l.length - 1) 0 = 115
  · rw [if_pos h1]
    have hl := split_at (n := l.length - 1) (by omega) h1.2
    rw [show l.length - 1 + 1 = l.length by omega, List.drop_length] at hl
    by_cases h2 : canon (l.take (l.length - 1)) = true ∧ valR (l.take (l.length - 1)) < 60
    · exact absurd (.inl ⟨val (l.take (l.length - 1)), by have := valR_lt h2.1 h2.2; omega, by unfold F1; rw [← dec_of h2.1]; exact hl⟩) h
    · rw [if_neg h2]
      by_cases h3 : 5 ≤ l.length ∧ l.getD (l.length - 4) 0 = 109 ∧ (follS ((l.take (l.length - 1)).drop (l.length - 3))).2 = true
      · rw [if_pos h3]
        obtain ⟨q, hq, hq6, eq⟩ := foll_form h3.2.2
        have hl4 := split_at (n := l.length - 4) (by omega) h3.2.1
        have e3 : l.drop (l.length - 4 + 1) = two q ++ [115] := by
          rw [show l.length - 4 + 1 = l.length - 3 by omega, ← eq]
          have k := congrArg (List.drop (l.length - 3)) hl
          rw [List.drop_append_of_le_length (by simp; omega)] at k
          exact k
        rw [e3] at hl4
        generalize l.take (l.length - 4) = a at *
        unfold rdur2
        by_cases h4 : canon a = true ∧ 0 < valR a ∧ valR a < 60
        · have := valR_lt h4.1 h4.2.2
          exact absurd (.inr (.inl ⟨val a, q, by omega, by omega, hq6, by unfold F2; rw [← dec_of h4.1]; exact hl4⟩)) h
        · rw [if_neg h4]
          by_cases h5 : 4 ≤ a.length ∧ a.getD (a.length - 3) 0 = 104 ∧ (follS (a.drop (a.length - 2))).2 = true ∧ canon (a.take (a.length - 3)) = true ∧ ¬ valR (a.take (a.length - 3)) = 0
          · obtain ⟨k1, k2, k3, k4, k5⟩ := h5
            obtain ⟨p, hp, hp6, ep⟩ := foll_form k3
            have ha := split_at (n := a.length - 3) (by omega) k2
            rw [show a.length - 3 + 1 = a.length - 2 by omega, ep] at ha
            have e := dec_of k4
            have hz : 0 < val (a.take (a.length - 3)) := by
              rcases Nat.eq_zero_or_pos (val (a.take (a.length - 3))) with z | z
              · rcases valR_dec (val (a.take (a.length - 3))) with k | ⟨k, _⟩
                · rw [← e, z] at k; exact absurd k k5
                · omega
              · exact z
            exact absurd (.inr (.inr ⟨val (a.take (a.length - 3)), p, q, hz, hp6, hq6, by
              unfold F3
              rw [← e, hl4]
              conv => lhs; rw [ha]
              simp⟩)) h
          · rw [if_neg h5]
      · rw [if_neg h3]
  · rw [if_neg h1]
/-- The reference reads durations as the program does. -/
theorem rdur_eq (l : List UInt8) : rdur l = pdur l := by
  by_cases h : Form l
  · exact form_eq h
  · rw [rdur_form h, pdur_form h]
end Go.Proofs.Ytnmapjflofoflaa
