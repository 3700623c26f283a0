/-
  THE PLAIN LAWS OF DURATIONS: pdur reads what durText writes, and what it accepts is such a text. Conditions: none.
-/
import Derived.Test.YtnmapjflofoflaaClkDur
import Derived.Test.YtnmapjflofoflaaClkWalksF
namespace Go.Proofs.Ytnmapjflofoflaa
open Num Clk

theorem index_not (c : UInt8) (l : List UInt8) (h : c ∉ l) : Lib.index l [c] = -1 := by
  induction l with
  | nil => rfl
  | cons b l ih =>
    rw [List.mem_cons, not_or] at h
    unfold Lib.index
    rw [if_neg (by simp [h.1]), ih h.2]
    rfl
theorem index_at (c : UInt8) (a b : List UInt8) (h : c ∉ a) : Lib.index (a ++ c :: b) [c] = a.length := by
  induction a with
  | nil => unfold Lib.index; simp
  | cons x a ih =>
    rw [List.mem_cons, not_or] at h
    rw [List.cons_append]
    unfold Lib.index
    rw [if_neg (by simp [h.1]), ih h.2, if_neg (by simp)]
    simp
theorem cut_not {c : UInt8} {l : List UInt8} (h : c ∉ l) : Lib.cut l [c] = (l, [], false) := by
  unfold Lib.cut
  rw [index_not c l h, if_neg (by decide)]
theorem cut_at {c : UInt8} {a b : List UInt8} (h : c ∉ a) : Lib.cut (a ++ c :: b) [c] = (a, b, true) := by
  unfold Lib.cut
  rw [index_at c a b h, if_pos (by omega)]
  simp
theorem cut_back {c : UInt8} {l a b : List UInt8} (h : Lib.cut l [c] = (a, b, true)) : l = a ++ c :: b := by
  by_cases k : c ∈ l
  · obtain ⟨x, y, rfl, hx⟩ := List.eq_append_cons_of_mem k
    rw [cut_at hx] at h
    rw [Prod.mk.injEq, Prod.mk.injEq] at h
    rw [h.1, h.2.1]
  · rw [cut_not k] at h
    simp at h

theorem suf_at (u : List UInt8) : Lib.hasSuffix (u ++ [115]) [115] = true := by
  unfold Lib.hasSuffix
  rw [List.isSuffixOf_iff_suffix]
  exact ⟨u, rfl⟩
theorem trim_at (u : List UInt8) : Lib.trimSuffix (u ++ [115]) [115] = u := by
  unfold Lib.trimSuffix
  rw [if_pos (suf_at u)]
  simp
theorem suf_back {l : List UInt8} (h : Lib.hasSuffix l [115] = true) : l = Lib.trimSuffix l [115] ++ [115] := by
  unfold Lib.hasSuffix at h
  rw [List.isSuffixOf_iff_suffix] at h
  obtain ⟨u, rfl⟩ := h
  rw [trim_at]

/-- The text with these parts. -/
def glue : List (List UInt8) → List UInt8
  | [a] => a ++ [115]
  | [a, b] => a ++ 109 :: (b ++ [115])
  | [a, b, c] => a ++ 104 :: (b ++ 109 :: (c ++ [115]))
  | _ => []

theorem parts_back {l : List UInt8} {ls : List (List UInt8)} (h : partsS l = some ls) : l = glue ls := by
  unfold partsS at h
  by_cases h1 : Lib.hasSuffix l [115] = true
  · rw [if_pos h1] at h
    have hl := suf_back h1
    generalize Lib.trimSuffix l [115] = u at h hl
    rcases hc : Lib.cut u [109] with ⟨a, b, f⟩
    rw [hc] at h
    cases f with
    | false =>
      rw [if_neg (by simp), Option.some.injEq] at h
      subst h
      exact hl
    | true =>
      have hu := cut_back hc
      rw [if_pos rfl] at h
      dsimp only at h
      rcases hc' : Lib.cut a [104] with ⟨a', b', f'⟩
      rw [hc'] at h
      cases f' with
      | false =>
        rw [if_neg (by simp), Option.some.injEq] at h
        subst h
        rw [hl, hu]
        simp [glue]
      | true =>
        have ha := cut_back hc'
        rw [if_pos rfl, Option.some.injEq] at h
        subst h
        rw [hl, hu, ha]
        simp [glue]
  · rw [if_neg h1] at h
    simp at h

theorem parts_one {a : List UInt8} (h : (109 : UInt8) ∉ a) : partsS (a ++ [115]) = some [a] := by
  unfold partsS
  rw [if_pos (suf_at a), trim_at, cut_not h, if_neg (by simp)]
theorem parts_two {a b : List UInt8} (h : (109 : UInt8) ∉ a) (h2 : (104 : UInt8) ∉ a) : partsS (a ++ 109 :: (b ++ [115])) = some [a, b] := by
  unfold partsS
  rw [show a ++ 109 :: (b ++ [115]) = (a ++ 109 :: b) ++ [115] by simp, if_pos (suf_at _), trim_at, cut_at h, if_pos rfl]
  dsimp only
  rw [cut_not h2, if_neg (by simp)]
theorem parts_three {a b c : List UInt8} (h : (109 : UInt8) ∉ a) (h2 : (104 : UInt8) ∉ a) (h3 : (109 : UInt8) ∉ b) : partsS (a ++ 104 :: (b ++ 109 :: (c ++ [115]))) = some [a, b, c] := by
  unfold partsS
  rw [show a ++ 104 :: (b ++ 109 :: (c ++ [115])) = ((a ++ 104 :: b) ++ 109 :: c) ++ [115] by simp, if_pos (suf_at _), trim_at, cut_at (by simp [h, h3]), if_pos rfl]
  dsimp only
  rw [cut_at h2, if_pos rfl]

theorem dig_not {l : List UInt8} (h : allDig l = true) {c : UInt8} (hc : 57 < c.toNat) : c ∉ l := by
  intro k
  unfold allDig at h
  rw [List.all_eq_true] at h
  have := h c k
  rw [isDig_iff] at this
  omega
theorem canon_dig {l : List UInt8} (h : canon l = true) : allDig l = true := by
  unfold canon at h
  rw [Bool.and_eq_true, Bool.and_eq_true] at h
  exact h.1.1
theorem two_dig (n : Nat) (h : n < 100) : allDig (two n) = true := by
  obtain ⟨h1, h2, _⟩ := two_digits n h
  unfold two allDig
  simp only [List.all_cons, List.all_nil, h1, h2, Bool.and_true]
theorem foll_two (n : Nat) (h : n < 60) : follS (two n) = ((n : Int), true) := by
  obtain ⟨h1, h2, h3⟩ := two_digits n (by omega)
  have := toNat_digit (n / 10) (by omega)
  unfold two follS
  dsimp only
  rw [if_pos ⟨h1, h2, by omega⟩, h3]
theorem foll_back {l : List UInt8} {n : Int} (h : follS l = (n, true)) : ∃ k : Nat, n = k ∧ k < 60 ∧ l = two k := by
  unfold follS at h
  split at h
  · split at h
    · rename_i x y hc
      obtain ⟨h1, h2, h3⟩ := hc
      obtain ⟨rfl, _⟩ := Prod.mk.inj h
      have b1 := dig_bd h1
      have b2 := dig_bd h2
      refine ⟨(pair x y).toNat, ?_, ?_, ?_⟩
      · unfold pair; omega
      · unfold pair; omega
      · exact (pair_two h1 h2 _ (by unfold pair; omega)).symm
    · simp at h
  · simp at h
theorem lead_dec (n : Nat) (h : n ≤ 1000000) : leadS (decDigits n) = ((n : Int), true) := by
  unfold leadS
  rw [if_pos (canon_decDigits n), val_decDigits, Nat.min_eq_right h]
theorem lead_back {l : List UInt8} {v : Int} (h : leadS l = (v, true)) : ∃ k : Nat, v = ((min 1000000 k : Nat) : Int) ∧ l = decDigits k := by
  unfold leadS at h
  split at h
  · rename_i hc
    obtain ⟨rfl, _⟩ := Prod.mk.inj h
    exact ⟨val l, rfl, (decDigits_val hc).symm⟩
  · simp at h

/-- The text of a duration is read as it. -/
theorem pdur_text (n : Nat) (h : n ≤ 359999) : pdur (durText n) = ((n : Int), 0) := by
  have c1 := fun k => dig_not (canon_dig (canon_decDigits k)) (c := 109) (by decide)
  have c2 := fun k => dig_not (canon_dig (canon_decDigits k)) (c := 104) (by decide)
  have t3 : (109 : UInt8) ∉ two (n / 60 % 60) := dig_not (two_dig _ (by omega)) (by decide)
  unfold pdur
  by_cases h1 : 3600 ≤ n
  · rw [show durText n = decDigits (n / 3600) ++ 104 :: (two (n / 60 % 60) ++ 109 :: (two (n % 60) ++ [115])) by unfold durText; rw [if_pos h1], parts_three (c1 _) (c2 _) t3]
    dsimp only [sumS]
    rw [lead_dec _ (by omega), foll_two _ (by omega), foll_two _ (by omega)]
    dsimp only
    rw [if_pos ⟨rfl, by omega, rfl, rfl⟩, if_pos (by omega), Prod.mk.injEq]
    exact ⟨by omega, rfl⟩
  · by_cases h2 : 60 ≤ n
    · rw [show durText n = decDigits (n / 60) ++ 109 :: (two (n % 60) ++ [115]) by unfold durText; rw [if_neg h1, if_pos h2], parts_two (c1 _) (c2 _)]
      dsimp only [sumS]
      rw [lead_dec _ (by omega), foll_two _ (by omega)]
      dsimp only
      rw [if_pos ⟨rfl, by omega, by omega, rfl⟩, Prod.mk.injEq]
      exact ⟨by omega, rfl⟩
    · rw [show durText n = decDigits n ++ [115] by unfold durText; rw [if_neg h1, if_neg h2], parts_one (c1 _)]
      dsimp only [sumS]
      rw [lead_dec _ (by omega)]
      dsimp only
      rw [if_pos ⟨rfl, by omega⟩]

/-- A text that is accepted is the text of its duration. -/
theorem text_pdur {l : List UInt8} {n : Int} (h : pdur l = (n, 0)) : fmtD n = (l, 0) := by
  unfold pdur at h
  rcases partsS_cases l with k | ⟨a, k⟩ | ⟨a, b, k⟩ | ⟨a, b, c, k⟩
  · rw [k] at h
    simp at h
  · rw [k] at h
    have hl := parts_back k
    dsimp only [sumS, glue] at h hl
    split at h
    · rename_i hc
      obtain ⟨h1, h2⟩ := hc
      obtain ⟨v, hv, rfl⟩ := lead_back (l := a) (v := (leadS a).1) (by rw [← h1])
      obtain ⟨rfl, _⟩ := Prod.mk.inj h
      rw [hv] at h2 ⊢
      have e : min 1000000 v = v := by omega
      rw [e] at h2 ⊢
      unfold fmtD
      rw [if_pos (by omega), show ((v : Int)).toNat = v from rfl, hl]
      unfold durText
      rw [if_neg (by omega), if_neg (by omega)]
    · simp at h
  · rw [k] at h
    have hl := parts_back k
    dsimp only [sumS, glue] at h hl
    split at h
    · rename_i hc
      obtain ⟨h1, h2, h3, h4⟩ := hc
      obtain ⟨v, hv, rfl⟩ := lead_back (l := a) (v := (leadS a).1) (by rw [← h1])
      obtain ⟨p, hp, hp6, rfl⟩ := foll_back (l := b) (n := (follS b).1) (by rw [← h4])
      obtain ⟨rfl, _⟩ := Prod.mk.inj h
      rw [hv] at h2 h3 ⊢
      rw [hp]
      have e : min 1000000 v = v := by omega
      rw [e] at h2 h3 ⊢
      unfold fmtD
      rw [if_pos (by omega), show (60 * (v : Int) + (p : Int)).toNat = 60 * v + p by omega, hl]
      unfold durText
      rw [if_neg (by omega), if_pos (by omega), show (60 * v + p) / 60 = v by omega, show (60 * v + p) % 60 = p by omega]
    · simp at h
  · rw [k] at h
    have hl := parts_back k
    dsimp only [sumS, glue] at h hl
    split at h
    · rename_i hc
      obtain ⟨h1, h3, h4, h5⟩ := hc
      obtain ⟨v, hv, rfl⟩ := lead_back (l := a) (v := (leadS a).1) (by rw [← h1])
      obtain ⟨p, hp, hp6, rfl⟩ := foll_back (l := b) (n := (follS b).1) (by rw [← h4])
      obtain ⟨q, hq, hq6, rfl⟩ := foll_back (l := c) (n := (follS c).1) (by rw [← h5])
      split at h
      · rename_i ht
        obtain ⟨rfl, _⟩ := Prod.mk.inj h
        rw [hv, hp, hq] at ht ⊢
        rw [hv] at h3
        have e : min 1000000 v = v := by omega
        rw [e] at h3 ht ⊢
        unfold fmtD
        rw [if_pos (by omega), show (60 * (60 * (v : Int) + (p : Int)) + (q : Int)).toNat = 60 * (60 * v + p) + q by omega, hl]
        unfold durText
        rw [if_pos (by omega), show (60 * (60 * v + p) + q) / 3600 = v by omega, show (60 * (60 * v + p) + q) / 60 % 60 = p by omega, show (60 * (60 * v + p) + q) % 60 = q by omega]
      · simp at h
    · simp at h
theorem durText_len (n : Nat) (h : n ≤ 359999) : (durText n).length ≤ 4096 := by
  have k : ∀ m, m ≤ 359999 → (decDigits m).length ≤ 19 := fun m hm => length_19 m (by omega)
  have h1 := k n h
  have h2 := k (n / 60) (by omega)
  have h3 := k (n / 3600) (by omega)
  unfold durText two
  split
  · simp; omega
  · split
    · simp; omega
    · simp; omega
end Go.Proofs.Ytnmapjflofoflaa
