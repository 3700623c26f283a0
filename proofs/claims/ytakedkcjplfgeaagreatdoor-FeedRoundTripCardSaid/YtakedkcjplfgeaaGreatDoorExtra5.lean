/-
  Lemmas that the packed texts have left out. Conditions: those of each lemma.
-/
import Derived.Test.YtakedkcjplfgeaaGreatDoorExtra
import Derived.Test.YtakedkcjplfgeaaGreatDoorPkPlain
import GoSem.Op.String
namespace Go.Proofs.YtakedkcjplfgeaaGreatDoor.Num
theorem val_decDigits (u : Nat) : val (decDigits u) = u := by
  induction u using Nat.strongRecOn with
  | _ u ih =>
    by_cases h : u < 10
    · rw [decDigits_small h]
      have := toNat_digit u h
      simp only [val, List.foldl_cons, List.foldl_nil, this]
      omega
    · rw [decDigits_big h, val_snoc, ih (u / 10) (by omega), toNat_digit (u % 10) (by omega)]
      omega
theorem allDig_decDigits (u : Nat) : allDig (decDigits u) = true := by
  induction u using Nat.strongRecOn with
  | _ u ih =>
    by_cases h : u < 10
    · rw [decDigits_small h]
      have := toNat_digit u h
      simp only [allDig, List.all_cons, List.all_nil, Bool.and_true, isDig_iff]
      omega
    · rw [decDigits_big h, allDig_snoc, ih (u / 10) (by omega)]
      have := toNat_digit (u % 10) (by omega)
      simp only [Bool.true_and, isDig_iff]
      omega
theorem head_decDigits (u : Nat) (hu : 0 < u) : (decDigits u).head? ≠ some 48 := by
  induction u using Nat.strongRecOn with
  | _ u ih =>
    by_cases h : u < 10
    · rw [decDigits_small h]
      have := toNat_digit u h
      intro e
      simp only [List.head?_cons, Option.some.injEq] at e
      rw [e] at this
      simp at this
      omega
    · rw [decDigits_big h]
      have := ih (u / 10) (by omega) (by omega)
      have hne := decDigits_ne (u / 10)
      cases hd : decDigits (u / 10) with
      | nil => exact absurd hd hne
      | cons a t =>
        rw [hd] at this
        simpa using this
theorem canon_decDigits (u : Nat) : canon (decDigits u) = true := by
  have h1 := allDig_decDigits u
  have h2 : (decDigits u).isEmpty = false := by
    have := decDigits_ne u
    cases hd : decDigits u with
    | nil => exact absurd hd this
    | cons a t => rfl
  by_cases hu : u = 0
  · subst hu
    rw [decDigits_small (by omega)]
    decide
  · have h3 := head_decDigits u (by omega)
    simp [canon, h1, h2, h3]
theorem decDigits_zero_iff (u : Nat) : decDigits u = [48] ↔ u = 0 := by
  constructor
  · intro h
    have := val_decDigits u
    rw [h] at this
    simpa [val] using this.symm
  · rintro rfl
    rw [decDigits_small (by omega)]
    rfl
theorem head_dig {l : List UInt8} (h : canon l = true) : l.head? ≠ some 45 := by
  cases l with
  | nil => simp
  | cons a t =>
    simp [canon, allDig, isDig] at h
    intro e
    simp only [List.head?_cons, Option.some.injEq] at e
    subst e
    simp at h
theorem parse_itoa (n : Int) (h0 : -9223372036854775808 ≤ n) (h1 : n ≤ 9223372036854775807) : parse (itoa n) = (n, 0) := by
  unfold parse itoa
  by_cases hn : n < 0
  · rw [if_pos hn, if_pos (by rfl), List.tail_cons, val_decDigits, if_pos ⟨canon_decDigits _, by rw [Ne, decDigits_zero_iff]; omega⟩, if_pos (by unfold big; omega)]
    rw [Prod.mk.injEq]
    exact ⟨by omega, rfl⟩
  · rw [if_neg hn, if_neg (head_dig (canon_decDigits _)), if_pos (canon_decDigits _), val_decDigits, if_pos (by unfold big; omega)]
    rw [Prod.mk.injEq]
    exact ⟨by omega, rfl⟩
end Go.Proofs.YtakedkcjplfgeaaGreatDoor.Num
namespace Go.Proofs.YtakedkcjplfgeaaGreatDoor.Clk
open Num
theorem two_digits (n : Nat) (h : n < 100) : isDig (UInt8.ofNat (48 + n / 10)) = true ∧ isDig (UInt8.ofNat (48 + n % 10)) = true ∧ pair (UInt8.ofNat (48 + n / 10)) (UInt8.ofNat (48 + n % 10)) = n := by
  have h1 := toNat_digit (n / 10) (by omega)
  have h2 := toNat_digit (n % 10) (by omega)
  refine ⟨?_, ?_, ?_⟩
  · rw [isDig_iff]; omega
  · rw [isDig_iff]; omega
  · unfold pair
    rw [h1, h2]
    omega
end Go.Proofs.YtakedkcjplfgeaaGreatDoor.Clk
namespace Go.Proofs.YtakedkcjplfgeaaGreatDoor.Dat
open Num Clk
theorem mon_date (d : Int) : (12 * (yearOf d - 2000) + monthOf d - 1).toNat = mon d := by
  unfold yearOf monthOf
  omega
theorem from_civil (d : Int) (h0 : 0 ≤ d) (h1 : d ≤ 36524) : fromCivil (yearOf d) (monthOf d) (dayOf d) = (d, true) := by
  unfold fromCivil
  rw [if_pos (civil_bd d h0 h1), mon_date, Prod.mk.injEq]
  exact ⟨by unfold dayOf; omega, rfl⟩
end Go.Proofs.YtakedkcjplfgeaaGreatDoor.Dat
namespace Go.Proofs.YtakedkcjplfgeaaGreatDoor.Dat
open Num Clk
theorem shaped10_of {l : List UInt8} {y m d : Int} (h : DF l y m d) : shapedB l pat10 = true := by
  obtain ⟨a, b, c, e, f, g, h, k, rfl, ⟨h1, h2, h3, h4⟩, ⟨h5, h6⟩, ⟨h7, h8⟩, _⟩ := h
  simp [shapedB, pat10, *]
theorem dtext_df (d : Int) (h0 : 0 ≤ d) (h1 : d ≤ 36524) : DF (dtext d) (yearOf d) (monthOf d) (dayOf d) := by
  obtain ⟨⟨y0, y1⟩, ⟨m0, m1⟩, ⟨d0, d1⟩⟩ := civil_bd d h0 h1
  have hm := mlen_bd (yearOf d) (monthOf d)
  obtain ⟨a1, a2, a3⟩ := two_digits ((yearOf d).toNat / 100) (by omega)
  obtain ⟨b1, b2, b3⟩ := two_digits ((yearOf d).toNat % 100) (by omega)
  obtain ⟨c1, c2, c3⟩ := two_digits (monthOf d).toNat (by omega)
  obtain ⟨e1, e2, e3⟩ := two_digits (dayOf d).toNat (by omega)
  refine ⟨_, _, _, _, _, _, _, _, rfl, ⟨a1, a2, b1, b2⟩, ⟨c1, c2⟩, ⟨e1, e2⟩, ?_, ?_, ?_⟩
  · rw [a3, b3]; omega
  · rw [c3]; omega
  · rw [e3]; omega
end Go.Proofs.YtakedkcjplfgeaaGreatDoor.Dat
namespace Go.Proofs.YtakedkcjplfgeaaGreatDoor.Fld
theorem plain_no_quote {l : List UInt8} (h : plainS l = true) : ∀ b ∈ l, specB b = false := by
  unfold plainS at h
  rw [Bool.and_eq_true, Bool.not_eq_true', List.any_eq_false] at h
  intro b hb
  simpa using h.1 b hb
theorem plain_ne {l : List UInt8} (h : plainS l = true) : l ≠ [] := by
  intro e
  rw [e] at h
  simp [plainS] at h
theorem quoted_not_plain (l : List UInt8) : plainS (34 :: (inner l ++ [34])) = false := by
  cases h : plainS (34 :: (inner l ++ [34])) with
  | false => rfl
  | true =>
    have := plain_no_quote h 34 (List.mem_cons_self ..)
    exact absurd this (by decide)
theorem unq_quote (o : List UInt8) : unquoteS (quoteS o) = some o := by
  cases h : plainS o with
  | true => rw [quote_plain h]; unfold unquoteS; rw [if_pos h]
  | false =>
    have hq := quote_not h
    unfold unquoteS
    rw [hq, if_neg (by rw [quoted_not_plain]; decide), if_neg]
    · rw [List.drop_succ_cons, List.drop_zero, List.dropLast_concat, dec_inner]
      simp only
      rw [if_pos hq]
    · have hl : (34 :: (inner o ++ [34]) : List UInt8).getLast? = some 34 := by
        rw [show (34 :: (inner o ++ [34]) : List UInt8) = (34 :: inner o) ++ [34] from rfl, List.getLast?_concat]
      rw [hl]
      simp
end Go.Proofs.YtakedkcjplfgeaaGreatDoor.Fld
namespace Go.Proofs.YtakedkcjplfgeaaGreatDoor.Fld
theorem scanC_plain : ∀ (l rest : List UInt8), (∀ b ∈ l, specB b = false) → (rest = [] ∨ ∃ r, rest = 44 :: r) → scanC (l ++ rest) = l.length
  | [], rest, _, h => by
    rcases h with rfl | ⟨r, rfl⟩
    · rfl
    · rfl
  | c :: l, rest, h, h' => by
    have hc := h c (List.mem_cons_self ..)
    rw [List.cons_append]
    unfold scanC
    have h44 : (c.toNat == 44) = false := by
      unfold specB at hc
      simp only [Bool.or_eq_false_iff] at hc
      exact hc.1
    rw [if_neg (by rw [h44]; decide), scanC_plain l rest (fun b hb => h b (List.mem_cons_of_mem _ hb)) h', List.length_cons]
    omega
theorem hexd_skip {n : Nat} (h : n < 16) : ((hexd n).toNat == 34) = false ∧ ((hexd n).toNat == 92) = false := by
  rw [beq_eq_false_iff_ne, beq_eq_false_iff_ne, hexd_val h]
  split <;> omega
theorem scanQ_escB (b : UInt8) (r : List UInt8) : scanQ (escB b ++ r) = (escB b).length + scanQ r := by
  unfold escB
  split
  · exact scanQ_esc b r
  · rename_i h
    split
    · have hb := u8_lt b
      obtain ⟨x1, x2⟩ := hexd_skip (show b.toNat / 16 < 16 by omega)
      obtain ⟨y1, y2⟩ := hexd_skip (show b.toNat % 16 < 16 by omega)
      show scanQ (92 :: 120 :: hexd (b.toNat / 16) :: hexd (b.toNat % 16) :: r) = 4 + scanQ r
      rw [scanQ_esc, scanQ_skip _ _ x1 x2, scanQ_skip _ _ y1 y2]
      omega
    · show scanQ (b :: r) = 1 + scanQ r
      simp only [Bool.or_eq_true, not_or, Bool.not_eq_true] at h
      exact scanQ_skip b r h.1 h.2
theorem scanQ_inner : ∀ (l r : List UInt8), scanQ (inner l ++ r) = (inner l).length + scanQ r
  | [], r => by simp [inner]
  | b :: l, r => by
    have e : inner (b :: l) = escB b ++ inner l := by simp [inner]
    rw [e, List.append_assoc, scanQ_escB, scanQ_inner l r, List.length_append]
    omega
theorem ext_quote (o rest : List UInt8) (h : rest = [] ∨ ∃ r, rest = 44 :: r) : extS (quoteS o ++ rest) = (quoteS o).length := by
  cases hp : plainS o with
  | true =>
    rw [quote_plain hp]
    have hne := plain_ne hp
    have hs := plain_no_quote hp
    cases o with
    | nil => exact absurd rfl hne
    | cons c r =>
      have hc := hs c (List.mem_cons_self ..)
      have h34 : (c.toNat == 34) = false := by
        unfold specB at hc
        simp only [Bool.or_eq_false_iff] at hc
        exact hc.2.1
      show (if (c.toNat == 34) = true then _ else scanC ((c :: r) ++ rest)) = _
      rw [if_neg (by rw [h34]; decide)]
      exact scanC_plain _ _ hs h
  | false =>
    rw [quote_not hp]
    show (if ((34 : UInt8).toNat == 34) = true then 1 + scanQ ((inner o ++ [34]) ++ rest) else scanC (34 :: ((inner o ++ [34]) ++ rest))) = _
    rw [if_pos (by decide), List.append_assoc, scanQ_inner]
    have : scanQ ([34] ++ rest) = 1 := by
      show scanQ (34 :: rest) = 1
      unfold scanQ
      rw [if_pos (by decide)]
    rw [this, List.length_cons, List.length_append, List.length_singleton]
    omega
theorem splitF_join : ∀ (n : Nat) (l : List (List UInt8)), l ≠ [] → l.length ≤ n → splitF n (joinS l) = (l, 0)
  | 0, l, h, hl => by cases l with | nil => exact absurd rfl h | cons => simp at hl
  | n + 1, [], h, _ => absurd rfl h
  | n + 1, [x], _, _ => by
    have he : extS (joinS [x]) = (quoteS x).length := by
      have := ext_quote x [] (.inl rfl)
      rw [List.append_nil] at this
      exact this
    simp only [splitF]
    rw [he]
    show (match unquoteS ((quoteS x).take (quoteS x).length) with | none => _ | some f => _) = _
    rw [List.take_length, unq_quote]
    simp only
    rw [show (joinS [x]).drop (quoteS x).length = [] from List.drop_length]
  | n + 1, x :: y :: r, _, hl => by
    have e : joinS (x :: y :: r) = quoteS x ++ 44 :: joinS (y :: r) := rfl
    have he : extS (joinS (x :: y :: r)) = (quoteS x).length := by rw [e]; exact ext_quote x _ (.inr ⟨_, rfl⟩)
    have ih := splitF_join n (y :: r) (by simp) (by simpa using hl)
    simp only [splitF]
    rw [he, e, List.take_left, unq_quote]
    simp only
    rw [List.drop_left]
    simp only
    rw [if_pos (by decide), ih, if_pos rfl]
theorem split_join {l : List (List UInt8)} {s : List UInt8} (h : joinR l = (s, 0)) : splitS s = (l, 0) := by
  unfold joinR at h
  split at h
  · rw [Prod.mk.injEq] at h; exact absurd h.2 (by decide)
  · split at h
    · rw [Prod.mk.injEq] at h; exact absurd h.2 (by decide)
    · rw [Prod.mk.injEq] at h
      obtain ⟨rfl, -⟩ := h
      unfold splitS
      rw [if_neg (by assumption)]
      cases l with
      | nil => rfl
      | cons x r =>
        have hne : joinS (x :: r) ≠ [] := by
          intro e
          have hq : quoteS x ≠ [] := by
            cases hp : plainS x with
            | true => rw [quote_plain hp]; exact plain_ne hp
            | false => rw [quote_not hp]; simp
          cases r with
          | nil => exact hq e
          | cons y r => rw [joinS_cons x (by simp)] at e; simp at e
        rw [if_neg hne]
        exact splitF_join 64 _ (by simp) (by omega)
end Go.Proofs.YtakedkcjplfgeaaGreatDoor.Fld
namespace Go.Proofs.YtakedkcjplfgeaaGreatDoor.Tt
open Num Clk Dat Frq Thr Fld
def St.ids (s : St) : List (List UInt8) := s.t.stops.map (·.id)
end Go.Proofs.YtakedkcjplfgeaaGreatDoor.Tt
namespace Go.Proofs.YtakedkcjplfgeaaGreatDoor.Tt
open Num Clk Dat Frq Thr Fld
theorem flag_text (b : Bool) : flagR (yesT b) = (b, 0) := by cases b <;> decide
theorem added_text (b : Bool) : eitherR wAdded wRemoved (if b then wAdded else wRemoved) = (b, 0) := by cases b <;> decide
theorem week_text (w : WeekD) : weekR (weekT w) = (w, 0) := by
  have h : ∀ b, (bitT b == 49) = b := fun b => by cases b <;> rfl
  have h2 : ∀ b, (bitT b == 48 || b) = true := fun b => by cases b <;> rfl
  unfold weekT weekR
  simp only [List.all_cons, List.all_nil, h, h2, Bool.and_self, if_true]
theorem perm_text (c : CallD) : permR (permT c) = ((c.board, c.alight), 0) := by
  obtain ⟨s, a, d, b, al⟩ := c
  cases b <;> cases al <;> rfl
theorem mode_text {m : Int} (h : 0 ≤ m ∧ m ≤ 7) : modeR (modeT m) = (m, 0) := by
  have : m = 0 ∨ m = 1 ∨ m = 2 ∨ m = 3 ∨ m = 4 ∨ m = 5 ∨ m = 6 ∨ m = 7 := by omega
  rcases this with rfl | rfl | rfl | rfl | rfl | rfl | rfl | rfl <;> decide
theorem modes_all : ∀ m : Fin 256, modesR (modesT (m.val : Int)) = ((m.val : Int), 0) := by decide +kernel
theorem modes_text {m : Int} (h : 0 ≤ m ∧ m ≤ 255) : modesR (modesT m) = (m, 0) := by
  have := modes_all ⟨m.toNat, by omega⟩
  simpa [Int.toNat_of_nonneg h.1] using this
theorem idxOf_at : ∀ {ids : List (List UInt8)} (_ : ids.Nodup) (i : Nat) {x : List UInt8}, ids[i]? = some x → idxOf x ids = some i
  | [], _, i, x, h => by simp at h
  | y :: r, hn, 0, x, h => by
    have : y = x := by simpa using h
    unfold idxOf
    rw [if_pos this]
  | y :: r, hn, i + 1, x, h => by
    have hx : r[i]? = some x := by simpa using h
    have hne : y ≠ x := fun e => (List.nodup_cons.1 hn).1 (by rw [e]; exact List.mem_of_getElem? hx)
    unfold idxOf
    rw [if_neg hne, idxOf_at (List.nodup_cons.1 hn).2 i hx]
    rfl
theorem ref_text {ids : List (List UInt8)} (hn : ids.Nodup) {i : Int} (h : 0 ≤ i ∧ i < ids.length) : refR ids (idAt ids i) = (i, 0) := by
  have hk : i.toNat < ids.length := by omega
  unfold refR idAt
  rw [idxOf_at hn i.toNat (by rw [List.getD_eq_getElem?_getD, List.getElem?_eq_getElem hk]; rfl)]
  simp [Int.toNat_of_nonneg h.1]
theorem timeR_text {t : Int} (h : 0 ≤ t ∧ t ≤ 172800) : timeR (fmt t).1 = (t, 0) := by
  obtain ⟨k, rfl⟩ : ∃ k : Nat, t = k := ⟨t.toNat, by omega⟩
  unfold fmt
  rw [if_pos h]
  simp only [Int.toNat_natCast]
  obtain ⟨a1, a2, a3⟩ := two_digits (k / 3600) (by omega)
  obtain ⟨b1, b2, b3⟩ := two_digits (k / 60 % 60) (by omega)
  obtain ⟨c1, c2, c3⟩ := two_digits (k % 60) (by omega)
  unfold clockText two
  show (if (58 : UInt8) = 58 ∧ (58 : UInt8) = 58 ∧ _ then _ else _) = _
  rw [if_pos ⟨rfl, rfl, a1, a2, b1, b2, c1, c2⟩, a3, b3, c3]
  have hj : join ((k / 3600 : Nat) : Int) ((k / 60 % 60 : Nat) : Int) ((k % 60 : Nat) : Int) = ((k : Int), true) := by
    unfold join
    rw [if_pos (by omega)]
    rw [show 3600 * ((k / 3600 : Nat) : Int) + 60 * ((k / 60 % 60 : Nat) : Int) + ((k % 60 : Nat) : Int) = (k : Int) by omega]
  rw [hj]
theorem dayR_text {d : Int} (h : 0 ≤ d ∧ d ≤ 36524) : dayR (dfmt d).1 = (d, 0) := by
  have h1 := dtext_df d h.1 h.2
  have h2 := from_civil d h.1 h.2
  unfold dfmt
  rw [if_pos h]
  show dayR (dtext d) = _
  unfold dayR
  rw [if_pos (shaped10_of h1)]
  obtain ⟨a, b, c, e, f, g, h', k, hl, -, -, -, e1, e2, e3⟩ := h1
  rw [hl]
  simp only
  rw [← e1, ← e2, ← e3, h2]
theorem digit_of (d : Nat) (h : d < 10) : isDig (UInt8.ofNat (48 + d)) = true ∧ (UInt8.ofNat (48 + d)).toNat - 48 = d := by
  have ht : (UInt8.ofNat (48 + d)).toNat = 48 + d := by
    rw [UInt8.toNat_ofNat']
    omega
  exact ⟨(isDig_iff _).2 (by omega), by omega⟩
theorem priceR_text {c : Int} (h : 0 ≤ c ∧ c ≤ 1000000) : priceR (fmtPrice c).1 = (c, 0) := by
  obtain ⟨k, rfl⟩ : ∃ k : Nat, c = k := ⟨c.toNat, by omega⟩
  unfold fmtPrice
  rw [if_neg (by omega)]
  simp only [Int.toNat_natCast]
  unfold priceText
  obtain ⟨x1, x2⟩ := digit_of (k / 10 % 10) (by omega)
  obtain ⟨y1, y2⟩ := digit_of (k % 10) (by omega)
  have hv := val_decDigits (k / 100)
  have hc := canon_decDigits (k / 100)
  generalize UInt8.ofNat (48 + k / 10 % 10) = x at *
  generalize UInt8.ofNat (48 + k % 10) = y at *
  generalize decDigits (k / 100) = a at *
  have hlen : (a ++ [46, x, y]).length - 3 = a.length := by simp
  unfold priceR
  rw [hlen, List.drop_left, List.take_left]
  simp only
  rw [if_pos ⟨trivial, hc, x1, y1⟩, hv, x2, y2, if_neg (by omega)]
  rw [show 100 * (k / 100) + 10 * (k / 10 % 10) + k % 10 = k by omega]
end Go.Proofs.YtakedkcjplfgeaaGreatDoor.Tt
namespace Go.Proofs.YtakedkcjplfgeaaGreatDoor.Tt
open Num Clk Dat Frq Thr Fld
theorem linesF_cons (s : St) (n : Int) (l : List UInt8) (r : List (List UInt8)) : linesF s n (l :: r) = if (lineF s l n).2 = 0 then linesF (lineF s l n).1 (n + 1) r else (s, n, (lineF s l n).2) := rfl
theorem lines_app : ∀ (a b : List (List UInt8)) (s : St) (n : Int), linesF s n (a ++ b) = if (linesF s n a).2.2 = 0 then linesF (linesF s n a).1 (n + a.length) b else linesF s n a
  | [], b, s, n => by simp [linesF]
  | l :: a, b, s, n => by
    rw [List.cons_append, linesF_cons, linesF_cons]
    by_cases h : (lineF s l n).2 = 0
    · rw [if_pos h, if_pos h, lines_app a b, List.length_cons, show n + 1 + (a.length : Int) = n + ((a.length + 1 : Nat) : Int) by omega]
    · rw [if_neg h, if_neg h, if_neg h]
end Go.Proofs.YtakedkcjplfgeaaGreatDoor.Tt
namespace Go.Proofs.YtakedkcjplfgeaaGreatDoor.Tt
open Num Clk Dat Frq Thr Fld
def Reads (s : St) (rows : List (List UInt8)) (s' : St → Prop) : Prop := ∀ n : Int, 0 < n → ∃ q, linesF s n rows = (q, 0, 0) ∧ s' q
theorem reads_nil {s : St} {S : St → Prop} (h : S s) : Reads s [] S := fun _ _ => ⟨s, rfl, h⟩
theorem reads_app {s : St} {a b : List (List UInt8)} {A S : St → Prop} (h : Reads s a A) (k : ∀ q, A q → Reads q b S) : Reads s (a ++ b) S := fun n hn => by
  obtain ⟨q, h1, h2⟩ := h n hn
  obtain ⟨q', h3, h4⟩ := k q h2 (n + a.length) (by omega)
  refine ⟨q', ?_, h4⟩
  rw [lines_app, h1, if_pos rfl]
  exact h3
theorem reads_mono {s : St} {a : List (List UInt8)} {A B : St → Prop} (h : Reads s a A) (k : ∀ q, A q → B q) : Reads s a B := fun n hn => by
  obtain ⟨q, h1, h2⟩ := h n hn
  exact ⟨q, h1, k q h2⟩
theorem reads_one {s : St} {f : List (List UInt8)} {k : Nat} {S : St → Prop} (hs : splitS (rowT f) = (f, 0)) (hne : rowT f ≠ []) (h35 : (rowT f).head? ≠ some 35) (hk : kindOf (fld f 0) = some k) (hc : f.length = countOf k) (ho : k = 10 → s.opened = true) (hr : k = 11 → s.rules ≤ 0)
    (h : ∀ n : Int, 0 < n → (recordF s k f n).2 = 0 ∧ S (recordF s k f n).1) : Reads s [rowT f] S := fun n hn => by
  have hl : lineF s (rowT f) n = recordF s k f n := by
    unfold lineF
    rw [if_neg (fun e => e.elim hne h35), hs, if_neg (by simp)]
    simp only [hk]
    rw [if_neg (by simp [hc]), if_neg (fun e => by rw [ho e.1] at e; exact absurd e.2 (by decide)), if_neg (fun e => by have := hr e.1; omega)]
  obtain ⟨h1, h2⟩ := h n hn
  refine ⟨(recordF s k f n).1, ?_, h2⟩
  rw [linesF_cons, hl, if_pos h1]
  rfl
theorem joinS_len : ∀ (l : List (List UInt8)) (n : Nat), (∀ x ∈ l, x.length ≤ n) → (joinS l).length ≤ l.length * (4 * n + 3)
  | [], n, _ => by simp [joinS]
  | [x], n, h => by
    have h1 := quote_len x
    have h2 := h x (by simp)
    show (quoteS x).length ≤ 1 * (4 * n + 3)
    omega
  | x :: y :: r, n, h => by
    have h1 := quote_len x
    have h2 := h x (by simp)
    have h3 := joinS_len (y :: r) n (fun z hz => h z (List.mem_cons_of_mem _ hz))
    rw [joinS_cons x (by simp), List.length_append, List.length_cons, List.length_cons (a := x), Nat.succ_mul]
    omega
theorem row_join {f : List (List UInt8)} (h1 : f.length ≤ 7) (h : ∀ x ∈ f, x.length ≤ 100) : joinR f = (joinS f, 0) := by
  have := joinS_len f 100 h
  have : f.length * (4 * 100 + 3) ≤ 7 * 403 := Nat.mul_le_mul_right _ h1
  unfold joinR
  rw [if_neg (by omega), if_neg (by omega)]
theorem row_split {f : List (List UInt8)} (h1 : f.length ≤ 7) (h : ∀ x ∈ f, x.length ≤ 100) : splitS (rowT f) = (f, 0) := by
  have e := row_join h1 h
  exact split_join (by unfold rowT; rw [e])
theorem kw_facts : ∀ k : Fin 12, quoteS (kw k.val) = kw k.val ∧ (kw k.val) ≠ [] ∧ (kw k.val).head? ≠ some 35 ∧ (kw k.val).length ≤ 9 ∧ kindOf (kw k.val) = some k.val := by decide +kernel
theorem row_head {k : Nat} (hk : k < 12) {r : List (List UInt8)} (hr : r ≠ []) (h1 : (kw k :: r).length ≤ 7) (h : ∀ x ∈ kw k :: r, x.length ≤ 100) : rowT (kw k :: r) ≠ [] ∧ (rowT (kw k :: r)).head? ≠ some 35 := by
  obtain ⟨q1, q2, q3, -⟩ := kw_facts ⟨k, hk⟩
  have q1 : quoteS (kw k) = kw k := q1
  have q2 : kw k ≠ [] := q2
  have q3 : (kw k).head? ≠ some 35 := q3
  unfold rowT
  rw [row_join h1 h]
  show joinS (kw k :: r) ≠ [] ∧ (joinS (kw k :: r)).head? ≠ some 35
  rw [joinS_cons _ hr, q1]
  cases hx : kw k with
  | nil => exact absurd hx q2
  | cons c t =>
    rw [hx] at q3
    exact ⟨by simp, by simpa using q3⟩
theorem reads_row {s : St} {k : Nat} (hk : k < 12) {r : List (List UInt8)} (hr : r ≠ []) {S : St → Prop} (hc : (kw k :: r).length = countOf k) (hlen : ∀ x ∈ r, x.length ≤ 100) (ho : k = 10 → s.opened = true) (hru : k = 11 → s.rules ≤ 0)
    (h : ∀ n : Int, 0 < n → (recordF s k (kw k :: r) n).2 = 0 ∧ S (recordF s k (kw k :: r) n).1) : Reads s [rowT (kw k :: r)] S := by
  obtain ⟨-, -, -, q4, q5⟩ := kw_facts ⟨k, hk⟩
  have q4 : (kw k).length ≤ 9 := q4
  have q5 : kindOf (kw k) = some k := q5
  have h7 : (kw k :: r).length ≤ 7 := by
    rw [hc]
    have : k = 0 ∨ k = 1 ∨ k = 2 ∨ k = 3 ∨ k = 4 ∨ k = 5 ∨ k = 6 ∨ k = 7 ∨ k = 8 ∨ k = 9 ∨ k = 10 ∨ k = 11 := by omega
    rcases this with rfl | rfl | rfl | rfl | rfl | rfl | rfl | rfl | rfl | rfl | rfl | rfl <;> decide
  have hl : ∀ x ∈ kw k :: r, x.length ≤ 100 := fun x hx => by
    rcases List.mem_cons.1 hx with rfl | hx
    · omega
    · exact hlen x hx
  obtain ⟨h1, h2⟩ := row_head hk hr h7 hl
  exact reads_one (row_split h7 hl) h1 h2 q5 hc ho hru h
theorem itoa_back {n : Int} (h : isI n) : parse (itoa n) = (n, 0) := parse_itoa n h.1 h.2
theorem reads_stops : ∀ (xs : List StopD), (∀ x ∈ xs, x.id.length ≤ 32 ∧ isI x.zone ∧ isI x.change) → ∀ s : St,
    Reads s (xs.map fun x => rowT [kw 0, x.id, itoa x.zone, yesT x.free, itoa x.change]) (fun q => q.t = { s.t with stops := s.t.stops ++ xs } ∧ q.rules = s.rules)
  | [], _, s => by
    refine reads_nil ?_
    exact ⟨by rw [List.append_nil], rfl⟩
  | x :: xs, h, s => by
    obtain ⟨h1, h2, h3⟩ := h x (List.mem_cons_self ..)
    have hl2 := itoa_len h2
    have hl3 := itoa_len h3
    refine reads_app (a := [_]) (A := fun q => q.t = { s.t with stops := s.t.stops ++ [x] } ∧ q.rules = s.rules) (reads_row (by decide) (by simp) rfl (fun y hy => ?_) (fun e => absurd e (by decide)) (fun e => absurd e (by decide)) (fun n hn => ?_)) (fun q hq => ?_)
    · simp only [List.mem_cons, List.not_mem_nil, or_false] at hy
      rcases hy with rfl | rfl | rfl | rfl
      · omega
      · exact hl2
      · cases x.free <;> decide
      · exact hl3
    · have e : (⟨x.id, (parse (itoa x.zone)).1, (flagR (yesT x.free)).1, (parse (itoa x.change)).1⟩ : StopD) = x := by rw [itoa_back h2, itoa_back h3, flag_text]
      refine ⟨?_, congrArg (fun y => ({ s.t with stops := s.t.stops ++ [y] } : TtD)) e, rfl⟩
      show firstE [(parse (itoa x.zone)).2, (flagR (yesT x.free)).2, (parse (itoa x.change)).2] = 0
      rw [itoa_back h2, itoa_back h3, flag_text]
      rfl
    · refine reads_mono (reads_stops xs (fun y hy => h y (List.mem_cons_of_mem _ hy)) q) (fun q' hq' => ?_)
      obtain ⟨e1, e2⟩ := hq
      obtain ⟨e3, e4⟩ := hq'
      refine ⟨?_, e4.trans e2⟩
      rw [e3, e1]
      simp
end Go.Proofs.YtakedkcjplfgeaaGreatDoor.Tt
namespace Go.Proofs.YtakedkcjplfgeaaGreatDoor.Tt
open Num Clk Dat Frq Thr Fld
theorem idAt_len {ids : List (List UInt8)} (h : ∀ x ∈ ids, x.length ≤ 32) {i : Int} : (idAt ids i).length ≤ 100 := by
  unfold idAt
  rw [List.getD_eq_getElem?_getD]
  cases hx : ids[i.toNat]? with
  | none => simp
  | some y => have := h y (List.mem_of_getElem? hx); simp; omega
theorem added_len (b : Bool) : (if b then wAdded else wRemoved).length ≤ 100 := by cases b <;> decide
theorem reads_routes : ∀ (xs : List RouteD), (∀ x ∈ xs, x.id.length ≤ 32 ∧ (0 ≤ x.mode ∧ x.mode ≤ 7)) → ∀ s : St,
    Reads s (xs.map fun x => rowT [kw 1, x.id, modeT x.mode, yesT x.bikes]) (fun q => q.t = { s.t with routes := s.t.routes ++ xs } ∧ q.rules = s.rules)
  | [], _, s => by
    refine reads_nil ?_
    exact ⟨by rw [List.append_nil], rfl⟩
  | x :: xs, h, s => by
    obtain ⟨h1, h2⟩ := h x (List.mem_cons_self ..)
    refine reads_app (a := [_]) (A := fun q => q.t = { s.t with routes := s.t.routes ++ [x] } ∧ q.rules = s.rules) (reads_row (by decide) (by simp) rfl (fun y hy => ?_) (fun e => absurd e (by decide)) (fun e => absurd e (by decide)) (fun n hn => ?_)) (fun q hq => ?_)
    · simp only [List.mem_cons, List.not_mem_nil, or_false] at hy
      rcases hy with rfl | rfl | rfl
      · omega
      · exact mode_len h2
      · exact yes_len _
    · have e : (⟨x.id, (modeR (modeT x.mode)).1, (flagR (yesT x.bikes)).1⟩ : RouteD) = x := by rw [mode_text h2, flag_text]
      refine ⟨?_, congrArg (fun y => ({ s.t with routes := s.t.routes ++ [y] } : TtD)) e, rfl⟩
      show firstE [(modeR (modeT x.mode)).2, (flagR (yesT x.bikes)).2] = 0
      rw [mode_text h2, flag_text]
      rfl
    · refine reads_mono (reads_routes xs (fun y hy => h y (List.mem_cons_of_mem _ hy)) q) (fun q' hq' => ?_)
      obtain ⟨e1, e2⟩ := hq
      obtain ⟨e3, e4⟩ := hq'
      refine ⟨?_, e4.trans e2⟩
      rw [e3, e1]
      simp
theorem reads_cals : ∀ (xs : List CalD), (∀ x ∈ xs, x.id.length ≤ 32 ∧ (0 ≤ x.frm ∧ x.frm ≤ 36524) ∧ (0 ≤ x.to ∧ x.to ≤ 36524)) → ∀ s : St,
    Reads s (xs.map fun x => rowT [kw 2, x.id, weekT x.week, (dfmt x.frm).1, (dfmt x.to).1]) (fun q => q.t = { s.t with cals := s.t.cals ++ xs } ∧ q.rules = s.rules)
  | [], _, s => by
    refine reads_nil ?_
    exact ⟨by rw [List.append_nil], rfl⟩
  | x :: xs, h, s => by
    obtain ⟨h1, h2, h3⟩ := h x (List.mem_cons_self ..)
    refine reads_app (a := [_]) (A := fun q => q.t = { s.t with cals := s.t.cals ++ [x] } ∧ q.rules = s.rules) (reads_row (by decide) (by simp) rfl (fun y hy => ?_) (fun e => absurd e (by decide)) (fun e => absurd e (by decide)) (fun n hn => ?_)) (fun q hq => ?_)
    · simp only [List.mem_cons, List.not_mem_nil, or_false] at hy
      rcases hy with rfl | rfl | rfl | rfl
      · omega
      · exact week_len _
      · exact dfmt_len
      · exact dfmt_len
    · have e : (⟨x.id, (weekR (weekT x.week)).1, (dayR ((dfmt x.frm).1)).1, (dayR ((dfmt x.to).1)).1⟩ : CalD) = x := by rw [week_text, dayR_text h2, dayR_text h3]
      refine ⟨?_, congrArg (fun y => ({ s.t with cals := s.t.cals ++ [y] } : TtD)) e, rfl⟩
      show firstE [(weekR (weekT x.week)).2, (dayR ((dfmt x.frm).1)).2, (dayR ((dfmt x.to).1)).2] = 0
      rw [week_text, dayR_text h2, dayR_text h3]
      rfl
    · refine reads_mono (reads_cals xs (fun y hy => h y (List.mem_cons_of_mem _ hy)) q) (fun q' hq' => ?_)
      obtain ⟨e1, e2⟩ := hq
      obtain ⟨e3, e4⟩ := hq'
      refine ⟨?_, e4.trans e2⟩
      rw [e3, e1]
      simp
theorem reads_excs (icals : List (List UInt8)) (ncals : icals.Nodup) (lcals : ∀ x ∈ icals, x.length ≤ 32) : ∀ (xs : List ExcD), (∀ x ∈ xs, (0 ≤ x.cal ∧ x.cal < icals.length) ∧ (0 ≤ x.day ∧ x.day ≤ 36524)) → ∀ s : St, s.t.cals.map (·.id) = icals →
    Reads s (xs.map fun x => rowT [kw 3, idAt icals x.cal, (dfmt x.day).1, if x.added then wAdded else wRemoved]) (fun q => q.t = { s.t with excs := s.t.excs ++ xs } ∧ q.rules = s.rules)
  | [], _, s, _ => by
    refine reads_nil ?_
    exact ⟨by rw [List.append_nil], rfl⟩
  | x :: xs, h, s, rcals => by
    obtain ⟨h1, h2⟩ := h x (List.mem_cons_self ..)
    refine reads_app (a := [_]) (A := fun q => q.t = { s.t with excs := s.t.excs ++ [x] } ∧ q.rules = s.rules) (reads_row (by decide) (by simp) rfl (fun y hy => ?_) (fun e => absurd e (by decide)) (fun e => absurd e (by decide)) (fun n hn => ?_)) (fun q hq => ?_)
    · simp only [List.mem_cons, List.not_mem_nil, or_false] at hy
      rcases hy with rfl | rfl | rfl
      · exact idAt_len lcals
      · exact dfmt_len
      · exact added_len _
    · have e : (⟨(refR (s.t.cals.map (·.id)) (idAt icals x.cal)).1, (dayR ((dfmt x.day).1)).1, (eitherR wAdded wRemoved (if x.added then wAdded else wRemoved)).1⟩ : ExcD) = x := by rw [rcals, ref_text ncals h1, dayR_text h2, added_text]
      refine ⟨?_, congrArg (fun y => ({ s.t with excs := s.t.excs ++ [y] } : TtD)) e, rfl⟩
      show firstE [(refR (s.t.cals.map (·.id)) (idAt icals x.cal)).2, (dayR ((dfmt x.day).1)).2, (eitherR wAdded wRemoved (if x.added then wAdded else wRemoved)).2] = 0
      rw [rcals, ref_text ncals h1, dayR_text h2, added_text]
      rfl
    · refine reads_mono (reads_excs icals ncals lcals xs (fun y hy => h y (List.mem_cons_of_mem _ hy)) q (by rw [hq.1]; exact rcals)) (fun q' hq' => ?_)
      obtain ⟨e1, e2⟩ := hq
      obtain ⟨e3, e4⟩ := hq'
      refine ⟨?_, e4.trans e2⟩
      rw [e3, e1]
      simp
theorem reads_thrus (itrips : List (List UInt8)) (ntrips : itrips.Nodup) (ltrips : ∀ x ∈ itrips, x.length ≤ 32) : ∀ (xs : List ThruX), (∀ x ∈ xs, (0 ≤ x.frm ∧ x.frm < itrips.length) ∧ (0 ≤ x.to ∧ x.to < itrips.length)) → ∀ s : St, s.t.trips.map (·.id) = itrips →
    Reads s (xs.map fun x => rowT [kw 6, idAt itrips x.frm, idAt itrips x.to]) (fun q => q.t = { s.t with thrus := s.t.thrus ++ xs } ∧ q.rules = s.rules)
  | [], _, s, _ => by
    refine reads_nil ?_
    exact ⟨by rw [List.append_nil], rfl⟩
  | x :: xs, h, s, rtrips => by
    obtain ⟨h1, h2⟩ := h x (List.mem_cons_self ..)
    refine reads_app (a := [_]) (A := fun q => q.t = { s.t with thrus := s.t.thrus ++ [x] } ∧ q.rules = s.rules) (reads_row (by decide) (by simp) rfl (fun y hy => ?_) (fun e => absurd e (by decide)) (fun e => absurd e (by decide)) (fun n hn => ?_)) (fun q hq => ?_)
    · simp only [List.mem_cons, List.not_mem_nil, or_false] at hy
      rcases hy with rfl | rfl
      · exact idAt_len ltrips
      · exact idAt_len ltrips
    · have e : (⟨(refR (s.t.trips.map (·.id)) (idAt itrips x.frm)).1, (refR (s.t.trips.map (·.id)) (idAt itrips x.to)).1⟩ : ThruX) = x := by rw [rtrips, ref_text ntrips h1, ref_text ntrips h2]
      refine ⟨?_, congrArg (fun y => ({ s.t with thrus := s.t.thrus ++ [y] } : TtD)) e, rfl⟩
      show firstE [(refR (s.t.trips.map (·.id)) (idAt itrips x.frm)).2, (refR (s.t.trips.map (·.id)) (idAt itrips x.to)).2] = 0
      rw [rtrips, ref_text ntrips h1, ref_text ntrips h2]
      rfl
    · refine reads_mono (reads_thrus itrips ntrips ltrips xs (fun y hy => h y (List.mem_cons_of_mem _ hy)) q (by rw [hq.1]; exact rtrips)) (fun q' hq' => ?_)
      obtain ⟨e1, e2⟩ := hq
      obtain ⟨e3, e4⟩ := hq'
      refine ⟨?_, e4.trans e2⟩
      rw [e3, e1]
      simp
theorem reads_guars (itrips : List (List UInt8)) (ntrips : itrips.Nodup) (ltrips : ∀ x ∈ itrips, x.length ≤ 32) (istops : List (List UInt8)) (nstops : istops.Nodup) (lstops : ∀ x ∈ istops, x.length ≤ 32) : ∀ (xs : List GuaD), (∀ x ∈ xs, (0 ≤ x.frm ∧ x.frm < itrips.length) ∧ (0 ≤ x.to ∧ x.to < itrips.length) ∧ (0 ≤ x.stop ∧ x.stop < istops.length)) → ∀ s : St, s.t.trips.map (·.id) = itrips → s.t.stops.map (·.id) = istops →
    Reads s (xs.map fun x => rowT [kw 7, idAt itrips x.frm, idAt itrips x.to, idAt istops x.stop]) (fun q => q.t = { s.t with guars := s.t.guars ++ xs } ∧ q.rules = s.rules)
  | [], _, s, _, _ => by
    refine reads_nil ?_
    exact ⟨by rw [List.append_nil], rfl⟩
  | x :: xs, h, s, rtrips, rstops => by
    obtain ⟨h1, h2, h3⟩ := h x (List.mem_cons_self ..)
    refine reads_app (a := [_]) (A := fun q => q.t = { s.t with guars := s.t.guars ++ [x] } ∧ q.rules = s.rules) (reads_row (by decide) (by simp) rfl (fun y hy => ?_) (fun e => absurd e (by decide)) (fun e => absurd e (by decide)) (fun n hn => ?_)) (fun q hq => ?_)
    · simp only [List.mem_cons, List.not_mem_nil, or_false] at hy
      rcases hy with rfl | rfl | rfl
      · exact idAt_len ltrips
      · exact idAt_len ltrips
      · exact idAt_len lstops
    · have e : (⟨(refR (s.t.trips.map (·.id)) (idAt itrips x.frm)).1, (refR (s.t.trips.map (·.id)) (idAt itrips x.to)).1, (refR (s.t.stops.map (·.id)) (idAt istops x.stop)).1⟩ : GuaD) = x := by rw [rtrips, rstops, ref_text ntrips h1, ref_text ntrips h2, ref_text nstops h3]
      refine ⟨?_, congrArg (fun y => ({ s.t with guars := s.t.guars ++ [y] } : TtD)) e, rfl⟩
      show firstE [(refR (s.t.trips.map (·.id)) (idAt itrips x.frm)).2, (refR (s.t.trips.map (·.id)) (idAt itrips x.to)).2, (refR (s.t.stops.map (·.id)) (idAt istops x.stop)).2] = 0
      rw [rtrips, rstops, ref_text ntrips h1, ref_text ntrips h2, ref_text nstops h3]
      rfl
    · refine reads_mono (reads_guars itrips ntrips ltrips istops nstops lstops xs (fun y hy => h y (List.mem_cons_of_mem _ hy)) q (by rw [hq.1]; exact rtrips) (by rw [hq.1]; exact rstops)) (fun q' hq' => ?_)
      obtain ⟨e1, e2⟩ := hq
      obtain ⟨e3, e4⟩ := hq'
      refine ⟨?_, e4.trans e2⟩
      rw [e3, e1]
      simp
theorem reads_freqs (itrips : List (List UInt8)) (ntrips : itrips.Nodup) (ltrips : ∀ x ∈ itrips, x.length ≤ 32) (hdur : ∀ n : Int, 0 ≤ n ∧ n ≤ 359999 → pdur (durT n) = (n, 0)) : ∀ (xs : List FreqX), (∀ x ∈ xs, (0 ≤ x.trip ∧ x.trip < itrips.length) ∧ (0 ≤ x.frm ∧ x.frm ≤ 172800) ∧ (0 ≤ x.to ∧ x.to ≤ 172800) ∧ (0 ≤ x.every ∧ x.every ≤ 359999)) → ∀ s : St, s.t.trips.map (·.id) = itrips →
    Reads s (xs.map fun x => rowT [kw 5, idAt itrips x.trip, (fmt x.frm).1, (fmt x.to).1, durT x.every]) (fun q => q.t = { s.t with freqs := s.t.freqs ++ xs } ∧ q.rules = s.rules)
  | [], _, s, _ => by
    refine reads_nil ?_
    exact ⟨by rw [List.append_nil], rfl⟩
  | x :: xs, h, s, rtrips => by
    obtain ⟨h1, h2, h3, h4⟩ := h x (List.mem_cons_self ..)
    refine reads_app (a := [_]) (A := fun q => q.t = { s.t with freqs := s.t.freqs ++ [x] } ∧ q.rules = s.rules) (reads_row (by decide) (by simp) rfl (fun y hy => ?_) (fun e => absurd e (by decide)) (fun e => absurd e (by decide)) (fun n hn => ?_)) (fun q hq => ?_)
    · simp only [List.mem_cons, List.not_mem_nil, or_false] at hy
      rcases hy with rfl | rfl | rfl | rfl
      · exact idAt_len ltrips
      · exact fmt_len
      · exact fmt_len
      · exact dur_len
    · have e : (⟨(refR (s.t.trips.map (·.id)) (idAt itrips x.trip)).1, (timeR ((fmt x.frm).1)).1, (timeR ((fmt x.to).1)).1, (pdur (durT x.every)).1⟩ : FreqX) = x := by rw [rtrips, ref_text ntrips h1, timeR_text h2, timeR_text h3, hdur _ h4]
      refine ⟨?_, congrArg (fun y => ({ s.t with freqs := s.t.freqs ++ [y] } : TtD)) e, rfl⟩
      show firstE [(refR (s.t.trips.map (·.id)) (idAt itrips x.trip)).2, (timeR ((fmt x.frm).1)).2, (timeR ((fmt x.to).1)).2, (pdur (durT x.every)).2] = 0
      rw [rtrips, ref_text ntrips h1, timeR_text h2, timeR_text h3, hdur _ h4]
      rfl
    · refine reads_mono (reads_freqs itrips ntrips ltrips hdur xs (fun y hy => h y (List.mem_cons_of_mem _ hy)) q (by rw [hq.1]; exact rtrips)) (fun q' hq' => ?_)
      obtain ⟨e1, e2⟩ := hq
      obtain ⟨e3, e4⟩ := hq'
      refine ⟨?_, e4.trans e2⟩
      rw [e3, e1]
      simp
theorem reads_paths (istops : List (List UInt8)) (nstops : istops.Nodup) (lstops : ∀ x ∈ istops, x.length ≤ 32) (hdur : ∀ n : Int, 0 ≤ n ∧ n ≤ 359999 → pdur (durT n) = (n, 0)) : ∀ (xs : List PathD), (∀ x ∈ xs, (0 ≤ x.frm ∧ x.frm < istops.length) ∧ (0 ≤ x.to ∧ x.to < istops.length) ∧ (0 ≤ x.secs ∧ x.secs ≤ 359999)) → ∀ s : St, s.t.stops.map (·.id) = istops →
    Reads s (xs.map fun x => rowT [kw 8, idAt istops x.frm, idAt istops x.to, durT x.secs, yesT x.free]) (fun q => q.t = { s.t with paths := s.t.paths ++ xs } ∧ q.rules = s.rules)
  | [], _, s, _ => by
    refine reads_nil ?_
    exact ⟨by rw [List.append_nil], rfl⟩
  | x :: xs, h, s, rstops => by
    obtain ⟨h1, h2, h3⟩ := h x (List.mem_cons_self ..)
    refine reads_app (a := [_]) (A := fun q => q.t = { s.t with paths := s.t.paths ++ [x] } ∧ q.rules = s.rules) (reads_row (by decide) (by simp) rfl (fun y hy => ?_) (fun e => absurd e (by decide)) (fun e => absurd e (by decide)) (fun n hn => ?_)) (fun q hq => ?_)
    · simp only [List.mem_cons, List.not_mem_nil, or_false] at hy
      rcases hy with rfl | rfl | rfl | rfl
      · exact idAt_len lstops
      · exact idAt_len lstops
      · exact dur_len
      · exact yes_len _
    · have e : (⟨(refR (s.t.stops.map (·.id)) (idAt istops x.frm)).1, (refR (s.t.stops.map (·.id)) (idAt istops x.to)).1, (pdur (durT x.secs)).1, (flagR (yesT x.free)).1⟩ : PathD) = x := by rw [rstops, ref_text nstops h1, ref_text nstops h2, hdur _ h3, flag_text]
      refine ⟨?_, congrArg (fun y => ({ s.t with paths := s.t.paths ++ [y] } : TtD)) e, rfl⟩
      show firstE [(refR (s.t.stops.map (·.id)) (idAt istops x.frm)).2, (refR (s.t.stops.map (·.id)) (idAt istops x.to)).2, (pdur (durT x.secs)).2, (flagR (yesT x.free)).2] = 0
      rw [rstops, ref_text nstops h1, ref_text nstops h2, hdur _ h3, flag_text]
      rfl
    · refine reads_mono (reads_paths istops nstops lstops hdur xs (fun y hy => h y (List.mem_cons_of_mem _ hy)) q (by rw [hq.1]; exact rstops)) (fun q' hq' => ?_)
      obtain ⟨e1, e2⟩ := hq
      obtain ⟨e3, e4⟩ := hq'
      refine ⟨?_, e4.trans e2⟩
      rw [e3, e1]
      simp
end Go.Proofs.YtakedkcjplfgeaaGreatDoor.Tt
namespace Go.Proofs.YtakedkcjplfgeaaGreatDoor.Tt
open Num Clk Dat
theorem index_not (c : UInt8) (l : List UInt8) (h : c ∉ l) : Lib.index l [c] = -1 := by
  induction l with
  | nil => rfl
  | cons b l ih =>
    rw [List.mem_cons, not_or] at h
    unfold Lib.index
    rw [if_neg (by simp [h.1]), ih h.2]
    rfl
theorem index_at (c : UInt8) (a b : List UInt8) (h : c ∉ a) : Lib.index (a ++ c :: b) [c] = a.length := by
  induction a with
  | nil => unfold Lib.index; simp
  | cons x a ih =>
    rw [List.mem_cons, not_or] at h
    rw [List.cons_append]
    unfold Lib.index
    rw [if_neg (by simp [h.1]), ih h.2, if_neg (by simp)]
    simp
theorem cut_not {c : UInt8} {l : List UInt8} (h : c ∉ l) : Lib.cut l [c] = (l, [], false) := by
  unfold Lib.cut
  rw [index_not c l h, if_neg (by decide)]
theorem cut_at {c : UInt8} {a b : List UInt8} (h : c ∉ a) : Lib.cut (a ++ c :: b) [c] = (a, b, true) := by
  unfold Lib.cut
  rw [index_at c a b h, if_pos (by omega)]
  simp
theorem suf_at (u : List UInt8) : Lib.hasSuffix (u ++ [115]) [115] = true := by
  unfold Lib.hasSuffix
  rw [List.isSuffixOf_iff_suffix]
  exact ⟨u, rfl⟩
theorem trim_at (u : List UInt8) : Lib.trimSuffix (u ++ [115]) [115] = u := by
  unfold Lib.trimSuffix
  rw [if_pos (suf_at u)]
  simp
theorem parts_one {a : List UInt8} (h : (109 : UInt8) ∉ a) : partsS (a ++ [115]) = some [a] := by
  unfold partsS
  rw [if_pos (suf_at a), trim_at, cut_not h, if_neg (by simp)]
theorem parts_two {a b : List UInt8} (h : (109 : UInt8) ∉ a) (h2 : (104 : UInt8) ∉ a) : partsS (a ++ 109 :: (b ++ [115])) = some [a, b] := by
  unfold partsS
  rw [show a ++ 109 :: (b ++ [115]) = (a ++ 109 :: b) ++ [115] by simp, if_pos (suf_at _), trim_at, cut_at h, if_pos rfl]
  dsimp only
  rw [cut_not h2, if_neg (by simp)]
theorem parts_three {a b c : List UInt8} (h : (109 : UInt8) ∉ a) (h2 : (104 : UInt8) ∉ a) (h3 : (109 : UInt8) ∉ b) : partsS (a ++ 104 :: (b ++ 109 :: (c ++ [115]))) = some [a, b, c] := by
  unfold partsS
  rw [show a ++ 104 :: (b ++ 109 :: (c ++ [115])) = ((a ++ 104 :: b) ++ 109 :: c) ++ [115] by simp, if_pos (suf_at _), trim_at, cut_at (by simp [h, h3]), if_pos rfl]
  dsimp only
  rw [cut_at h2, if_pos rfl]
theorem dig_not {l : List UInt8} (h : allDig l = true) {c : UInt8} (hc : 57 < c.toNat) : c ∉ l := by
  intro k
  unfold allDig at h
  rw [List.all_eq_true] at h
  have := h c k
  rw [isDig_iff] at this
  omega
theorem canon_dig {l : List UInt8} (h : canon l = true) : allDig l = true := by
  unfold canon at h
  rw [Bool.and_eq_true, Bool.and_eq_true] at h
  exact h.1.1
theorem two_dig (n : Nat) (h : n < 100) : allDig (two n) = true := by
  obtain ⟨h1, h2, _⟩ := two_digits n h
  unfold two allDig
  simp only [List.all_cons, List.all_nil, h1, h2, Bool.and_true]
theorem foll_two (n : Nat) (h : n < 60) : follS (two n) = ((n : Int), true) := by
  obtain ⟨h1, h2, h3⟩ := two_digits n (by omega)
  have := toNat_digit (n / 10) (by omega)
  unfold two follS
  dsimp only
  rw [if_pos ⟨h1, h2, by omega⟩, h3]
theorem lead_dec (n : Nat) (h : n ≤ 1000000) : leadS (decDigits n) = ((n : Int), true) := by
  unfold leadS
  rw [if_pos (canon_decDigits n), val_decDigits, Nat.min_eq_right h]
theorem pdur_text (n : Nat) (h : n ≤ 359999) : pdur (durText n) = ((n : Int), 0) := by
  have c1 := fun k => dig_not (canon_dig (canon_decDigits k)) (c := 109) (by decide)
  have c2 := fun k => dig_not (canon_dig (canon_decDigits k)) (c := 104) (by decide)
  have t3 : (109 : UInt8) ∉ two (n / 60 % 60) := dig_not (two_dig _ (by omega)) (by decide)
  unfold pdur
  by_cases h1 : 3600 ≤ n
  · rw [show durText n = decDigits (n / 3600) ++ 104 :: (two (n / 60 % 60) ++ 109 :: (two (n % 60) ++ [115])) by unfold durText; rw [if_pos h1], parts_three (c1 _) (c2 _) t3]
    dsimp only [sumS]
    rw [lead_dec _ (by omega), foll_two _ (by omega), foll_two _ (by omega)]
    dsimp only
    rw [if_pos ⟨rfl, by omega, rfl, rfl⟩, if_pos (by omega), Prod.mk.injEq]
    exact ⟨by omega, rfl⟩
  · by_cases h2 : 60 ≤ n
    · rw [show durText n = decDigits (n / 60) ++ 109 :: (two (n % 60) ++ [115]) by unfold durText; rw [if_neg h1, if_pos h2], parts_two (c1 _) (c2 _)]
      dsimp only [sumS]
      rw [lead_dec _ (by omega), foll_two _ (by omega)]
      dsimp only
      rw [if_pos ⟨rfl, by omega, by omega, rfl⟩, Prod.mk.injEq]
      exact ⟨by omega, rfl⟩
    · rw [show durText n = decDigits n ++ [115] by unfold durText; rw [if_neg h1, if_neg h2], parts_one (c1 _)]
      dsimp only [sumS]
      rw [lead_dec _ (by omega)]
      dsimp only
      rw [if_pos ⟨rfl, by omega⟩]
theorem dur_back (n : Int) (h : 0 ≤ n ∧ n ≤ 359999) : pdur (durT n) = (n, 0) := by
  unfold durT
  rw [if_pos h, pdur_text n.toNat (by omega)]
  simp [Int.toNat_of_nonneg h.1]
end Go.Proofs.YtakedkcjplfgeaaGreatDoor.Tt
namespace Go.Proofs.YtakedkcjplfgeaaGreatDoor.Tt
open Num Clk Dat Frq Thr Fld
theorem reads_prods : ∀ (xs : List ProdD), (∀ x ∈ xs, x.id.length ≤ 32 ∧ (0 ≤ x.price ∧ x.price ≤ 1000000) ∧ isI x.rides ∧ isI x.zones ∧ (0 ≤ x.secs ∧ x.secs ≤ 359999) ∧ (0 ≤ x.modes ∧ x.modes ≤ 255)) → ∀ s : St,
    Reads s (xs.map fun x => rowT [kw 9, x.id, (fmtPrice x.price).1, itoa x.rides, itoa x.zones, durT x.secs, modesT x.modes]) (fun q => q.t = { s.t with fares := { s.t.fares with prods := s.t.fares.prods ++ xs } } ∧ q.rules = s.rules)
  | [], _, s => by
    refine reads_nil ?_
    exact ⟨by rw [List.append_nil], rfl⟩
  | x :: xs, h, s => by
    obtain ⟨h1, h2, h3, h4, h5, h6⟩ := h x (List.mem_cons_self ..)
    have l3 := itoa_len h3
    have l4 := itoa_len h4
    refine reads_app (a := [_]) (A := fun q => q.t = { s.t with fares := { s.t.fares with prods := s.t.fares.prods ++ [x] } } ∧ q.rules = s.rules) (reads_row (by decide) (by simp) rfl (fun y hy => ?_) (fun e => absurd e (by decide)) (fun e => absurd e (by decide)) (fun n hn => ?_)) (fun q hq => ?_)
    · simp only [List.mem_cons, List.not_mem_nil, or_false] at hy
      rcases hy with rfl | rfl | rfl | rfl | rfl | rfl
      · omega
      · exact price_len
      · exact l3
      · exact l4
      · exact dur_len
      · exact modes_len h6
    · have e : (⟨x.id, (priceR (fmtPrice x.price).1).1, (parse (itoa x.rides)).1, (parse (itoa x.zones)).1, (pdur (durT x.secs)).1, (modesR (modesT x.modes)).1⟩ : ProdD) = x := by rw [priceR_text h2, itoa_back h3, itoa_back h4, dur_back _ h5, modes_text h6]
      refine ⟨?_, congrArg (fun y => ({ s.t with fares := { s.t.fares with prods := s.t.fares.prods ++ [y] } } : TtD)) e, rfl⟩
      show firstE [(priceR (fmtPrice x.price).1).2, (parse (itoa x.rides)).2, (parse (itoa x.zones)).2, (pdur (durT x.secs)).2, (modesR (modesT x.modes)).2] = 0
      rw [priceR_text h2, itoa_back h3, itoa_back h4, dur_back _ h5, modes_text h6]
      rfl
    · refine reads_mono (reads_prods xs (fun y hy => h y (List.mem_cons_of_mem _ hy)) q) (fun q' hq' => ?_)
      obtain ⟨e1, e2⟩ := hq
      obtain ⟨e3, e4⟩ := hq'
      refine ⟨?_, e4.trans e2⟩
      rw [e3, e1]
      simp
theorem reads_fares (f : FareD) (h1 : 0 ≤ f.disc ∧ f.disc ≤ 1000000) (h2 : 0 ≤ f.within ∧ f.within ≤ 359999) (h3 : 0 ≤ f.cap ∧ f.cap ≤ 1000000) (s : St) (hs : s.rules ≤ 0) (hz : s.t.fares = ⟨[], 0, 0, 0⟩) :
    Reads s (if f.disc = 0 ∧ f.within = 0 ∧ f.cap = 0 then [] else [rowT [kw 11, (fmtPrice f.disc).1, durT f.within, (fmtPrice f.cap).1]]) (fun q => q.t = { s.t with fares := ⟨[], f.disc, f.within, f.cap⟩ }) := by
  split
  · rename_i h
    obtain ⟨z1, z2, z3⟩ := h
    refine reads_nil ?_
    rw [z1, z2, z3, ← hz]
  · refine reads_row (by decide) (by simp) rfl (fun y hy => ?_) (fun e => absurd e (by decide)) (fun _ => hs) (fun n hn => ?_)
    · simp only [List.mem_cons, List.not_mem_nil, or_false] at hy
      rcases hy with rfl | rfl | rfl
      · exact price_len
      · exact dur_len
      · exact price_len
    · refine ⟨?_, ?_⟩
      · show firstE [(priceR (fmtPrice f.disc).1).2, (pdur (durT f.within)).2, (priceR (fmtPrice f.cap).1).2] = 0
        rw [priceR_text h1, dur_back _ h2, priceR_text h3]
        rfl
      · show ({ s.t with fares := ⟨s.t.fares.prods, (priceR (fmtPrice f.disc).1).1, (pdur (durT f.within)).1, (priceR (fmtPrice f.cap).1).1⟩ } : TtD) = _
        rw [priceR_text h1, dur_back _ h2, priceR_text h3, hz]
theorem addCall_last (ts : List TripX) (x : TripX) (c : CallD) : addCall (ts ++ [x]) c = ts ++ [{ x with calls := x.calls ++ [c] }] := by
  unfold addCall
  rw [List.getLast?_concat]
  simp only [List.dropLast_concat]
theorem reads_calls (istops : List (List UInt8)) (nstops : istops.Nodup) (lstops : ∀ x ∈ istops, x.length ≤ 32) (ts : List TripX) (x : TripX) : ∀ (cs pre : List CallD), (∀ c ∈ cs, (0 ≤ c.stop ∧ c.stop < istops.length) ∧ (0 ≤ c.arrive ∧ c.arrive ≤ 172800) ∧ (0 ≤ c.depart ∧ c.depart ≤ 172800)) → ∀ s : St, s.t.stops.map (·.id) = istops → s.opened = true → s.t.trips = ts ++ [{ x with calls := pre }] →
    Reads s (cs.map fun c => rowT [kw 10, idAt istops c.stop, (fmt c.arrive).1, (fmt c.depart).1, permT c]) (fun q => q.t = { s.t with trips := ts ++ [{ x with calls := pre ++ cs }] } ∧ q.rules = s.rules)
  | [], pre, _, s, _, _, ht => by
    refine reads_nil ?_
    exact ⟨by rw [List.append_nil, ← ht], rfl⟩
  | c :: cs, pre, h, s, hs, ho, ht => by
    obtain ⟨h1, h2, h3⟩ := h c (List.mem_cons_self ..)
    refine reads_app (a := [_]) (A := fun q => q.t = { s.t with trips := ts ++ [{ x with calls := pre ++ [c] }] } ∧ q.rules = s.rules ∧ q.opened = true) (reads_row (by decide) (by simp) rfl (fun y hy => ?_) (fun _ => ho) (fun e => absurd e (by decide)) (fun n hn => ?_)) (fun q hq => ?_)
    · simp only [List.mem_cons, List.not_mem_nil, or_false] at hy
      rcases hy with rfl | rfl | rfl | rfl
      · exact idAt_len lstops
      · exact fmt_len
      · exact fmt_len
      · exact perm_len _
    · have e : (⟨(refR (s.t.stops.map (·.id)) (idAt istops c.stop)).1, (timeR (fmt c.arrive).1).1, (timeR (fmt c.depart).1).1, (permR (permT c)).1.1, (permR (permT c)).1.2⟩ : CallD) = c := by rw [hs, ref_text nstops h1, timeR_text h2, timeR_text h3, perm_text]
      refine ⟨?_, (congrArg (fun y => ({ s.t with trips := addCall s.t.trips y } : TtD)) e).trans (by rw [ht, addCall_last]), rfl, rfl⟩
      show firstE [(refR (s.t.stops.map (·.id)) (idAt istops c.stop)).2, (timeR (fmt c.arrive).1).2, (timeR (fmt c.depart).1).2, (permR (permT c)).2] = 0
      rw [hs, ref_text nstops h1, timeR_text h2, timeR_text h3, perm_text]
      rfl
    · obtain ⟨e1, e2, e5⟩ := hq
      refine reads_mono (reads_calls istops nstops lstops ts x cs (pre ++ [c]) (fun y hy => h y (List.mem_cons_of_mem _ hy)) q (by rw [e1]; exact hs) e5 (by rw [e1])) (fun q' hq' => ?_)
      obtain ⟨e3, e4⟩ := hq'
      refine ⟨?_, e4.trans e2⟩
      rw [e3, e1]
      simp
theorem reads_trips (istops : List (List UInt8)) (nstops : istops.Nodup) (lstops : ∀ x ∈ istops, x.length ≤ 32) (iroutes : List (List UInt8)) (nroutes : iroutes.Nodup) (lroutes : ∀ x ∈ iroutes, x.length ≤ 32) (icals : List (List UInt8)) (ncals : icals.Nodup) (lcals : ∀ x ∈ icals, x.length ≤ 32) : ∀ (xs : List TripX), (∀ x ∈ xs, x.id.length ≤ 32 ∧ (0 ≤ x.route ∧ x.route < iroutes.length) ∧ (0 ≤ x.cal ∧ x.cal < icals.length) ∧ ∀ c ∈ x.calls, (0 ≤ c.stop ∧ c.stop < istops.length) ∧ (0 ≤ c.arrive ∧ c.arrive ≤ 172800) ∧ (0 ≤ c.depart ∧ c.depart ≤ 172800)) → ∀ s : St, s.t.stops.map (·.id) = istops → s.t.routes.map (·.id) = iroutes → s.t.cals.map (·.id) = icals →
    Reads s (xs.flatMap fun x => rowT [kw 4, x.id, idAt iroutes x.route, idAt icals x.cal, yesT x.free] :: x.calls.map fun c => rowT [kw 10, idAt istops c.stop, (fmt c.arrive).1, (fmt c.depart).1, permT c]) (fun q => q.t = { s.t with trips := s.t.trips ++ xs } ∧ q.rules = s.rules)
  | [], _, s, _, _, _ => by
    refine reads_nil ?_
    exact ⟨by rw [List.append_nil], rfl⟩
  | x :: xs, h, s, rs, rr, rc => by
    obtain ⟨h1, h2, h3, h4⟩ := h x (List.mem_cons_self ..)
    rw [List.flatMap_cons]
    refine reads_app (A := fun q => q.t = { s.t with trips := s.t.trips ++ [x] } ∧ q.rules = s.rules) ?_ (fun q hq => ?_)
    · refine reads_app (a := [_]) (A := fun q => q.t = { s.t with trips := s.t.trips ++ [{ x with calls := [] }] } ∧ q.rules = s.rules ∧ q.opened = true) (reads_row (by decide) (by simp) rfl (fun y hy => ?_) (fun e => absurd e (by decide)) (fun e => absurd e (by decide)) (fun n hn => ?_)) (fun q hq => ?_)
      · simp only [List.mem_cons, List.not_mem_nil, or_false] at hy
        rcases hy with rfl | rfl | rfl | rfl
        · omega
        · exact idAt_len lroutes
        · exact idAt_len lcals
        · exact yes_len _
      · have e : (⟨x.id, (refR (s.t.routes.map (·.id)) (idAt iroutes x.route)).1, (refR (s.t.cals.map (·.id)) (idAt icals x.cal)).1, (flagR (yesT x.free)).1, []⟩ : TripX) = { x with calls := [] } := by rw [rr, rc, ref_text nroutes h2, ref_text ncals h3, flag_text]
        refine ⟨?_, congrArg (fun y => ({ s.t with trips := s.t.trips ++ [y] } : TtD)) e, rfl, rfl⟩
        show firstE [(refR (s.t.routes.map (·.id)) (idAt iroutes x.route)).2, (refR (s.t.cals.map (·.id)) (idAt icals x.cal)).2, (flagR (yesT x.free)).2] = 0
        rw [rr, rc, ref_text nroutes h2, ref_text ncals h3, flag_text]
        rfl
      · obtain ⟨e1, e2, e5⟩ := hq
        refine reads_mono (reads_calls istops nstops lstops s.t.trips x x.calls [] h4 q (by rw [e1]; exact rs) e5 (by rw [e1])) (fun q' hq' => ?_)
        obtain ⟨e3, e4⟩ := hq'
        refine ⟨?_, e4.trans e2⟩
        rw [e3, e1]
        simp
    · obtain ⟨e1, e2⟩ := hq
      refine reads_mono (reads_trips istops nstops lstops iroutes nroutes lroutes icals ncals lcals xs (fun y hy => h y (List.mem_cons_of_mem _ hy)) q (by rw [e1]; exact rs) (by rw [e1]; exact rr) (by rw [e1]; exact rc)) (fun q' hq' => ?_)
      obtain ⟨e3, e4⟩ := hq'
      refine ⟨?_, e4.trans e2⟩
      rw [e3, e1]
      simp
end Go.Proofs.YtakedkcjplfgeaaGreatDoor.Tt
namespace Go.Proofs.YtakedkcjplfgeaaGreatDoor.Tt
open Num Clk Dat Frq Thr Fld
theorem reads_rows {t : TtD} (v : Valid t) : Reads start (rowsF t) (fun q => q.t = t) := by
  have lstops : ∀ x ∈ t.stops.map (·.id), x.length ≤ 32 := fun x hx => by obtain ⟨y, hy, rfl⟩ := List.mem_map.1 hx; exact (v.stops y hy).1
  have lroutes : ∀ x ∈ t.routes.map (·.id), x.length ≤ 32 := fun x hx => by obtain ⟨y, hy, rfl⟩ := List.mem_map.1 hx; exact (v.routes y hy).1
  have lcals : ∀ x ∈ t.cals.map (·.id), x.length ≤ 32 := fun x hx => by obtain ⟨y, hy, rfl⟩ := List.mem_map.1 hx; exact (v.cals y hy).1
  have ltrips : ∀ x ∈ t.trips.map (·.id), x.length ≤ 32 := fun x hx => by obtain ⟨y, hy, rfl⟩ := List.mem_map.1 hx; exact (v.trips y hy).1
  have ms : (t.stops.map (·.id)).length = t.stops.length := List.length_map ..
  have mr : (t.routes.map (·.id)).length = t.routes.length := List.length_map ..
  have mc : (t.cals.map (·.id)).length = t.cals.length := List.length_map ..
  have mt : (t.trips.map (·.id)).length = t.trips.length := List.length_map ..
  unfold rowsF
  refine reads_app (reads_stops _ v.stops _) fun q1 ⟨t1, r1⟩ => ?_
  have t1 : q1.t = { emptyT with stops := t.stops } := t1
  refine reads_app (reads_routes _ v.routes _) fun q2 ⟨t2, r2⟩ => ?_
  rw [t1] at t2
  have t2 : q2.t = { emptyT with stops := t.stops, routes := t.routes } := t2
  refine reads_app (reads_cals _ v.cals _) fun q3 ⟨t3, r3⟩ => ?_
  rw [t2] at t3
  have t3 : q3.t = { emptyT with stops := t.stops, routes := t.routes, cals := t.cals } := t3
  refine reads_app (reads_excs _ v.ncals lcals _ (by rw [mc]; exact v.excs) _ (by rw [t3])) fun q4 ⟨t4, r4⟩ => ?_
  rw [t3] at t4
  have t4 : q4.t = { emptyT with stops := t.stops, routes := t.routes, cals := t.cals, excs := t.excs } := t4
  refine reads_app (reads_trips _ v.nstops lstops _ v.nroutes lroutes _ v.ncals lcals _ (by rw [ms, mr, mc]; exact v.trips) _ (by rw [t4]) (by rw [t4]) (by rw [t4])) fun q5 ⟨t5, r5⟩ => ?_
  rw [t4] at t5
  have t5 : q5.t = { emptyT with stops := t.stops, routes := t.routes, cals := t.cals, excs := t.excs, trips := t.trips } := t5
  refine reads_app (reads_freqs _ v.ntrips ltrips dur_back _ (by rw [mt]; exact v.freqs) _ (by rw [t5])) fun q6 ⟨t6, r6⟩ => ?_
  rw [t5] at t6
  have t6 : q6.t = { emptyT with stops := t.stops, routes := t.routes, cals := t.cals, excs := t.excs, trips := t.trips, freqs := t.freqs } := t6
  refine reads_app (reads_thrus _ v.ntrips ltrips _ (by rw [mt]; exact v.thrus) _ (by rw [t6])) fun q7 ⟨t7, r7⟩ => ?_
  rw [t6] at t7
  have t7 : q7.t = { emptyT with stops := t.stops, routes := t.routes, cals := t.cals, excs := t.excs, trips := t.trips, freqs := t.freqs, thrus := t.thrus } := t7
  refine reads_app (reads_guars _ v.ntrips ltrips _ v.nstops lstops _ (by rw [mt, ms]; exact v.guars) _ (by rw [t7]) (by rw [t7])) fun q8 ⟨t8, r8⟩ => ?_
  rw [t7] at t8
  have t8 : q8.t = { emptyT with stops := t.stops, routes := t.routes, cals := t.cals, excs := t.excs, trips := t.trips, freqs := t.freqs, thrus := t.thrus, guars := t.guars } := t8
  refine reads_app (reads_paths _ v.nstops lstops dur_back _ (by rw [ms]; exact v.paths) _ (by rw [t8])) fun q9 ⟨t9, r9⟩ => ?_
  rw [t8] at t9
  have t9 : q9.t = { emptyT with stops := t.stops, routes := t.routes, cals := t.cals, excs := t.excs, trips := t.trips, freqs := t.freqs, thrus := t.thrus, guars := t.guars, paths := t.paths } := t9
  have hr : q9.rules = 0 := by rw [r9, r8, r7, r6, r5, r4, r3, r2, r1]; rfl
  refine reads_app (reads_fares t.fares v.fares.1 v.fares.2.1 v.fares.2.2 q9 (by omega) (by rw [t9]; rfl)) fun q10 t10 => ?_
  rw [t9] at t10
  refine reads_mono (reads_prods _ v.prods _) fun q11 ⟨t11, _⟩ => ?_
  rw [t11, t10]
  rfl
theorem round_trip {t : TtD} {s : List UInt8} (h : formatF t = (s, 0)) : parseF s = (t, 0, 0) := by
  unfold formatF at h
  split at h
  · rename_i h0
    rw [Prod.mk.injEq] at h
    exact absurd h.2 h0
  · rename_i h0
    have hv : (ttChk t).2.2 = 0 := Decidable.not_not.1 h0
    have hl := lines_text h
    obtain ⟨q, h1, h2⟩ := reads_rows (valid_of hv) 1 (by decide)
    unfold parseF
    rw [hl, if_neg (by simp)]
    simp only [h1]
    rw [if_neg (by simp), h2, if_pos hv]
theorem textS_err (ls : List (List UInt8)) : (textS ls).2 = 0 ∨ (textS ls).2 = 5 ∧ (textS ls).1 = [] ∨ (textS ls).2 = 3 ∧ (textS ls).1 = [] := by
  unfold textS
  split
  · exact .inr (.inr ⟨rfl, rfl⟩)
  · split
    · exact .inr (.inl ⟨rfl, rfl⟩)
    · exact .inl rfl
theorem format_error {t : TtD} {s : List UInt8} {e : Int} (h : formatF t = (s, e)) (he : e ≠ 0) : s = [] := by
  unfold formatF at h
  split at h
  · rw [Prod.mk.injEq] at h; exact h.1.symm
  · rcases textS_err (rowsF t) with h0 | ⟨h1, h2⟩ | ⟨h1, h2⟩
    · rw [h] at h0; exact absurd h0 he
    · rw [h] at h2; exact h2
    · rw [h] at h2; exact h2
end Go.Proofs.YtakedkcjplfgeaaGreatDoor.Tt
