/-
  THE PLAIN MATHEMATICS OF THE TEXTS OF DAYS AND MOMENTS: lists of bytes and integers; no program in sight. Conditions: none.
-/
import Derived.Test.YthdadalmgldppaaDoorDatPlain2
import GoSem.Op.String
namespace Go.Proofs.YthdadalmgldppaaDoor.Dat
open Num Clk

theorem u8_lt {a b : Nat} (ha : a < 100) (hb : b < 100) : (decide (UInt8.ofNat (48 + a) < UInt8.ofNat (48 + b)) = decide (a < b)) ∧ ((UInt8.ofNat (48 + a) == UInt8.ofNat (48 + b)) = decide (a = b)) := by
  have h1 : (UInt8.ofNat (48 + a)).toNat = 48 + a := by rw [UInt8.toNat_ofNat']; omega
  have h2 : (UInt8.ofNat (48 + b)).toNat = 48 + b := by rw [UInt8.toNat_ofNat']; omega
  constructor
  · rw [decide_eq_decide, UInt8.lt_iff_toNat_lt, h1, h2]; omega
  · rw [Bool.eq_iff_iff, beq_iff_eq, decide_eq_true_iff]
    constructor
    · intro k
      have := congrArg UInt8.toNat k
      omega
    · rintro rfl; rfl
theorem less_two (x y : Nat) (hx : x < 100) (hy : y < 100) (l m : List UInt8) : Op.bytesLess (two x ++ l) (two y ++ m) = (decide (x < y) || (decide (x = y) && Op.bytesLess l m)) := by
  obtain ⟨a1, a2⟩ := u8_lt (a := x / 10) (b := y / 10) (by omega) (by omega)
  obtain ⟨b1, b2⟩ := u8_lt (a := x % 10) (b := y % 10) (by omega) (by omega)
  unfold two
  simp only [List.cons_append, List.nil_append, Op.bytesLess]
  rw [a1, a2, b1, b2]
  cases Op.bytesLess l m with
  | true =>
    rw [Bool.eq_iff_iff]
    simp only [Bool.or_eq_true, Bool.and_eq_true, decide_eq_true_eq, and_true]
    omega
  | false =>
    rw [Bool.eq_iff_iff]
    simp only [Bool.or_eq_true, Bool.and_eq_true, decide_eq_true_eq]
    simp
    omega
theorem less_colon (l m : List UInt8) : Op.bytesLess (58 :: l) (58 :: m) = Op.bytesLess l m := by
  simp [Op.bytesLess]
theorem less_text (a b : Nat) (ha : a ≤ 172800) (hb : b ≤ 172800) : Op.bytesLess (clockText a) (clockText b) = decide (a < b) := by
  have h3 := less_two (a % 60) (b % 60) (by omega) (by omega) [] []
  rw [List.append_nil, List.append_nil] at h3
  unfold clockText
  rw [less_two _ _ (by omega) (by omega), less_colon, less_two _ _ (by omega) (by omega), less_colon, h3]
  simp only [Op.bytesLess, Bool.and_false, Bool.or_false]
  rw [Bool.eq_iff_iff]
  simp only [Bool.or_eq_true, Bool.and_eq_true, decide_eq_true_eq]
  omega
theorem text_inj {a b : Nat} (ha : a ≤ 172800) (hb : b ≤ 172800) (h : clockText a = clockText b) : a = b := by
  have h1 := less_text a b ha hb
  have h2 := less_text b a hb ha
  have h3 := less_text b b hb hb
  rw [h] at h1 h2
  rw [h3] at h1 h2
  have h4 : decide (b < b) = false := decide_eq_false (by omega)
  rw [h4] at h1 h2
  have := of_decide_eq_false h1.symm
  have := of_decide_eq_false h2.symm
  omega

/-- The last k decimal digits of a number. -/
def digs (n : Nat) : Nat → List UInt8
  | 0 => []
  | k + 1 => digs (n / 10) k ++ [UInt8.ofNat (48 + n % 10)]
theorem digs_two (n : Nat) (h : n < 100) : digs n 2 = two n := by
  simp only [digs, two, List.nil_append, List.cons_append]
  rw [show n / 10 % 10 = n / 10 by omega]
theorem digs_four (n : Nat) (h : n < 10000) : digs n 4 = two (n / 100) ++ two (n % 100) := by
  simp only [digs, two, List.nil_append, List.cons_append]
  rw [show n / 10 / 10 / 10 % 10 = n / 100 / 10 by omega, show n / 10 / 10 % 10 = n / 100 % 10 by omega, show n / 10 % 10 = n % 100 / 10 by omega, show n % 10 = n % 100 % 10 by omega]

/-- The text of a day, and of a moment. -/
def dtext (d : Int) : List UInt8 := two ((yearOf d).toNat / 100) ++ (two ((yearOf d).toNat % 100) ++ 45 :: (two (monthOf d).toNat ++ 45 :: two (dayOf d).toNat))
def dfmt (d : Int) : List UInt8 × Int := if 0 ≤ d ∧ d ≤ 36524 then (dtext d, 0) else ([], 11)
def mtext (a : Int) : List UInt8 := dtext (a / 86400) ++ 84 :: clockText (a % 86400).toNat
def mfmt (a : Int) : List UInt8 × Int := if 0 ≤ a ∧ a < 3155760000 then (mtext a, 0) else ([], 11)

/-- The form of a pattern, in which 0 stands for a digit. -/
def shapedB : List UInt8 → List UInt8 → Bool
  | [], [] => true
  | c :: l, q :: p => (if q == 48 then isDig c else c == q) && shapedB l p
  | _, _ => false
theorem shaped_len {l p : List UInt8} (h : shapedB l p = true) : l.length = p.length := by
  induction l generalizing p with
  | nil => cases p <;> simp_all [shapedB]
  | cons c l ih =>
    cases p with
    | nil => simp [shapedB] at h
    | cons q p =>
      simp only [shapedB, Bool.and_eq_true] at h
      simp [ih h.2]
def pat10 : List UInt8 := [48, 48, 48, 48, 45, 48, 48, 45, 48, 48]
def pat19 : List UInt8 := [48, 48, 48, 48, 45, 48, 48, 45, 48, 48, 84, 48, 48, 58, 48, 48, 58, 48, 48]
theorem list10 {l : List UInt8} (h : l.length = 10) : ∃ a b c d x e f y g k, l = [a, b, c, d, x, e, f, y, g, k] := by
  match l, h with
  | [a, b, c, d, x, e, f, y, g, k], _ => exact ⟨_, _, _, _, _, _, _, _, _, _, rfl⟩
theorem list9 {l : List UInt8} (h : l.length = 9) : ∃ a b c d x e f y g, l = [a, b, c, d, x, e, f, y, g] := by
  match l, h with
  | [a, b, c, d, x, e, f, y, g], _ => exact ⟨_, _, _, _, _, _, _, _, _, rfl⟩

/-- A text of the form of a day: its year, month and day. -/
def DF (l : List UInt8) (y m d : Int) : Prop :=
  ∃ a b c e f g h k : UInt8, l = [a, b, c, e, 45, f, g, 45, h, k] ∧ (isDig a = true ∧ isDig b = true ∧ isDig c = true ∧ isDig e = true) ∧ (isDig f = true ∧ isDig g = true) ∧ (isDig h = true ∧ isDig k = true) ∧
    y = 100 * pair a b + pair c e ∧ m = pair f g ∧ d = pair h k
/-- A text of the form of a time: its hours, minutes and seconds. -/
def TF (l : List UInt8) (h m s : Int) : Prop :=
  ∃ a b c d e f : UInt8, l = [a, b, 58, c, d, 58, e, f] ∧ (isDig a = true ∧ isDig b = true) ∧ (isDig c = true ∧ isDig d = true) ∧ (isDig e = true ∧ isDig f = true) ∧ h = pair a b ∧ m = pair c d ∧ s = pair e f
theorem shaped10 {l : List UInt8} (h : shapedB l pat10 = true) : ∃ y m d, DF l y m d := by
  obtain ⟨a, b, c, d, x, e, f, y, g, k, rfl⟩ := list10 (shaped_len h)
  simp [shapedB, pat10] at h
  obtain ⟨h1, h2, h3, h4, rfl, h5, h6, rfl, h7, h8⟩ := h
  exact ⟨_, _, _, a, b, c, d, e, f, g, k, rfl, ⟨h1, h2, h3, h4⟩, ⟨h5, h6⟩, ⟨h7, h8⟩, rfl, rfl, rfl⟩
theorem shaped10_of {l : List UInt8} {y m d : Int} (h : DF l y m d) : shapedB l pat10 = true := by
  obtain ⟨a, b, c, e, f, g, h, k, rfl, ⟨h1, h2, h3, h4⟩, ⟨h5, h6⟩, ⟨h7, h8⟩, _⟩ := h
  simp [shapedB, pat10, *]
theorem shaped19 {l : List UInt8} (h : shapedB l pat19 = true) : ∃ p q y m d hh mm ss, l = p ++ 84 :: q ∧ DF p y m d ∧ TF q hh mm ss := by
  have hl := shaped_len h
  have hl1 : (l.take 10).length = 10 := by rw [List.length_take, hl]; rfl
  have hl2 : (l.drop 10).length = 9 := by rw [List.length_drop, hl]; rfl
  obtain ⟨a, b, c, d, x, e, f, y, g, k, e1⟩ := list10 hl1
  obtain ⟨t, a', b', x', c', d', y', e', f', e2⟩ := list9 hl2
  have e3 : l = [a, b, c, d, x, e, f, y, g, k] ++ [t, a', b', x', c', d', y', e', f'] := by rw [← e1, ← e2, List.take_append_drop]
  subst e3
  simp [shapedB, pat19] at h
  obtain ⟨h1, h2, h3, h4, rfl, h5, h6, rfl, h7, h8, rfl, k1, k2, rfl, k3, k4, rfl, k5, k6⟩ := h
  exact ⟨_, _, _, _, _, _, _, _, rfl, ⟨a, b, c, d, e, f, g, k, rfl, ⟨h1, h2, h3, h4⟩, ⟨h5, h6⟩, ⟨h7, h8⟩, rfl, rfl, rfl⟩, ⟨a', b', c', d', e', f', rfl, ⟨k1, k2⟩, ⟨k3, k4⟩, ⟨k5, k6⟩, rfl, rfl, rfl⟩⟩
theorem shaped19_of {p q : List UInt8} {y m d hh mm ss : Int} (h : DF p y m d) (ht : TF q hh mm ss) : shapedB (p ++ 84 :: q) pat19 = true := by
  obtain ⟨a, b, c, e, f, g, h, k, rfl, ⟨h1, h2, h3, h4⟩, ⟨h5, h6⟩, ⟨h7, h8⟩, _⟩ := h
  obtain ⟨a', b', c', d', e', f', rfl, ⟨k1, k2⟩, ⟨k3, k4⟩, ⟨k5, k6⟩, _⟩ := ht
  simp [shapedB, pat19, *]
theorem DF_len {l : List UInt8} {y m d : Int} (h : DF l y m d) : l.length = 10 := by
  obtain ⟨a, b, c, e, f, g, h, k, rfl, _⟩ := h
  rfl
theorem DF_bd {l : List UInt8} {y m d : Int} (h : DF l y m d) : (0 ≤ y ∧ y ≤ 9999) ∧ (0 ≤ m ∧ m ≤ 99) ∧ (0 ≤ d ∧ d ≤ 99) := by
  obtain ⟨a, b, c, e, f, g, h, k, rfl, ⟨h1, h2, h3, h4⟩, ⟨h5, h6⟩, ⟨h7, h8⟩, rfl, rfl, rfl⟩ := h
  have := pair_bd h1 h2
  have := pair_bd h3 h4
  have := pair_bd h5 h6
  have := pair_bd h7 h8
  omega
theorem TF_bd {l : List UInt8} {y m d : Int} (h : TF l y m d) : (0 ≤ y ∧ y ≤ 99) ∧ (0 ≤ m ∧ m ≤ 99) ∧ (0 ≤ d ∧ d ≤ 99) := by
  obtain ⟨a, b, c, d, e, f, rfl, ⟨h1, h2⟩, ⟨h3, h4⟩, ⟨h5, h6⟩, rfl, rfl, rfl⟩ := h
  have := pair_bd h1 h2
  have := pair_bd h3 h4
  have := pair_bd h5 h6
  omega

/-- The day, and the error, of a text. -/
inductive Day : List UInt8 → Int → Int → Prop
  | bad {l : List UInt8} (h : shapedB l pat10 = false) : Day l 0 3
  | out {l : List UInt8} {y m d : Int} (h : DF l y m d) (k : fromCivil y m d = (0, false)) : Day l 0 11
  | ok {l : List UInt8} {y m d : Int} (n : Int) (h : DF l y m d) (k : fromCivil y m d = (n, true)) : Day l n 0
/-- The moment, and the error, of a text. -/
inductive Mom : List UInt8 → Int → Int → Prop
  | bad {l : List UInt8} (h : shapedB l pat19 = false) : Mom l 0 3
  | day {p q : List UInt8} {y m d hh mm ss : Int} (h : DF p y m d) (t : TF q hh mm ss) (k : fromCivil y m d = (0, false)) : Mom (p ++ 84 :: q) 0 11
  | out {p q : List UInt8} {y m d hh mm ss : Int} (n : Int) (h : DF p y m d) (t : TF q hh mm ss) (k : fromCivil y m d = (n, true)) (hx : ¬ (hh ≤ 23 ∧ mm ≤ 59 ∧ ss ≤ 59)) : Mom (p ++ 84 :: q) 0 10
  | ok {p q : List UInt8} {y m d hh mm ss : Int} (n : Int) (h : DF p y m d) (t : TF q hh mm ss) (k : fromCivil y m d = (n, true)) (hx : hh ≤ 23 ∧ mm ≤ 59 ∧ ss ≤ 59) : Mom (p ++ 84 :: q) (n * 86400 + 3600 * hh + 60 * mm + ss) 0

theorem fromCivil_cases (y m d : Int) : fromCivil y m d = (0, false) ∨ ∃ n, fromCivil y m d = (n, true) := by
  unfold fromCivil
  split
  · exact .inr ⟨_, rfl⟩
  · exact .inl rfl
theorem day_some (l : List UInt8) : ∃ n e, Day l n e := by
  cases h : shapedB l pat10 with
  | false => exact ⟨_, _, .bad h⟩
  | true =>
    obtain ⟨y, m, d, hd⟩ := shaped10 h
    rcases fromCivil_cases y m d with k | ⟨n, k⟩
    · exact ⟨_, _, .out hd k⟩
    · exact ⟨_, _, .ok n hd k⟩
theorem mom_some (l : List UInt8) : ∃ n e, Mom l n e := by
  cases h : shapedB l pat19 with
  | false => exact ⟨_, _, .bad h⟩
  | true =>
    obtain ⟨p, q, y, m, d, hh, mm, ss, rfl, hd, ht⟩ := shaped19 h
    rcases fromCivil_cases y m d with k | ⟨n, k⟩
    · exact ⟨_, _, .day hd ht k⟩
    · by_cases hx : hh ≤ 23 ∧ mm ≤ 59 ∧ ss ≤ 59
      · exact ⟨_, _, .ok n hd ht k hx⟩
      · exact ⟨_, _, .out n hd ht k hx⟩

/-- The text of a day has its date. -/
theorem dtext_df (d : Int) (h0 : 0 ≤ d) (h1 : d ≤ 36524) : DF (dtext d) (yearOf d) (monthOf d) (dayOf d) := by
  obtain ⟨⟨y0, y1⟩, ⟨m0, m1⟩, ⟨d0, d1⟩⟩ := civil_bd d h0 h1
  have hm := mlen_bd (yearOf d) (monthOf d)
  obtain ⟨a1, a2, a3⟩ := two_digits ((yearOf d).toNat / 100) (by omega)
  obtain ⟨b1, b2, b3⟩ := two_digits ((yearOf d).toNat % 100) (by omega)
  obtain ⟨c1, c2, c3⟩ := two_digits (monthOf d).toNat (by omega)
  obtain ⟨e1, e2, e3⟩ := two_digits (dayOf d).toNat (by omega)
  refine ⟨_, _, _, _, _, _, _, _, rfl, ⟨a1, a2, b1, b2⟩, ⟨c1, c2⟩, ⟨e1, e2⟩, ?_, ?_, ?_⟩
  · rw [a3, b3]; omega
  · rw [c3]; omega
  · rw [e3]; omega
theorem day_text (d : Int) (h0 : 0 ≤ d) (h1 : d ≤ 36524) : Day (dtext d) d 0 := .ok d (dtext_df d h0 h1) (from_civil d h0 h1)
/-- A text that is accepted is the text of its day. -/
theorem text_of_df {l : List UInt8} {y m d n : Int} (h : DF l y m d) (k : fromCivil y m d = (n, true)) : (0 ≤ n ∧ n ≤ 36524) ∧ dtext n = l := by
  obtain ⟨hb, e1, e2, e3⟩ := civil_from k
  refine ⟨hb, ?_⟩
  unfold dtext
  rw [e1, e2, e3]
  obtain ⟨a, b, c, e, f, g, h, k, rfl, ⟨h1, h2, h3, h4⟩, ⟨h5, h6⟩, ⟨h7, h8⟩, rfl, rfl, rfl⟩ := h
  have b1 := pair_bd h1 h2
  have b2 := pair_bd h3 h4
  have b3 := pair_bd h5 h6
  have b4 := pair_bd h7 h8
  rw [pair_two h1 h2 _ (by omega), pair_two h3 h4 _ (by omega), pair_two h5 h6 _ (by omega), pair_two h7 h8 _ (by omega)]
  rfl
theorem text_day {l : List UInt8} {n : Int} (h : Day l n 0) : (0 ≤ n ∧ n ≤ 36524) ∧ dtext n = l := by
  cases h with
  | ok _ h k => exact text_of_df h k
theorem clock_tf (t : Nat) (h : t < 86400) : TF (clockText t) ((t / 3600 : Nat) : Int) ((t / 60 % 60 : Nat) : Int) ((t % 60 : Nat) : Int) := by
  obtain ⟨a1, a2, a3⟩ := two_digits (t / 3600) (by omega)
  obtain ⟨b1, b2, b3⟩ := two_digits (t / 60 % 60) (by omega)
  obtain ⟨c1, c2, c3⟩ := two_digits (t % 60) (by omega)
  exact ⟨_, _, _, _, _, _, rfl, ⟨a1, a2⟩, ⟨b1, b2⟩, ⟨c1, c2⟩, a3.symm, b3.symm, c3.symm⟩
theorem mom_text (a : Int) (h0 : 0 ≤ a) (h1 : a < 3155760000) : Mom (mtext a) a 0 := by
  have hd := dtext_df (a / 86400) (by omega) (by omega)
  have ht := clock_tf (a % 86400).toNat (by omega)
  have := Mom.ok _ hd ht (from_civil (a / 86400) (by omega) (by omega)) (by omega)
  have e : a / 86400 * 86400 + 3600 * (((a % 86400).toNat / 3600 : Nat) : Int) + 60 * (((a % 86400).toNat / 60 % 60 : Nat) : Int) + (((a % 86400).toNat % 60 : Nat) : Int) = a := by omega
  rw [e] at this
  exact this
theorem tf_text {q : List UInt8} {h m s : Int} (t : TF q h m s) (hx : h ≤ 23 ∧ m ≤ 59 ∧ s ≤ 59) (n : Nat) (hn : (n : Int) = 3600 * h + 60 * m + s) : clockText n = q := by
  have hb := TF_bd t
  obtain ⟨a, b, c, d, e, f, rfl, ⟨h1, h2⟩, ⟨h3, h4⟩, ⟨h5, h6⟩, rfl, rfl, rfl⟩ := t
  unfold clockText
  rw [pair_two h1 h2 _ (by omega), pair_two h3 h4 _ (by omega), pair_two h5 h6 _ (by omega)]
  rfl
theorem text_mom {l : List UInt8} {n : Int} (h : Mom l n 0) : (0 ≤ n ∧ n < 3155760000) ∧ mtext n = l := by
  cases h with
  | ok n h t k hx =>
    obtain ⟨hb, e⟩ := text_of_df h k
    have ht := TF_bd t
    rename_i p q y m d hh mm ss
    refine ⟨by omega, ?_⟩
    unfold mtext
    rw [show (n * 86400 + 3600 * hh + 60 * mm + ss) / 86400 = n by omega, e, tf_text t hx _ (by omega)]
theorem day_bd {l : List UInt8} {n e : Int} (h : Day l n e) : (0 ≤ n ∧ n ≤ 36524) ∧ (e ≠ 0 → n = 0) := by
  cases h with
  | bad => exact ⟨by omega, fun _ => rfl⟩
  | out => exact ⟨by omega, fun _ => rfl⟩
  | ok _ h k => exact ⟨(text_of_df h k).1, fun h => absurd rfl h⟩

/-! ### The order of texts -/
theorem less_sep (c : UInt8) (l m : List UInt8) : Op.bytesLess (c :: l) (c :: m) = Op.bytesLess l m := by
  simp [Op.bytesLess]
theorem less_day (a b : Int) (ha : 0 ≤ a ∧ a ≤ 36524) (hb : 0 ≤ b ∧ b ≤ 36524) (l m : List UInt8) : Op.bytesLess (dtext a ++ l) (dtext b ++ m) = (decide (a < b) || (decide (a = b) && Op.bytesLess l m)) := by
  obtain ⟨⟨y0, y1⟩, ⟨m0, m1⟩, ⟨d0, d1⟩⟩ := civil_bd a ha.1 ha.2
  obtain ⟨⟨y0', y1'⟩, ⟨m0', m1'⟩, ⟨d0', d1'⟩⟩ := civil_bd b hb.1 hb.2
  have hm := mlen_bd (yearOf a) (monthOf a)
  have hm' := mlen_bd (yearOf b) (monthOf b)
  unfold dtext
  simp only [List.append_assoc, List.cons_append]
  rw [less_two _ _ (by omega) (by omega), less_two _ _ (by omega) (by omega), less_sep, less_two _ _ (by omega) (by omega), less_sep, less_two _ _ (by omega) (by omega)]
  obtain ⟨p1, p2, p3⟩ := mon_spec a ha.1 ha.2
  obtain ⟨q1, q2, q3⟩ := mon_spec b hb.1 hb.2
  have key : (a < b ↔ yearOf a < yearOf b ∨ (yearOf a = yearOf b ∧ (monthOf a < monthOf b ∨ (monthOf a = monthOf b ∧ dayOf a < dayOf b)))) ∧ (a = b ↔ yearOf a = yearOf b ∧ monthOf a = monthOf b ∧ dayOf a = dayOf b) := by
    have hlt : mon a < mon b → a < b := fun h => by have := cum_le (show mon a + 1 ≤ mon b by omega); omega
    have hgt : mon b < mon a → b < a := fun h => by have := cum_le (show mon b + 1 ≤ mon a by omega); omega
    unfold yearOf monthOf dayOf
    rcases Nat.lt_trichotomy (mon a) (mon b) with h | h | h
    · have := hlt h
      omega
    · rw [h] at p2 p3 ⊢
      omega
    · have := hgt h
      omega
  obtain ⟨k1, k2⟩ := key
  cases Op.bytesLess l m with
  | true =>
    rw [Bool.eq_iff_iff]
    simp only [Bool.or_eq_true, Bool.and_eq_true, decide_eq_true_eq, and_true]
    rw [k1, k2]
    omega
  | false =>
    rw [Bool.eq_iff_iff]
    simp only [Bool.or_eq_true, Bool.and_eq_true, decide_eq_true_eq, Bool.false_eq_true, and_false, or_false]
    rw [k1]
    omega
theorem less_dtext (a b : Int) (ha : 0 ≤ a ∧ a ≤ 36524) (hb : 0 ≤ b ∧ b ≤ 36524) : Op.bytesLess (dtext a) (dtext b) = decide (a < b) := by
  have := less_day a b ha hb [] []
  rw [List.append_nil, List.append_nil] at this
  rw [this]
  simp [Op.bytesLess]
theorem less_mtext (a b : Int) (ha : 0 ≤ a ∧ a < 3155760000) (hb : 0 ≤ b ∧ b < 3155760000) : Op.bytesLess (mtext a) (mtext b) = decide (a < b) := by
  unfold mtext
  rw [less_day _ _ (by omega) (by omega), less_sep, less_text _ _ (by omega) (by omega)]
  rw [Bool.eq_iff_iff]
  simp only [Bool.or_eq_true, Bool.and_eq_true, decide_eq_true_eq]
  omega
theorem inj_of_less {α : Type} {f : α → List UInt8} {R : α → α → Prop} [DecidableRel R] {a b : α} (h1 : Op.bytesLess (f a) (f b) = decide (R a b)) (h2 : Op.bytesLess (f b) (f a) = decide (R b a)) (h3 : Op.bytesLess (f b) (f b) = decide (R b b)) (h : f a = f b) (hr : ¬ R b b) : ¬ R a b ∧ ¬ R b a := by
  rw [h] at h1 h2
  rw [h3, decide_eq_decide] at h1 h2
  exact ⟨fun k => hr (h1.2 k), fun k => hr (h2.2 k)⟩
theorem dtext_inj {a b : Int} (ha : 0 ≤ a ∧ a ≤ 36524) (hb : 0 ≤ b ∧ b ≤ 36524) (h : dtext a = dtext b) : a = b := by
  have := inj_of_less (f := dtext) (R := fun x y : Int => x < y) (less_dtext a b ha hb) (less_dtext b a hb ha) (less_dtext b b hb hb) h (by omega)
  omega
theorem mtext_inj {a b : Int} (ha : 0 ≤ a ∧ a < 3155760000) (hb : 0 ≤ b ∧ b < 3155760000) (h : mtext a = mtext b) : a = b := by
  have := inj_of_less (f := mtext) (R := fun x y : Int => x < y) (less_mtext a b ha hb) (less_mtext b a hb ha) (less_mtext b b hb hb) h (by omega)
  omega
end Go.Proofs.YthdadalmgldppaaDoor.Dat
