/-
  THE PLAIN MATHEMATICS OF FREQUENCIES: integers and lists; no program in sight. Conditions: none.
-/
namespace Go.Proofs.Ytjdaikeljmccaaa.Frq

structure FreqD where
  trip : Int
  frm : Int
  to : Int
  every : Int
structure CallD where
  stop : Int
  arrive : Int
  depart : Int
  board : Bool
  alight : Bool
  deriving DecidableEq

def sound (f : FreqD) : Prop := 0 ≤ f.frm ∧ f.frm < f.to ∧ f.to ≤ 172800 ∧ 1 ≤ f.every ∧ f.every ≤ 86400
instance (f : FreqD) : Decidable (sound f) := by unfold sound; infer_instance
def soundB (f : FreqD) : Bool := decide (sound f)
theorem sound_cases (f : FreqD) : (sound f ∧ soundB f = true) ∨
    ((f.frm < 0 ∨ (0 ≤ f.frm ∧ f.to ≤ f.frm) ∨ (0 ≤ f.frm ∧ f.frm < f.to ∧ 172800 < f.to) ∨ (0 ≤ f.frm ∧ f.frm < f.to ∧ f.to ≤ 172800 ∧ f.every < 1) ∨ (0 ≤ f.frm ∧ f.frm < f.to ∧ f.to ≤ 172800 ∧ 1 ≤ f.every ∧ 86400 < f.every)) ∧ soundB f = false) := by
  unfold soundB
  by_cases h : sound f
  · exact .inl ⟨h, decide_eq_true h⟩
  · refine .inr ⟨?_, decide_eq_false h⟩
    unfold sound at h
    omega
theorem rsound_cases (f : FreqD) : (sound f ∧ soundB f = true) ∨
    ((f.frm < 0 ∨ (0 ≤ f.frm ∧ 172800 < f.frm) ∨ (0 ≤ f.frm ∧ f.frm ≤ 172800 ∧ f.to < 0) ∨ (0 ≤ f.frm ∧ f.frm ≤ 172800 ∧ 0 ≤ f.to ∧ 172800 < f.to) ∨ (0 ≤ f.frm ∧ f.frm ≤ 172800 ∧ 0 ≤ f.to ∧ f.to ≤ 172800 ∧ f.to ≤ f.frm) ∨
      (0 ≤ f.frm ∧ f.frm ≤ 172800 ∧ 0 ≤ f.to ∧ f.to ≤ 172800 ∧ f.frm < f.to ∧ f.every < 1) ∨ (0 ≤ f.frm ∧ f.frm ≤ 172800 ∧ 0 ≤ f.to ∧ f.to ≤ 172800 ∧ f.frm < f.to ∧ 1 ≤ f.every ∧ 86400 < f.every)) ∧ soundB f = false) := by
  unfold soundB
  by_cases h : sound f
  · exact .inl ⟨h, decide_eq_true h⟩
  · refine .inr ⟨?_, decide_eq_false h⟩
    unfold sound at h
    omega

/-- How many starts a sound frequency has. -/
def cnt (f : FreqD) : Int := (f.to - f.frm - 1) / f.every + 1
theorem cnt_eq (f : FreqD) (h : sound f) : (f.to - f.frm + f.every - 1) / f.every = cnt f := by
  obtain ⟨h1, h2, h3, h4, h5⟩ := h
  unfold cnt
  rw [show f.to - f.frm + f.every - 1 = (f.to - f.frm - 1) + 1 * f.every by omega, Int.add_mul_ediv_right _ _ (by omega)]
theorem cnt_bd (f : FreqD) (h : sound f) : 1 ≤ cnt f ∧ cnt f ≤ 172800 := by
  obtain ⟨h1, h2, h3, h4, h5⟩ := h
  unfold cnt
  have a := Int.ediv_nonneg (a := f.to - f.frm - 1) (b := f.every) (by omega) (by omega)
  have b := Int.ediv_le_self (a := f.to - f.frm - 1) f.every (by omega)
  omega
/-- The k-th start is a start just below the number of starts. -/
theorem cnt_lt (f : FreqD) (h : sound f) (k : Nat) : f.frm + k * f.every < f.to ↔ (k : Int) < cnt f := by
  obtain ⟨h1, h2, h3, h4, h5⟩ := h
  unfold cnt
  have key : (k : Int) ≤ (f.to - f.frm - 1) / f.every ↔ (k : Int) * f.every ≤ f.to - f.frm - 1 := Int.le_ediv_iff_mul_le (by omega)
  omega
/-- The starts of a frequency. -/
def startsN (f : FreqD) (n : Nat) : List Int := (List.range n).map fun k : Nat => f.frm + k * f.every
def starts (f : FreqD) : List Int := if sound f then startsN f (cnt f).toNat else []
theorem startsN_succ (f : FreqD) (n : Nat) : startsN f (n + 1) = startsN f n ++ [f.frm + n * f.every] := by simp [startsN, List.range_succ]
theorem startsN_len (f : FreqD) (n : Nat) : (startsN f n).length = n := by simp [startsN]
theorem starts_len (f : FreqD) : (starts f).length ≤ 172800 := by
  unfold starts
  split
  · rename_i h
    have := cnt_bd f h
    rw [startsN_len]; omega
  · simp
theorem start_bd (f : FreqD) (h : sound f) (k : Nat) (hk : (k : Int) < cnt f) : 0 ≤ f.frm + k * f.every ∧ f.frm + k * f.every ≤ 172799 := by
  have := (cnt_lt f h k).2 hk
  obtain ⟨h1, h2, h3, h4, h5⟩ := h
  have := Int.mul_nonneg (a := (k : Int)) (b := f.every) (by omega) (by omega)
  omega
theorem mul_succ' (k : Nat) (e : Int) : (((k + 1 : Nat) : Int)) * e = k * e + e := by
  rw [show ((k + 1 : Nat) : Int) = (k : Int) + 1 by omega, Int.add_mul, Int.one_mul]

/-! ### Shifted calls -/
def near (t first start : Int) : Bool := decide (0 ≤ t - first + start) && decide (t - first + start ≤ 172800)
def shiftC (first start : Int) (c : CallD) : CallD := { c with arrive := c.arrive - first + start, depart := c.depart - first + start }
def okC (first start : Int) (c : CallD) : Bool := near c.arrive first start && near c.depart first start
/-- The calls of a trip started at a time, and the error. -/
def callsS (cs : List CallD) (start : Int) : List CallD × Int :=
  match cs with
  | [] => ([], 16)
  | c :: _ => if cs.all (okC c.depart start) then (cs.map (shiftC c.depart start), 0) else ([], 10)
theorem callsS_nil (start : Int) : callsS [] start = ([], 16) := rfl
theorem callsS_yes {cs : List CallD} {x0 : CallD} {start : Int} (h0 : cs[0]? = some x0) (h : cs.all (okC x0.depart start) = true) : callsS cs start = (cs.map (shiftC x0.depart start), 0) := by
  cases cs with
  | nil => simp at h0
  | cons c t =>
    simp only [List.getElem?_cons_zero, Option.some.injEq] at h0
    subst h0
    simp only [callsS]
    rw [if_pos h]
theorem callsS_no {cs : List CallD} {x0 x : CallD} {start : Int} (h0 : cs[0]? = some x0) (hx : x ∈ cs) (h : okC x0.depart start x = false) : callsS cs start = ([], 10) := by
  cases cs with
  | nil => simp at h0
  | cons c t =>
    simp only [List.getElem?_cons_zero, Option.some.injEq] at h0
    subst h0
    simp only [callsS]
    rw [if_neg]
    intro k
    rw [List.all_eq_true] at k
    rw [k x hx] at h
    simp at h
/-- The start is a time of day where all calls are near. -/
theorem start_of_all {cs : List CallD} {x0 : CallD} {start : Int} (h0 : cs[0]? = some x0) (h : cs.all (okC x0.depart start) = true) : 0 ≤ start ∧ start ≤ 172800 := by
  cases cs with
  | nil => simp at h0
  | cons c t =>
    simp only [List.getElem?_cons_zero, Option.some.injEq] at h0
    subst h0
    simp only [List.all_cons, Bool.and_eq_true, okC, near, decide_eq_true_eq] at h
    omega
end Go.Proofs.Ytjdaikeljmccaaa.Frq
