/-
  THE PLAIN MATHEMATICS OF THROUGH SERVICES, SECOND PART: where two lists of calls meet; what a check says. Conditions: none.
-/
import Derived.Test.YtjdaikeljmccaaaThrPlain
import Derived.Test.YtjdaikeljmccaaaFrqPlain
namespace Go.Proofs.Ytjdaikeljmccaaa.Thr
open Frq

/-! ### the first index with a property -/
def findI {α : Type} (p : Nat → α → Bool) (l : List α) : Option Nat := (List.range l.length).find? fun i => match l[i]? with
  | some c => p i c
  | none => false
theorem findI_some {α : Type} {p : Nat → α → Bool} {l : List α} {k : Nat} {c : α} (h0 : ∀ i x, i < k → l[i]? = some x → p i x = false) (hk : l[k]? = some c) (hp : p k c = true) : findI p l = some k := by
  unfold findI
  rw [List.find?_range_eq_some]
  have hl : k < l.length := (List.getElem?_eq_some_iff.1 hk).1
  refine ⟨?_, by simpa using hl, fun j hj => ?_⟩
  · rw [hk]; exact hp
  · obtain ⟨x, hx⟩ : ∃ x, l[j]? = some x := ⟨_, List.getElem?_eq_getElem (by omega)⟩
    simp only [hx, h0 j x hj hx, Bool.not_false]
theorem findI_none {α : Type} {p : Nat → α → Bool} {l : List α} (h0 : ∀ i x, l[i]? = some x → p i x = false) : findI p l = none := by
  unfold findI
  rw [List.find?_eq_none]
  intro i hi
  rw [List.mem_range] at hi
  obtain ⟨x, hx⟩ : ∃ x, l[i]? = some x := ⟨_, List.getElem?_eq_getElem hi⟩
  simp only [hx, h0 i x hx]
  decide
theorem findI_of {α : Type} {p : Nat → α → Bool} {l : List α} {k : Nat} (h : findI p l = some k) : ∃ c, l[k]? = some c ∧ p k c = true ∧ ∀ i x, i < k → l[i]? = some x → p i x = false := by
  unfold findI at h
  rw [List.find?_range_eq_some] at h
  obtain ⟨h1, h2, h3⟩ := h
  split at h1
  · rename_i c hc
    refine ⟨c, hc, h1, fun i x hi hx => ?_⟩
    have := h3 i hi
    simp only [hx] at this
    simpa using this
  · cases h1

def alightP (stop : Int) (i : Nat) (c : CallD) : Bool := decide (0 < i) && ((c.stop == stop) && c.alight)
def boardP (n : Nat) (stop : Int) (i : Nat) (c : CallD) : Bool := decide (i + 1 < n) && ((c.stop == stop) && c.board)
def alightS (l : List CallD) (stop : Int) : Option Nat := findI (alightP stop) l
def boardS (l : List CallD) (stop : Int) : Option Nat := findI (boardP l.length stop) l
def optI (o : Option Nat) : Int := match o with
  | some k => k
  | none => -1
/-- Where two lists of calls meet at a stop. -/
def meetsS (a b : List CallD) (stop : Int) : Int × Int × Bool :=
  match alightS a stop, boardS b stop with
  | some i, some k => match a[i]?, b[k]? with
    | some x, some y => if y.depart < x.arrive then (0, 0, false) else (i, k, true)
    | _, _ => (0, 0, false)
  | _, _ => (0, 0, false)
theorem meetsS_a {a b : List CallD} {stop : Int} (h : alightS a stop = none) : meetsS a b stop = (0, 0, false) := by unfold meetsS; rw [h]
theorem meetsS_b {a b : List CallD} {stop : Int} (h : boardS b stop = none) : meetsS a b stop = (0, 0, false) := by unfold meetsS; rw [h]; cases alightS a stop <;> rfl
theorem meetsS_no {a b : List CallD} {stop : Int} {i k : Nat} {x y : CallD} (h1 : alightS a stop = some i) (h2 : boardS b stop = some k) (hx : a[i]? = some x) (hy : b[k]? = some y) (h : y.depart < x.arrive) : meetsS a b stop = (0, 0, false) := by
  unfold meetsS; rw [h1, h2]; simp only [hx, hy]; rw [if_pos h]
theorem meetsS_yes {a b : List CallD} {stop : Int} {i k : Nat} {x y : CallD} (h1 : alightS a stop = some i) (h2 : boardS b stop = some k) (hx : a[i]? = some x) (hy : b[k]? = some y) (h : x.arrive ≤ y.depart) : meetsS a b stop = ((i : Int), (k : Int), true) := by
  unfold meetsS; rw [h1, h2]; simp only [hx, hy]; rw [if_neg (by omega)]
/-- What a meeting is. -/
theorem meetsS_inv {a b : List CallD} {stop : Int} {r : Int × Int × Bool} (h : meetsS a b stop = r) : (r = (0, 0, false)) ∨ ∃ (i k : Nat) (x y : CallD), r = ((i : Int), (k : Int), true) ∧ alightS a stop = some i ∧ boardS b stop = some k ∧ a[i]? = some x ∧ b[k]? = some y ∧ x.arrive ≤ y.depart := by
  unfold meetsS at h
  split at h
  · rename_i i k h1 h2
    split at h
    · rename_i x y hx hy
      split at h
      · exact .inl h.symm
      · rename_i hle
        exact .inr ⟨i, k, x, y, h.symm, h1, h2, hx, hy, by omega⟩
    · exact .inl h.symm
  · exact .inl h.symm

/-! ### checks: the first entry with an error -/
def chk {α : Type} (err : List α → α → Int) (pre : List α) : List α → Int × Int
  | [] => (0, 0)
  | x :: rest => if err pre x = 0 then chk err (pre ++ [x]) rest else (pre.length, err pre x)
def checkS {α : Type} (most : Nat) (err : List α → α → Int) (l : List α) : Int × Int := if most < l.length then (0, 5) else chk err [] l
section
variable {α : Type} {err : List α → α → Int}
theorem take_snoc' {l : List α} {k : Nat} {x : α} (h : l[k]? = some x) : l.take (k + 1) = l.take k ++ [x] := by
  obtain ⟨hk, rfl⟩ := List.getElem?_eq_some_iff.1 h
  rw [List.take_succ_eq_append_getElem hk]
theorem chk_end {l : List α} {k : Nat} (h : l.length ≤ k) : chk err (l.take k) (l.drop k) = (0, 0) := by
  rw [List.drop_of_length_le h]
  rfl
theorem chk_bad {l : List α} {k : Nat} {x : α} {e : Int} (hx : l[k]? = some x) (he : err (l.take k) x = e) (hne : e ≠ 0) : chk err (l.take k) (l.drop k) = ((k : Int), e) := by
  obtain ⟨hk, rfl⟩ := List.getElem?_eq_some_iff.1 hx
  rw [List.drop_eq_getElem_cons hk]
  show (if _ then _ else _) = _
  rw [he, if_neg hne, List.length_take, Nat.min_eq_left (by omega)]
theorem chk_good {l : List α} {k : Nat} {x : α} (hx : l[k]? = some x) (he : err (l.take k) x = 0) : chk err (l.take k) (l.drop k) = chk err (l.take (k + 1)) (l.drop (k + 1)) := by
  obtain ⟨hk, rfl⟩ := List.getElem?_eq_some_iff.1 hx
  rw [List.drop_eq_getElem_cons hk]
  show (if _ then _ else _) = _
  rw [he, if_pos rfl, take_snoc' hx]
theorem chk_ok : ∀ (rest pre : List α), (chk err pre rest).2 = 0 → ∀ (k : Nat) (x : α), rest[k]? = some x → err (pre ++ rest.take k) x = 0
  | [], _, _, k, f, hk => by simp at hk
  | g :: rest, pre, h, k, f, hk => by
    unfold chk at h
    split at h
    · rename_i h0
      cases k with
      | zero =>
        simp only [List.getElem?_cons_zero, Option.some.injEq] at hk
        subst hk
        rw [List.take_zero, List.append_nil]
        exact h0
      | succ k =>
        rw [List.getElem?_cons_succ] at hk
        have := chk_ok rest (pre ++ [g]) h k f hk
        rw [List.append_assoc] at this
        exact this
    · rename_i h0
      exact absurd h h0
theorem check_ok {most : Nat} {l : List α} (h : (checkS most err l).2 = 0) : l.length ≤ most ∧ ∀ {k : Nat} {x : α}, l[k]? = some x → err (l.take k) x = 0 := by
  unfold checkS at h
  split at h
  · simp at h
  · rename_i hl
    refine ⟨by omega, fun {k x} hk => ?_⟩
    have := chk_ok l [] h k x hk
    rw [List.nil_append] at this
    exact this
theorem chk_all : ∀ (rest pre : List α), (∀ (k : Nat) (x : α), rest[k]? = some x → err (pre ++ rest.take k) x = 0) → chk err pre rest = (0, 0)
  | [], _, _ => rfl
  | g :: rest, pre, h => by
    unfold chk
    rw [if_pos (by have := h 0 g rfl; simpa using this)]
    exact chk_all rest (pre ++ [g]) fun k x hx => by
      have := h (k + 1) x hx
      rw [List.take_succ_cons] at this
      rw [List.append_assoc]
      exact this
/-- Every beginning of what is accepted is accepted. -/
theorem check_take {most : Nat} {l : List α} (h : (checkS most err l).2 = 0) (n : Nat) : checkS most err (l.take n) = (0, 0) := by
  obtain ⟨hl, hk⟩ := check_ok h
  unfold checkS
  rw [if_neg (by rw [List.length_take]; omega)]
  refine chk_all _ _ fun k x hx => ?_
  have hkn : k < (l.take n).length := (List.getElem?_eq_some_iff.1 hx).1
  rw [List.length_take] at hkn
  rw [List.getElem?_take_of_lt (by omega)] at hx
  rw [List.nil_append, List.take_take, Nat.min_eq_left (by omega)]
  exact hk hx
end

/-! ### the errors of one through service -/
structure TrpD where
  cal : Int
  calls : List CallD
structure GuaD where
  frm : Int
  to : Int
  stop : Int
  deriving DecidableEq
def inB (n lim : Int) : Bool := decide (0 ≤ n) && decide (n < lim)
/-- The error of one trip that continues as another one. -/
def followS (a b : TrpD) : Int :=
  if a.cal ≠ b.cal then 15 else
  match a.calls.getLast?, b.calls.head? with
  | some x, some y => if x.stop ≠ y.stop then 13 else if y.depart < x.arrive then 10 else 0
  | _, _ => 13
def repS (fs : List FreqD) (t : Int) : Bool := fs.any fun f => f.trip == t
def pairB (n : Nat) (frm to : Int) : Bool := inB frm n && (inB to n && !(frm == to))
def atT (ts : List TrpD) (i : Int) : TrpD := (ts[i.toNat]?).getD ⟨0, []⟩
def thrErr (ts : List TrpD) (fs : List FreqD) (pre : List ThrD) (x : ThrD) : Int :=
  if pairB ts.length x.frm x.to = false then 9 else
  if (repS fs x.frm || repS fs x.to) = true then 17 else
  if followS (atT ts x.frm) (atT ts x.to) ≠ 0 then followS (atT ts x.frm) (atT ts x.to) else
  if (pre.any fun y => y.frm == x.frm || y.to == x.to) = true then 6 else
  if (chainS pre x.to).contains x.frm = true then 19 else 0
def guaErr (ts : List TrpD) (fs : List FreqD) (stops : Int) (pre : List GuaD) (x : GuaD) : Int :=
  if pairB ts.length x.frm x.to = false then 9 else
  if inB x.stop stops = false then 9 else
  if (repS fs x.frm || repS fs x.to) = true then 17 else
  if (meetsS (atT ts x.frm).calls (atT ts x.to).calls x.stop).2.2 = false then 19 else
  if pre.contains x = true then 6 else 0
theorem thrErr_zero {ts : List TrpD} {fs : List FreqD} {pre : List ThrD} {x : ThrD} (h : thrErr ts fs pre x = 0) :
    pairB ts.length x.frm x.to = true ∧ followS (atT ts x.frm) (atT ts x.to) = 0 ∧ (pre.any fun y => y.frm == x.frm || y.to == x.to) = false ∧ (chainS pre x.to).contains x.frm = false := by
  unfold thrErr at h
  split at h
  · simp at h
  · split at h
    · simp at h
    · split at h
      · rename_i hf; exact absurd h hf
      · split at h
        · simp at h
        · split at h
          · simp at h
          · rename_i h1 _ h3 h4 h5
            refine ⟨by simpa using h1, by simpa using h3, by simpa using h4, by simpa using h5⟩
/-- Where Check accepts, every chain comes to an end. -/
theorem accepted_ends {ts : List TrpD} {fs : List FreqD} {most : Nat} {l : List ThrD} (h : (checkS most (thrErr ts fs) l).2 = 0) : ∀ k, k ≤ l.length → AllEnd (l.take k)
  | 0, _ => allEnd_nil
  | k + 1, hk => by
    obtain ⟨x, hx⟩ : ∃ x, l[k]? = some x := ⟨_, List.getElem?_eq_getElem (by omega)⟩
    obtain ⟨-, -, h3, h4⟩ := thrErr_zero ((check_ok h).2 hx)
    rw [take_snoc' hx]
    refine allEnd_snoc (accepted_ends h k (by omega)) ?_ ?_
    · unfold nextS
      rw [List.find?_eq_none]
      intro y hy hyx
      rw [List.any_eq_false] at h3
      exact h3 y hy (by rw [hyx]; rfl)
    · intro hm
      rw [List.contains_iff_mem.2 hm] at h4
      cases h4
theorem accepted_last {ts : List TrpD} {fs : List FreqD} {most : Nat} {l : List ThrD} (h : (checkS most (thrErr ts fs) l).2 = 0) (t : Int) : nextS l (lastI (chainS l t)) = none := by
  have := accepted_ends h l.length (Nat.le_refl _)
  rw [List.take_length] at this
  obtain ⟨r, hr⟩ := this t
  exact chain_last hr
/-- The link of two trips that follow each other in an accepted chain. -/
theorem accepted_link {ts : List TrpD} {fs : List FreqD} {most : Nat} {l : List ThrD} (h : (checkS most (thrErr ts fs) l).2 = 0) {x : ThrD} (hx : x ∈ l) : pairB ts.length x.frm x.to = true ∧ followS (atT ts x.frm) (atT ts x.to) = 0 := by
  obtain ⟨k, hk⟩ := List.getElem?_of_mem hx
  obtain ⟨h1, h2, -, -⟩ := thrErr_zero ((check_ok h).2 hk)
  exact ⟨h1, h2⟩
theorem pairB_in {n : Nat} {a b : Int} (h : pairB n a b = true) : (0 ≤ a ∧ a < n) ∧ (0 ≤ b ∧ b < n) := by
  unfold pairB inB at h
  simp only [Bool.and_eq_true, decide_eq_true_eq] at h
  exact ⟨h.1, h.2.1⟩
theorem chain_in {ts : List TrpD} {fs : List FreqD} {most : Nat} {l : List ThrD} (h : (checkS most (thrErr ts fs) l).2 = 0) {t : Int} (h0 : 0 ≤ t) (h1 : t < ts.length) {n : Int} (hn : n ∈ chainS l t) : 0 ≤ n ∧ n < ts.length := by
  have hm := chainS_making l t
  obtain ⟨j, hj⟩ := List.getElem?_of_mem hn
  cases j with
  | zero => rw [hm.head] at hj; cases hj; exact ⟨h0, h1⟩
  | succ j =>
    have : n ∈ (chainS l t).tail := by
      rw [List.mem_iff_getElem?]
      exact ⟨j, by rw [List.getElem?_tail]; exact hj⟩
    obtain ⟨x, hx, rfl⟩ := List.mem_map.1 (hm.rest n this)
    exact (pairB_in (accepted_link h hx).1).2
theorem chain_short {ts : List TrpD} {fs : List FreqD} {most : Nat} {l : List ThrD} (h : (checkS most (thrErr ts fs) l).2 = 0) {t : Int} (h0 : 0 ≤ t) (h1 : t < ts.length) : (chainS l t).length ≤ ts.length := by
  have := nodup_le (a := chainS l t) (b := (List.range ts.length).map fun k : Nat => (k : Int)) (chainS_making l t).nodup fun n hn => by
    obtain ⟨a, b⟩ := chain_in h h0 h1 hn
    exact List.mem_map.2 ⟨n.toNat, List.mem_range.2 (by omega), by omega⟩
  rw [List.length_map, List.length_range] at this
  exact this
theorem followS_zero {a b : TrpD} (h : followS a b = 0) : ∃ x y, a.calls.getLast? = some x ∧ b.calls.head? = some y ∧ x.stop = y.stop ∧ x.arrive ≤ y.depart := by
  unfold followS at h
  split at h
  · simp at h
  · split at h
    · rename_i x y hx hy
      split at h
      · simp at h
      · split at h
        · simp at h
        · rename_i h1 h2
          exact ⟨x, y, hx, hy, Classical.byContradiction h1, by omega⟩
    · simp at h
end Go.Proofs.Ytjdaikeljmccaaa.Thr
