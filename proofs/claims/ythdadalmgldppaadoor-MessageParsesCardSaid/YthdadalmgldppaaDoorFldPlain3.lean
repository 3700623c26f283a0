/-
  THE PLAIN MATHEMATICS OF FIELDS, THIRD PART: lines of a text. Conditions: none.
-/
import Derived.Test.YthdadalmgldppaaDoorFldPlain2
namespace Go.Proofs.YthdadalmgldppaaDoor.Fld

/-- The pieces between the bytes c. -/
def splitL (c : UInt8) : List UInt8 → List (List UInt8)
  | [] => [[]]
  | b :: r => if b = c then [] :: splitL c r else match splitL c r with
    | [] => [[b]]
    | h :: t => (b :: h) :: t
theorem splitL_ne (c : UInt8) : ∀ s, splitL c s ≠ []
  | [] => by simp [splitL]
  | b :: r => by
    unfold splitL
    split
    · simp
    · split <;> simp
theorem splitL_sep (c : UInt8) (r : List UInt8) : splitL c (c :: r) = [] :: splitL c r := by
  rw [splitL]
  rw [if_pos rfl]
theorem splitL_other {c b : UInt8} (h : b ≠ c) {r h' : List UInt8} {t : List (List UInt8)} (hr : splitL c r = h' :: t) : splitL c (b :: r) = (b :: h') :: t := by
  rw [splitL]
  rw [if_neg h, hr]
theorem splitL_snoc_c (c : UInt8) : ∀ s, splitL c (s ++ [c]) = splitL c s ++ [[]]
  | [] => by rw [List.nil_append, splitL_sep]; rfl
  | b :: r => by
    rw [List.cons_append]
    by_cases h : b = c
    · rw [h, splitL_sep, splitL_sep, splitL_snoc_c c r]
      rfl
    · obtain ⟨h', t, hr⟩ : ∃ h' t, splitL c r = h' :: t := by
        cases hs : splitL c r with
        | nil => exact absurd hs (splitL_ne c r)
        | cons x y => exact ⟨x, y, rfl⟩
      rw [splitL_other h hr, splitL_other h (by rw [splitL_snoc_c c r, hr]; rfl)]
      rfl
theorem splitL_snoc_ne {c b : UInt8} (h : b ≠ c) : ∀ (s : List UInt8) (out : List (List UInt8)) (cur : List UInt8), splitL c s = out ++ [cur] → splitL c (s ++ [b]) = out ++ [cur ++ [b]]
  | [], out, cur, hs => by
    have e : out = [] ∧ cur = [] := by
      have h1 : ([[]] : List (List UInt8)) = out ++ [cur] := hs
      cases out with
      | nil => simp at h1; exact ⟨rfl, h1⟩
      | cons x y => simp at h1
    rw [e.1, e.2, List.nil_append]
    rw [splitL]
    rw [if_neg h]
    rfl
  | a :: r, out, cur, hs => by
    rw [List.cons_append]
    by_cases ha : a = c
    · rw [ha, splitL_sep] at hs
      cases out with
      | nil =>
        have := splitL_ne c r
        simp at hs
        exact absurd hs.2 this
      | cons x y =>
        rw [List.cons_append, List.cons.injEq] at hs
        rw [ha, splitL_sep, splitL_snoc_ne h r y cur hs.2, ← hs.1]
        rfl
    · obtain ⟨h', t, hr⟩ : ∃ h' t, splitL c r = h' :: t := by
        cases hs : splitL c r with
        | nil => exact absurd hs (splitL_ne c r)
        | cons x y => exact ⟨x, y, rfl⟩
      rw [splitL_other ha hr] at hs
      cases out with
      | nil =>
        rw [List.nil_append, List.cons.injEq] at hs
        obtain ⟨h1, rfl⟩ := hs
        have := splitL_snoc_ne h r [] h' (by rw [hr]; rfl)
        rw [splitL_other ha this, ← h1]
        rfl
      | cons x y =>
        rw [List.cons_append, List.cons.injEq] at hs
        obtain ⟨h1, h2⟩ := hs
        have := splitL_snoc_ne h r (h' :: y) cur (by rw [hr, h2]; rfl)
        rw [splitL_other ha this, ← h1]
        rfl
theorem splitL_app {c : UInt8} (r : List UInt8) : ∀ (l : List UInt8), c ∉ l → splitL c (l ++ c :: r) = l :: splitL c r
  | [], _ => splitL_sep c r
  | b :: l, h => by
    rw [List.cons_append]
    exact splitL_other (fun e : b = c => h (by rw [e]; exact List.mem_cons_self ..)) (splitL_app r l fun e => h (List.mem_cons_of_mem _ e))
/-- The lines of a text, or the error. -/
def linesS (t : List UInt8) : List (List UInt8) × Int := if 65536 < t.length then ([], 5) else if t = [] then ([], 0) else if t.getLast? = some 10 then (splitL 10 t.dropLast, 0) else ([], 4)
def textL (ls : List (List UInt8)) : List UInt8 := ls.flatMap fun l => l ++ [10]
def noLf (ls : List (List UInt8)) : Bool := ls.all fun l => !l.contains 10
/-- The text of some lines, or the error. -/
def textS (ls : List (List UInt8)) : List UInt8 × Int := if noLf ls = false then ([], 3) else if 65536 < (textL ls).length then ([], 5) else (textL ls, 0)
theorem splitL_text : ∀ ls : List (List UInt8), noLf ls = true → splitL 10 (textL ls) = ls ++ [[]]
  | [], _ => rfl
  | l :: ls, h => by
    unfold noLf at h
    rw [List.all_cons, Bool.and_eq_true] at h
    have e : textL (l :: ls) = l ++ 10 :: textL ls := by simp [textL]
    have hl : (10 : UInt8) ∉ l := fun hm => by
      rw [List.contains_iff_mem.2 hm] at h
      exact absurd h.1 (by decide)
    rw [e, splitL_app _ l hl, splitL_text ls h.2]
    rfl
theorem textL_end {ls : List (List UInt8)} (h : ls ≠ []) : ∃ f, textL ls = f ++ [10] := by
  obtain ⟨a, l, rfl⟩ : ∃ a l, ls = a ++ [l] := ⟨ls.dropLast, ls.getLast h, (List.dropLast_concat_getLast h).symm⟩
  exact ⟨textL a ++ l, by simp [textL]⟩
/-- Lines inverts Text. -/
theorem lines_text {ls : List (List UInt8)} {t : List UInt8} (h : textS ls = (t, 0)) : linesS t = (ls, 0) := by
  unfold textS at h
  split at h
  · rw [Prod.mk.injEq] at h; exact absurd h.2 (by decide)
  · rename_i h1
    split at h
    · rw [Prod.mk.injEq] at h; exact absurd h.2 (by decide)
    · rename_i h2
      rw [Prod.mk.injEq] at h
      obtain ⟨rfl, -⟩ := h
      unfold linesS
      rw [if_neg h2]
      by_cases h0 : ls = []
      · rw [h0]; rfl
      · obtain ⟨f, hf⟩ := textL_end h0
        have hs := splitL_text ls (by simpa using h1)
        rw [hf, splitL_snoc_c] at hs
        have hs' := List.append_cancel_right hs
        rw [hf, if_neg (by simp), List.getLast?_concat, if_pos rfl, List.dropLast_concat, hs']
end Go.Proofs.YthdadalmgldppaaDoor.Fld
