/-
  THE PLAIN LAW OF IGNORED LINES OF A FEED. Conditions: those of each lemma.
-/
import Derived.Test.YtakedkcjplfgeaaGreatDoorExtra
import Derived.Test.YtakedkcjplfgeaaGreatDoorPkPlain
namespace Go.Proofs.YtakedkcjplfgeaaGreatDoor.Tt
open Num Clk Dat Frq Thr Fld

/-- The reader with other line numbers. -/
def ren (f : Int → Int) (s : St) : St := ⟨s.t, s.lines.map (·.map f), f s.rules, s.opened⟩
theorem noteL_ren (f : Int → Int) (s : St) (k : Nat) (n : Int) : noteL (ren f s) k (f n) = (noteL s k n).map (·.map f) := by
  unfold noteL ren
  apply List.ext_getElem?
  intro j
  rw [List.getElem?_modify, List.getElem?_map, List.getElem?_map, List.getElem?_modify]
  cases s.lines[j]? with
  | none => rfl
  | some x =>
    simp only [Option.map_some, Option.map_eq_map]
    split <;> simp
theorem record_ren (f : Int → Int) (s : St) (k : Nat) (fs : List (List UInt8)) (n : Int) : recordF (ren f s) k fs (f n) = (ren f (recordF s k fs n).1, (recordF s k fs n).2) := by
  unfold recordF
  split <;> simp only [noteL_ren] <;> rfl
theorem line_ren (f : Int → Int) (hf : ∀ n, 0 < f n ↔ 0 < n) (s : St) (l : List UInt8) (n : Int) : lineF (ren f s) l (f n) = (ren f (lineF s l n).1, (lineF s l n).2) := by
  unfold lineF
  split
  · rfl
  · split
    · rfl
    · split
      · rfl
      · split
        · rfl
        · have h1 : (ren f s).opened = s.opened := rfl
          have h2 : 0 < (ren f s).rules ↔ 0 < s.rules := hf _
          simp only [h1, h2]
          split
          · rfl
          · split
            · rfl
            · exact record_ren f s _ _ n
theorem lines_ren (f : Int → Int) (hf : ∀ n, 0 < f n ↔ 0 < n) (hf0 : f 0 = 0) : ∀ (ls : List (List UInt8)) (s : St) (n m : Int), (∀ i : Nat, i < ls.length → f (n + i) = m + i) → linesF (ren f s) m ls = (ren f (linesF s n ls).1, f (linesF s n ls).2.1, (linesF s n ls).2.2)
  | [], s, n, m, _ => by simp [linesF, hf0]
  | l :: r, s, n, m, h => by
    have h0 : f n = m := by have := h 0 (by simp); simpa using this
    unfold linesF
    rw [← h0, line_ren f hf]
    split
    · refine lines_ren f hf hf0 r _ (n + 1) (f n + 1) (fun i hi => ?_)
      have := h (i + 1) (by simpa using hi)
      rw [show n + 1 + (i : Int) = n + ((i + 1 : Nat) : Int) by omega, this, h0]
      omega
    · rfl
theorem linesF_cons (s : St) (n : Int) (l : List UInt8) (r : List (List UInt8)) : linesF s n (l :: r) = if (lineF s l n).2 = 0 then linesF (lineF s l n).1 (n + 1) r else (s, n, (lineF s l n).2) := rfl
theorem lines_app : ∀ (a b : List (List UInt8)) (s : St) (n : Int), linesF s n (a ++ b) = if (linesF s n a).2.2 = 0 then linesF (linesF s n a).1 (n + a.length) b else linesF s n a
  | [], b, s, n => by simp [linesF]
  | l :: a, b, s, n => by
    rw [List.cons_append, linesF_cons, linesF_cons]
    by_cases h : (lineF s l n).2 = 0
    · rw [if_pos h, if_pos h, lines_app a b, List.length_cons, show n + 1 + (a.length : Int) = n + ((a.length + 1 : Nat) : Int) by omega]
    · rw [if_neg h, if_neg h, if_neg h]
theorem ren_id {f : Int → Int} (h : ∀ n, n ≤ 0 → f n = n) (s : St) (hs : s = start) : ren f s = s := by
  subst hs
  unfold ren start
  simp [h 0 (Int.le_refl _)]
/-- The numbers behind an inserted line. -/
def shiftN (n : Int) (k : Int) : Int := if n < k then k + 1 else k
theorem lines_insert (ls : List (List UInt8)) (rem : List UInt8) (n : Nat) (hn : n ≤ ls.length) (hr : rem = [] ∨ rem.head? = some 35) :
    linesF start 1 (ls.take n ++ rem :: ls.drop n) = (ren (shiftN n) (linesF start 1 ls).1, shiftN n (linesF start 1 ls).2.1, (linesF start 1 ls).2.2) := by
  have hf : ∀ k, 0 < shiftN n k ↔ 0 < k := fun k => by unfold shiftN; split <;> omega
  have hf0 : shiftN n 0 = 0 := by unfold shiftN; rw [if_neg (by omega)]
  have hst : ren (shiftN n) start = start := ren_id (fun k hk => by unfold shiftN; rw [if_neg (by omega)]) _ rfl
  have hA := lines_ren (shiftN n) hf hf0 (ls.take n) start 1 1 (fun i hi => by
    have := List.length_take_le n ls
    unfold shiftN; rw [if_neg (by omega)])
  rw [hst] at hA
  have hlen : (ls.take n).length = n := by rw [List.length_take]; omega
  have hB := fun s => lines_ren (shiftN n) hf hf0 (ls.drop n) s (1 + (ls.take n).length) (1 + (ls.take n).length + 1) (fun i _ => by
    unfold shiftN; rw [if_pos (by rw [hlen]; omega)]; omega)
  have hig : ∀ (s : St) (k : Int), lineF s rem k = (s, 0) := fun s k => by unfold lineF; rw [if_pos hr]
  have hls : linesF start 1 ls = linesF start 1 (ls.take n ++ ls.drop n) := by rw [List.take_append_drop]
  have hrm : ∀ s k, linesF s k (rem :: ls.drop n) = linesF s (k + 1) (ls.drop n) := fun s k => by
    rw [linesF_cons, hig]; rfl
  rw [hls, lines_app (ls.take n) (ls.drop n), lines_app (ls.take n) (rem :: ls.drop n)]
  have h1 : ren (shiftN n) (linesF start 1 (ls.take n)).1 = (linesF start 1 (ls.take n)).1 := (congrArg Prod.fst hA).symm
  have hB' := hB (linesF start 1 (ls.take n)).1
  rw [h1] at hB'
  by_cases h0 : (linesF start 1 (ls.take n)).2.2 = 0
  · rw [if_pos h0, if_pos h0, hrm]
    exact hB'
  · rw [if_neg h0, if_neg h0]
    exact hA
/-- The law of inserted lines, for the lines of a text. -/
theorem insert_law {text text' : List UInt8} {ls : List (List UInt8)} {rem : List UInt8} {n : Nat} (hl : linesS text = (ls, 0)) (hl' : linesS text' = (ls.take n ++ rem :: ls.drop n, 0)) (hn : n ≤ ls.length) (hr : rem = [] ∨ rem.head? = some 35) {t : TtD} {k e : Int} (h : parseF text = (t, k, e)) : parseF text' = (t, shiftN n k, e) := by
  have hf0 : shiftN n 0 = 0 := by unfold shiftN; rw [if_neg (by omega)]
  have hi := lines_insert ls rem n hn hr
  unfold parseF at h ⊢
  rw [hl] at h
  rw [hl', hi]
  simp only [ne_eq, not_true_eq_false, if_false] at h ⊢
  split at h
  · rename_i h1
    rw [if_pos h1]
    obtain ⟨rfl, h2⟩ := Prod.mk.inj h
    obtain ⟨rfl, rfl⟩ := Prod.mk.inj h2
    rfl
  · rename_i h1
    rw [if_neg h1]
    have ht : (ren (shiftN n) (linesF start 1 ls).1).t = (linesF start 1 ls).1.t := rfl
    simp only [ht]
    split at h
    · rename_i h2
      rw [if_pos h2]
      obtain ⟨rfl, h3⟩ := Prod.mk.inj h
      obtain ⟨rfl, rfl⟩ := Prod.mk.inj h3
      rw [hf0]
    · rename_i h2
      rw [if_neg h2]
      split at h
      · rename_i h3
        rw [if_pos h3]
        obtain ⟨rfl, h4⟩ := Prod.mk.inj h
        obtain ⟨rfl, rfl⟩ := Prod.mk.inj h4
        rfl
      · rename_i h3
        rw [if_neg h3]
        obtain ⟨rfl, h4⟩ := Prod.mk.inj h
        obtain ⟨rfl, rfl⟩ := Prod.mk.inj h4
        have hg : ∀ (p i : Nat), ((ren (shiftN n) (linesF start 1 ls).1).lines.getD p []).getD i 0 = shiftN n (((linesF start 1 ls).1.lines.getD p []).getD i 0) := fun p i => by
          show (((linesF start 1 ls).1.lines.map (·.map (shiftN n))).getD p []).getD i 0 = _
          rw [List.getD_eq_getElem?_getD (l := _) (i := p), List.getElem?_map]
          rw [List.getD_eq_getElem?_getD (l := (linesF start 1 ls).1.lines) (i := p)]
          cases (linesF start 1 ls).1.lines[p]? with
          | none => simp [hf0]
          | some x =>
            simp only [Option.map_some, Option.getD_some]
            rw [List.getD_eq_getElem?_getD, List.getD_eq_getElem?_getD, List.getElem?_map]
            cases x[i]? with
            | none => simp [hf0]
            | some y => rfl
        rw [hg]
end Go.Proofs.YtakedkcjplfgeaaGreatDoor.Tt
