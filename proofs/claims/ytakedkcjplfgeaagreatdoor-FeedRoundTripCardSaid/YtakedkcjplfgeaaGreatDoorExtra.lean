/-
  Lemmas that the packed texts have left out. Conditions: those of each lemma.
-/
import Derived.Test.YtakedkcjplfgeaaGreatDoorPkPlain
import Derived.Test.YtakedkcjplfgeaaGreatDoorPkWrA
import Derived.Test.YtakedkcjplfgeaaGreatDoorPkFedA
import Derived.Deep.RegionHeld3
namespace Go.Proofs.YtakedkcjplfgeaaGreatDoor.Fld
theorem splitL_snoc_c (c : UInt8) : ∀ s, splitL c (s ++ [c]) = splitL c s ++ [[]]
  | [] => by rw [List.nil_append, splitL_sep]; rfl
  | b :: r => by
    rw [List.cons_append]
    by_cases h : b = c
    · rw [h, splitL_sep, splitL_sep, splitL_snoc_c c r]
      rfl
    · obtain ⟨h', t, hr⟩ : ∃ h' t, splitL c r = h' :: t := by
        cases hs : splitL c r with
        | nil => exact absurd hs (splitL_ne c r)
        | cons x y => exact ⟨x, y, rfl⟩
      rw [splitL_other h hr, splitL_other h (by rw [splitL_snoc_c c r, hr]; rfl)]
      rfl
theorem splitL_text : ∀ ls : List (List UInt8), noLf ls = true → splitL 10 (textL ls) = ls ++ [[]]
  | [], _ => rfl
  | l :: ls, h => by
    unfold noLf at h
    rw [List.all_cons, Bool.and_eq_true] at h
    have e : textL (l :: ls) = l ++ 10 :: textL ls := by simp [textL]
    have hl : (10 : UInt8) ∉ l := fun hm => by
      rw [List.contains_iff_mem.2 hm] at h
      exact absurd h.1 (by decide)
    rw [e, splitL_app _ l hl, splitL_text ls h.2]
    rfl
theorem textL_end {ls : List (List UInt8)} (h : ls ≠ []) : ∃ f, textL ls = f ++ [10] := by
  obtain ⟨a, l, rfl⟩ : ∃ a l, ls = a ++ [l] := ⟨ls.dropLast, ls.getLast h, (List.dropLast_concat_getLast h).symm⟩
  exact ⟨textL a ++ l, by simp [textL]⟩
theorem lines_text {ls : List (List UInt8)} {t : List UInt8} (h : textS ls = (t, 0)) : linesS t = (ls, 0) := by
  unfold textS at h
  split at h
  · rw [Prod.mk.injEq] at h; exact absurd h.2 (by decide)
  · rename_i h1
    split at h
    · rw [Prod.mk.injEq] at h; exact absurd h.2 (by decide)
    · rename_i h2
      rw [Prod.mk.injEq] at h
      obtain ⟨rfl, -⟩ := h
      unfold linesS
      rw [if_neg h2]
      by_cases h0 : ls = []
      · rw [h0]; rfl
      · obtain ⟨f, hf⟩ := textL_end h0
        have hs := splitL_text ls (by simpa using h1)
        rw [hf, splitL_snoc_c] at hs
        have hs' := List.append_cancel_right hs
        rw [hf, if_neg (by simp), List.getLast?_concat, if_pos rfl, List.dropLast_concat, hs']
end Go.Proofs.YtakedkcjplfgeaaGreatDoor.Fld
namespace Go.Proofs.YtakedkcjplfgeaaGreatDoor
open Go.RowKit
open Frq Thr Tt Num Clk Dat Fld
theorem SlIn.getB {α : Type} {cells : α → List Value} {sz B : Nat} {w : World} {xs : List α} {a : Option Addr} {n cap : Nat} (h : SlIn cells sz B w (.slice a n cap) xs) {k : Nat} {x : α} (hx : xs[k]? = some x) :
    ∃ (b o : Nat), a = some ⟨b, o, none⟩ ∧ b < B ∧ ∀ (j : Nat) (u : Value), (cells x)[j]? = some u → w.cell? ⟨b, o + k * sz + j, none⟩ = some u := by
  obtain ⟨b, o, cap', y, hv, -, -, hbB, hy, hc⟩ := h.at (List.getElem?_eq_some_iff.1 hx).1
  simp only [Value.slice.injEq] at hv
  obtain rfl : x = y := Option.some.inj (hx.symm.trans hy)
  exact ⟨b, o, hv.1, hbB, hc⟩
end Go.Proofs.YtakedkcjplfgeaaGreatDoor
