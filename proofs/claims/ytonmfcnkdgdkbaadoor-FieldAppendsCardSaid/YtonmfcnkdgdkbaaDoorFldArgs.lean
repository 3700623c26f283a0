/-
  A SLICE OF STRINGS AMONG THE ARGUMENTS, READ AS A LIST. Conditions: those of each lemma.
-/
import Derived.Test.YtonmfcnkdgdkbaaDoorFldLawsB
import Derived.Deep.Slices
import Derived.ChangeSame
import Derived.ProofKit
import Derived.OpenShut
namespace Go.Proofs.YtonmfcnkdgdkbaaDoor
open Go.RowKit
open Fld
section
open Go.ChangeShapes Go.WideShapes Go.Deep Go.Joins
variable {H : Type} {enc : TypeId × Value → H} {w : World} {base : Nat} {spare : Nat → Bool} {held : Bool}
theorem list_of {α : Type} {R : Nat → α → Prop} : ∀ (n : Nat), (∀ i, i < n → ∃ x, R i x) → ∃ xs : List α, xs.length = n ∧ ∀ i x, xs[i]? = some x → R i x
  | 0, _ => ⟨[], rfl, fun i x h => by simp at h⟩
  | n + 1, h => by
    obtain ⟨xs, hl, hx⟩ := list_of n fun i hi => h i (by omega)
    obtain ⟨y, hy⟩ := h n (by omega)
    refine ⟨xs ++ [y], by simp [hl], fun i x hi => ?_⟩
    by_cases hin : i < n
    · rw [List.getElem?_append_left (by omega)] at hi
      exact hx i x hi
    · have hii : i < (xs ++ [y]).length := (List.getElem?_eq_some_iff.1 hi).1
      have : i = n := by simp at hii; omega
      subst this
      rw [List.getElem?_append_right (by omega), hl, Nat.sub_self] at hi
      simp at hi
      subst hi
      exact hy
theorem read_strs {fuel : Nat} {v : Value} {x : DataW H × List MemPlace} (h : DataW.trod enc Tryd.prog w base spare held fuel 30 [v] = some x) : ∃ l, StrsIn w.heap.size w v l := by
  rcases open_slice1 (e := 9) Tryd.underlying30 (by kernel_rfl) h with ⟨hcs, -⟩ | ⟨a, len, cap, m, n, V, D, Pl, hcs, -, hl, hm, hmm, -, hi⟩
  · rw [List.cons.injEq] at hcs
    rw [hcs.1]
    exact ⟨[], slIn_nil⟩
  · rw [List.cons.injEq] at hcs
    rw [hcs.1]
    have hlm : len ≤ m := by rw [hmm]; split <;> omega
    obtain ⟨xs, hxl, hx⟩ := list_of (R := fun i (y : List UInt8) => w.cell? (a.add i) = some (str y)) len fun i hil => by
      obtain ⟨hc, hrd⟩ := hi i (by omega)
      obtain ⟨s, hs, -, -⟩ := DataW.trod_string Tryd.underlying9 hrd
      rw [List.cons.injEq] at hs
      exact ⟨s.data.toList, by rw [hc, hs.1]⟩
    refine ⟨xs, some a, cap, by rw [hxl], by omega, hm, fun hpos => ?_⟩
    obtain ⟨y0, hy0⟩ : ∃ y0, xs[0]? = some y0 := ⟨_, List.getElem?_eq_getElem hpos⟩
    have hc0 := hx 0 y0 hy0
    rw [show a.add 0 = a by simp [Addr.add]] at hc0
    obtain ⟨b, o, spot⟩ := a
    have hsp : spot = none := by
      unfold World.cell? at hc0
      split at hc0
      · cases spot with
        | none => rfl
        | some s => simp at hc0
      · cases hc0
    subst hsp
    refine ⟨b, o, rfl, World.block_lt_of_cell? w _ hc0, fun i y hy j u hu => ?_⟩
    match j, hu with
    | 0, hu =>
      cases hu
      have := hx i y hy
      unfold Addr.add at this
      split at this
      · rename_i k; rw [show o + i * 1 + 0 = o by omega]; exact this
      · rw [show o + i * 1 + 0 = o + i by omega]; exact this
    | j + 1, hu => simp at hu
end
end Go.Proofs.YtonmfcnkdgdkbaaDoor
