/-
  SMALL LEMMAS ON WORLDS AND ENDINGS, for every text of this seat. Conditions: those of each lemma.
-/
import Derived.WalkKit
import Derived.WalkSmall
namespace Go.Proofs.YthdadalmgldppaaDoor
open Go.RowKit

/-- What stood at the call's beginning stands still: with the heap's size as the bound. -/
abbrev Bl (w w' : World) : Prop := Below w.heap.size w w'
theorem bl_refl (w : World) : Bl w w := Below.refl _ _
theorem bl_alloc {a w : World} (h : Bl a w) (o : Obj) : Bl a (w.alloc o) := h.alloc h.size o
theorem bl_drew {a w : World} (h : Bl a w) : Bl a w.drew := Below.drew h
theorem bl_drewN {a w : World} (h : Bl a w) (n : Nat) : Bl a (w.drewN n) := below_drewN h n
theorem bl_next {a b c : World} (h : Bl a b) (k : Bl b c) : Bl a c := h.trans (k.mono h.size)
theorem bl_set {a w : World} (h : Bl a w) {p : Addr} (hp : a.heap.size ≤ p.block) (u : Value) : Bl a (w.setCell p u) := Below.setCell h hp u
theorem bl_iter {a w : World} (h : Bl a w) (s : ByteArray) (pos : Nat) : Bl a (w.iter s pos) := bl_alloc h _
theorem bl_of_eq {a w : World} (h : a = w) : Bl a w := h ▸ bl_refl a
theorem bl_cell {W w1 : World} (hb : Bl W w1) : (∀ b o, b < W.heap.size → w1.cell? ⟨b, o, none⟩ = W.cell? ⟨b, o, none⟩) ∧ (∀ b o, b < W.heap.size → w1.frozen? ⟨b, o, none⟩ = W.frozen? ⟨b, o, none⟩) :=
  ⟨fun b o h => hb.cell (p := ⟨b, o, none⟩) h, fun b o h => hb.frozen (p := ⟨b, o, none⟩) h⟩
end Go.Proofs.YthdadalmgldppaaDoor
