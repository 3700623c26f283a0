/-
  A FUNCTION THAT RANGES OVER A FUNCTION WITHIN A LOOP LEAVES WITH A LIST OF MARKS. Conditions: those of each lemma.
-/
import Derived.RangeFuncBox
import Derived.RangeFuncLeaves
import Derived.RangeFuncNested
import Derived.WalkKit
import Derived.Test.YtknecohjajjloaaBase
namespace Go.Proofs.Ytknecohjajjloaa
open Go.RowKit

/-- The marks of the blocks rs. -/
def marks (rs : List Nat) : List Deferred := rs.map fun r => { target := .collected r, args := #[] }
/-- Each of them holds no call, and lies at base or beyond. -/
structure Marked (base : Nat) (rs : List Nat) (W : World) : Prop where
  nodup : rs.Nodup
  block : ∀ r ∈ rs, base ≤ r ∧ W.heap[r]? = some (.deferred (some []))
theorem Marked.nil (base : Nat) (W : World) : Marked base [] W := ⟨List.nodup_nil, fun r h => by simp at h⟩
theorem Marked.keeps {base : Nat} {rs : List Nat} {W W' : World} (h : Marked base rs W) (hk : KeepsOthers W W') : Marked base rs W' :=
  ⟨h.nodup, fun r hr => ⟨(h.block r hr).1, hk.same r _ (h.block r hr).2 rfl⟩⟩
theorem Marked.below {base : Nat} {rs : List Nat} {W W' : World} (h : Marked base rs W) (hb : Bl W W') : Marked base rs W' :=
  ⟨h.nodup, fun r hr => ⟨(h.block r hr).1, (hb.block r (Array.getElem?_eq_some_iff.1 (h.block r hr).2).1).trans (h.block r hr).2⟩⟩
theorem Marked.cons {base : Nat} {rs : List Nat} {W W0 : World} {D : Nat} (h : Marked base rs W) (h0 : ∀ r ∈ rs, r < W0.heap.size) (hD : W0.heap.size ≤ D) (hb : base ≤ W0.heap.size) (hK : W.heap[D]? = some (.deferred (some []))) : Marked base (D :: rs) W :=
  ⟨List.nodup_cons.2 ⟨fun hm => by have := h0 D hm; omega, h.nodup⟩, fun r hr => by
    rcases List.mem_cons.1 hr with rfl | hr
    · exact ⟨by omega, hK⟩
    · exact h.block r hr⟩

theorem leaves_marks {F : Fence} {n : Nat} {P : Program} {fn : Func} {tmps : Array Value} {R : Ending → World → Prop} (base : Nat) (J : World → Prop)
    (hJ : ∀ W r, J W → base ≤ r → W.heap[r]? = some (.deferred (some [])) → J (W.putObj r (.deferred none)))
    (hend : ∀ W, J W → LeavesInM F n P fn tmps R [] .returning W) : ∀ (rs : List Nat) (W : World), J W → Marked base rs W → LeavesInM F n P fn tmps R (marks rs) .returning W
  | [], W, hj, _ => hend W hj
  | r :: rs, W, hj, hm => by
    obtain ⟨hr1, hr2⟩ := hm.block r (List.mem_cons_self ..)
    refine ⟨by simp, .inl ⟨r, _, rfl, run_takeDeferred hr2, ?_⟩⟩
    refine leaves_marks base J hJ hend rs _ (hJ W r hj hr1 hr2) ⟨(List.nodup_cons.1 hm.nodup).2, fun r' hr' => ?_⟩
    have hne : r' ≠ r := fun e => (List.nodup_cons.1 hm.nodup).1 (e ▸ hr')
    exact ⟨(hm.block r' (List.mem_cons_of_mem _ hr')).1, (World.putObj_heap_other hne).trans (hm.block r' (List.mem_cons_of_mem _ hr')).2⟩
end Go.Proofs.Ytknecohjajjloaa
