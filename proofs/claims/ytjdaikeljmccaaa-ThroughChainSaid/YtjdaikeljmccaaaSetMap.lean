/-
  A MAP OF BOOLS THAT THE CALL ITSELF HAS MADE, IN WHICH ONLY true IS STORED, READS AS A SET OF KEYS. Conditions: those of each lemma.
-/
import Derived.Test.YtjdaikeljmccaaaBase
import Derived.Maps.OwnSet
namespace Go.Proofs.Ytjdaikeljmccaaa
open Go.RowKit Go.Maps Go.MapKept
open Go.Maps (Keyed)

/-- Block b of w is a map of at most n entries which holds true at the keys of S, and nothing else. -/
def OwnsSet (w : World) (P : Program) (k e : TypeId) (b n : Nat) (S : Lit → Bool) : Prop :=
  ∃ D : DataW Unit, w.ownsMap P k (plainElem P e) b n D ∧ IsMap D ∧ ∀ kl, WideAt.IsKeyLit kl → D.atKey kl (.lit (.bool false)) = .lit (.bool (S kl))
def setPut (S : Lit → Bool) (kl : Lit) : Lit → Bool := fun l => l.sameKey kl || S l
theorem setPut_at (S : Lit → Bool) {kl : Lit} (h : WideAt.IsKeyLit kl) : setPut S kl kl = true := by unfold setPut; rw [WideAt.sameKey_self h]; rfl
theorem setPut_ne {S : Lit → Bool} {kl l : Lit} (h : l ≠ kl) : setPut S kl l = S l := by unfold setPut; rw [Maps.sameKey_ne h]; rfl
theorem plainElem_bool_inv {P : Program} {e : TypeId} (he : P.underlying e = some .bool) {v : Value} {z : DataW Unit × List MemPlace} (h : plainElem P e v = some z) : ∃ c, v = .bool c ∧ z = (.lit (.bool c), []) := by
  unfold plainElem at h
  rw [he] at h
  cases v <;> simp at h
  exact ⟨_, rfl, h.symm⟩
section
variable {P : Program} {k e t : TypeId} {w : World} {b n : Nat} {S : Lit → Bool}
theorem ownsSet_made (w : World) (P : Program) (k e : TypeId) : OwnsSet (w.alloc (.map #[] 0)) P k e w.heap.size 0 (fun _ => false) :=
  ⟨.map [], World.ownsMap_made _ _ _ _, isMap_empty, fun _ _ => rfl⟩
theorem OwnsSet.lt (h : OwnsSet w P k e b n S) : b < w.heap.size := by obtain ⟨D, h, -⟩ := h; exact h.lt
theorem OwnsSet.kept {w' : World} (h : OwnsSet w P k e b n S) (hb : w'.heap[b]? = w.heap[b]?) : OwnsSet w' P k e b n S := by
  obtain ⟨D, ⟨es, clock, h1, h2⟩, h3⟩ := h
  exact ⟨D, ⟨es, clock, hb.trans h1, h2⟩, h3⟩
theorem OwnsSet.bl {w' : World} (h : OwnsSet w P k e b n S) (hb : Bl w w') : OwnsSet w' P k e b n S := h.kept (hb.block b h.lt)
theorem OwnsSet.grown {w' : World} {row : Option Nat} (h : OwnsSet w P k e b n S) (hg : w.grownBy w' row) (hne : some b ≠ row) : OwnsSet w' P k e b n S := by
  obtain ⟨D, h1, h2⟩ := h
  exact ⟨D, h1.kept hg hne, h2⟩
theorem OwnsSet.mono (h : OwnsSet w P k e b n S) {n' : Nat} (hn : n ≤ n') : OwnsSet w P k e b n' S := by
  obtain ⟨D, h1, h2⟩ := h
  exact ⟨D, h1.mono hn, h2⟩
theorem OwnsSet.congr (h : OwnsSet w P k e b n S) {S' : Lit → Bool} (hS : ∀ l, WideAt.IsKeyLit l → S l = S' l) : OwnsSet w P k e b n S' := by
  obtain ⟨D, h1, h2, h3⟩ := h
  exact ⟨D, h1, h2, fun kl hk => by rw [h3 kl hk, hS kl hk]⟩
/-- 'm[k]'. -/
theorem OwnsSet.look (h : OwnsSet w P k e b n S) (K : Keyed P k) (ht : P.underlying t = some (.map k e)) (he : P.underlying e = some .bool) (hz : (zeroValue e).run P w = .ok (.bool false) w) {key : Value} {kl : Lit} (hkey : keyOf P k key = some kl) :
    (Instr.lookup t (.map (some b)) key false).run P w = .ok (.bool (S kl)) w := by
  obtain ⟨D, h1, h2, h3⟩ := h
  obtain ⟨v, ps, hrun, hv⟩ := h1.lookup K ht hz (plainElem_bool he false) hkey
  obtain ⟨c, rfl, hc⟩ := plainElem_bool_inv he hv
  rw [h3 kl (K.key hkey)] at hc
  simp only [Prod.mk.injEq, DataW.lit.injEq, Lit.bool.injEq] at hc
  rw [hc.1]
  exact hrun
/-- 'm[k] = true'. -/
theorem OwnsSet.put (h : OwnsSet w P k e b n S) (K : Keyed P k) (ht : P.underlying t = some (.map k e)) (he : P.underlying e = some .bool) (hn : n < maxLen) {key : Value} {kl : Lit} (hkey : keyOf P k key = some kl) :
    ∃ w', (Instr.mapUpdate t (.map (some b)) key (.bool true)).run P w = .ok () w' ∧ OwnsSet w' P k e b (n + 1) (setPut S kl) ∧ w.grownBy w' (some b) := by
  obtain ⟨D, h1, h2, h3⟩ := h
  obtain ⟨w', hrun, r1, r2⟩ := h1.update K ht hn hkey (plainElem_bool he true)
  refine ⟨w', hrun, ⟨_, r1, h2.put _ _, fun l hl => ?_⟩, r2⟩
  by_cases hlk : l = kl
  · rw [hlk, atKey_put_same h2 (K.key hkey), setPut_at S (K.key hkey)]
  · rw [atKey_put_other hlk, h3 l hl, setPut_ne hlk]
end
end Go.Proofs.Ytjdaikeljmccaaa
