/-
  copy OF A WHOLE SLICE ONTO A ROW OF THE CALL'S OWN, elements of any number of cells. Conditions: those of each lemma.
-/
import Derived.Test.YtknecohjajjloaaMem
import Derived.Laws.CopyOwn
import Derived.WalkKit
namespace Go.Proofs.Ytknecohjajjloaa
open Go.RowKit

theorem addr_add (b o j : Nat) : ((⟨b, o, none⟩ : Addr).add j) = ⟨b, o + j, none⟩ := by
  unfold Addr.add
  split
  · rename_i h; subst h; rfl
  · rfl
/-- All cells of a slice in a row. -/
theorem flat_cells {α : Type} {cells : α → List Value} {sz : Nat} (hsz : ∀ x, (cells x).length = sz) {w : World} {b : Nat} (xs : List α) (o : Nat)
    (h : ∀ (i : Nat) (x : α), xs[i]? = some x → ∀ (j : Nat) (u : Value), (cells x)[j]? = some u → w.cell? ⟨b, o + i * sz + j, none⟩ = some u) :
    ∀ (j : Nat) (v : Value), (xs.flatMap cells)[j]? = some v → w.cell? ((⟨b, o, none⟩ : Addr).add j) = some v := by
  induction xs generalizing o with
  | nil => intro j v hj; simp at hj
  | cons y ys ih =>
    intro j v hj
    rw [List.flatMap_cons] at hj
    rcases Nat.lt_or_ge j sz with k | k
    · rw [List.getElem?_append_left (by rw [hsz]; exact k)] at hj
      have := h 0 y rfl j v hj
      rw [addr_add, show o + j = o + 0 * sz + j by omega]
      exact this
    · rw [List.getElem?_append_right (by rw [hsz]; exact k), hsz] at hj
      have := ih (o + sz) (fun i x hx j u hu => by
        have := h (i + 1) x (by simpa using hx) j u hu
        rw [Nat.add_mul, Nat.one_mul] at this
        rw [show o + sz + i * sz + j = o + (i * sz + sz) + j by omega]
        exact this) (j - sz) v hj
      rw [addr_add] at this ⊢
      rw [show o + j = o + sz + (j - sz) by omega]
      exact this
theorem run_copy_whole {P : Program} (w : World) (dT sT ty elem : TypeId) (g n dCap sCap : Nat) (a : Addr) (cur : Array Value) (t : TypeId) (cs : List Value) (sz : Nat)
    (hu : P.underlying dT = some (.slice elem)) (hs : (P.info? elem).map (·.size) = some sz)
    (hg : w.heap[g]? = some (.cells cur t (0, 0))) (hn : cs.length = n * sz)
    (hsrc : ∀ j v, cs[j]? = some v → w.cell? (a.add j) = some v) (hfit : cs.length ≤ cur.size) (h1 : ∀ v ∈ cs, v.oneCell' = true) :
    (Builtin.copy_ #[dT, sT] ty #[.slice (some ⟨g, 0, none⟩) n dCap, .slice (some a) n sCap]).run P w =
      .ok (goInt n) (w.setRow g (cs ++ cur.toList.drop cs.length).toArray) := by
  have hl := run_loadCells_list (P := P) w a cs hsrc
  have hst := run_storeCells_at P g 0 t cs 0 cur w hg (by simpa using hfit) h1
  simp only [Nat.zero_add, List.take_zero, List.nil_append] at hst
  cases hq : P.info? elem with
  | none => simp [hq] at hs
  | some i =>
    have hi : i.size = sz := by simpa [hq] using hs
    have hm : Nat.min n n = n := Nat.min_self n
    simp [Builtin.copy_, run_underlying hu, Builtin.lenOf, Builtin.firstCells, sizeOf, typeInfo, hq, hi, hm, ← hn, hl, hst]

theorem wpList_copy_whole {P : Program} {w : World} {ops : Array Oper} {rest : List Oper} {o : Oper} {a : Act} {Q : Exit → Act → World → Prop} (hgd : o.guard = none) (d s : Operand) (dT sT : TypeId)
    (ho : o.op = .call { callee := .builtin .copy, args := #[d, s], argTypes := #[dT, sT] }) (elem : TypeId) (hu : P.underlying dT = some (.slice elem)) (sz : Nat) (hsz : (P.info? elem).map (·.size) = some sz)
    (base g n cap sCap : Nat) (ad : Addr) (hd : a.eval d = .slice (some ⟨g, 0, none⟩) n cap) (hs : a.eval s = .slice (some ad) n sCap)
    (xs : List Value) (hown : w.ownsRow base elem sz (.slice (some ⟨g, 0, none⟩) n cap) n xs) (cs : List Value) (hn : cs.length = n * sz)
    (hsrc : ∀ j v, cs[j]? = some v → w.cell? (ad.add j) = some v) (h1 : ∀ v ∈ cs, v.oneCell' = true)
    (h : ∀ w', w'.ownsRow base elem sz (.slice (some ⟨g, 0, none⟩) n cap) n cs → w.grownBy w' (some g) → wpList P ops Q rest (a.put o.dst (goInt n)) w') : wpList P ops Q (o :: rest) a w := by
  refine wpList_plain hgd fun K hK => ?_
  obtain ⟨hl, hx⟩ := hown
  rcases hx with ⟨hv, _⟩ | ⟨g', cap', cur, hv, hb, hg, hnc, hm, hcs, ht⟩
  · simp at hv
  · simp only [Value.slice.injEq, Option.some.injEq, Addr.mk.injEq, and_true, true_and] at hv
    obtain ⟨rfl, rfl⟩ := hv
    have hle : n * sz ≤ cur.size := by rw [hcs]; exact Nat.mul_le_mul_right _ hnc
    have hrun := run_copy_whole (P := P) w dT sT o.type elem g n cap sCap ad cur elem cs sz hu hsz hg hn hsrc (by omega) h1
    unfold Oper.wp
    simp [execOp, ho, resolve, invoke, builtin, hd, hs, hrun, Result.andThen]
    refine hK _ _ (h _ ⟨hn, .inr ⟨g, cap, _, rfl, hb, setRow_heap w g _ _ elem _ hg, hnc, hm, ?_, ?_⟩⟩ ⟨rfl, rfl, rfl, by simp [World.setRow], fun k _ hk => setRow_other w g k _ (fun e => hk (by rw [e]))⟩)
    · simp
      omega
    · rw [← hn]
      simp
end Go.Proofs.Ytknecohjajjloaa
