/-
  A SLICE OF STRUCTS AMONG THE ARGUMENTS, READ AS A LIST. Conditions: those of each lemma.
-/
import Derived.Test.YtjdaikeljmccaaaThrWalksI
import Derived.Deep.Slices
import Derived.Deep.Fields
import Derived.ChangeSame
import Derived.Lib.SmallJoins
import Derived.ProofKit
import Derived.OpenShut
namespace Go.Proofs.Ytjdaikeljmccaaa
open Go.RowKit
open Frq Thr
section
open Go.ChangeShapes Go.WideShapes Go.Deep Go.Joins
variable {H : Type} {enc : TypeId × Value → H} {P : Program} {w : World} {base : Nat} {spare : Nat → Bool} {held : Bool}
theorem list_of {α : Type} {R : Nat → α → Prop} : ∀ (n : Nat), (∀ i, i < n → ∃ x, R i x) → ∃ xs : List α, xs.length = n ∧ ∀ i x, xs[i]? = some x → R i x
  | 0, _ => ⟨[], rfl, fun i x h => by simp at h⟩
  | n + 1, h => by
    obtain ⟨xs, hl, hx⟩ := list_of n fun i hi => h i (by omega)
    obtain ⟨y, hy⟩ := h n (by omega)
    refine ⟨xs ++ [y], by simp [hl], fun i x hi => ?_⟩
    by_cases hin : i < n
    · rw [List.getElem?_append_left (by omega)] at hi
      exact hx i x hi
    · have hii : i < (xs ++ [y]).length := (List.getElem?_eq_some_iff.1 hi).1
      have : i = n := by simp at hii; omega
      subst this
      rw [List.getElem?_append_right (by omega), hl, Nat.sub_self] at hi
      simp at hi
      subst hi
      exact hy
/-- A struct's cells, each with its own reading. -/
theorem read_struct {t : TypeId} {fs : Array Field} {fuel : Nat} {cs : List Value} {x : DataW H × List MemPlace} (ht : P.underlying t = some (.struct fs)) (hone : oneCellFields P fs = true) (hC : P.cellsOf t = fs.size)
    (h : DataW.trod enc P w base spare held fuel t cs = some x) :
    cs.length = fs.size ∧ ∃ n, ∀ (j : Nat) (f : Field), fs[j]? = some f → ∃ y : DataW H × List MemPlace, DataW.trod enc P w base spare held n f.type [(cs[j]?).getD (.bool false)] = some y := by
  obtain ⟨ys, k, -, -, hcl, hyl, hf⟩ := DataW.trod_struct ht h
  refine ⟨hcl.trans hC, k, fun j f hj => ?_⟩
  obtain ⟨ho, hk⟩ := hone_of hone j f hj
  have hjl : j < fs.size := (Array.getElem?_eq_some_iff.1 hj).1
  have := hf j f hj
  rw [ho, hk, List.drop_eq_getElem_cons (show j < cs.length by omega)] at this
  refine ⟨ys[j]'(by omega), ?_⟩
  rw [List.getElem?_eq_getElem (show j < cs.length by omega)]
  exact this.trans (List.getElem?_eq_getElem (by omega))
/-- A slice of structs that came in reads as a list. -/
theorem read_slice {α : Type} {cells : α → List Value} {sz : Nat} (hs : ∀ x, (cells x).length = sz) (h0 : 0 < sz) (Q : α → Prop) {t e : TypeId} {fs : Array Field} {fuel : Nat} {v : Value} {x : DataW H × List MemPlace}
    (ht : P.underlying t = some (.slice e)) (he : P.underlying e = some (.struct fs)) (hone : oneCellFields P fs = true) (hC : P.cellsOf e = fs.size) (hsz : fs.size = sz)
    (helem : ∀ (n : Nat) (g : Nat → Value), (∀ (j : Nat) (f : Field), fs[j]? = some f → ∃ y : DataW H × List MemPlace, DataW.trod enc P w base spare held n f.type [g j] = some y) → ∃ y : α, Q y ∧ ∀ j u, (cells y)[j]? = some u → u = g j)
    (h : DataW.trod enc P w base spare held fuel t [v] = some x) : ∃ xs : List α, SlIn cells sz w.heap.size w v xs ∧ ∀ y ∈ xs, Q y := by
  rcases open_slice ht h with ⟨hcs, -⟩ | ⟨a, len, cap, m, n, D, Pl, hcs, -, hl, hm, hmm, -, hi⟩
  · rw [List.cons.injEq] at hcs
    rw [hcs.1]
    exact ⟨[], slIn_nil, by simp⟩
  · rw [List.cons.injEq] at hcs
    rw [hcs.1]
    have hlm : len ≤ m := by rw [hmm]; split <;> omega
    obtain ⟨xs, hxl, hx⟩ := list_of (R := fun i (y : α) => Q y ∧ ∀ j u, (cells y)[j]? = some u → w.cell? (a.add (i * sz + j)) = some u) len fun i hil => by
      obtain ⟨vs, hc, hrd⟩ := hi i (by omega)
      rw [hC] at hc
      obtain ⟨-, hvl, hat⟩ := World.cells?_some hc
      obtain ⟨-, k, hf⟩ := read_struct he hone hC hrd
      obtain ⟨y, hQ, hy⟩ := helem k (fun j => (vs[j]?).getD (.bool false)) hf
      refine ⟨y, hQ, fun j u hu => ?_⟩
      have hjl : j < vs.length := by have := (List.getElem?_eq_some_iff.1 hu).1; rw [hs] at this; omega
      have h1 := hat j (by omega)
      rw [hy j u hu, List.getElem?_eq_getElem hjl]
      rw [List.getElem?_eq_getElem hjl, hsz, Go.Deep.add_add] at h1
      exact h1
    refine ⟨xs, ⟨some a, cap, by rw [hxl], by omega, hm, fun hpos => ?_⟩, fun y hy => ?_⟩
    · obtain ⟨y0, hy0⟩ : ∃ y0, xs[0]? = some y0 := ⟨_, List.getElem?_eq_getElem hpos⟩
      obtain ⟨u0, hu0⟩ : ∃ u0, (cells y0)[0]? = some u0 := ⟨_, List.getElem?_eq_getElem (by rw [hs]; exact h0)⟩
      have hc0 := (hx 0 y0 hy0).2 0 u0 hu0
      rw [show a.add (0 * sz + 0) = a by simp [Addr.add]] at hc0
      obtain ⟨b, o, spot⟩ := a
      have hsp : spot = none := by
        unfold World.cell? at hc0
        split at hc0
        · cases spot with
          | none => rfl
          | some s => simp at hc0
        · cases hc0
      subst hsp
      refine ⟨b, o, rfl, World.block_lt_of_cell? w _ hc0, fun i y hy j u hu => ?_⟩
      have := (hx i y hy).2 j u hu
      unfold Addr.add at this
      split at this
      · rename_i k; rw [show o + i * sz + j = o by omega]; exact this
      · rw [Nat.add_assoc]; exact this
    · obtain ⟨i, hi⟩ := List.getElem?_of_mem hy
      exact (hx i y hi).1
end
theorem int_ok {x : Int} (h : (Lit.int .i64 x).wf = true) : isInt x := by
  have hmin : IntKind.i64.min = -9223372036854775808 := rfl
  have hmax : IntKind.i64.max = 9223372036854775807 := rfl
  simp only [Lit.wf, Bool.and_eq_true, decide_eq_true_eq] at h
  unfold isInt
  omega
section
open Go.ChangeShapes Go.WideShapes Go.Deep Go.Joins
variable {H : Type} {enc : TypeId × Value → H} {w : World} {base : Nat} {spare : Nat → Bool} {held : Bool}
theorem cells_of5 {a b c d e : Value} {g : Nat → Value} (h0 : a = g 0) (h1 : b = g 1) (h2 : c = g 2) (h3 : d = g 3) (h4 : e = g 4) : ∀ j u, ([a, b, c, d, e] : List Value)[j]? = some u → u = g j := by
  intro j u hu
  match j with
  | 0 => simp at hu; rw [← hu]; exact h0
  | 1 => simp at hu; rw [← hu]; exact h1
  | 2 => simp at hu; rw [← hu]; exact h2
  | 3 => simp at hu; rw [← hu]; exact h3
  | 4 => simp at hu; rw [← hu]; exact h4
  | n + 5 => simp at hu
theorem cells_of4 {a b c d : Value} {g : Nat → Value} (h0 : a = g 0) (h1 : b = g 1) (h2 : c = g 2) (h3 : d = g 3) : ∀ j u, ([a, b, c, d] : List Value)[j]? = some u → u = g j := by
  intro j u hu
  match j with
  | 0 => simp at hu; rw [← hu]; exact h0
  | 1 => simp at hu; rw [← hu]; exact h1
  | 2 => simp at hu; rw [← hu]; exact h2
  | 3 => simp at hu; rw [← hu]; exact h3
  | n + 4 => simp at hu
theorem read_calls {fuel : Nat} {v : Value} {x : DataW H × List MemPlace} (h : DataW.trod enc Try.prog w base spare held fuel 41 [v] = some x) : ∃ cs, CallsIn w.heap.size w v cs ∧ ∀ c ∈ cs, okT c :=
  read_slice callCells_len (by omega) okT Try.underlying41 Try.underlying49 (by kernel_rfl) (by kernel_rfl) rfl (fun n g hg => by
    obtain ⟨y0, h0⟩ := hg 0 _ rfl
    obtain ⟨y1, h1⟩ := hg 1 _ rfl
    obtain ⟨y2, h2⟩ := hg 2 _ rfl
    obtain ⟨y3, h3⟩ := hg 3 _ rfl
    obtain ⟨y4, h4⟩ := hg 4 _ rfl
    obtain ⟨a0, e0, -, -⟩ := DataW.trod_int Try.underlying3 h0
    obtain ⟨a1, e1, -, w1⟩ := DataW.trod_int Try.underlying3 h1
    obtain ⟨a2, e2, -, w2⟩ := DataW.trod_int Try.underlying3 h2
    obtain ⟨a3, e3, -⟩ := DataW.trod_bool Try.underlying4 h3
    obtain ⟨a4, e4, -⟩ := DataW.trod_bool Try.underlying4 h4
    rw [List.cons.injEq] at e0 e1 e2 e3 e4
    exact ⟨⟨a0, a1, a2, a3, a4⟩, ⟨int_ok w1, int_ok w2⟩, cells_of5 e0.1.symm e1.1.symm e2.1.symm e3.1.symm e4.1.symm⟩) h
theorem read_freqs {fuel : Nat} {v : Value} {x : DataW H × List MemPlace} (h : DataW.trod enc Try.prog w base spare held fuel 25 [v] = some x) : ∃ fs, FreqsIn w.heap.size w v fs := by
  obtain ⟨fs, h1, -⟩ := read_slice (cells := freqCells) freqCells_len (by omega) (fun _ => True) Try.underlying25 Try.underlying70 (by kernel_rfl) (by kernel_rfl) rfl (fun n g hg => by
    obtain ⟨y0, h0⟩ := hg 0 _ rfl
    obtain ⟨y1, h1⟩ := hg 1 _ rfl
    obtain ⟨y2, h2⟩ := hg 2 _ rfl
    obtain ⟨y3, h3⟩ := hg 3 _ rfl
    obtain ⟨a0, e0, -, -⟩ := DataW.trod_int Try.underlying3 h0
    obtain ⟨a1, e1, -, w1⟩ := DataW.trod_int Try.underlying3 h1
    obtain ⟨a2, e2, -, w2⟩ := DataW.trod_int Try.underlying3 h2
    obtain ⟨a3, e3, -, w3⟩ := DataW.trod_int Try.underlying3 h3
    rw [List.cons.injEq] at e0 e1 e2 e3
    exact ⟨⟨a0, a1, a2, a3⟩, trivial, cells_of4 e0.1.symm e1.1.symm e2.1.symm e3.1.symm⟩) h
  exact ⟨fs, h1⟩
theorem read_trips {fuel : Nat} {v : Value} {x : DataW H × List MemPlace} (h : DataW.trod enc Try.prog w base spare held fuel 24 [v] = some x) : ∃ ts, TripsRd w.heap.size w v ts := by
  obtain ⟨ts, h1, h2⟩ := read_slice (cells := tripCells) tripCells_len (by omega) (TripRd w.heap.size w) Try.underlying24 Try.underlying47 (by kernel_rfl) (by kernel_rfl) rfl (fun n g hg => by
    obtain ⟨y0, h0⟩ := hg 0 _ rfl
    obtain ⟨y1, h1⟩ := hg 1 _ rfl
    obtain ⟨y2, h2⟩ := hg 2 _ rfl
    obtain ⟨y3, h3⟩ := hg 3 _ rfl
    obtain ⟨y4, h4⟩ := hg 4 _ rfl
    obtain ⟨a0, e0, -, -⟩ := DataW.trod_string Try.underlying9 h0
    obtain ⟨a1, e1, -, w1⟩ := DataW.trod_int Try.underlying3 h1
    obtain ⟨a2, e2, -, w2⟩ := DataW.trod_int Try.underlying3 h2
    obtain ⟨a3, e3, -⟩ := DataW.trod_bool Try.underlying4 h3
    obtain ⟨cs, hc, ho⟩ := read_calls h4
    rw [List.cons.injEq] at e0 e1 e2 e3
    exact ⟨⟨a0, a1, a2, a3, g 4, cs⟩, ⟨hc, ho⟩, cells_of5 e0.1.symm e1.1.symm e2.1.symm e3.1.symm rfl⟩) h
  exact ⟨ts, h1, h2⟩
end
section
open Go.ChangeShapes Go.WideShapes Go.Deep Go.Joins
variable {H : Type} {enc : TypeId × Value → H} {w : World} {base : Nat} {spare : Nat → Bool} {held : Bool}
theorem cells_of2 {a b : Value} {g : Nat → Value} (h0 : a = g 0) (h1 : b = g 1) : ∀ j u, ([a, b] : List Value)[j]? = some u → u = g j := by
  intro j u hu
  match j with
  | 0 => simp at hu; rw [← hu]; exact h0
  | 1 => simp at hu; rw [← hu]; exact h1
  | n + 2 => simp at hu
theorem cells_of3 {a b c : Value} {g : Nat → Value} (h0 : a = g 0) (h1 : b = g 1) (h2 : c = g 2) : ∀ j u, ([a, b, c] : List Value)[j]? = some u → u = g j := by
  intro j u hu
  match j with
  | 0 => simp at hu; rw [← hu]; exact h0
  | 1 => simp at hu; rw [← hu]; exact h1
  | 2 => simp at hu; rw [← hu]; exact h2
  | n + 3 => simp at hu
theorem read_thrs {fuel : Nat} {v : Value} {x : DataW H × List MemPlace} (h : DataW.trod enc Try.prog w base spare held fuel 22 [v] = some x) : ∃ xs, ThrIn w.heap.size w v xs ∧ ∀ y ∈ xs, okX y :=
  read_slice thrCells_len (by omega) okX Try.underlying22 Try.underlying54 (by kernel_rfl) (by kernel_rfl) rfl (fun n g hg => by
    obtain ⟨y0, h0⟩ := hg 0 _ rfl
    obtain ⟨y1, h1⟩ := hg 1 _ rfl
    obtain ⟨a0, e0, -, w0⟩ := DataW.trod_int Try.underlying3 h0
    obtain ⟨a1, e1, -, w1⟩ := DataW.trod_int Try.underlying3 h1
    rw [List.cons.injEq] at e0 e1
    exact ⟨⟨a0, a1⟩, ⟨int_ok w0, int_ok w1⟩, cells_of2 e0.1.symm e1.1.symm⟩) h
theorem read_guas {fuel : Nat} {v : Value} {x : DataW H × List MemPlace} (h : DataW.trod enc Try.prog w base spare held fuel 23 [v] = some x) : ∃ xs, GuaIn w.heap.size w v xs ∧ ∀ y ∈ xs, okG y :=
  read_slice guaCells_len (by omega) okG Try.underlying23 Try.underlying64 (by kernel_rfl) (by kernel_rfl) rfl (fun n g hg => by
    obtain ⟨y0, h0⟩ := hg 0 _ rfl
    obtain ⟨y1, h1⟩ := hg 1 _ rfl
    obtain ⟨y2, h2⟩ := hg 2 _ rfl
    obtain ⟨a0, e0, -, w0⟩ := DataW.trod_int Try.underlying3 h0
    obtain ⟨a1, e1, -, w1⟩ := DataW.trod_int Try.underlying3 h1
    obtain ⟨a2, e2, -, w2⟩ := DataW.trod_int Try.underlying3 h2
    rw [List.cons.injEq] at e0 e1 e2
    exact ⟨⟨a0, a1, a2⟩, ⟨int_ok w0, int_ok w1, int_ok w2⟩, cells_of3 e0.1.symm e1.1.symm e2.1.symm⟩) h
/-- A table that came in by value. -/
theorem read_table {r : Reach} {b0 : Nat} {v : Value} {d : DataW H} {p : List MemPlace} (hv : Value.okWide Try.prog w r b0 27 v) (h : DataW.Trod enc Try.prog w base spare held 27 v d p) :
    ∃ t : TabD, v = .agg #[t.v1, t.v2, t.v3, t.v4, .int .i64 t.stops] ∧ TabRd w.heap.size w t := by
  obtain ⟨vs, rfl, hsz⟩ := okWide_struct Try.underlying27 hv
  obtain ⟨l⟩ := vs
  obtain ⟨fuel, hf⟩ := h
  obtain ⟨hl, n, hg⟩ := read_struct Try.underlying27 (by kernel_rfl) (by kernel_rfl) hf
  match l, hl with
  | [c0, c1, c2, c3, c4], _ =>
    obtain ⟨y0, h0⟩ := hg 0 _ rfl
    obtain ⟨y1, h1⟩ := hg 1 _ rfl
    obtain ⟨y2, h2⟩ := hg 2 _ rfl
    obtain ⟨y3, h3⟩ := hg 3 _ rfl
    obtain ⟨y4, h4⟩ := hg 4 _ rfl
    obtain ⟨xs, hx, ox⟩ := read_thrs h0
    obtain ⟨gs, hgs, og⟩ := read_guas h1
    obtain ⟨ts, hts⟩ := read_trips h2
    obtain ⟨fs, hfs⟩ := read_freqs h3
    obtain ⟨a4, e4, -, -⟩ := DataW.trod_int Try.underlying3 h4
    rw [List.cons.injEq] at e4
    obtain rfl : c4 = .int .i64 a4 := e4.1
    exact ⟨⟨c0, c1, c2, c3, xs, gs, ts, fs, a4⟩, rfl, ⟨hx, hgs, hts, hfs, ox, og⟩⟩
end
end Go.Proofs.Ytjdaikeljmccaaa
