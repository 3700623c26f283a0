/-
  A TIMETABLE AMONG THE ARGUMENTS, read as its parts. Conditions: those of each lemma.
-/
import Derived.Test.YtakedkcjplfgeaaGreatDoorExtra
import Derived.Test.YtakedkcjplfgeaaGreatDoorPkFedA
import Derived.Deep.Slices
import Derived.Deep.Fields
import Derived.ChangeSame
import Derived.Lib.SmallJoins
import Derived.ProofKit
import Derived.OpenShut
namespace Go.Proofs.YtakedkcjplfgeaaGreatDoor
open Go.RowKit
open Frq Thr Tt
section
open Go.ChangeShapes Go.WideShapes Go.Deep Go.Joins
variable {H : Type} {enc : TypeId × Value → H} {P : Program} {w : World} {base : Nat} {spare : Nat → Bool} {held : Bool}
theorem list_of {α : Type} {R : Nat → α → Prop} : ∀ (n : Nat), (∀ i, i < n → ∃ x, R i x) → ∃ xs : List α, xs.length = n ∧ ∀ i x, xs[i]? = some x → R i x
  | 0, _ => ⟨[], rfl, fun i x h => by simp at h⟩
  | n + 1, h => by
    obtain ⟨xs, hl, hx⟩ := list_of n fun i hi => h i (by omega)
    obtain ⟨y, hy⟩ := h n (by omega)
    refine ⟨xs ++ [y], by simp [hl], fun i x hi => ?_⟩
    by_cases hin : i < n
    · rw [List.getElem?_append_left (by omega)] at hi
      exact hx i x hi
    · have hii : i < (xs ++ [y]).length := (List.getElem?_eq_some_iff.1 hi).1
      have : i = n := by simp at hii; omega
      subst this
      rw [List.getElem?_append_right (by omega), hl, Nat.sub_self] at hi
      simp at hi
      subst hi
      exact hy
/-- A struct's fields, each with its own reading. -/
theorem read_fields {t : TypeId} {fs : Array Field} {fuel : Nat} {cs : List Value} {x : DataW H × List MemPlace} (ht : P.underlying t = some (.struct fs)) (h : DataW.trod enc P w base spare held fuel t cs = some x) :
    ∃ n, ∀ (j : Nat) (f : Field), fs[j]? = some f → ∃ y : DataW H × List MemPlace, DataW.trod enc P w base spare held n f.type ((cs.drop f.offset).take (P.cellsOf f.type)) = some y := by
  obtain ⟨ys, k, -, -, -, hyl, hf⟩ := DataW.trod_struct ht h
  refine ⟨k, fun j f hj => ?_⟩
  have hjl : j < fs.size := (Array.getElem?_eq_some_iff.1 hj).1
  exact ⟨_, (hf j f hj).trans (List.getElem?_eq_getElem (by omega))⟩
/-- A slice that came in reads as a list. -/
theorem read_sl {α : Type} {cells : α → List Value} {sz : Nat} (hs : ∀ x, (cells x).length = sz) (h0 : 0 < sz) (Q : α → Prop) {t e : TypeId} {fuel : Nat} {v : Value} {x : DataW H × List MemPlace}
    (ht : P.underlying t = some (.slice e)) (hC : P.cellsOf e = sz)
    (helem : ∀ (n : Nat) (vs : List Value) (x : DataW H × List MemPlace), vs.length = sz → DataW.trod enc P w base spare held n e vs = some x → ∃ y : α, Q y ∧ vs = cells y)
    (h : DataW.trod enc P w base spare held fuel t [v] = some x) : ∃ xs : List α, SlIn cells sz w.heap.size w v xs ∧ ∀ y ∈ xs, Q y := by
  rcases open_slice ht h with ⟨hcs, -⟩ | ⟨a, len, cap, m, n, D, Pl, hcs, -, hl, hm, hmm, -, hi⟩
  · rw [List.cons.injEq] at hcs
    rw [hcs.1]
    exact ⟨[], slIn_nil, by simp⟩
  · rw [List.cons.injEq] at hcs
    rw [hcs.1]
    have hlm : len ≤ m := by rw [hmm]; split <;> omega
    obtain ⟨xs, hxl, hx⟩ := list_of (R := fun i (y : α) => Q y ∧ ∀ j u, (cells y)[j]? = some u → w.cell? (a.add (i * sz + j)) = some u) len fun i hil => by
      obtain ⟨vs, hc, hrd⟩ := hi i (by omega)
      rw [hC] at hc
      obtain ⟨-, hvl, hat⟩ := World.cells?_some hc
      obtain ⟨y, hQ, rfl⟩ := helem _ vs _ hvl hrd
      refine ⟨y, hQ, fun j u hu => ?_⟩
      have hjl : j < (cells y).length := (List.getElem?_eq_some_iff.1 hu).1
      have h1 := hat j (by rw [← hs y]; exact hjl)
      rw [hu, Go.Deep.add_add] at h1
      exact h1
    refine ⟨xs, ⟨some a, cap, by rw [hxl], by omega, hm, fun hpos => ?_⟩, fun y hy => ?_⟩
    · obtain ⟨y0, hy0⟩ : ∃ y0, xs[0]? = some y0 := ⟨_, List.getElem?_eq_getElem hpos⟩
      obtain ⟨u0, hu0⟩ : ∃ u0, (cells y0)[0]? = some u0 := ⟨_, List.getElem?_eq_getElem (by rw [hs]; exact h0)⟩
      have hc0 := (hx 0 y0 hy0).2 0 u0 hu0
      rw [show a.add (0 * sz + 0) = a by simp [Addr.add]] at hc0
      obtain ⟨b, o, spot⟩ := a
      have hsp : spot = none := by
        unfold World.cell? at hc0
        split at hc0
        · cases spot with
          | none => rfl
          | some s => simp at hc0
        · cases hc0
      subst hsp
      refine ⟨b, o, rfl, World.block_lt_of_cell? w _ hc0, fun i y hy j u hu => ?_⟩
      have := (hx i y hy).2 j u hu
      unfold Addr.add at this
      split at this
      · rename_i k; rw [show o + i * sz + j = o by omega]; exact this
      · rw [Nat.add_assoc]; exact this
    · obtain ⟨i, hi⟩ := List.getElem?_of_mem hy
      exact (hx i y hi).1
theorem int_ok {x : Int} (h : (Lit.int .i64 x).wf = true) : isInt x := by
  have hmin : IntKind.i64.min = -9223372036854775808 := rfl
  have hmax : IntKind.i64.max = 9223372036854775807 := rfl
  simp only [Lit.wf, Bool.and_eq_true, decide_eq_true_eq] at h
  unfold isInt
  omega
end
section
open Go.ChangeShapes Go.WideShapes Go.Deep Go.Joins
variable {H : Type} {enc : TypeId × Value → H} {w : World} {base : Nat} {spare : Nat → Bool} {held : Bool}
theorem c_str : Tryz.prog.cellsOf 9 = 1 := by kernel_rfl
theorem c_int : Tryz.prog.cellsOf 3 = 1 := by kernel_rfl
theorem c_week : Tryz.prog.cellsOf 59 = 7 := by kernel_rfl
theorem c_calls : Tryz.prog.cellsOf 54 = 1 := by kernel_rfl
theorem c_stops : Tryz.prog.cellsOf 23 = 1 := by kernel_rfl
theorem c_routes : Tryz.prog.cellsOf 24 = 1 := by kernel_rfl
theorem c_cals : Tryz.prog.cellsOf 25 = 1 := by kernel_rfl
theorem c_excs : Tryz.prog.cellsOf 26 = 1 := by kernel_rfl
theorem c_trips : Tryz.prog.cellsOf 27 = 1 := by kernel_rfl
theorem c_freqs : Tryz.prog.cellsOf 28 = 1 := by kernel_rfl
theorem c_thrus : Tryz.prog.cellsOf 29 = 1 := by kernel_rfl
theorem c_guars : Tryz.prog.cellsOf 30 = 1 := by kernel_rfl
theorem c_paths : Tryz.prog.cellsOf 31 = 1 := by kernel_rfl
theorem c_prods : Tryz.prog.cellsOf 32 = 1 := by kernel_rfl
theorem c_fares : Tryz.prog.cellsOf 34 = 4 := by kernel_rfl
theorem c_bool : Tryz.prog.cellsOf 4 = 1 := by kernel_rfl
set_option maxRecDepth 100000 in
theorem el_stop {n : Nat} {vs : List Value} {x : DataW H × List MemPlace} (hl : vs.length = 4) (h : DataW.trod enc Tryz.prog w base spare held n 120 vs = some x) : ∃ y, y.id.length ≤ 9223372036854775807 ∧ vs = stopCells y := by
  obtain ⟨k, hg⟩ := read_fields Tryz.underlying120 h
  match vs, hl with
  | [c0, c1, c2, c3], _ =>
    obtain ⟨y0, h0⟩ := hg 0 _ rfl
    replace h0 : DataW.trod enc Tryz.prog w base spare held k 9 ((List.drop 0 [c0, c1, c2, c3]).take (Tryz.prog.cellsOf 9)) = some y0 := h0
    rw [c_str] at h0
    obtain ⟨a0, e0, -, w0⟩ := DataW.trod_string Tryz.underlying9 h0
    obtain rfl : c0 = .string a0 := (List.cons.inj e0).1
    obtain ⟨y1, h1⟩ := hg 1 _ rfl
    replace h1 : DataW.trod enc Tryz.prog w base spare held k 3 ((List.drop 1 [.string a0, c1, c2, c3]).take (Tryz.prog.cellsOf 3)) = some y1 := h1
    rw [c_int] at h1
    obtain ⟨a1, e1, -, w1⟩ := DataW.trod_int Tryz.underlying3 h1
    obtain rfl : c1 = .int .i64 a1 := (List.cons.inj e1).1
    obtain ⟨y2, h2⟩ := hg 2 _ rfl
    replace h2 : DataW.trod enc Tryz.prog w base spare held k 4 ((List.drop 2 [.string a0, .int .i64 a1, c2, c3]).take (Tryz.prog.cellsOf 4)) = some y2 := h2
    rw [c_bool] at h2
    obtain ⟨a2, e2, -⟩ := DataW.trod_bool Tryz.underlying4 h2
    obtain rfl : c2 = .bool a2 := (List.cons.inj e2).1
    obtain ⟨y3, h3⟩ := hg 3 _ rfl
    replace h3 : DataW.trod enc Tryz.prog w base spare held k 3 ((List.drop 3 [.string a0, .int .i64 a1, .bool a2, c3]).take (Tryz.prog.cellsOf 3)) = some y3 := h3
    rw [c_int] at h3
    obtain ⟨a3, e3, -, w3⟩ := DataW.trod_int Tryz.underlying3 h3
    obtain rfl : c3 = .int .i64 a3 := (List.cons.inj e3).1
    exact ⟨⟨a0.data.toList, a1, a2, a3⟩, (by have := w0; unfold maxLen at this; simpa using this), rfl⟩
set_option maxRecDepth 100000 in
theorem el_route {n : Nat} {vs : List Value} {x : DataW H × List MemPlace} (hl : vs.length = 3) (h : DataW.trod enc Tryz.prog w base spare held n 122 vs = some x) : ∃ y, y.id.length ≤ 9223372036854775807 ∧ vs = routeCells y := by
  obtain ⟨k, hg⟩ := read_fields Tryz.underlying122 h
  match vs, hl with
  | [c0, c1, c2], _ =>
    obtain ⟨y0, h0⟩ := hg 0 _ rfl
    replace h0 : DataW.trod enc Tryz.prog w base spare held k 9 ((List.drop 0 [c0, c1, c2]).take (Tryz.prog.cellsOf 9)) = some y0 := h0
    rw [c_str] at h0
    obtain ⟨a0, e0, -, w0⟩ := DataW.trod_string Tryz.underlying9 h0
    obtain rfl : c0 = .string a0 := (List.cons.inj e0).1
    obtain ⟨y1, h1⟩ := hg 1 _ rfl
    replace h1 : DataW.trod enc Tryz.prog w base spare held k 3 ((List.drop 1 [.string a0, c1, c2]).take (Tryz.prog.cellsOf 3)) = some y1 := h1
    rw [c_int] at h1
    obtain ⟨a1, e1, -, w1⟩ := DataW.trod_int Tryz.underlying3 h1
    obtain rfl : c1 = .int .i64 a1 := (List.cons.inj e1).1
    obtain ⟨y2, h2⟩ := hg 2 _ rfl
    replace h2 : DataW.trod enc Tryz.prog w base spare held k 4 ((List.drop 2 [.string a0, .int .i64 a1, c2]).take (Tryz.prog.cellsOf 4)) = some y2 := h2
    rw [c_bool] at h2
    obtain ⟨a2, e2, -⟩ := DataW.trod_bool Tryz.underlying4 h2
    obtain rfl : c2 = .bool a2 := (List.cons.inj e2).1
    exact ⟨⟨a0.data.toList, a1, a2⟩, (by have := w0; unfold maxLen at this; simpa using this), rfl⟩
set_option maxRecDepth 100000 in
theorem el_exc {n : Nat} {vs : List Value} {x : DataW H × List MemPlace} (hl : vs.length = 3) (h : DataW.trod enc Tryz.prog w base spare held n 124 vs = some x) : ∃ y, (isInt y.cal ∧ isInt y.day) ∧ vs = excCells y := by
  obtain ⟨k, hg⟩ := read_fields Tryz.underlying124 h
  match vs, hl with
  | [c0, c1, c2], _ =>
    obtain ⟨y0, h0⟩ := hg 0 _ rfl
    replace h0 : DataW.trod enc Tryz.prog w base spare held k 3 ((List.drop 0 [c0, c1, c2]).take (Tryz.prog.cellsOf 3)) = some y0 := h0
    rw [c_int] at h0
    obtain ⟨a0, e0, -, w0⟩ := DataW.trod_int Tryz.underlying3 h0
    obtain rfl : c0 = .int .i64 a0 := (List.cons.inj e0).1
    obtain ⟨y1, h1⟩ := hg 1 _ rfl
    replace h1 : DataW.trod enc Tryz.prog w base spare held k 3 ((List.drop 1 [.int .i64 a0, c1, c2]).take (Tryz.prog.cellsOf 3)) = some y1 := h1
    rw [c_int] at h1
    obtain ⟨a1, e1, -, w1⟩ := DataW.trod_int Tryz.underlying3 h1
    obtain rfl : c1 = .int .i64 a1 := (List.cons.inj e1).1
    obtain ⟨y2, h2⟩ := hg 2 _ rfl
    replace h2 : DataW.trod enc Tryz.prog w base spare held k 4 ((List.drop 2 [.int .i64 a0, .int .i64 a1, c2]).take (Tryz.prog.cellsOf 4)) = some y2 := h2
    rw [c_bool] at h2
    obtain ⟨a2, e2, -⟩ := DataW.trod_bool Tryz.underlying4 h2
    obtain rfl : c2 = .bool a2 := (List.cons.inj e2).1
    exact ⟨⟨a0, a1, a2⟩, ⟨int_ok w0, int_ok w1⟩, rfl⟩
set_option maxRecDepth 100000 in
theorem el_call {n : Nat} {vs : List Value} {x : DataW H × List MemPlace} (hl : vs.length = 5) (h : DataW.trod enc Tryz.prog w base spare held n 58 vs = some x) : ∃ y, okT y ∧ vs = callCells y := by
  obtain ⟨k, hg⟩ := read_fields Tryz.underlying58 h
  match vs, hl with
  | [c0, c1, c2, c3, c4], _ =>
    obtain ⟨y0, h0⟩ := hg 0 _ rfl
    replace h0 : DataW.trod enc Tryz.prog w base spare held k 3 ((List.drop 0 [c0, c1, c2, c3, c4]).take (Tryz.prog.cellsOf 3)) = some y0 := h0
    rw [c_int] at h0
    obtain ⟨a0, e0, -, w0⟩ := DataW.trod_int Tryz.underlying3 h0
    obtain rfl : c0 = .int .i64 a0 := (List.cons.inj e0).1
    obtain ⟨y1, h1⟩ := hg 1 _ rfl
    replace h1 : DataW.trod enc Tryz.prog w base spare held k 3 ((List.drop 1 [.int .i64 a0, c1, c2, c3, c4]).take (Tryz.prog.cellsOf 3)) = some y1 := h1
    rw [c_int] at h1
    obtain ⟨a1, e1, -, w1⟩ := DataW.trod_int Tryz.underlying3 h1
    obtain rfl : c1 = .int .i64 a1 := (List.cons.inj e1).1
    obtain ⟨y2, h2⟩ := hg 2 _ rfl
    replace h2 : DataW.trod enc Tryz.prog w base spare held k 3 ((List.drop 2 [.int .i64 a0, .int .i64 a1, c2, c3, c4]).take (Tryz.prog.cellsOf 3)) = some y2 := h2
    rw [c_int] at h2
    obtain ⟨a2, e2, -, w2⟩ := DataW.trod_int Tryz.underlying3 h2
    obtain rfl : c2 = .int .i64 a2 := (List.cons.inj e2).1
    obtain ⟨y3, h3⟩ := hg 3 _ rfl
    replace h3 : DataW.trod enc Tryz.prog w base spare held k 4 ((List.drop 3 [.int .i64 a0, .int .i64 a1, .int .i64 a2, c3, c4]).take (Tryz.prog.cellsOf 4)) = some y3 := h3
    rw [c_bool] at h3
    obtain ⟨a3, e3, -⟩ := DataW.trod_bool Tryz.underlying4 h3
    obtain rfl : c3 = .bool a3 := (List.cons.inj e3).1
    obtain ⟨y4, h4⟩ := hg 4 _ rfl
    replace h4 : DataW.trod enc Tryz.prog w base spare held k 4 ((List.drop 4 [.int .i64 a0, .int .i64 a1, .int .i64 a2, .bool a3, c4]).take (Tryz.prog.cellsOf 4)) = some y4 := h4
    rw [c_bool] at h4
    obtain ⟨a4, e4, -⟩ := DataW.trod_bool Tryz.underlying4 h4
    obtain rfl : c4 = .bool a4 := (List.cons.inj e4).1
    exact ⟨⟨a0, a1, a2, a3, a4⟩, ⟨int_ok w1, int_ok w2⟩, rfl⟩
set_option maxRecDepth 100000 in
theorem el_freq {n : Nat} {vs : List Value} {x : DataW H × List MemPlace} (hl : vs.length = 4) (h : DataW.trod enc Tryz.prog w base spare held n 126 vs = some x) : ∃ y, True ∧ vs = freqCells y := by
  obtain ⟨k, hg⟩ := read_fields Tryz.underlying126 h
  match vs, hl with
  | [c0, c1, c2, c3], _ =>
    obtain ⟨y0, h0⟩ := hg 0 _ rfl
    replace h0 : DataW.trod enc Tryz.prog w base spare held k 3 ((List.drop 0 [c0, c1, c2, c3]).take (Tryz.prog.cellsOf 3)) = some y0 := h0
    rw [c_int] at h0
    obtain ⟨a0, e0, -, w0⟩ := DataW.trod_int Tryz.underlying3 h0
    obtain rfl : c0 = .int .i64 a0 := (List.cons.inj e0).1
    obtain ⟨y1, h1⟩ := hg 1 _ rfl
    replace h1 : DataW.trod enc Tryz.prog w base spare held k 3 ((List.drop 1 [.int .i64 a0, c1, c2, c3]).take (Tryz.prog.cellsOf 3)) = some y1 := h1
    rw [c_int] at h1
    obtain ⟨a1, e1, -, w1⟩ := DataW.trod_int Tryz.underlying3 h1
    obtain rfl : c1 = .int .i64 a1 := (List.cons.inj e1).1
    obtain ⟨y2, h2⟩ := hg 2 _ rfl
    replace h2 : DataW.trod enc Tryz.prog w base spare held k 3 ((List.drop 2 [.int .i64 a0, .int .i64 a1, c2, c3]).take (Tryz.prog.cellsOf 3)) = some y2 := h2
    rw [c_int] at h2
    obtain ⟨a2, e2, -, w2⟩ := DataW.trod_int Tryz.underlying3 h2
    obtain rfl : c2 = .int .i64 a2 := (List.cons.inj e2).1
    obtain ⟨y3, h3⟩ := hg 3 _ rfl
    replace h3 : DataW.trod enc Tryz.prog w base spare held k 3 ((List.drop 3 [.int .i64 a0, .int .i64 a1, .int .i64 a2, c3]).take (Tryz.prog.cellsOf 3)) = some y3 := h3
    rw [c_int] at h3
    obtain ⟨a3, e3, -, w3⟩ := DataW.trod_int Tryz.underlying3 h3
    obtain rfl : c3 = .int .i64 a3 := (List.cons.inj e3).1
    exact ⟨⟨a0, a1, a2, a3⟩, trivial, rfl⟩
set_option maxRecDepth 100000 in
theorem el_thr {n : Nat} {vs : List Value} {x : DataW H × List MemPlace} (hl : vs.length = 2) (h : DataW.trod enc Tryz.prog w base spare held n 128 vs = some x) : ∃ y, (isInt y.frm ∧ isInt y.to) ∧ vs = thrCells y := by
  obtain ⟨k, hg⟩ := read_fields Tryz.underlying128 h
  match vs, hl with
  | [c0, c1], _ =>
    obtain ⟨y0, h0⟩ := hg 0 _ rfl
    replace h0 : DataW.trod enc Tryz.prog w base spare held k 3 ((List.drop 0 [c0, c1]).take (Tryz.prog.cellsOf 3)) = some y0 := h0
    rw [c_int] at h0
    obtain ⟨a0, e0, -, w0⟩ := DataW.trod_int Tryz.underlying3 h0
    obtain rfl : c0 = .int .i64 a0 := (List.cons.inj e0).1
    obtain ⟨y1, h1⟩ := hg 1 _ rfl
    replace h1 : DataW.trod enc Tryz.prog w base spare held k 3 ((List.drop 1 [.int .i64 a0, c1]).take (Tryz.prog.cellsOf 3)) = some y1 := h1
    rw [c_int] at h1
    obtain ⟨a1, e1, -, w1⟩ := DataW.trod_int Tryz.underlying3 h1
    obtain rfl : c1 = .int .i64 a1 := (List.cons.inj e1).1
    exact ⟨⟨a0, a1⟩, ⟨int_ok w0, int_ok w1⟩, rfl⟩
set_option maxRecDepth 100000 in
theorem el_gua {n : Nat} {vs : List Value} {x : DataW H × List MemPlace} (hl : vs.length = 3) (h : DataW.trod enc Tryz.prog w base spare held n 130 vs = some x) : ∃ y, (isInt y.frm ∧ isInt y.to ∧ isInt y.stop) ∧ vs = guaCells y := by
  obtain ⟨k, hg⟩ := read_fields Tryz.underlying130 h
  match vs, hl with
  | [c0, c1, c2], _ =>
    obtain ⟨y0, h0⟩ := hg 0 _ rfl
    replace h0 : DataW.trod enc Tryz.prog w base spare held k 3 ((List.drop 0 [c0, c1, c2]).take (Tryz.prog.cellsOf 3)) = some y0 := h0
    rw [c_int] at h0
    obtain ⟨a0, e0, -, w0⟩ := DataW.trod_int Tryz.underlying3 h0
    obtain rfl : c0 = .int .i64 a0 := (List.cons.inj e0).1
    obtain ⟨y1, h1⟩ := hg 1 _ rfl
    replace h1 : DataW.trod enc Tryz.prog w base spare held k 3 ((List.drop 1 [.int .i64 a0, c1, c2]).take (Tryz.prog.cellsOf 3)) = some y1 := h1
    rw [c_int] at h1
    obtain ⟨a1, e1, -, w1⟩ := DataW.trod_int Tryz.underlying3 h1
    obtain rfl : c1 = .int .i64 a1 := (List.cons.inj e1).1
    obtain ⟨y2, h2⟩ := hg 2 _ rfl
    replace h2 : DataW.trod enc Tryz.prog w base spare held k 3 ((List.drop 2 [.int .i64 a0, .int .i64 a1, c2]).take (Tryz.prog.cellsOf 3)) = some y2 := h2
    rw [c_int] at h2
    obtain ⟨a2, e2, -, w2⟩ := DataW.trod_int Tryz.underlying3 h2
    obtain rfl : c2 = .int .i64 a2 := (List.cons.inj e2).1
    exact ⟨⟨a0, a1, a2⟩, ⟨int_ok w0, int_ok w1, int_ok w2⟩, rfl⟩
set_option maxRecDepth 100000 in
theorem el_path {n : Nat} {vs : List Value} {x : DataW H × List MemPlace} (hl : vs.length = 4) (h : DataW.trod enc Tryz.prog w base spare held n 63 vs = some x) : ∃ y, (isInt y.frm ∧ isInt y.to) ∧ vs = pathCells y := by
  obtain ⟨k, hg⟩ := read_fields Tryz.underlying63 h
  match vs, hl with
  | [c0, c1, c2, c3], _ =>
    obtain ⟨y0, h0⟩ := hg 0 _ rfl
    replace h0 : DataW.trod enc Tryz.prog w base spare held k 3 ((List.drop 0 [c0, c1, c2, c3]).take (Tryz.prog.cellsOf 3)) = some y0 := h0
    rw [c_int] at h0
    obtain ⟨a0, e0, -, w0⟩ := DataW.trod_int Tryz.underlying3 h0
    obtain rfl : c0 = .int .i64 a0 := (List.cons.inj e0).1
    obtain ⟨y1, h1⟩ := hg 1 _ rfl
    replace h1 : DataW.trod enc Tryz.prog w base spare held k 3 ((List.drop 1 [.int .i64 a0, c1, c2, c3]).take (Tryz.prog.cellsOf 3)) = some y1 := h1
    rw [c_int] at h1
    obtain ⟨a1, e1, -, w1⟩ := DataW.trod_int Tryz.underlying3 h1
    obtain rfl : c1 = .int .i64 a1 := (List.cons.inj e1).1
    obtain ⟨y2, h2⟩ := hg 2 _ rfl
    replace h2 : DataW.trod enc Tryz.prog w base spare held k 3 ((List.drop 2 [.int .i64 a0, .int .i64 a1, c2, c3]).take (Tryz.prog.cellsOf 3)) = some y2 := h2
    rw [c_int] at h2
    obtain ⟨a2, e2, -, w2⟩ := DataW.trod_int Tryz.underlying3 h2
    obtain rfl : c2 = .int .i64 a2 := (List.cons.inj e2).1
    obtain ⟨y3, h3⟩ := hg 3 _ rfl
    replace h3 : DataW.trod enc Tryz.prog w base spare held k 4 ((List.drop 3 [.int .i64 a0, .int .i64 a1, .int .i64 a2, c3]).take (Tryz.prog.cellsOf 4)) = some y3 := h3
    rw [c_bool] at h3
    obtain ⟨a3, e3, -⟩ := DataW.trod_bool Tryz.underlying4 h3
    obtain rfl : c3 = .bool a3 := (List.cons.inj e3).1
    exact ⟨⟨a0, a1, a2, a3⟩, ⟨int_ok w0, int_ok w1⟩, rfl⟩
set_option maxRecDepth 100000 in
theorem el_prod {n : Nat} {vs : List Value} {x : DataW H × List MemPlace} (hl : vs.length = 6) (h : DataW.trod enc Tryz.prog w base spare held n 65 vs = some x) : ∃ y, y.id.length ≤ 9223372036854775807 ∧ vs = prodCells y := by
  obtain ⟨k, hg⟩ := read_fields Tryz.underlying65 h
  match vs, hl with
  | [c0, c1, c2, c3, c4, c5], _ =>
    obtain ⟨y0, h0⟩ := hg 0 _ rfl
    replace h0 : DataW.trod enc Tryz.prog w base spare held k 9 ((List.drop 0 [c0, c1, c2, c3, c4, c5]).take (Tryz.prog.cellsOf 9)) = some y0 := h0
    rw [c_str] at h0
    obtain ⟨a0, e0, -, w0⟩ := DataW.trod_string Tryz.underlying9 h0
    obtain rfl : c0 = .string a0 := (List.cons.inj e0).1
    obtain ⟨y1, h1⟩ := hg 1 _ rfl
    replace h1 : DataW.trod enc Tryz.prog w base spare held k 3 ((List.drop 1 [.string a0, c1, c2, c3, c4, c5]).take (Tryz.prog.cellsOf 3)) = some y1 := h1
    rw [c_int] at h1
    obtain ⟨a1, e1, -, w1⟩ := DataW.trod_int Tryz.underlying3 h1
    obtain rfl : c1 = .int .i64 a1 := (List.cons.inj e1).1
    obtain ⟨y2, h2⟩ := hg 2 _ rfl
    replace h2 : DataW.trod enc Tryz.prog w base spare held k 3 ((List.drop 2 [.string a0, .int .i64 a1, c2, c3, c4, c5]).take (Tryz.prog.cellsOf 3)) = some y2 := h2
    rw [c_int] at h2
    obtain ⟨a2, e2, -, w2⟩ := DataW.trod_int Tryz.underlying3 h2
    obtain rfl : c2 = .int .i64 a2 := (List.cons.inj e2).1
    obtain ⟨y3, h3⟩ := hg 3 _ rfl
    replace h3 : DataW.trod enc Tryz.prog w base spare held k 3 ((List.drop 3 [.string a0, .int .i64 a1, .int .i64 a2, c3, c4, c5]).take (Tryz.prog.cellsOf 3)) = some y3 := h3
    rw [c_int] at h3
    obtain ⟨a3, e3, -, w3⟩ := DataW.trod_int Tryz.underlying3 h3
    obtain rfl : c3 = .int .i64 a3 := (List.cons.inj e3).1
    obtain ⟨y4, h4⟩ := hg 4 _ rfl
    replace h4 : DataW.trod enc Tryz.prog w base spare held k 3 ((List.drop 4 [.string a0, .int .i64 a1, .int .i64 a2, .int .i64 a3, c4, c5]).take (Tryz.prog.cellsOf 3)) = some y4 := h4
    rw [c_int] at h4
    obtain ⟨a4, e4, -, w4⟩ := DataW.trod_int Tryz.underlying3 h4
    obtain rfl : c4 = .int .i64 a4 := (List.cons.inj e4).1
    obtain ⟨y5, h5⟩ := hg 5 _ rfl
    replace h5 : DataW.trod enc Tryz.prog w base spare held k 3 ((List.drop 5 [.string a0, .int .i64 a1, .int .i64 a2, .int .i64 a3, .int .i64 a4, c5]).take (Tryz.prog.cellsOf 3)) = some y5 := h5
    rw [c_int] at h5
    obtain ⟨a5, e5, -, w5⟩ := DataW.trod_int Tryz.underlying3 h5
    obtain rfl : c5 = .int .i64 a5 := (List.cons.inj e5).1
    exact ⟨⟨a0.data.toList, a1, a2, a3, a4, a5⟩, (by have := w0; unfold maxLen at this; simpa using this), rfl⟩
set_option maxRecDepth 100000 in
theorem el_cal {n : Nat} {vs : List Value} {x : DataW H × List MemPlace} (hl : vs.length = 10) (h : DataW.trod enc Tryz.prog w base spare held n 61 vs = some x) : ∃ y, y.id.length ≤ 9223372036854775807 ∧ vs = calCells y := by
  obtain ⟨k, hg⟩ := read_fields Tryz.underlying61 h
  match vs, hl with
  | [c0, c1, c2, c3, c4, c5, c6, c7, c8, c9], _ =>
    obtain ⟨y0, h0⟩ := hg 0 _ rfl
    replace h0 : DataW.trod enc Tryz.prog w base spare held k 9 ((List.drop 0 [c0, c1, c2, c3, c4, c5, c6, c7, c8, c9]).take (Tryz.prog.cellsOf 9)) = some y0 := h0
    rw [c_str] at h0
    obtain ⟨a0, e0, -, w0⟩ := DataW.trod_string Tryz.underlying9 h0
    obtain rfl : c0 = .string a0 := (List.cons.inj e0).1
    obtain ⟨y1, h1⟩ := hg 1 _ rfl
    replace h1 : DataW.trod enc Tryz.prog w base spare held k 59 ((List.drop 1 [.string a0, c1, c2, c3, c4, c5, c6, c7, c8, c9]).take (Tryz.prog.cellsOf 59)) = some y1 := h1
    rw [c_week] at h1
    obtain ⟨ys, m, -, -, -, hyl, hw⟩ := DataW.trod_array Tryz.underlying59 h1
    have k0 : DataW.trod enc Tryz.prog w base spare held m 4 ((List.drop (0 * Tryz.prog.cellsOf 4) [c1, c2, c3, c4, c5, c6, c7]).take (Tryz.prog.cellsOf 4)) = some (ys[0]'(by omega)) := (hw 0 (by omega)).trans (List.getElem?_eq_getElem (by omega))
    rw [c_bool] at k0
    obtain ⟨a10, e10, -⟩ := DataW.trod_bool Tryz.underlying4 k0
    obtain rfl : c1 = .bool a10 := (List.cons.inj e10).1
    have k1 : DataW.trod enc Tryz.prog w base spare held m 4 ((List.drop (1 * Tryz.prog.cellsOf 4) [.bool a10, c2, c3, c4, c5, c6, c7]).take (Tryz.prog.cellsOf 4)) = some (ys[1]'(by omega)) := (hw 1 (by omega)).trans (List.getElem?_eq_getElem (by omega))
    rw [c_bool] at k1
    obtain ⟨a11, e11, -⟩ := DataW.trod_bool Tryz.underlying4 k1
    obtain rfl : c2 = .bool a11 := (List.cons.inj e11).1
    have k2 : DataW.trod enc Tryz.prog w base spare held m 4 ((List.drop (2 * Tryz.prog.cellsOf 4) [.bool a10, .bool a11, c3, c4, c5, c6, c7]).take (Tryz.prog.cellsOf 4)) = some (ys[2]'(by omega)) := (hw 2 (by omega)).trans (List.getElem?_eq_getElem (by omega))
    rw [c_bool] at k2
    obtain ⟨a12, e12, -⟩ := DataW.trod_bool Tryz.underlying4 k2
    obtain rfl : c3 = .bool a12 := (List.cons.inj e12).1
    have k3 : DataW.trod enc Tryz.prog w base spare held m 4 ((List.drop (3 * Tryz.prog.cellsOf 4) [.bool a10, .bool a11, .bool a12, c4, c5, c6, c7]).take (Tryz.prog.cellsOf 4)) = some (ys[3]'(by omega)) := (hw 3 (by omega)).trans (List.getElem?_eq_getElem (by omega))
    rw [c_bool] at k3
    obtain ⟨a13, e13, -⟩ := DataW.trod_bool Tryz.underlying4 k3
    obtain rfl : c4 = .bool a13 := (List.cons.inj e13).1
    have k4 : DataW.trod enc Tryz.prog w base spare held m 4 ((List.drop (4 * Tryz.prog.cellsOf 4) [.bool a10, .bool a11, .bool a12, .bool a13, c5, c6, c7]).take (Tryz.prog.cellsOf 4)) = some (ys[4]'(by omega)) := (hw 4 (by omega)).trans (List.getElem?_eq_getElem (by omega))
    rw [c_bool] at k4
    obtain ⟨a14, e14, -⟩ := DataW.trod_bool Tryz.underlying4 k4
    obtain rfl : c5 = .bool a14 := (List.cons.inj e14).1
    have k5 : DataW.trod enc Tryz.prog w base spare held m 4 ((List.drop (5 * Tryz.prog.cellsOf 4) [.bool a10, .bool a11, .bool a12, .bool a13, .bool a14, c6, c7]).take (Tryz.prog.cellsOf 4)) = some (ys[5]'(by omega)) := (hw 5 (by omega)).trans (List.getElem?_eq_getElem (by omega))
    rw [c_bool] at k5
    obtain ⟨a15, e15, -⟩ := DataW.trod_bool Tryz.underlying4 k5
    obtain rfl : c6 = .bool a15 := (List.cons.inj e15).1
    have k6 : DataW.trod enc Tryz.prog w base spare held m 4 ((List.drop (6 * Tryz.prog.cellsOf 4) [.bool a10, .bool a11, .bool a12, .bool a13, .bool a14, .bool a15, c7]).take (Tryz.prog.cellsOf 4)) = some (ys[6]'(by omega)) := (hw 6 (by omega)).trans (List.getElem?_eq_getElem (by omega))
    rw [c_bool] at k6
    obtain ⟨a16, e16, -⟩ := DataW.trod_bool Tryz.underlying4 k6
    obtain rfl : c7 = .bool a16 := (List.cons.inj e16).1
    obtain ⟨y2, h2⟩ := hg 2 _ rfl
    replace h2 : DataW.trod enc Tryz.prog w base spare held k 3 ((List.drop 8 [.string a0, .bool a10, .bool a11, .bool a12, .bool a13, .bool a14, .bool a15, .bool a16, c8, c9]).take (Tryz.prog.cellsOf 3)) = some y2 := h2
    rw [c_int] at h2
    obtain ⟨a2, e2, -, w2⟩ := DataW.trod_int Tryz.underlying3 h2
    obtain rfl : c8 = .int .i64 a2 := (List.cons.inj e2).1
    obtain ⟨y3, h3⟩ := hg 3 _ rfl
    replace h3 : DataW.trod enc Tryz.prog w base spare held k 3 ((List.drop 9 [.string a0, .bool a10, .bool a11, .bool a12, .bool a13, .bool a14, .bool a15, .bool a16, .int .i64 a2, c9]).take (Tryz.prog.cellsOf 3)) = some y3 := h3
    rw [c_int] at h3
    obtain ⟨a3, e3, -, w3⟩ := DataW.trod_int Tryz.underlying3 h3
    obtain rfl : c9 = .int .i64 a3 := (List.cons.inj e3).1
    exact ⟨⟨a0.data.toList, ⟨a10, a11, a12, a13, a14, a15, a16⟩, a2, a3⟩, (by have := w0; unfold maxLen at this; simpa using this), rfl⟩
theorem read_calls {fuel : Nat} {v : Value} {x : DataW H × List MemPlace} (h : DataW.trod enc Tryz.prog w base spare held fuel 54 [v] = some x) : ∃ cs, CallsIn w.heap.size w v cs ∧ ∀ c ∈ cs, okT c :=
  read_sl callCells_len (by omega) okT Tryz.underlying54 (by kernel_rfl) (fun _ _ _ hl h => el_call hl h) h
set_option maxRecDepth 100000 in
theorem el_trip {n : Nat} {vs : List Value} {x : DataW H × List MemPlace} (hl : vs.length = 5) (h : DataW.trod enc Tryz.prog w base spare held n 56 vs = some x) : ∃ y, (TripRd w.heap.size w y ∧ y.id.data.toList.length ≤ 9223372036854775807) ∧ vs = tripCells y := by
  obtain ⟨k, hg⟩ := read_fields Tryz.underlying56 h
  match vs, hl with
  | [c0, c1, c2, c3, c4], _ =>
    obtain ⟨y0, h0⟩ := hg 0 _ rfl
    replace h0 : DataW.trod enc Tryz.prog w base spare held k 9 ((List.drop 0 [c0, c1, c2, c3, c4]).take (Tryz.prog.cellsOf 9)) = some y0 := h0
    rw [c_str] at h0
    obtain ⟨a0, e0, -, w0⟩ := DataW.trod_string Tryz.underlying9 h0
    obtain rfl : c0 = .string a0 := (List.cons.inj e0).1
    obtain ⟨y1, h1⟩ := hg 1 _ rfl
    replace h1 : DataW.trod enc Tryz.prog w base spare held k 3 ((List.drop 1 [.string a0, c1, c2, c3, c4]).take (Tryz.prog.cellsOf 3)) = some y1 := h1
    rw [c_int] at h1
    obtain ⟨a1, e1, -, w1⟩ := DataW.trod_int Tryz.underlying3 h1
    obtain rfl : c1 = .int .i64 a1 := (List.cons.inj e1).1
    obtain ⟨y2, h2⟩ := hg 2 _ rfl
    replace h2 : DataW.trod enc Tryz.prog w base spare held k 3 ((List.drop 2 [.string a0, .int .i64 a1, c2, c3, c4]).take (Tryz.prog.cellsOf 3)) = some y2 := h2
    rw [c_int] at h2
    obtain ⟨a2, e2, -, w2⟩ := DataW.trod_int Tryz.underlying3 h2
    obtain rfl : c2 = .int .i64 a2 := (List.cons.inj e2).1
    obtain ⟨y3, h3⟩ := hg 3 _ rfl
    replace h3 : DataW.trod enc Tryz.prog w base spare held k 4 ((List.drop 3 [.string a0, .int .i64 a1, .int .i64 a2, c3, c4]).take (Tryz.prog.cellsOf 4)) = some y3 := h3
    rw [c_bool] at h3
    obtain ⟨a3, e3, -⟩ := DataW.trod_bool Tryz.underlying4 h3
    obtain rfl : c3 = .bool a3 := (List.cons.inj e3).1
    obtain ⟨y4, h4⟩ := hg 4 _ rfl
    replace h4 : DataW.trod enc Tryz.prog w base spare held k 54 ((List.drop 4 [.string a0, .int .i64 a1, .int .i64 a2, .bool a3, c4]).take (Tryz.prog.cellsOf 54)) = some y4 := h4
    rw [c_calls] at h4
    obtain ⟨cs, hc, ho⟩ := read_calls h4
    exact ⟨⟨a0, a1, a2, a3, c4, cs⟩, ⟨⟨hc, ho⟩, (by have := w0; unfold maxLen at this; simpa using this)⟩, rfl⟩
set_option maxRecDepth 100000 in
/-- A timetable that came in by value. -/
theorem read_tt {r : Reach} {b0 : Nat} {v : Value} {d : DataW H} {p : List MemPlace} (hv : Value.okWide Tryz.prog w r b0 36 v) (h : DataW.Trod enc Tryz.prog w base spare held 36 v d p) :
    ∃ (V : TtV) (ts : List TripD) (t : TtD), v = ttV V t ∧ TtRd w.heap.size w V ts t ∧ TtOk t ∧ isInt t.fares.disc ∧ isInt t.fares.within ∧ isInt t.fares.cap := by
  obtain ⟨vs, rfl, hsz⟩ := okWide_struct Tryz.underlying36 hv
  obtain ⟨l⟩ := vs
  obtain ⟨fuel, hf⟩ := h
  have hl : l.length = 13 := by
    obtain ⟨_, _, -, -, h1, -⟩ := DataW.trod_struct Tryz.underlying36 hf
    exact h1.trans (by kernel_rfl)
  obtain ⟨k, hg⟩ := read_fields Tryz.underlying36 hf
  match l, hl with
  | [c0, c1, c2, c3, c4, c5, c6, c7, c8, c9, c10, c11, c12], _ =>
    obtain ⟨y0, h0⟩ := hg 0 _ rfl
    replace h0 : DataW.trod enc Tryz.prog w base spare held k 23 ((List.drop 0 [c0, c1, c2, c3, c4, c5, c6, c7, c8, c9, c10, c11, c12]).take (Tryz.prog.cellsOf 23)) = some y0 := h0
    rw [c_stops] at h0
    obtain ⟨l0, s0, q0⟩ := read_sl stopCells_len (by omega) _ Tryz.underlying23 (by kernel_rfl) (fun _ _ _ hl h => el_stop hl h) h0
    obtain ⟨y1, h1⟩ := hg 1 _ rfl
    replace h1 : DataW.trod enc Tryz.prog w base spare held k 24 ((List.drop 1 [c0, c1, c2, c3, c4, c5, c6, c7, c8, c9, c10, c11, c12]).take (Tryz.prog.cellsOf 24)) = some y1 := h1
    rw [c_routes] at h1
    obtain ⟨l1, s1, q1⟩ := read_sl routeCells_len (by omega) _ Tryz.underlying24 (by kernel_rfl) (fun _ _ _ hl h => el_route hl h) h1
    obtain ⟨y2, h2⟩ := hg 2 _ rfl
    replace h2 : DataW.trod enc Tryz.prog w base spare held k 25 ((List.drop 2 [c0, c1, c2, c3, c4, c5, c6, c7, c8, c9, c10, c11, c12]).take (Tryz.prog.cellsOf 25)) = some y2 := h2
    rw [c_cals] at h2
    obtain ⟨l2, s2, q2⟩ := read_sl calCells_len (by omega) _ Tryz.underlying25 (by kernel_rfl) (fun _ _ _ hl h => el_cal hl h) h2
    obtain ⟨y3, h3⟩ := hg 3 _ rfl
    replace h3 : DataW.trod enc Tryz.prog w base spare held k 26 ((List.drop 3 [c0, c1, c2, c3, c4, c5, c6, c7, c8, c9, c10, c11, c12]).take (Tryz.prog.cellsOf 26)) = some y3 := h3
    rw [c_excs] at h3
    obtain ⟨l3, s3, q3⟩ := read_sl excCells_len (by omega) _ Tryz.underlying26 (by kernel_rfl) (fun _ _ _ hl h => el_exc hl h) h3
    obtain ⟨y4, h4⟩ := hg 4 _ rfl
    replace h4 : DataW.trod enc Tryz.prog w base spare held k 27 ((List.drop 4 [c0, c1, c2, c3, c4, c5, c6, c7, c8, c9, c10, c11, c12]).take (Tryz.prog.cellsOf 27)) = some y4 := h4
    rw [c_trips] at h4
    obtain ⟨l4, s4, q4⟩ := read_sl tripCells_len (by omega) _ Tryz.underlying27 (by kernel_rfl) (fun _ _ _ hl h => el_trip hl h) h4
    obtain ⟨y5, h5⟩ := hg 5 _ rfl
    replace h5 : DataW.trod enc Tryz.prog w base spare held k 28 ((List.drop 5 [c0, c1, c2, c3, c4, c5, c6, c7, c8, c9, c10, c11, c12]).take (Tryz.prog.cellsOf 28)) = some y5 := h5
    rw [c_freqs] at h5
    obtain ⟨l5, s5, q5⟩ := read_sl freqCells_len (by omega) _ Tryz.underlying28 (by kernel_rfl) (fun _ _ _ hl h => el_freq hl h) h5
    obtain ⟨y6, h6⟩ := hg 6 _ rfl
    replace h6 : DataW.trod enc Tryz.prog w base spare held k 29 ((List.drop 6 [c0, c1, c2, c3, c4, c5, c6, c7, c8, c9, c10, c11, c12]).take (Tryz.prog.cellsOf 29)) = some y6 := h6
    rw [c_thrus] at h6
    obtain ⟨l6, s6, q6⟩ := read_sl thrCells_len (by omega) _ Tryz.underlying29 (by kernel_rfl) (fun _ _ _ hl h => el_thr hl h) h6
    obtain ⟨y7, h7⟩ := hg 7 _ rfl
    replace h7 : DataW.trod enc Tryz.prog w base spare held k 30 ((List.drop 7 [c0, c1, c2, c3, c4, c5, c6, c7, c8, c9, c10, c11, c12]).take (Tryz.prog.cellsOf 30)) = some y7 := h7
    rw [c_guars] at h7
    obtain ⟨l7, s7, q7⟩ := read_sl guaCells_len (by omega) _ Tryz.underlying30 (by kernel_rfl) (fun _ _ _ hl h => el_gua hl h) h7
    obtain ⟨y8, h8⟩ := hg 8 _ rfl
    replace h8 : DataW.trod enc Tryz.prog w base spare held k 31 ((List.drop 8 [c0, c1, c2, c3, c4, c5, c6, c7, c8, c9, c10, c11, c12]).take (Tryz.prog.cellsOf 31)) = some y8 := h8
    rw [c_paths] at h8
    obtain ⟨l8, s8, q8⟩ := read_sl pathCells_len (by omega) _ Tryz.underlying31 (by kernel_rfl) (fun _ _ _ hl h => el_path hl h) h8
    obtain ⟨y9, h9⟩ := hg 9 _ rfl
    replace h9 : DataW.trod enc Tryz.prog w base spare held k 34 ((List.drop 9 [c0, c1, c2, c3, c4, c5, c6, c7, c8, c9, c10, c11, c12]).take (Tryz.prog.cellsOf 34)) = some y9 := h9
    rw [c_fares] at h9
    obtain ⟨k2, hg⟩ := read_fields Tryz.underlying34 h9
    obtain ⟨z9, g9⟩ := hg 0 _ rfl
    replace g9 : DataW.trod enc Tryz.prog w base spare held k2 32 ((List.drop 0 [c9, c10, c11, c12]).take (Tryz.prog.cellsOf 32)) = some z9 := g9
    rw [c_prods] at g9
    obtain ⟨l9, s9, q9⟩ := read_sl prodCells_len (by omega) _ Tryz.underlying32 (by kernel_rfl) (fun _ _ _ hl h => el_prod hl h) g9
    obtain ⟨z10, g10⟩ := hg 1 _ rfl
    replace g10 : DataW.trod enc Tryz.prog w base spare held k2 3 ((List.drop 1 [c9, c10, c11, c12]).take (Tryz.prog.cellsOf 3)) = some z10 := g10
    rw [c_int] at g10
    obtain ⟨a10, e10, -, w10⟩ := DataW.trod_int Tryz.underlying3 g10
    obtain rfl : c10 = .int .i64 a10 := (List.cons.inj e10).1
    obtain ⟨z11, g11⟩ := hg 2 _ rfl
    replace g11 : DataW.trod enc Tryz.prog w base spare held k2 3 ((List.drop 2 [c9, .int .i64 a10, c11, c12]).take (Tryz.prog.cellsOf 3)) = some z11 := g11
    rw [c_int] at g11
    obtain ⟨a11, e11, -, w11⟩ := DataW.trod_int Tryz.underlying3 g11
    obtain rfl : c11 = .int .i64 a11 := (List.cons.inj e11).1
    obtain ⟨z12, g12⟩ := hg 3 _ rfl
    replace g12 : DataW.trod enc Tryz.prog w base spare held k2 3 ((List.drop 3 [c9, .int .i64 a10, .int .i64 a11, c12]).take (Tryz.prog.cellsOf 3)) = some z12 := g12
    rw [c_int] at g12
    obtain ⟨a12, e12, -, w12⟩ := DataW.trod_int Tryz.underlying3 g12
    obtain rfl : c12 = .int .i64 a12 := (List.cons.inj e12).1
    refine ⟨⟨c0, c1, c2, c3, c4, c5, c6, c7, c8, c9⟩, l4, ⟨l0, l1, l2, l3, l4.map xOf, l5.map fun f => ⟨f.trip, f.frm, f.to, f.every⟩, l6.map fun x => ⟨x.frm, x.to⟩, l7, l8, ⟨l9, a10, a11, a12⟩⟩, rfl, ⟨s0, s1, s2, s3, ⟨s4, fun t ht => (q4 t ht).1⟩, rfl, ?_, ?_, s7, s8, s9⟩, ⟨q0, q1, q2, ?_, q9, q3, ?_, q7, q8⟩, int_ok w10, int_ok w11, int_ok w12⟩
    · rw [List.map_map, show (freqOf ∘ fun f : FreqD => (⟨f.trip, f.frm, f.to, f.every⟩ : FreqX)) = id from rfl, List.map_id]
      exact s5
    · rw [List.map_map, show (thruOf ∘ fun x : ThrD => (⟨x.frm, x.to⟩ : ThruX)) = id from rfl, List.map_id]
      exact s6
    · intro x hx
      obtain ⟨y, hy, rfl⟩ := List.mem_map.1 hx
      exact (q4 y hy).2
    · intro x hx
      obtain ⟨y, hy, rfl⟩ := List.mem_map.1 hx
      exact q6 y hy
end
end Go.Proofs.YtakedkcjplfgeaaGreatDoor
