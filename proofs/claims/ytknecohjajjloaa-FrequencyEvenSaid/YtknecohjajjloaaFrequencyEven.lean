/-
  FrequencyEven: for every input the call returns true, and each argument reads afterwards as it read before. Conditions: none beyond the row's own.
-/
import Derived.Test.YtknecohjajjloaaFrqArgs
import Derived.Test.YtknecohjajjloaaFrqLawsE
import Derived.ProofKit
import Derived.OpenShut
import Derived.ShutString
import Derived.ChangeOld
import Derived.Carry
namespace Go.Proofs.Ytknecohjajjloaa.frequencyEven
open Go.ChangeShapes Go.WideShapes Go.ChangeAt Go.RowKit
set_option linter.unusedVariables false

open Frq in
/-- A frequency that came in by value. -/
theorem read_freq {H : Type} {enc : TypeId × Value → H} {w : World} {base : Nat} {spare : Nat → Bool} {held : Bool} {r : Reach} {b0 : Nat} {v : Value} {d : DataW H} {p : List MemPlace} (hv : Value.okWide Try.prog w r b0 39 v) (h : DataW.Trod enc Try.prog w base spare held 39 v d p) :
    ∃ f : FreqD, v = .agg #[.int .i64 f.trip, .int .i64 f.frm, .int .i64 f.to, .int .i64 f.every] := by
  obtain ⟨vs, rfl, hsz⟩ := okWide_struct Try.underlying39 hv
  obtain ⟨l⟩ := vs
  obtain ⟨fuel, hf⟩ := h
  obtain ⟨hl, n, hg⟩ := read_struct Try.underlying39 (by kernel_rfl) (by kernel_rfl) hf
  match l, hl with
  | [c0, c1, c2, c3], _ =>
    obtain ⟨y0, h0⟩ := hg 0 _ rfl
    obtain ⟨y1, h1⟩ := hg 1 _ rfl
    obtain ⟨y2, h2⟩ := hg 2 _ rfl
    obtain ⟨y3, h3⟩ := hg 3 _ rfl
    obtain ⟨a0, e0, -, -⟩ := DataW.trod_int Try.underlying3 h0
    obtain ⟨a1, e1, -, -⟩ := DataW.trod_int Try.underlying3 h1
    obtain ⟨a2, e2, -, -⟩ := DataW.trod_int Try.underlying3 h2
    obtain ⟨a3, e3, -, -⟩ := DataW.trod_int Try.underlying3 h3
    rw [List.cons.injEq] at e0 e1 e2 e3
    obtain rfl : c0 = .int .i64 a0 := e0.1
    obtain rfl : c1 = .int .i64 a1 := e1.1
    obtain rfl : c2 = .int .i64 a2 := e2.1
    obtain rfl : c3 = .int .i64 a3 := e3.1
    exact ⟨⟨a0, a1, a2, a3⟩, rfl⟩
theorem own : ownKnob Try.prog.godebug = none := by kernel_rfl
set_option maxRecDepth 100000 in
theorem lifted (os : Os) (started : os.Started) (H : Type) (enc : TypeId × Value → H) :
    ReturnsInHanded {} Try.checked os 5 .any (Rows.frequencyEvenSpec.pre6 enc Try.prog Try.f5 Rows.frequencyEvenRow.domain false) (Rows.frequencyEvenSpec.post enc Try.prog Try.f5 false true false false) := by
  refine returnsInHanded_of_change (C := Try.checked) own started (by kernel_rfl) Try.func5
    (ChangeSpec.witness6 (enc := enc) (C := Try.checked) false ⟨#[], #[.agg #[.int .i64 0, .int .i64 0, .int .i64 0, .int .i64 0], .agg #[.string ByteArray.empty, .int .i64 0, .int .i64 0, .bool false, .slice none 0 0]], []⟩ 8 (by kernel_rfl) (by kernel_rfl) (by kernel_rfl) (by kernel_rfl)) ?_
  intro W base args ds gs before hval0 hW hcnd _
  have hval : ∀ (j : Nat) t v, Try.f5.params[j]? = some t → args[j]? = some v → Value.okWide Try.prog W .any base t v := hval0
  have hW' := hW
  obtain ⟨p, q, hA0, hV, rfl, hfz, hnd⟩ := hW
  have hA : DataW.TrodAll enc Try.prog W 0 (fun _ => true) true Try.f5.params.toList args.toList ds p := hA0
  rw [Try.params5] at hA hval
  obtain ⟨v0, vs0, d0, ds0, p0, q0, hargs, rfl, rfl, h0, r0⟩ := trodAll_cons hA
  obtain ⟨v1, vs1, d1, ds1, p1, q1, rfl, rfl, rfl, h1, r1⟩ := trodAll_cons r0
  obtain ⟨rfl, rfl, rfl⟩ := trodAll_nil r1
  obtain rfl : args = #[v0, v1] := by cases args; simp_all
  obtain ⟨rfl, rfl⟩ := trodVars_none hV
  have h0k := h0
  have h1k := h1
  obtain ⟨f, rfl⟩ := read_freq (hval 0 39 v0 rfl rfl) h0
  obtain ⟨t, rfl, ht⟩ := read_trip (hval 1 33 v1 rfl rfl) h1
  clear hA0 hval0
  simp only [List.append_nil] at hW'
  have hlt : ∀ x ∈ p0 ++ p1, x.block < W.heap.size := fun x hx => by simpa using hW'.lt x hx
  refine (even_law f t.id t.rt t.cal t.step t.v t.calls W.heap.size W ht.calls (Nat.le_refl _) ht.ok).mono fun e W' ⟨he, bel⟩ => ?_
  subst he
  exact ⟨_, rfl, _, _, _, [], p0 ++ (p1 ++ []), [], hW', trodAll_cons_mk (shut_bool Try.underlying4 _) trodAll_mk0, trodAll_cons_mk (Below.trod laidOut (by kernel_rfl) (of_decide_eq_true (by kernel_rfl)) h0k bel (fun x hx => hlt x (List.mem_append_left _ hx))) (trodAll_cons_mk (Below.trod laidOut (by kernel_rfl) (of_decide_eq_true (by kernel_rfl)) h1k bel (fun x hx => hlt x (List.mem_append_right _ hx))) trodAll_mk0), rfl, bel.frame _, fun h => by cases h⟩

theorem over : Rows.frequencyEvenRow.holds Try.pinned (OpenSpec.ofChange Rows.frequencyEvenSpec) :=
  OpenClaim.holds_of_wide 5 Try.f5 rfl rfl rfl rfl rfl rfl rfl ⟨rfl, rfl, rfl, rfl, rfl⟩ rfl rfl rfl rfl rfl (by kernel_rfl) Try.func5 (by kernel_rfl)
    (of_decide_eq_true (by kernel_rfl)) (by unfold Func.isWrapper; first | (rw [if_pos (by decide +kernel)]; kernel_rfl) | (rw [if_neg (by decide +kernel)]; exact ⟨rfl, rfl⟩))
    (fun os started H enc _ => lifted os started H enc)

/-- The given statement. -/
theorem proved : Rows.FrequencyEvenSaid := over
#print axioms proved
end Go.Proofs.Ytknecohjajjloaa.frequencyEven
