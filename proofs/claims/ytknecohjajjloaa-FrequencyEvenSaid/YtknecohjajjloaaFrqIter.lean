/-
  THE ITERATOR starts, AND Starts. Conditions: those of each contract.
-/
import Derived.RangeFuncBox
import Derived.RangeFuncLeaves
import Derived.RangeFuncNested
import Derived.Shelf.Abstract
import Derived.WalkKit
import Derived.OwnWalkIn
import Derived.TacticsInMore
import Derived.LoopNIn
import Derived.LoopIn
import Derived.Maps.AppendAt
import Derived.Test.YtknecohjajjloaaFrqWalksE
namespace Go.Proofs.Ytknecohjajjloaa
open Go.RowKit Go.Shelf
open Frq

attribute [local go_sem] Oper.semAt_some

/-- The block of a boxed frequency. -/
abbrev boxF (f : FreqD) : Obj := .cells #[.int .i64 f.trip, .int .i64 f.frm, .int .i64 f.to, .int .i64 f.every] 39
theorem boxF_cell {f : FreqD} {W : World} {b : Nat} (h : W.heap[b]? = some (boxF f)) : ∀ j u, (freqCells f)[j]? = some u → W.cell? ⟨b, j, none⟩ = some u := by
  intro j u hu
  unfold World.cell?
  rw [h]
  simpa [freqCells] using hu
theorem bl_grown {W W' : World} (hb : Bl W W') : W.grownBy W' none := ⟨hb.os, hb.tape, hb.output, hb.size, fun k hk _ => hb.block k hk⟩

theorem starts_in (f : FreqD) (n : Nat) (w : World) :
    Go.CallsIn Fence.wide n Try.prog 32 #[.agg #[.int .i64 f.trip, .int .i64 f.frm, .int .i64 f.to, .int .i64 f.every]] w fun e w' => e = .returned (.func (.func 37) #[] #[.pointer (some ⟨w.heap.size, 0, none⟩)]) ∧ w' = w.alloc (boxF f) := by
  refine callsIn_of_wp Try.func32 rfl trivial ?_ rfl
  simp only [Try.ntmps32, List.size_toArray, List.length_cons, List.length_nil, Nat.reduceAdd, Nat.reduceSub, Array.replicate_succ, Array.replicate_zero, List.push_toArray, List.append_toArray, List.nil_append, List.cons_append]
  gi_wp2
  go_ret
  exact ⟨rfl, rfl⟩

theorem startsN_prefix (f : FreqD) {a b : Nat} (h : a ≤ b) : startsN f a <+: startsN f b := by
  obtain ⟨c, rfl⟩ : ∃ c, b = a + c := ⟨b - a, by omega⟩
  clear h
  induction c with
  | zero => exact List.prefix_rfl
  | succ c ih => rw [← Nat.add_assoc, startsN_succ]; exact ih.trans (List.prefix_append _ _)
set_option maxRecDepth 100000 in
set_option maxHeartbeats 4000000 in
theorem iter_in (f : FreqD) (n : Nat) (hn : 1 ≤ n) (l Bn : Nat) (J Jx : List Int → World → Prop) (B : Nat) (hJ : AbidesFrom B J)
    (hY : ∀ pre (x : Int) W, J pre W → pre.length < (starts f).length → YieldAt Fence.wide (n - 1) Try.prog l #[.int .i64 x] W fun e W' =>
      (e = .returned (.bool true) ∧ J (pre ++ [x]) W' ∧ W'.heap[Bn]? = W.heap[Bn]?) ∨ (e = .returned (.bool false) ∧ Jx (pre ++ [x]) W'))
    (W : World) (hBn : W.heap[Bn]? = some (boxF f)) (h0 : J [] W) :
    Go.CallsIn Fence.wide n Try.prog 37 #[.func (.yield l) #[] #[], .pointer (some ⟨Bn, 0, none⟩)] W fun e W' => (∃ v, e = .returned v) ∧
      ((∃ ys, ys = starts f ∧ J ys W') ∨ (∃ pre, pre <+: starts f ∧ Jx pre W')) := by
  have hlt : Bn < W.heap.size := (Array.getElem?_eq_some_iff.1 hBn).1
  have HB := Lib.hid hBn
  have c0 := boxF_cell hBn 0 _ rfl
  have c1 := boxF_cell hBn 1 _ rfl
  have c2 := boxF_cell hBn 2 _ rfl
  have c3 := boxF_cell hBn 3 _ rfl
  clear hBn
  rcases sound_cases f with ⟨hs, k⟩ | ⟨_, k⟩
  · have HK := Lib.hid k
    have HS := Lib.hid hs
    have HSt : Hid (starts f = startsN f (cnt f).toNat) := by show _ = _; unfold starts; rw [if_pos hs]
    obtain ⟨cc0, cc1⟩ := cnt_bd f hs
    obtain ⟨h1, h2, h3, h4, h5⟩ := hs
    clear k
    refine callsIn_of_wp Try.func37 rfl trivial ?_ rfl
    simp only [Try.ntmps37, List.size_toArray, List.length_cons, List.length_nil, Nat.reduceAdd, Nat.reduceSub, Array.replicate_succ, Array.replicate_zero, List.push_toArray, List.append_toArray, List.nil_append, List.cons_append]
    have hfn : Fence.wide.fn 26 := trivial
    gi_wp2_with (gi_at_call 26; refine (callsIn_wide.2 (sound_b f true HK _)).mono ?_; rintro e w2 ⟨rfl, b2⟩; have d1 : w2.cell? ⟨Bn, 1, none⟩ = some (.int .i64 f.frm) := by { rw [(bl_cell b2).1 _ _ hlt]; exact c1 })
    have HB2 := Lib.hid ((b2.block Bn hlt).trans HB.out)
    have hJ2 := hJ [] W w2 none h0 (bl_grown b2) (by simp)
    have hBs : Bn < w2.heap.size := by have := b2.size; omega
    clear c0 c1 c2 c3
    gi_loopw [3] (fun t wr => ∃ k : Nat, (k : Int) ≤ cnt f ∧ t = .int .i64 (f.frm + k * f.every) ∧ J (startsN f k) wr ∧ wr.heap[Bn]? = some (boxF f)) (fun t _ => (f.to - intOf t).toNat)
    case atStart => exact ⟨0, by omega, by simp, hJ2, HB2.out⟩
    case round =>
      obtain ⟨k, hk, rfl, hJs, hBk⟩ := hrel
      have e2 := boxF_cell hBk 2 _ rfl
      have e3 := boxF_cell hBk 3 _ rfl
      have hiff := cnt_lt f HS.out k
      by_cases hlt2 : (k : Int) < cnt f
      · have hto := hiff.2 hlt2
        have hbd := start_bd f HS.out k hlt2
        have HM := Lib.hid (mul_succ' k f.every)
        have HSN := Lib.hid (startsN_succ f k)
        obtain ⟨fn, tmps, assign, body, hy, hR⟩ := hY (startsN f k) (f.frm + k * f.every) wr hJs (by rw [HSt.out, startsN_len, startsN_len]; omega)
        obtain ⟨t, ht⟩ : ∃ t, f.frm + k * f.every = t := ⟨_, rfl⟩
        rw [ht] at hto hbd hR hy ⊢
        have HT := Lib.hid ht
        obtain ⟨t0, t1⟩ := hbd
        have HBk := Lib.hid hBk
        clear hiff ht hBk
        gi_wp2
        refine hR.mono ?_
        rintro e W3 (⟨rfl, hJ3, hk3⟩ | ⟨rfl, hJx3⟩)
        · have g3 := boxF_cell (hk3.trans HBk.out) 3 _ rfl
          clear e2 e3
          gi_wp2
          go_roundw
          case rel =>
            refine ⟨k + 1, by omega, ?_, ?_, hk3.trans HBk.out⟩
            · rw [HM.out, ← HT.out]; go_num
            · rw [HSN.out, HT.out]; exact hJ3
          case measure => simp [intOf]; omega
        · gi_wp2
          refine bodyPost_ret (results_none rfl _ _ _) rfl ?_
          refine ⟨⟨_, rfl⟩, .inr ⟨startsN f k ++ [t], ?_, hJx3⟩⟩
          rw [HSt.out, ← HT.out, ← HSN.out]
          exact startsN_prefix f (by omega)
      · have hto : ¬ f.frm + k * f.every < f.to := fun h => hlt2 (hiff.1 h)
        have hkk : (cnt f).toNat = k := by omega
        obtain ⟨t, ht⟩ : ∃ t, f.frm + k * f.every = t := ⟨_, rfl⟩
        rw [ht] at hto ⊢
        clear hiff ht
        gi_wp2
        go_end0
        exact ⟨⟨_, rfl⟩, .inl (by rw [HSt.out, hkk]; exact hJs)⟩
  · have HK := Lib.hid k
    have HSt : Hid (starts f = []) := by
      show _ = _
      unfold starts
      rw [if_neg]
      unfold soundB at k
      simpa using k
    clear k
    refine callsIn_of_wp Try.func37 rfl trivial ?_ rfl
    simp only [Try.ntmps37, List.size_toArray, List.length_cons, List.length_nil, Nat.reduceAdd, Nat.reduceSub, Array.replicate_succ, Array.replicate_zero, List.push_toArray, List.append_toArray, List.nil_append, List.cons_append]
    have hfn : Fence.wide.fn 26 := trivial
    gi_wp2_with (gi_at_call 26; refine (callsIn_wide.2 (sound_b f false HK _)).mono ?_; rintro e w2 ⟨rfl, b2⟩)
    have hJ2 := hJ [] W w2 none h0 (bl_grown b2) (by simp)
    clear c0 c1 c2 c3
    refine bodyPost_ret (results_none rfl _ _ _) rfl ?_
    exact ⟨⟨_, rfl⟩, .inl ⟨_, HSt.out.symm, hJ2⟩⟩

/-- The iterator's contract as the range law asks for it: the block with the frequency stays. -/
abbrev KeepB (Bn : Nat) (A B : World) : Prop := B.heap[Bn]? = A.heap[Bn]?
theorem starts_stops (f : FreqD) (n : Nat) (hn : 1 ≤ n) (Bn : Nat) (w : World) (hB : w.heap[Bn]? = some (boxF f)) :
    SeqStopsK Fence.wide n Try.prog 37 #[.pointer (some ⟨Bn, 0, none⟩)] (fun x : Int => #[Value.int .i64 x]) (KeepB Bn) (fun ys => ys = starts f) (fun pre => pre <+: starts f) (starts f).length w := fun l J Jx W hW hJ _ hY h0 =>
  iter_in f n hn l Bn J Jx _ hJ hY W ((hW.block Bn (Array.getElem?_eq_some_iff.1 hB).1).trans hB) h0
theorem keepB_b {Bn : Nat} {w : World} (hn : Bn < w.heap.size) (W : World) (l : Nat) (o o' : Obj) (hl : w.heap.size ≤ l) (_ : W.heap[l]? = some o) (_ : o.isCells = false) (_ : o.isWalk = false) : KeepB Bn W (W.putObj l o') :=
  World.putObj_heap_other (by omega)
theorem not_rowF {W : World} {B : Nat} {f : FreqD} (h : W.heap[B]? = some (boxF f)) {e : TypeId} (hte : 39 ≠ e) {base size k : Nat} {v : Value} {xs : List Value} (hr : W.ownsRow base e size v k xs) : some B ≠ v.ownBlock := by
  rcases hr.2 with ⟨rfl, _⟩ | ⟨g, cap, cur, rfl, _, hgb, _⟩
  · simp [Value.ownBlock]
  · intro e'
    obtain rfl : B = g := by simpa [Value.ownBlock] using e'
    have := h.symm.trans hgb
    simp at this
    exact hte this.2
theorem ownFrom_keepB {β : Type} {Bn B : Nat} {o : Obj} (h : Bn < B) : OwnFrom B (fun (_ : β) W => W.heap[Bn]? = some o) :=
  fun _ W W' _ hs hg hr => (hg.block Bn (Array.getElem?_eq_some_iff.1 hs).1 (fun e => by have := (hr Bn e.symm).1; omega)).trans hs
theorem flatI (l : List Int) : (l.flatMap intCells) = l.map (Value.int .i64) := by
  induction l with
  | nil => rfl
  | cons c l ih => rw [List.flatMap_cons, ih]; rfl

set_option maxRecDepth 100000 in
set_option maxHeartbeats 4000000 in
theorem starts_c (f : FreqD) (w : World) :
    Calls Try.prog 17 #[.agg #[.int .i64 f.trip, .int .i64 f.frm, .int .i64 f.to, .int .i64 f.every]] w fun e w' => ∃ v, e = .returned v ∧ IntsIn w'.heap.size w' v (starts f) ∧ Bl w w' := by
  refine (callsIn_wide (n := 3)).1 ?_
  have h1 : 1 ≤ 3 := by omega
  obtain ⟨i0, hi, hz0, hz1, hz2⟩ := info_parts info_int
  have HSL := Lib.hid (starts_len f)
  refine callsIn_of_wp_marks Try.func17 rfl trivial ?_ rfl
  simp only [Try.ntmps17, List.size_toArray, List.length_cons, List.length_nil, Nat.reduceAdd, Nat.reduceSub, Array.replicate_succ, Array.replicate_zero, List.push_toArray, List.append_toArray, List.nil_append, List.cons_append]
  have hfn : Fence.wide.fn 32 := trivial
  gi_wp2_with (gi_at_call 32; refine (starts_in f _ _).mono ?_; rintro e w2 ⟨rfl, rfl⟩)
  have bO := Boxed.new (w.alloc (boxF f)) 40 (.slice none 0 0)
  have bN : (((w.alloc (boxF f)).alloc (.cells #[.slice none 0 0] 40)).alloc (boxF f)).heap[w.heap.size + 2]? = some (boxF f) := by
    have := World.alloc_heap_new ((w.alloc (boxF f)).alloc (.cells #[.slice none 0 0] 40)) (boxF f)
    simpa using this
  rw [World.size_alloc] at bO
  have hB0 : Below w.heap.size w (((w.alloc (boxF f)).alloc (.cells #[.slice none 0 0] 40)).alloc (boxF f)) := bl_alloc (bl_alloc (bl_alloc (bl_refl _) _) _) _
  refine wpIn_rangeFunc_ownG rfl h1 (gf := 37) (lb := #[.pointer (some ⟨w.heap.size + 2, 0, none⟩)]) rfl trivial (enters_of Try.func37 (by kernel_rfl) rfl)
    (starts_stops f (3 - 1) (by omega) (w.heap.size + 2) _ bN) (fun h k => k.trans h) (keepB_b (by simp)) (Below.refl _ _) (fun _ => rfl)
    (fun pre W => ((∃ v, Boxed W (w.heap.size + 1) 40 v ∧ W.ownsRow w.heap.size 3 1 v pre.length (pre.map (Value.int .i64)) ∧ True) ∧ Below w.heap.size w W) ∧ W.heap[w.heap.size + 2]? = some (boxF f))
    (fun _ _ _ => False)
    (OwnFrom.and (OwnFrom.and (Own.from (holdsRow_own w.heap.size (w.heap.size + 1) 40 3 1 (fun pre : List Int => pre.length) (fun pre => pre.map (Value.int .i64)) (fun _ _ => True)) _) (ownFrom_below (Nat.le_refl _) (by simp; omega))) (ownFrom_keepB (by simp)))
    (fun _ _ _ _ _ hs _ _ => hs)
    ⟨⟨⟨_, bO.alloc _, World.ownsRow_nil _ _ _ _, trivial⟩, hB0⟩, bN⟩
    (fun x => { tmps := #[.agg #[.int .i64 f.trip, .int .i64 f.frm, .int .i64 f.to, .int .i64 f.every], .pointer (some ⟨w.heap.size, 0, none⟩), .slice none 0 0, .pointer (some ⟨w.heap.size + 1, 0, none⟩), .int .i64 x,
      .agg #[.int .i64 f.trip, .int .i64 f.frm, .int .i64 f.to, .int .i64 f.every], .func (.func 37) #[] #[.pointer (some ⟨w.heap.size + 2, 0, none⟩)], .int .i64 x, undef, undef, undef, undef, undef], defers := [] }) ?assign ?body ?done ?stop
  case assign =>
    intro l x W K hK
    gi_wp2
    exact hK
  case body =>
    rintro l pre x W ⟨⟨⟨v, hv, hrow, -⟩, hB⟩, hBn⟩ hlt
    have hc := hv.cell
    have hpl := HSL.out
    have HBn := Lib.hid hBn
    clear hBn
    gi_wp2_with (gi_at_builtin; refine wpListIn_append_own _ rfl _ _ 40 rfl w.heap.size 3 i0 (.int .i64 0) 1 8 Try.underlying40 hi hz0 hz1 hz2 rfl (by decide) _ _ _ rfl (hrow.alloc _) ⟨W.heap.size, 0, none⟩ 1 1 [.int .i64 x] rfl rfl (cell_one_new _ _ _) (by simp [Value.oneCell']) (by unfold maxLen; omega) (by omega) (by have := hB.size; simp; omega) ?_; intro v' w1 hown' hgrow _; obtain ⟨g', cap', rfl⟩ := ownsRow_succ hown'; obtain ⟨hv1, hv2, hr2, hk2, hb2⟩ := hv.appended (by decide) hrow hB.size (Nat.le_add_right _ _) hown' hgrow; have hbn : Hid (w1.heap[w.heap.size + 2]? = some (boxF f)) := ((hgrow.block _ (by have := (Array.getElem?_eq_some_iff.1 HBn.out).1; simp; omega) (not_rowF HBn.out (by decide) hrow)).trans ((Below.heap_alloc _ _ _ (Array.getElem?_eq_some_iff.1 HBn.out).1).trans HBn.out)); have hc1 := hv1.cell; have hf1 := hv1.frozen)
    have hset : ∀ v', (w1.setCell ⟨w.heap.size + 1, 0, none⟩ v').heap[w.heap.size + 2]? = some (boxF f) := fun v' => (Below.heap_setCell _ _ _ _ (by show w.heap.size + 2 ≠ w.heap.size + 1; omega)).trans hbn.out
    refine ⟨hk2.from _, (hset _).trans HBn.out.symm, ⟨⟨_, hv2, by simpa using hr2, trivial⟩, hB.trans hb2⟩, hset _⟩
  case done =>
    rintro D ys W hD rfl ⟨⟨⟨v, hv, hrow, -⟩, hB⟩, -⟩ hK
    have hc := hv.cell
    gi_wp2
    refine ⟨by simp, .inl ⟨_, _, rfl, run_takeDeferred hK, ?_⟩⟩
    refine ⟨_, results_tmp rfl _ _ _, v, rfl, ?_, hB.trans (belowK_b (w := w) (Nat.le_refl _) W D _ _ (by simp at hD; omega) hK rfl rfl)⟩
    have := ownsRow_putObj hrow (.deferred none) hK rfl
    rw [← flatI] at this
    exact slIn_own intCells_len this
  case stop =>
    rintro D c pre W _ _ h _
    exact h.elim
end Go.Proofs.Ytknecohjajjloaa
