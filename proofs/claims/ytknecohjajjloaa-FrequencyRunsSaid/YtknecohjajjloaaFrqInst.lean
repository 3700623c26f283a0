/-
  THE CONTRACTS OF FREQUENCY: Instances. Conditions: those of each contract.
-/
import Derived.Test.YtknecohjajjloaaFrqRefInst
import Derived.Test.YtknecohjajjloaaFrqMarks
import Derived.RangeFuncCalls
import Derived.Laws.EntriesVeiled
namespace Go.Proofs.Ytknecohjajjloaa
open Go.RowKit Go.Shelf
open Frq

attribute [local go_sem] Oper.semAt_some
theorem ownFrom_marked {β : Type} {base B : Nat} {rs : List Nat} (h : ∀ r ∈ rs, r < B) : OwnFrom B (fun (_ : β) W => Marked base rs W) :=
  fun _ W W' _ hs hg hr => ⟨hs.nodup, fun r hrs => ⟨(hs.block r hrs).1, (hg.block r (Array.getElem?_eq_some_iff.1 (hs.block r hrs).2).1 (fun e => by have := (hr r e.symm).1; have := h r hrs; omega)).trans (hs.block r hrs).2⟩⟩

set_option maxRecDepth 100000 in
set_option maxHeartbeats 8000000 in
theorem inst_c (v : Value) (fs : List FreqD) (trip : Int) (h100 : fs.length ≤ 100) (B : Nat) (w : World) (ha : FreqsIn B w v fs) (hB : B ≤ w.heap.size) :
    Calls Try.prog 21 #[v, .int .i64 trip] w fun e w' => ∃ v', e = .returned v' ∧ IntsIn w'.heap.size w' v' (fold (allS fs trip)) ∧ Bl w w' := by
  refine (callsIn_wide (n := 4)).1 ?_
  obtain ⟨i0, hi, hz0, hz1, hz2⟩ := info_parts info_int
  by_cases h0 : 0 < fs.length
  · obtain ⟨b1, o1, cap1, rfl, l1, m1, hb1, hc1⟩ := ha.open h0
    have H1 := Lib.hid hc1
    have hi100 : (fs.length : Int) ≤ 100 := by omega
    clear ha hc1
    refine callsIn_of_wp_marks Try.func21 rfl trivial ?_ rfl
    simp only [Try.ntmps21, List.size_toArray, List.length_cons, List.length_nil, Nat.reduceAdd, Nat.reduceSub, Array.replicate_succ, Array.replicate_zero, List.push_toArray, List.append_toArray, List.nil_append, List.cons_append]
    have bF := Boxed.new (w.alloc (.cells #[.slice none 0 0] 40)) 55 .nilFunc
    rw [World.size_alloc] at bF
    have hcF := bF.cell
    have hfF := bF.frozen
    have bO : Boxed ((w.alloc (.cells #[.slice none 0 0] 40)).alloc (.cells #[.nilFunc] 55)) w.heap.size 40 (.slice none 0 0) := (Boxed.new w 40 (.slice none 0 0)).alloc _
    gi_wp2
    clear bF hcF hfF bO
    have bF := Boxed.new (w.alloc (.cells #[.slice none 0 0] 40)) 55 (.func (.func 33) #[] #[.pointer (some ⟨w.heap.size, 0, none⟩)])
    rw [World.size_alloc] at bF
    have bO : Boxed ((w.alloc (.cells #[.slice none 0 0] 40)).alloc (.cells #[.func (.func 33) #[] #[.pointer (some ⟨w.heap.size, 0, none⟩)]] 55)) w.heap.size 40 (.slice none 0 0) := (Boxed.new w 40 (.slice none 0 0)).alloc _
    obtain ⟨w0, hw0⟩ : ∃ w0, (w.alloc (.cells #[.slice none 0 0] 40)).alloc (.cells #[.func (.func 33) #[] #[.pointer (some ⟨w.heap.size, 0, none⟩)]] 55) = w0 := ⟨_, rfl⟩
    rw [hw0] at bF bO
    rw [hw0]
    have b0 : Bl w w0 := by rw [← hw0]; exact bl_alloc (bl_alloc (bl_refl _) _) _
    have s0 : w0.heap.size = w.heap.size + 2 := by rw [← hw0]; simp
    clear hw0
    obtain ⟨m, hm⟩ : ∃ m, 0 + m = fs.length := ⟨fs.length, by omega⟩
    refine wpIn_loop_rounds (m + 1) ?_
    have hrel : ∃ (k : Nat) (vo u4 u7 u8 u9 u14 u15 u16 u17 u18 u19 u20 u21 u22 u23 u24 u25 u26 u27 u28 : Value) (rs : List Nat), k + m = fs.length ∧
        ({ tmps := #[.slice (some ⟨b1, o1, none⟩) fs.length cap1, .int .i64 trip, undef, undef, .slice none 0 0, .pointer (some ⟨w.heap.size, 0, none⟩), .pointer (some ⟨w.heap.size + 1, 0, none⟩), undef, undef, undef, .func (.func 33) #[] #[.pointer (some ⟨w.heap.size, 0, none⟩)],
          .slice (some ⟨b1, o1, none⟩) fs.length cap1, .int .i64 fs.length, .int .i64 0, undef, undef, undef, undef, undef, undef, undef, undef, undef, undef, undef, undef, undef, undef, undef], defers := [] } : Act) =
        { tmps := #[.slice (some ⟨b1, o1, none⟩) fs.length cap1, .int .i64 trip, undef, undef, u4, .pointer (some ⟨w.heap.size, 0, none⟩), .pointer (some ⟨w.heap.size + 1, 0, none⟩), u7, u8, u9, .func (.func 33) #[] #[.pointer (some ⟨w.heap.size, 0, none⟩)],
          .slice (some ⟨b1, o1, none⟩) fs.length cap1, .int .i64 fs.length, .int .i64 k, u14, u15, u16, u17, u18, u19, u20, u21, u22, u23, u24, u25, u26, u27, u28], defers := marks rs } ∧
        Marked w.heap.size rs w0 ∧ Boxed w0 w.heap.size 40 vo ∧ Boxed w0 (w.heap.size + 1) 55 (.func (.func 33) #[] #[.pointer (some ⟨w.heap.size, 0, none⟩)]) ∧
        w0.ownsRow w.heap.size 3 1 vo (allS (fs.take k) trip).length ((fold (allS (fs.take k) trip)).map (Value.int .i64)) ∧ Bl w w0 :=
      ⟨0, _, _, _, _, _, _, _, _, _, _, _, _, _, _, _, _, _, _, _, _, [], hm, rfl, Marked.nil _ _, bO, bF, World.ownsRow_nil _ _ _ _, b0⟩
    generalize ({ tmps := #[.slice (some ⟨b1, o1, none⟩) fs.length cap1, .int .i64 trip, undef, undef, .slice none 0 0, .pointer (some ⟨w.heap.size, 0, none⟩), .pointer (some ⟨w.heap.size + 1, 0, none⟩), undef, undef, undef, .func (.func 33) #[] #[.pointer (some ⟨w.heap.size, 0, none⟩)],
          .slice (some ⟨b1, o1, none⟩) fs.length cap1, .int .i64 fs.length, .int .i64 0, undef, undef, undef, undef, undef, undef, undef, undef, undef, undef, undef, undef, undef, undef, undef], defers := [] } : Act) = a at hrel ⊢
    clear bF bO b0 s0 hm
    induction m generalizing a w0 with
    | zero =>
      obtain ⟨k, vo, u4, u7, u8, u9, u14, u15, u16, u17, u18, u19, u20, u21, u22, u23, u24, u25, u26, u27, u28, rs, hkm, rfl, hMk, hBo, hBf, hrow, hbl⟩ := hrel
      have hk : k = fs.length := by omega
      subst hk
      have cO := hBo.cell
      rw [roundsIn_succ]
      gi_wp2
      refine leaves_marks w.heap.size (fun W => Boxed W w.heap.size 40 vo ∧ W.ownsRow w.heap.size 3 1 vo (allS (fs.take fs.length) trip).length ((fold (allS (fs.take fs.length) trip)).map (Value.int .i64)) ∧ Bl w W) (fun W r hj hr hK => ?_) (fun W hj => ?_) rs w0 ⟨hBo, hrow, hbl⟩ hMk
      · refine ⟨?_, ownsRow_putObj hj.2.1 _ hK rfl, hj.2.2.trans (belowK_b (Nat.le_refl _) W r _ _ hr hK rfl rfl)⟩
        refine (World.putObj_heap_other ?_).trans hj.1
        intro e
        have h1 : W.heap[w.heap.size]? = _ := hj.1
        rw [e, hK] at h1
        cases h1
      · refine ⟨_, results_tmp rfl _ _ _, vo, rfl, ?_, hj.2.2⟩
        have := hj.2.1
        rw [List.take_length] at this
        rw [← fold_length (allS fs trip), ← flatI] at this
        exact slIn_own intCells_len this
    | succ m ih =>
      obtain ⟨k, vo, u4, u7, u8, u9, u14, u15, u16, u17, u18, u19, u20, u21, u22, u23, u24, u25, u26, u27, u28, rs, hkm, rfl, hMk, hBo, hBf, hrow, hbl⟩ := hrel
      have hk : k < fs.length := by omega
      obtain ⟨x, hx⟩ : ∃ x, fs[k]? = some x := ⟨_, List.getElem?_eq_getElem hk⟩
      have hzw := hbl.size
      have c1 : ∀ j u, (freqCells x)[j]? = some u → w0.cell? ⟨b1, o1 + k * 4 + j, none⟩ = some u := fun j u hu => by rw [(bl_cell hbl).1 _ _ (by omega)]; exact H1.out k x hx j u hu
      have d10 : w0.cell? ⟨b1, o1 + k * 4, none⟩ = some (.int .i64 x.trip) := c1 0 _ rfl
      have d11 := c1 1 _ rfl
      have d12 := c1 2 _ rfl
      have d13 := c1 3 _ rfl
      have HT := Lib.hid (take_snoc_at hx)
      have hkI : (k : Int) < (fs.length : Int) := by omega
      have hMlt : ∀ r ∈ rs, r < w0.heap.size := fun r hr => (Array.getElem?_eq_some_iff.1 (hMk.block r hr).2).1
      have wk : IntKind.i64.wrap ((k : Int) + 1) = (k : Int) + 1 := IntWalk.i64_in _ (by omega)
      clear hx c1
      by_cases he : x.trip = trip
      · have q : (x.trip == trip) = true := by rw [beq_iff_eq]; exact he
        have q' : (x.trip != trip) = false := by rw [bne, q]; rfl
        have HAL := Lib.hid (show allS (fs.take (k + 1)) trip = allS (fs.take k) trip ++ starts x by rw [HT.out, allS_hit _ _ _ q])
        clear he
        have hfn : Fence.wide.fn 32 := trivial
        rw [roundsIn_succ]
        gi_wp2_with (gi_at_call 32; refine (starts_in x _ _).mono ?_; rintro e w2 ⟨rfl, rfl⟩)
        have bN : ((w0.alloc (boxF x)).alloc (boxF x)).heap[w0.heap.size + 1]? = some (boxF x) := by
          have := World.alloc_heap_new (w0.alloc (boxF x)) (boxF x)
          simpa using this
        have hB0 : Below w.heap.size w ((w0.alloc (boxF x)).alloc (boxF x)) := bl_alloc (bl_alloc hbl _) _
        have hfn2 : Fence.wide.fn 33 := trivial
        obtain ⟨A, hA⟩ : ∃ A, allS (fs.take k) trip = A := ⟨_, rfl⟩
        have hAl : A.length ≤ 17280000 := by rw [← hA]; have := allS_len (fs.take k) trip; rw [List.length_take] at this; omega
        have hSl := starts_len x
        rw [hA] at hrow HAL
        have hsz : w.heap.size + 2 ≤ w0.heap.size := by
          have h1 := hBf.lt
          omega
        refine wpIn_rangeFunc_ownG rfl (by omega) (gf := 37) (lb := #[.pointer (some ⟨w0.heap.size + 1, 0, none⟩)]) rfl trivial (enters_of Try.func37 (by kernel_rfl) rfl)
          (starts_stops x (4 - 1) (by omega) (w0.heap.size + 1) _ bN) (fun h k => k.trans h) (keepB_b (by simp)) (Below.refl _ _) (fun _ => rfl)
          (fun pre W => ((((∃ v, Boxed W w.heap.size 40 v ∧ W.ownsRow w.heap.size 3 1 v (A.length + pre.length) ((fold (A ++ pre)).map (Value.int .i64)) ∧ True) ∧ Below w.heap.size w W) ∧ W.heap[w0.heap.size + 1]? = some (boxF x)) ∧ W.heap[w.heap.size + 1]? = some (.cells #[.func (.func 33) #[] #[.pointer (some ⟨w.heap.size, 0, none⟩)]] 55 (0, 0))) ∧ Marked w.heap.size rs W)
          (fun _ _ _ => False)
          (OwnFrom.and (OwnFrom.and (OwnFrom.and (OwnFrom.and (Own.from (holdsRow_own w.heap.size w.heap.size 40 3 1 (fun pre : List Int => A.length + pre.length) (fun pre => (fold (A ++ pre)).map (Value.int .i64)) (fun _ _ => True)) _) (ownFrom_below (Nat.le_refl _) (by simp; omega))) (ownFrom_keepB (by simp))) (ownFrom_keepB (by simp; omega))) (ownFrom_marked (fun r hr => by have := hMlt r hr; simp; omega)))
          (fun _ _ _ _ _ hs _ _ => hs)
          ⟨⟨⟨⟨⟨vo, (hBo.alloc _).alloc _, by simpa using (hrow.alloc _).alloc _, trivial⟩, hB0⟩, bN⟩, (hBf.alloc _).alloc _⟩, (hMk.keeps (KeepsOthers.alloc _ _)).keeps (KeepsOthers.alloc _ _)⟩
          (fun t => { tmps := #[.slice (some ⟨b1, o1, none⟩) fs.length cap1, .int .i64 trip, undef, undef, u4, .pointer (some ⟨w.heap.size, 0, none⟩), .pointer (some ⟨w.heap.size + 1, 0, none⟩), u7, .pointer (some ⟨w0.heap.size, 0, none⟩), .int .i64 t, .func (.func 33) #[] #[.pointer (some ⟨w.heap.size, 0, none⟩)],
            .slice (some ⟨b1, o1, none⟩) fs.length cap1, .int .i64 fs.length, .int .i64 k, .bool true, .pointer (some ⟨b1, o1 + k * 4, none⟩), .agg #[.int .i64 x.trip, .int .i64 x.frm, .int .i64 x.to, .int .i64 x.every], .pointer (some ⟨w0.heap.size, 0, none⟩), .int .i64 x.trip, .int .i64 trip, .bool false, .agg #[.int .i64 x.trip, .int .i64 x.frm, .int .i64 x.to, .int .i64 x.every],
            .func (.func 37) #[] #[.pointer (some ⟨w0.heap.size + 1, 0, none⟩)], .int .i64 t, u24, u25, u26, u27, u28], defers := [] }) ?assign ?body ?done ?stop
        case assign =>
          intro l t W K hK
          gi_wp2
          exact hK
        case body =>
          rintro l pre t W ⟨⟨⟨⟨⟨v, hv, hr, -⟩, hB⟩, hBn⟩, hFn⟩, hMs⟩ hlt
          have hcF : W.cell? ⟨w.heap.size + 1, 0, none⟩ = some (.func (.func 33) #[] #[.pointer (some ⟨w.heap.size, 0, none⟩)]) := Boxed.cell hFn
          have hr' : W.ownsRow w.heap.size 3 1 v (fold (A ++ pre)).length ((fold (A ++ pre)).map (Value.int .i64)) := by rw [fold_length, List.length_append]; exact hr
          have hFl : (fold (A ++ pre)).length ≤ 20000000 := by rw [fold_length, List.length_append]; omega
          have HALL := Lib.hid (And.intro hv (And.intro hr' (And.intro hB (And.intro hBn (And.intro hFn hMs)))))
          clear hv hr hr' hB hBn hFn hMs
          gi_wp2_with (gi_at_call 33; refine (CallsIn.inRound l (callsIn_wide.2 (merge_c (fold (A ++ pre)) t hFl w.heap.size w.heap.size v W HALL.out.1 HALL.out.2.1 HALL.out.2.2.1.size (Nat.le_refl _)))).mono ?_; rintro e w3 ⟨⟨r, rfl⟩, ⟨v3, hv3, hr3⟩, hm3⟩)
          obtain ⟨hv, hr', hB, hBn, hFn, hMs⟩ := HALL.out
          refine ⟨hm3.others.from _, (hm3.fb _ _ _ (by decide) (by decide) hBn).trans hBn.symm, ⟨⟨⟨⟨v3, hv3, ?_, trivial⟩, hB.trans hm3.below⟩, hm3.fb _ _ _ (by decide) (by decide) hBn⟩, hm3.fb _ _ _ (by decide) (by decide) hFn⟩, hMs.keeps hm3.others⟩
          rw [← fold_snoc, List.append_assoc, fold_length, List.length_append] at hr3
          rw [List.length_append, List.length_singleton, ← Nat.add_assoc]
          exact hr3
        case done =>
          rintro D ys W hD rfl ⟨⟨⟨⟨⟨v, hv, hr, -⟩, hB⟩, -⟩, hFn⟩, hMs⟩ hK
          rw [← List.length_append, ← HAL.out] at hr
          have hD' : w0.heap.size + 2 ≤ D := by simp at hD; omega
          gi_wp2
          refine ih _ _ ⟨k + 1, v, _, _, _, _, _, _, _, _, _, _, _, _, _, _, _, _, _, _, _, D :: rs, by omega, rfl, ?_, hv, hFn, hr, hB⟩
          exact hMs.cons (W0 := w0) hMlt (by omega) (by omega) hK
        case stop =>
          rintro D c pre W _ _ h _
          exact h.elim
      · have q : (x.trip == trip) = false := by rw [beq_eq_false_iff_ne]; exact he
        have q' : (x.trip != trip) = true := by rw [bne, q]; rfl
        have HAL := Lib.hid (show allS (fs.take (k + 1)) trip = allS (fs.take k) trip by rw [HT.out, allS_miss _ _ _ q])
        clear he
        rw [roundsIn_succ]
        gi_wp2
        refine ih _ _ ⟨k + 1, vo, _, _, _, _, _, _, _, _, _, _, _, _, _, _, _, _, _, _, _, rs, by omega, rfl, hMk.keeps (KeepsOthers.alloc _ _), hBo.alloc _, hBf.alloc _, by rw [HAL.out]; exact hrow.alloc _, bl_alloc hbl _⟩
  · obtain ⟨a1, c1, rfl, m1, rfl⟩ := ha.empty (by omega)
    refine callsIn_of_wp_marks Try.func21 rfl trivial ?_ rfl
    simp only [Try.ntmps21, List.size_toArray, List.length_cons, List.length_nil, Nat.reduceAdd, Nat.reduceSub, Array.replicate_succ, Array.replicate_zero, List.push_toArray, List.append_toArray, List.nil_append, List.cons_append]
    have bF := Boxed.new (w.alloc (.cells #[.slice none 0 0] 40)) 55 .nilFunc
    rw [World.size_alloc] at bF
    have hcF := bF.cell
    have hfF := bF.frozen
    have bO : Boxed ((w.alloc (.cells #[.slice none 0 0] 40)).alloc (.cells #[.func (.func 33) #[] #[.pointer (some ⟨w.heap.size, 0, none⟩)]] 55)) w.heap.size 40 (.slice none 0 0) := (Boxed.new w 40 (.slice none 0 0)).alloc _
    have cO := bO.cell
    gi_wp2
    refine wpIn_loop_rounds 1 ?_
    rw [roundsIn_succ]
    gi_wp2
    exact ⟨_, results_tmp rfl _ _ _, _, rfl, slIn_nil, bl_alloc (bl_alloc (bl_refl _) _) _⟩
end Go.Proofs.Ytknecohjajjloaa
