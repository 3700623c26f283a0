/-
  THE CONTRACTS OF MESSAGE, FOURTH PART: lists of calls, compared, in the program and in the reference. Conditions: those of each contract.
-/
import Derived.Test.YthdadalmgldppaaDoorMsgWalksC
import Derived.Laws.StructEq
namespace Go.Proofs.YthdadalmgldppaaDoor
open Go.RowKit
open Msg

/-! ### comparing -/
theorem callD_eq (x y : CallD) : (x.stop == y.stop && (x.arrive == y.arrive && (x.depart == y.depart && (x.board == y.board && x.alight == y.alight)))) = decide (x = y) := by
  obtain ⟨a, b, c, d, e⟩ := x
  obtain ⟨a', b', c', d', e'⟩ := y
  rw [Bool.eq_iff_iff]
  simp
set_option maxRecDepth 100000 in
theorem eqCall (x y : CallD) (w : World) : (Op.equalIn 10000 46 (.agg #[.int .i64 x.stop, .int .i64 x.arrive, .int .i64 x.depart, .bool x.board, .bool x.alight]) (.agg #[.int .i64 y.stop, .int .i64 y.arrive, .int .i64 y.depart, .bool y.board, .bool y.alight])).run Tryd.prog w = .ok (decide (x = y)) w := by
  have u3 := Tryd.underlying3
  have a3 := Tryd.isAgg3
  have z3 := Tryd.sizeOf3
  have u4 := Tryd.underlying4
  have a4 := Tryd.isAgg4
  have z4 := Tryd.sizeOf4
  have hS : Tryd.prog.underlying 46 = some (.struct (Tryd.prog.fieldsOf 46)) := by kernel_rfl
  rw [show (10000 : Nat) = 9999 + 1 from rfl, run_equalIn_agg w 9999 46 _ _ hS (by kernel_rfl)]
  simp only [Program.fieldsOf, Tryd.underlying46]
  rw [← callD_eq]
  go_simp
  by_cases h1 : x.stop = y.stop <;> by_cases h2 : x.arrive = y.arrive <;> by_cases h3 : x.depart = y.depart <;> by_cases h4 : x.board = y.board <;> by_cases h5 : x.alight = y.alight <;> simp [h1, h2, h3, h4, h5]
set_option maxHeartbeats 4000000 in
theorem eqCalls_c (va vb : Value) (xs ys : List CallD) (r : Bool) (H : Hid (decide (xs = ys) = r)) (B : Nat) (w : World) (ha : CallsIn B w va xs) (hb : CallsIn B w vb ys) (hB : B ≤ w.heap.size) :
    Calls Tryd.prog 51 #[va, vb] w fun e w' => e = .returned (.bool r) ∧ Bl w w' := by
  by_cases hlen : xs.length = ys.length
  · rcases Nat.eq_zero_or_pos xs.length with h0 | h0
    · obtain ⟨a1, c1, rfl, m1, rfl⟩ := ha.empty h0
      obtain ⟨a2, c2, rfl, m2, rfl⟩ := hb.empty (by rw [← hlen]; exact h0)
      have HF := Lib.hid (show r = true by rw [← H.out]; rfl)
      clear H
      go_enter Tryd.func51, Tryd.ntmps51
      go_wp2_with fail
      refine wp_loop_rounds 1 ?_
      rw [rounds_succ]
      go_wp2
      go_ret
      exact ⟨ret_bool HF.out.symm, bl_refl _⟩
    · obtain ⟨b1, o1, cap1, rfl, l1, m1, hb1, hc1⟩ := ha.open h0
      obtain ⟨b2, o2, cap2, rfl, l2, m2, hb2, hc2⟩ := hb.open (by omega)
      have H1 := Lib.hid hc1
      have H2 := Lib.hid hc2
      have q0 : ((xs.length : Int) != (ys.length : Int)) = false := by rw [hlen]; simp
      clear ha hb hc1 hc2
      go_enter Tryd.func51, Tryd.ntmps51
      go_wp2
      go_loopw [14] (fun i wr => ∃ k : Nat, k ≤ xs.length ∧ i = .int .i64 k ∧ Hid (xs.take k = ys.take k) ∧ Bl w wr) (fun i _ => xs.length - (intOf i).toNat)
      case atStart => exact ⟨0, Nat.zero_le _, rfl, by show _ = _; rfl, bl_refl _⟩
      case round =>
        obtain ⟨k, hk, rfl, HK, hbl⟩ := hrel
        have hbz := hbl.size
        by_cases hlt : k < xs.length
        · obtain ⟨x, hx⟩ : ∃ x, xs[k]? = some x := ⟨_, List.getElem?_eq_getElem hlt⟩
          obtain ⟨y, hy⟩ : ∃ y, ys[k]? = some y := ⟨_, List.getElem?_eq_getElem (by omega)⟩
          have c1 : ∀ j u, (callCells x)[j]? = some u → wr.cell? ⟨b1, o1 + k * 5 + j, none⟩ = some u := fun j u hu => by rw [(bl_cell hbl).1 _ _ (by omega)]; exact H1.out k x hx j u hu
          have c2 : ∀ j u, (callCells y)[j]? = some u → wr.cell? ⟨b2, o2 + k * 5 + j, none⟩ = some u := fun j u hu => by rw [(bl_cell hbl).1 _ _ (by omega)]; exact H2.out k y hy j u hu
          have d10 : wr.cell? ⟨b1, o1 + k * 5, none⟩ = some (.int .i64 x.stop) := c1 0 _ rfl
          have d11 := c1 1 _ rfl
          have d12 := c1 2 _ rfl
          have d13 := c1 3 _ rfl
          have d14 := c1 4 _ rfl
          have d20 : wr.cell? ⟨b2, o2 + k * 5, none⟩ = some (.int .i64 y.stop) := c2 0 _ rfl
          have d21 := c2 1 _ rfl
          have d22 := c2 2 _ rfl
          have d23 := c2 3 _ rfl
          have d24 := c2 4 _ rfl
          have i1 : (k : Int) < (xs.length : Int) := by omega
          have i2 : (k : Int) < (ys.length : Int) := by omega
          have i3 : b1 < wr.heap.size := by omega
          have i4 : b2 < wr.heap.size := by omega
          clear c1 c2
          by_cases hxy : x = y
          · subst hxy
            have HN := Lib.hid (show xs.take (k + 1) = ys.take (k + 1) by
              obtain ⟨p1, p2⟩ := List.getElem?_eq_some_iff.1 hx
              obtain ⟨p3, p4⟩ := List.getElem?_eq_some_iff.1 hy
              rw [List.take_succ_eq_append_getElem p1, List.take_succ_eq_append_getElem p3, p2, p4, HK.out])
            have hq := eqCall x x
            rw [decide_eq_true rfl] at hq
            clear hx hy
            go_wp2_with fail
            go_quiet (fail)
            go_wp2
            go_roundw
            case rel => exact ⟨k + 1, by omega, by go_num, HN, bl_drewN (bl_alloc hbl _) _⟩
            case measure => simp [intOf]; omega
          · have HF := Lib.hid (show r = false by
              rw [← H.out]
              refine decide_eq_false fun h => hxy ?_
              rw [h, hy] at hx
              exact (Option.some.inj hx).symm)
            clear hx hy
            have hq := eqCall x y
            rw [decide_eq_false hxy] at hq
            go_wp2_with fail
            go_quiet (fail)
            go_wp2
            go_ret
            exact ⟨ret_bool HF.out.symm, bl_drewN (bl_alloc hbl _) _⟩
        · have HF := Lib.hid (show r = true by
            rw [← H.out]
            refine decide_eq_true ?_
            have := HK.out
            rw [List.take_of_length_le (by omega), List.take_of_length_le (by omega)] at this
            exact this)
          go_wp2
          go_ret
          exact ⟨ret_bool HF.out.symm, hbl⟩
  · have HF := Lib.hid (show r = false by rw [← H.out]; exact decide_eq_false fun h => hlen (by rw [h]))
    have q0 : ((xs.length : Int) != (ys.length : Int)) = true := by rw [bne_iff_ne]; omega
    obtain ⟨a1, c1, rfl, -⟩ := ha
    obtain ⟨a2, c2, rfl, -⟩ := hb
    go_enter Tryd.func51, Tryd.ntmps51
    go_wp2
    go_ret
    exact ⟨ret_bool HF.out.symm, bl_refl _⟩
set_option maxHeartbeats 4000000 in
theorem reqCalls_c (va vb : Value) (xs ys : List CallD) (r : Bool) (H : Hid (decide (xs = ys) = r)) (B : Nat) (w : World) (ha : CallsIn B w va xs) (hb : CallsIn B w vb ys) (hB : B ≤ w.heap.size) :
    Calls Tryd.prog 48 #[va, vb] w fun e w' => e = .returned (.bool r) ∧ Bl w w' := by
  by_cases hlen : xs.length = ys.length
  · rcases Nat.eq_zero_or_pos xs.length with h0 | h0
    · obtain ⟨a1, c1, rfl, m1, rfl⟩ := ha.empty h0
      obtain ⟨a2, c2, rfl, m2, rfl⟩ := hb.empty (by rw [← hlen]; exact h0)
      have HF := Lib.hid (show r = true by rw [← H.out]; rfl)
      clear H
      go_enter Tryd.func48, Tryd.ntmps48
      go_wp2_with fail
      refine wp_loop_rounds 1 ?_
      rw [rounds_succ]
      go_wp2
      go_ret
      exact ⟨ret_bool HF.out.symm, bl_refl _⟩
    · obtain ⟨b1, o1, cap1, rfl, l1, m1, hb1, hc1⟩ := ha.open h0
      obtain ⟨b2, o2, cap2, rfl, l2, m2, hb2, hc2⟩ := hb.open (by omega)
      have H1 := Lib.hid hc1
      have H2 := Lib.hid hc2
      have q0 : ((xs.length : Int) != (ys.length : Int)) = false := by rw [hlen]; simp
      clear ha hb hc1 hc2
      go_enter Tryd.func48, Tryd.ntmps48
      go_wp2
      go_loopw [5] (fun i wr => ∃ k : Nat, k ≤ xs.length ∧ i = .int .i64 k ∧ Hid (xs.take k = ys.take k) ∧ Bl w wr) (fun i _ => xs.length - (intOf i).toNat)
      case atStart => exact ⟨0, Nat.zero_le _, rfl, by show _ = _; rfl, bl_refl _⟩
      case round =>
        obtain ⟨k, hk, rfl, HK, hbl⟩ := hrel
        have hbz := hbl.size
        by_cases hlt : k < xs.length
        · obtain ⟨x, hx⟩ : ∃ x, xs[k]? = some x := ⟨_, List.getElem?_eq_getElem hlt⟩
          obtain ⟨y, hy⟩ : ∃ y, ys[k]? = some y := ⟨_, List.getElem?_eq_getElem (by omega)⟩
          have c1 : ∀ j u, (callCells x)[j]? = some u → wr.cell? ⟨b1, o1 + k * 5 + j, none⟩ = some u := fun j u hu => by rw [(bl_cell hbl).1 _ _ (by omega)]; exact H1.out k x hx j u hu
          have c2 : ∀ j u, (callCells y)[j]? = some u → wr.cell? ⟨b2, o2 + k * 5 + j, none⟩ = some u := fun j u hu => by rw [(bl_cell hbl).1 _ _ (by omega)]; exact H2.out k y hy j u hu
          have d10 : wr.cell? ⟨b1, o1 + k * 5, none⟩ = some (.int .i64 x.stop) := c1 0 _ rfl
          have d11 := c1 1 _ rfl
          have d12 := c1 2 _ rfl
          have d13 := c1 3 _ rfl
          have d14 := c1 4 _ rfl
          have d20 : wr.cell? ⟨b2, o2 + k * 5, none⟩ = some (.int .i64 y.stop) := c2 0 _ rfl
          have d21 := c2 1 _ rfl
          have d22 := c2 2 _ rfl
          have d23 := c2 3 _ rfl
          have d24 := c2 4 _ rfl
          have i1 : (k : Int) < (xs.length : Int) := by omega
          have i2 : (k : Int) < (ys.length : Int) := by omega
          have i3 : b1 < wr.heap.size := by omega
          have i4 : b2 < wr.heap.size := by omega
          clear c1 c2
          by_cases hxy : x = y
          · subst hxy
            have HN := Lib.hid (show xs.take (k + 1) = ys.take (k + 1) by
              obtain ⟨p1, p2⟩ := List.getElem?_eq_some_iff.1 hx
              obtain ⟨p3, p4⟩ := List.getElem?_eq_some_iff.1 hy
              rw [List.take_succ_eq_append_getElem p1, List.take_succ_eq_append_getElem p3, p2, p4, HK.out])
            have hq := eqCall x x
            rw [decide_eq_true rfl] at hq
            clear hx hy
            go_wp2_with fail
            go_quiet (fail)
            go_wp2
            go_roundw
            case rel => exact ⟨k + 1, by omega, by go_num, HN, bl_drewN hbl _⟩
            case measure => simp [intOf]; omega
          · have HF := Lib.hid (show r = false by
              rw [← H.out]
              refine decide_eq_false fun h => hxy ?_
              rw [h, hy] at hx
              exact (Option.some.inj hx).symm)
            clear hx hy
            have hq := eqCall x y
            rw [decide_eq_false hxy] at hq
            go_wp2_with fail
            go_quiet (fail)
            go_wp2
            go_ret
            exact ⟨ret_bool HF.out.symm, bl_drewN hbl _⟩
        · have HF := Lib.hid (show r = true by
            rw [← H.out]
            refine decide_eq_true ?_
            have := HK.out
            rw [List.take_of_length_le (by omega), List.take_of_length_le (by omega)] at this
            exact this)
          go_wp2
          go_ret
          exact ⟨ret_bool HF.out.symm, hbl⟩
  · have HF := Lib.hid (show r = false by rw [← H.out]; exact decide_eq_false fun h => hlen (by rw [h]))
    have q0 : ((xs.length : Int) != (ys.length : Int)) = true := by rw [bne_iff_ne]; omega
    obtain ⟨a1, c1, rfl, -⟩ := ha
    obtain ⟨a2, c2, rfl, -⟩ := hb
    go_enter Tryd.func48, Tryd.ntmps48
    go_wp2
    go_ret
    exact ⟨ret_bool HF.out.symm, bl_refl _⟩
end Go.Proofs.YthdadalmgldppaaDoor
