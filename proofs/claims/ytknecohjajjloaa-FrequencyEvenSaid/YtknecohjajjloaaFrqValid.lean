/-
  valid OF THE LAWS. Conditions: those of each contract.
-/
import Derived.Test.YtknecohjajjloaaFrqWalksH
namespace Go.Proofs.Ytknecohjajjloaa
open Go.RowKit
open Frq

def stepB (cs : List CallD) (k : Nat) : Bool := match cs[k]? with
  | none => true
  | some x => decide (x.arrive ≤ x.depart) && (match k with
    | 0 => true
    | j + 1 => match cs[j]? with
      | none => true
      | some y => decide (y.depart ≤ x.arrive))
def validT (cs : List CallD) : Bool := decide (2 ≤ cs.length) && ((match cs[0]? with | some x => decide (0 ≤ x.arrive) | none => true) && ((match cs[cs.length - 1]? with | some x => decide (x.depart ≤ 172800) | none => true) && (List.range cs.length).all (stepB cs)))
def validB (ts : List TripD) : Bool := ts.all fun t => validT t.calls
theorem range_step {p : Nat → Bool} {k : Nat} (h : (List.range k).all p = true) (h1 : p k = true) : (List.range (k + 1)).all p = true := by
  rw [List.range_succ, List.all_append, h]
  simp [h1]
theorem range_no {p : Nat → Bool} {k n : Nat} (hk : k < n) (h1 : p k = false) : (List.range n).all p = false := by
  cases h : (List.range n).all p with
  | false => rfl
  | true =>
    rw [List.all_eq_true] at h
    rw [h k (List.mem_range.2 hk)] at h1
    cases h1
theorem stepB_0 {cs : List CallD} {x : CallD} (h : cs[0]? = some x) : stepB cs 0 = decide (x.arrive ≤ x.depart) := by simp [stepB, h]
theorem stepB_s {cs : List CallD} {k : Nat} {x y : CallD} (h : cs[k + 1]? = some x) (h1 : cs[k]? = some y) : stepB cs (k + 1) = (decide (x.arrive ≤ x.depart) && decide (y.depart ≤ x.arrive)) := by simp [stepB, h, h1]
theorem stepB_no {cs : List CallD} {k : Nat} {x : CallD} (h : cs[k]? = some x) (h1 : x.depart < x.arrive) : stepB cs k = false := by
  cases k with
  | zero => rw [stepB_0 h]; exact decide_eq_false (by omega)
  | succ k => 
    have : k < cs.length := by have := (List.getElem?_eq_some_iff.1 h).1; omega
    rw [stepB_s h (List.getElem?_eq_getElem this), decide_eq_false (by omega)]
    rfl

set_option maxRecDepth 100000 in
set_option maxHeartbeats 8000000 in
theorem valid_c (v : Value) (ts : List TripD) (r : Bool) (H : Hid (validB ts = r)) (B : Nat) (w : World) (ha : TripsRd B w v ts) (hB : B ≤ w.heap.size) :
    Calls Try.prog 10 #[v] w fun e w' => e = .returned (.bool r) ∧ Bl w w' := by
  have HT := Lib.hid ha
  by_cases h0 : 0 < ts.length
  · obtain ⟨b1, o1, cap1, rfl, l1, m1, hb1, hc1⟩ := ha.sl.open h0
    have H1 := Lib.hid hc1
    clear ha hc1
    go_enter Try.func10, Try.ntmps10
    go_wp2
    go_loopw [3] (fun i wr => ∃ k : Nat, k ≤ ts.length ∧ i = .int .i64 k ∧ Hid ((ts.take k).all (fun t => validT t.calls) = true) ∧ Bl w wr) (fun i _ => ts.length - (intOf i).toNat)
    case atStart => exact ⟨0, Nat.zero_le _, rfl, rfl, bl_refl _⟩
    case round =>
      rename World => wo
      obtain ⟨k, hk, rfl, HA, hbl⟩ := hrel
      have hzw := hbl.size
      by_cases hlt : k < ts.length
      · obtain ⟨x, hx⟩ : ∃ x, ts[k]? = some x := ⟨_, List.getElem?_eq_getElem hlt⟩
        have HX := Lib.hid hx
        have hcx := (HT.out.ok x (List.mem_of_getElem? hx)).calls
        have HCX := Lib.hid hcx
        have HNO : Hid (validT x.calls = false → r = false) := fun hv => by rw [← H.out]; exact all_no HX.out hv
        by_cases h2 : x.calls.length < 2
        · obtain ⟨a, cap, hv, q1, q2, -⟩ := hcx
          have d4 : wo.cell? ⟨b1, o1 + k * 5 + 4, none⟩ = some (.slice a x.calls.length cap) := by rw [(bl_cell hbl).1 _ _ (by omega)]; exact H1.out k x hx 4 _ (by rw [← hv]; rfl)
          have HR := Lib.hid (HNO.out (by unfold validT; rw [decide_eq_false (by omega)]; rfl))
          have q40 : (x.calls.length : Int) < 2 := by omega
          clear hx
          go_wp2
          go_ret
          exact ⟨ret_bool HR.out.symm, hbl⟩
        · obtain ⟨b2, o2, cap2, hv, l2, m2, hb2, hc2⟩ := hcx.open (by omega)
          have d4 : wo.cell? ⟨b1, o1 + k * 5 + 4, none⟩ = some (.slice (some ⟨b2, o2, none⟩) x.calls.length cap2) := by rw [(bl_cell hbl).1 _ _ (by omega)]; exact H1.out k x hx 4 _ (by rw [← hv]; rfl)
          have H2 := Lib.hid hc2
          have q2 : 2 ≤ (x.calls.length : Int) := by omega
          obtain ⟨y0, hy0⟩ : ∃ y, x.calls[0]? = some y := ⟨_, List.getElem?_eq_getElem (by omega)⟩
          obtain ⟨yl, hyl⟩ : ∃ y, x.calls[x.calls.length - 1]? = some y := ⟨_, List.getElem?_eq_getElem (by omega)⟩
          have g0 : wo.cell? ⟨b2, o2 + 1, none⟩ = some (.int .i64 y0.arrive) := by rw [(bl_cell hbl).1 _ _ (by omega)]; have := hc2 0 y0 hy0 1 _ rfl; simpa using this
          have gl : wo.cell? ⟨b2, o2 + (x.calls.length - 1) * 5 + 2, none⟩ = some (.int .i64 yl.depart) := by rw [(bl_cell hbl).1 _ _ (by omega)]; exact hc2 _ yl hyl 2 _ rfl
          have HY0 := Lib.hid hy0
          have HYL := Lib.hid hyl
          have HVT : Hid (validT x.calls = (decide (0 ≤ y0.arrive) && (decide (yl.depart ≤ 172800) && (List.range x.calls.length).all (stepB x.calls)))) := by
            show _ = _
            unfold validT
            rw [decide_eq_true (by omega), hy0, hyl, Bool.true_and]
          clear hx hc2 hcx hy0 hyl
          have wl : IntKind.i64.wrap ((x.calls.length : Int) - 1) = (x.calls.length : Int) - 1 := IntWalk.i64_in _ (by omega)
          have ql : ((x.calls.length : Int) - 1).toNat = x.calls.length - 1 := by omega
          by_cases hA : y0.arrive < 0
          · have HR := Lib.hid (HNO.out (by rw [HVT.out, decide_eq_false (by omega)]; rfl))
            go_wp2
            go_ret
            exact ⟨ret_bool HR.out.symm, hbl⟩
          · have hA' : 0 ≤ y0.arrive := by omega
            by_cases hD : 172800 < yl.depart
            · have HR := Lib.hid (HNO.out (by rw [HVT.out, decide_eq_true hA', decide_eq_false (by omega)]; rfl))
              clear hA
              go_wp2
              go_ret
              exact ⟨ret_bool HR.out.symm, hbl⟩
            · have hD' : yl.depart ≤ 172800 := by omega
              clear hA hD
              go_wp2
              have hbw2 : b2 < wo.heap.size := by omega
              go_loopw [5] (fun i wr => ∃ j : Nat, j ≤ x.calls.length ∧ i = .int .i64 j ∧ Hid ((List.range j).all (stepB x.calls) = true) ∧ Bl w wr) (fun i _ => x.calls.length - (intOf i).toNat)
              case atStart => exact ⟨0, Nat.zero_le _, rfl, rfl, hbl⟩
              case round =>
                obtain ⟨j, hj, rfl, HS, hbq⟩ := hrel
                have hzq := hbq.size
                by_cases hjl : j < x.calls.length
                · obtain ⟨y, hy⟩ : ∃ y, x.calls[j]? = some y := ⟨_, List.getElem?_eq_getElem hjl⟩
                  have c1 : wr.cell? ⟨b2, o2 + j * 5 + 1, none⟩ = some (.int .i64 y.arrive) := by rw [(bl_cell hbq).1 _ _ (by omega)]; exact H2.out j y hy 1 _ rfl
                  have c2 : wr.cell? ⟨b2, o2 + j * 5 + 2, none⟩ = some (.int .i64 y.depart) := by rw [(bl_cell hbq).1 _ _ (by omega)]; exact H2.out j y hy 2 _ rfl
                  have i1 : (j : Int) < (x.calls.length : Int) := by omega
                  have HY := Lib.hid hy
                  have HBAD : Hid (stepB x.calls j = false → r = false) := fun hv => HNO.out (by rw [HVT.out, decide_eq_true hA', decide_eq_true hD', range_no hjl hv]; rfl)
                  clear hy
                  by_cases hE : y.depart < y.arrive
                  · have HR := Lib.hid (HBAD.out (stepB_no HY.out hE))
                    go_wp2_with fail
                    go_quiet (fail)
                    go_wp2
                    go_ret
                    exact ⟨ret_bool HR.out.symm, bl_drewN hbq _⟩
                  · have hE' : y.arrive ≤ y.depart := by omega
                    have hE2 : decide (y.depart < y.arrive) = false := decide_eq_false hE
                    clear hE
                    rcases Nat.eq_zero_or_pos j with rfl | hjp
                    · have HN := Lib.hid (range_step HS.out (by rw [stepB_0 HY.out]; exact decide_eq_true hE'))
                      go_wp2_with fail
                      go_quiet (fail)
                      go_wp2
                      go_roundw
                      case rel => exact ⟨0 + 1, by omega, by go_num, HN, bl_drewN hbq _⟩
                      case measure => simp [intOf]; omega
                    · obtain ⟨i, rfl⟩ : ∃ i, j = i + 1 := ⟨j - 1, by omega⟩
                      obtain ⟨z, hz⟩ : ∃ z, x.calls[i]? = some z := ⟨_, List.getElem?_eq_getElem (by omega)⟩
                      have c3 : wr.cell? ⟨b2, o2 + i * 5 + 2, none⟩ = some (.int .i64 z.depart) := by rw [(bl_cell hbq).1 _ _ (by omega)]; exact H2.out i z hz 2 _ rfl
                      have HZ := Lib.hid hz
                      have e1 : IntKind.i64.wrap (((i + 1 : Nat) : Int) - 1) = (i : Int) := by rw [IntWalk.i64_in _ (by omega)]; omega
                      have i2 : (i : Int) < (x.calls.length : Int) := by omega
                      clear hz
                      by_cases hP : y.arrive < z.depart
                      · have HR := Lib.hid (HBAD.out (by rw [stepB_s HY.out HZ.out, decide_eq_true hE', decide_eq_false (by omega)]; rfl))
                        go_wp2_with fail
                        go_quiet (fail)
                        go_wp2
                        go_ret
                        exact ⟨ret_bool HR.out.symm, bl_drewN hbq _⟩
                      · have hP' : z.depart ≤ y.arrive := by omega
                        have HN := Lib.hid (range_step HS.out (by rw [stepB_s HY.out HZ.out, decide_eq_true hE', decide_eq_true hP']; rfl))
                        clear hP
                        go_wp2_with fail
                        go_quiet (fail)
                        go_wp2
                        go_roundw
                        case rel => exact ⟨i + 1 + 1, by omega, by go_num, HN, bl_drewN hbq _⟩
                        case measure => simp [intOf]; omega
                · have HN := Lib.hid (all_take (p := fun t : TripD => validT t.calls) HX.out HA.out (by
                    have := HS.out
                    rw [show j = x.calls.length by omega] at this
                    show validT x.calls = true
                    rw [HVT.out, decide_eq_true hA', decide_eq_true hD', this]
                    rfl))
                  go_wp2
                  go_roundw
                  case rel => exact ⟨k + 1, by omega, by go_num, HN, hbq⟩
                  case measure => simp [intOf]; omega
      · have HR := Lib.hid (show r = true by
          have := HA.out
          rw [List.take_of_length_le (by omega)] at this
          rw [← H.out]; exact this)
        go_wp2
        go_ret
        exact ⟨ret_bool HR.out.symm, hbl⟩
  · obtain ⟨a1, c1, rfl, m1, rfl⟩ := ha.sl.empty (by omega)
    obtain rfl : r = true := H.out.symm
    go_enter Try.func10, Try.ntmps10
    go_wp2_with fail
    refine wp_loop_rounds 1 ?_
    rw [rounds_succ]
    go_wp2
    go_ret
    exact ⟨rfl, bl_refl _⟩
end Go.Proofs.Ytknecohjajjloaa
