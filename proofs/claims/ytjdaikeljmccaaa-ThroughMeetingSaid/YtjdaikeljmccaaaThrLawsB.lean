/-
  THE LAWS OF THROUGH SERVICES, SECOND PART: Meeting, Prefix. Conditions: those of each contract.
-/
import Derived.Test.YtjdaikeljmccaaaThrLawsA
namespace Go.Proofs.Ytjdaikeljmccaaa
open Go.RowKit
open Frq Thr

theorem alightP_of {stop : Int} {k : Nat} {x : CallD} (h : alightP stop k x = true) : 0 < k ∧ x.stop = stop ∧ x.alight = true := by
  unfold alightP at h
  simpa using h
theorem boardP_of {n : Nat} {stop : Int} {k : Nat} {x : CallD} (h : boardP n stop k x = true) : k + 1 < n ∧ x.stop = stop ∧ x.board = true := by
  unfold boardP at h
  simpa using h
set_option maxRecDepth 100000 in
set_option maxHeartbeats 8000000 in
theorem meeting_law (va vb : Value) (a b : List CallD) (stop : Int) (B : Nat) (w : World) (ha : CallsIn B w va a) (hb : CallsIn B w vb b) (hB : B ≤ w.heap.size) :
    Calls Try.prog 8 #[va, vb, .int .i64 stop] w fun e w' => e = .returned (.bool true) ∧ Bl w w' := by
  have HA := Lib.hid ha
  have HB := Lib.hid hb
  obtain ⟨aa, capa, rfl, la1, la2⟩ := ha.val
  obtain ⟨ab, capb, rfl, lb1, lb2⟩ := hb.val
  obtain ⟨m, hm⟩ : ∃ m, meetsS a b stop = m := ⟨_, rfl⟩
  obtain ⟨m1, m2, m3⟩ := m
  have HM := Lib.hid hm
  clear ha hb
  by_cases h : 100 < a.length
  · clear hm
    go_enter Try.func8, Try.ntmps8
    go_wp2_with fail
    refine (example_c _).mono ?_
    rintro e w1 ⟨rfl, b1⟩
    go_wp2
    go_ret
    exact ⟨rfl, b1⟩
  by_cases h' : 100 < b.length
  · clear hm
    go_enter Try.func8, Try.ntmps8
    go_wp2_with fail
    refine (example_c _).mono ?_
    rintro e w1 ⟨rfl, b1⟩
    go_wp2
    go_ret
    exact ⟨rfl, b1⟩
  have ha100 : a.length ≤ 100 := by omega
  have hb100 : b.length ≤ 100 := by omega
  clear h h'
  rcases meetsS_inv hm with hno | ⟨i, k, x, y, hyes, h1, h2, hx, hy, hle⟩
  · simp only [Prod.mk.injEq] at hno
    obtain ⟨rfl, rfl, rfl⟩ := hno
    clear hm
    go_enter Try.func8, Try.ntmps8
    go_wp2_with fail
    refine (meets_c _ _ a b stop 0 0 false HM B w HA.out HB.out hB).mono ?_
    rintro e w1 ⟨rfl, b1⟩
    go_wp2_with fail
    refine (example_c _).mono ?_
    rintro e w2 ⟨rfl, b2⟩
    go_wp2
    go_ret
    exact ⟨rfl, bl_next b1 b2⟩
  · simp only [Prod.mk.injEq] at hyes
    obtain ⟨rfl, rfl, rfl⟩ := hyes
    obtain ⟨x', hx', hp, hbefore⟩ := findI_of h1
    obtain rfl : x = x' := by rw [hx] at hx'; exact Option.some.inj hx'
    obtain ⟨y', hy', hq, hbeforeb⟩ := findI_of h2
    obtain rfl : y = y' := by rw [hy] at hy'; exact Option.some.inj hy'
    obtain ⟨p1, p2, p3⟩ := alightP_of hp
    obtain ⟨q1, q2, q3⟩ := boardP_of hq
    have hil := (List.getElem?_eq_some_iff.1 hx).1
    have HBA := Lib.hid hbefore
    have HBB := Lib.hid hbeforeb
    have HX := Lib.hid hx
    have HY := Lib.hid hy
    have HXS := Lib.hid p2
    have HXA := Lib.hid p3
    have HYS := Lib.hid q2
    have HYB := Lib.hid q3
    have i1 : (1 : Int) ≤ (i : Int) := by omega
    have i2 : (i : Int) < (a.length : Int) := by omega
    have k1 : (k : Int) + 1 < (b.length : Int) := by omega
    have qle : decide (y.depart < x.arrive) = false := decide_eq_false (by omega)
    have qst : (stop != stop) = false := by simp
    clear hm h1 h2 hx' hy' hp hq hbefore hbeforeb p2 p3 q2 q3 hx hy hle
    go_enter Try.func8, Try.ntmps8
    go_wp2_with fail
    refine (meets_c _ _ a b stop i k true HM B w HA.out HB.out hB).mono ?_
    rintro e w1 ⟨rfl, b1⟩
    obtain ⟨ba, oa, x', rfl, hba, hx', hca⟩ := HA.out.get hil b1 hB
    obtain rfl : x = x' := by have := HX.out; rw [this] at hx'; exact Option.some.inj hx'
    obtain ⟨bb, ob, y', rfl, hbb, hy', hcb⟩ := HB.out.get (k := k) (by omega) b1 hB
    obtain rfl : y = y' := by have := HY.out; rw [this] at hy'; exact Option.some.inj hy'
    have c0 : w1.cell? ⟨ba, oa + i * 5, none⟩ = some (.int .i64 stop) := by rw [← HXS.out]; exact hca 0 _ rfl
    have c1 := hca 1 _ rfl
    have c4 : w1.cell? ⟨ba, oa + i * 5 + 4, none⟩ = some (.bool true) := by rw [← HXA.out]; exact hca 4 _ rfl
    have d0 : w1.cell? ⟨bb, ob + k * 5, none⟩ = some (.int .i64 stop) := by rw [← HYS.out]; exact hcb 0 _ rfl
    have d2 := hcb 2 _ rfl
    have d3 : w1.cell? ⟨bb, ob + k * 5 + 3, none⟩ = some (.bool true) := by rw [← HYB.out]; exact hcb 3 _ rfl
    have B1 := Lib.hid b1
    have z1 := b1.size
    have k2 : (k : Int) < (b.length : Int) := by omega
    have e1 : IntKind.i64.wrap ((k : Int) + 1) = (k : Int) + 1 := by rw [IntWalk.i64_in _ (by omega)]
    have t1 : decide ((i : Int) < 1) = false := decide_eq_false (by omega)
    have t2 : decide ((a.length : Int) ≤ (i : Int)) = false := decide_eq_false (by omega)
    have t3 : decide ((b.length : Int) ≤ (k : Int) + 1) = false := decide_eq_false (by omega)
    clear hx' hy' hca hcb b1
    go_wp2_with fail
    go_quiet (fail)
    generalize hwz : w1.drewN _ = wz
    have bz : Bl w1 wz := by rw [← hwz]; exact bl_drewN (bl_refl _) _
    have HBZ : Hid (Bl w wz) := bl_next B1.out bz
    have HZ := Lib.hid bz
    clear hwz bz c0 c1 c4 d0 d2 d3 e1 t1 t2 t3 qle qst
    go_wp2_with fail
    go_loopw [10] (fun s wr => ∃ j : Nat, (1 ≤ j ∧ j ≤ i) ∧ s = .int .i64 j ∧ Bl wz wr) (fun s _ => i - (intOf s).toNat)
    case atStart => exact ⟨1, ⟨by omega, by omega⟩, rfl, bl_refl _⟩
    case round =>
      obtain ⟨j, ⟨hj1, hj2⟩, rfl, hbl⟩ := hrel
      have HBR : Hid (Bl w wr) := bl_next HBZ.out hbl
      by_cases hji : j < i
      · obtain ⟨ba2, oa2, z, hal, hbs2, hz, hcz⟩ := HA.out.get (k := j) (by omega) HBR.out hB
        simp only [Option.some.injEq, Addr.mk.injEq] at hal
        obtain ⟨rfl, rfl, -⟩ := hal
        have hno := HBA.out j z hji hz
        have g0 : wr.cell? ⟨ba, oa + j * 5, none⟩ = some (.int .i64 z.stop) := hcz 0 _ rfl
        have g4 := hcz 4 _ rfl
        have jI : (j : Int) < (a.length : Int) := by omega
        have jI2 : (j : Int) < (i : Int) := by omega
        clear hz hcz
        by_cases h1 : z.stop = stop
        · have q1 : (z.stop == stop) = true := by rw [beq_iff_eq]; exact h1
          have hal : z.alight = false := by
            unfold alightP at hno
            simp only [show decide (0 < j) = true from decide_eq_true (by omega), q1, Bool.true_and] at hno
            exact hno
          rw [hal] at g4
          clear hno hal h1
          go_wp2
          go_roundw
          case rel => exact ⟨j + 1, ⟨by omega, by omega⟩, by go_num, hbl⟩
          case measure => simp [intOf]; omega
        · have q1 : (z.stop == stop) = false := by rw [beq_eq_false_iff_ne]; exact h1
          clear hno h1
          go_wp2
          go_roundw
          case rel => exact ⟨j + 1, ⟨by omega, by omega⟩, by go_num, hbl⟩
          case measure => simp [intOf]; omega
      · have HQ : Hid (Bl wz wr) := hbl
        go_wp2_with fail
        go_loopw [11] (fun s wq => ∃ j : Nat, j ≤ k ∧ s = .int .i64 j ∧ Bl wr wq) (fun s _ => k - (intOf s).toNat)
        case atStart => exact ⟨0, Nat.zero_le _, rfl, bl_refl _⟩
        case round =>
          rename World => wq
          obtain ⟨j2, hj3, rfl, hbq⟩ := hrel
          have HBQ : Hid (Bl w wq) := bl_next HBR.out hbq
          by_cases hjk : j2 < k
          · obtain ⟨bb2, ob2, z, hal, hbs2, hz, hcz⟩ := HB.out.get (k := j2) (by omega) HBQ.out hB
            simp only [Option.some.injEq, Addr.mk.injEq] at hal
            obtain ⟨rfl, rfl, -⟩ := hal
            have hno := HBB.out j2 z hjk hz
            have g0 : wq.cell? ⟨bb, ob + j2 * 5, none⟩ = some (.int .i64 z.stop) := hcz 0 _ rfl
            have g3 := hcz 3 _ rfl
            have jI : (j2 : Int) < (b.length : Int) := by omega
            have jI2 : (j2 : Int) < (k : Int) := by omega
            clear hz hcz
            by_cases h1 : z.stop = stop
            · have q1 : (z.stop == stop) = true := by rw [beq_iff_eq]; exact h1
              have hal : z.board = false := by
                unfold boardP at hno
                simp only [show decide (j2 + 1 < b.length) = true from decide_eq_true (by omega), q1, Bool.true_and] at hno
                exact hno
              rw [hal] at g3
              clear hno hal h1
              go_wp2
              go_roundw
              case rel => exact ⟨j2 + 1, by omega, by go_num, hbq⟩
              case measure => simp [intOf]; omega
            · have q1 : (z.stop == stop) = false := by rw [beq_eq_false_iff_ne]; exact h1
              clear hno h1
              go_wp2
              go_roundw
              case rel => exact ⟨j2 + 1, by omega, by go_num, hbq⟩
              case measure => simp [intOf]; omega
          · go_wp2_with fail
            refine (example_c _).mono ?_
            rintro e w2 ⟨rfl, b2⟩
            go_wp2
            go_ret
            exact ⟨rfl, bl_next HBQ.out b2⟩
end Go.Proofs.Ytjdaikeljmccaaa
