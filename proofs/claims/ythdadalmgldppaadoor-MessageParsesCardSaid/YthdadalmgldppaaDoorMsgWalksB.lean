/-
  THE CONTRACTS OF MESSAGE, SECOND PART: calls: their check and their comparison, in the program and in the reference. Conditions: those of each contract.
-/
import Derived.Test.YthdadalmgldppaaDoorMsgWalksA
import Derived.Test.YthdadalmgldppaaDoorMem
namespace Go.Proofs.YthdadalmgldppaaDoor
open Go.RowKit
open Msg

def callCells (c : CallD) : List Value := [.int .i64 c.stop, .int .i64 c.arrive, .int .i64 c.depart, .bool c.board, .bool c.alight]
theorem callCells_len (c : CallD) : (callCells c).length = 5 := rfl
/-- A slice of calls reads as a list. -/
abbrev CallsIn (B : Nat) (w : World) (v : Value) (cs : List CallD) : Prop := SlIn callCells 5 B w v cs
def prevOf (cs : List CallD) (i : Nat) : Option CallD := if i = 0 then none else cs[i - 1]?
theorem prevOf_zero (cs : List CallD) : prevOf cs 0 = none := rfl
theorem prevOf_succ {cs : List CallD} {i : Nat} {p : CallD} (h : cs[i]? = some p) : prevOf cs (i + 1) = some p := by
  unfold prevOf
  rw [if_neg (by omega)]
  exact h
theorem err_ref {stops lo hi : Int} {p : Option CallD} {c : CallD} (h : c.stop < 0 ∨ stops ≤ c.stop) : callErr stops lo hi p c = 9 := by unfold callErr; rw [if_pos h]
theorem err_stop {stops lo hi : Int} {p c : CallD} (h : ¬ (c.stop < 0 ∨ stops ≤ c.stop)) (h2 : p.stop = c.stop) : callErr stops lo hi (some p) c = 13 := by
  unfold callErr; rw [if_neg h]
  exact if_pos (congrArg some h2)
theorem no_stop {c : CallD} : ¬ ((none : Option CallD).map (·.stop)) = some c.stop := fun h => by cases h
theorem some_stop {p c : CallD} (h2 : ¬ p.stop = c.stop) : ¬ ((some p : Option CallD).map (·.stop)) = some c.stop := fun h => h2 (Option.some.inj h)
theorem early_some (p c : CallD) : Msg.early (some p) c = true ↔ c.arrive < p.depart := by unfold Msg.early; exact decide_eq_true_iff
theorem err_time0 {stops lo hi : Int} {c : CallD} (h : ¬ (c.stop < 0 ∨ stops ≤ c.stop)) (h3 : c.arrive < lo ∨ c.depart < c.arrive ∨ hi < c.depart) : callErr stops lo hi none c = 10 := by
  unfold callErr; rw [if_neg h, if_neg no_stop]
  exact if_pos (by rcases h3 with h | h | h <;> simp [h])
theorem err_ok0 {stops lo hi : Int} {c : CallD} (h : ¬ (c.stop < 0 ∨ stops ≤ c.stop)) (h3 : ¬ (c.arrive < lo ∨ c.depart < c.arrive ∨ hi < c.depart)) : callErr stops lo hi none c = 0 := by
  unfold callErr; rw [if_neg h, if_neg no_stop]
  refine if_neg fun hc => h3 ?_
  rcases hc with h | h | h | h
  · exact .inl h
  · exact .inr (.inl h)
  · exact .inr (.inr h)
  · cases h
theorem err_time1 {stops lo hi : Int} {p c : CallD} (h : ¬ (c.stop < 0 ∨ stops ≤ c.stop)) (h2 : ¬ p.stop = c.stop) (h3 : c.arrive < lo ∨ c.depart < c.arrive ∨ hi < c.depart ∨ c.arrive < p.depart) : callErr stops lo hi (some p) c = 10 := by
  unfold callErr; rw [if_neg h, if_neg (some_stop h2)]
  exact if_pos (by rw [early_some]; exact h3)
theorem err_ok1 {stops lo hi : Int} {p c : CallD} (h : ¬ (c.stop < 0 ∨ stops ≤ c.stop)) (h2 : ¬ p.stop = c.stop) (h3 : ¬ (c.arrive < lo ∨ c.depart < c.arrive ∨ hi < c.depart ∨ c.arrive < p.depart)) : callErr stops lo hi (some p) c = 0 := by
  unfold callErr; rw [if_neg h, if_neg (some_stop h2)]
  exact if_neg (by rw [early_some]; exact h3)
set_option maxRecDepth 20000 in
set_option maxHeartbeats 8000000 in
theorem one_call (v : Value) (cs : List CallD) (i : Nat) (hi : i < cs.length) (stops lo hi' e : Int) (H : Hid (callErr stops lo hi' (prevOf cs i) (cs[i]'hi) = e)) (B : Nat) (w : World) (hv : CallsIn B w v cs) (hB : B ≤ w.heap.size) :
    Calls Tryd.prog 76 #[v, .int .i64 i, .int .i64 stops, .int .i64 lo, .int .i64 hi'] w fun r w' => r = .returned (.int .i64 e) ∧ Bl w w' := by
  obtain ⟨b, o, cap, rfl, l1, l2, l3, hc⟩ := SlIn.open hv (by omega)
  obtain ⟨x, hx'⟩ : ∃ x, cs[i]'hi = x := ⟨_, rfl⟩
  have hx : cs[i]? = some x := by rw [List.getElem?_eq_getElem hi, hx']
  rw [hx'] at H
  have hc0 := hc i x hx
  have hbw : b < w.heap.size := by omega
  have g0 : w.cell? ⟨b, o + i * 5, none⟩ = some (.int .i64 x.stop) := hc0 0 _ rfl
  have g1 := hc0 1 _ rfl
  have g2 := hc0 2 _ rfl
  have g3 := hc0 3 _ rfl
  have g4 := hc0 4 _ rfl
  clear hc0
  have iI : (i : Int) < (cs.length : Int) := by omega
  by_cases h1 : x.stop < 0 ∨ stops ≤ x.stop
  · have HF := Lib.hid ((err_ref (lo := lo) (hi := hi') (p := prevOf cs i) h1).symm.trans H.out)
    have f0 := HF.out
    clear H HF hv hc hx hx'
    subst f0
    rcases h1 with h | h
    all_goals
      go_enter Tryd.func76, Tryd.ntmps76
      go_wp2
      all_goals
        go_ret
        exact ⟨rfl, bl_alloc (bl_refl _) _⟩
  have s1 : ¬ x.stop < 0 := fun h => h1 (.inl h)
  have s2 : ¬ stops ≤ x.stop := fun h => h1 (.inr h)
  by_cases hz : 0 < i
  · obtain ⟨j, hj⟩ : ∃ j, i = j + 1 := ⟨i - 1, by omega⟩
    have hjl : j < cs.length := by omega
    obtain ⟨p, hp⟩ : ∃ p, cs[j]? = some p := ⟨_, List.getElem?_eq_getElem hjl⟩
    have hc1 := hc j p hp
    have k0 : w.cell? ⟨b, o + j * 5, none⟩ = some (.int .i64 p.stop) := hc1 0 _ rfl
    have k1 := hc1 1 _ rfl
    have k2 := hc1 2 _ rfl
    have k3 := hc1 3 _ rfl
    have k4 := hc1 4 _ rfl
    have jI : ((i : Int) - 1) = (j : Int) := by omega
    have jL : (j : Int) < (cs.length : Int) := by omega
    have jW : IntKind.i64.wrap (j : Int) = (j : Int) := IntWalk.i64_in _ (by omega)
    rw [show prevOf cs i = some p by rw [hj]; exact prevOf_succ hp] at H
    clear hc hc1 hp hx hx' hv hj
    by_cases h2 : p.stop = x.stop
    · have HF := Lib.hid ((err_stop (lo := lo) (hi := hi') h1 h2).symm.trans H.out)
      have f0 := HF.out
      clear H HF
      subst f0
      have h2' : (p.stop == x.stop) = true := by rw [beq_iff_eq]; exact h2
      go_enter Tryd.func76, Tryd.ntmps76
      go_wp2_with fail
      go_quiet (fail)
      go_wp2
      go_ret
      exact ⟨rfl, (by first | exact bl_drewN (bl_drewN (bl_alloc (bl_refl _) _) _) _ | exact bl_drewN (bl_alloc (bl_refl _) _) _ | exact bl_alloc (bl_refl _) _)⟩
    · have h2' : (p.stop == x.stop) = false := by rw [beq_eq_false_iff_ne]; exact h2
      go_enter Tryd.func76, Tryd.ntmps76
      go_wp2_with fail
      go_quiet (fail)
      go_wp2_with fail
      generalize hw1 : (w.alloc (Obj.cells #[.int .i64 x.stop, .int .i64 x.arrive, .int .i64 x.depart, .bool x.board, .bool x.alight] 46)).drewN nq = w1
      have B1 : Bl w w1 := by rw [← hw1]; exact bl_drewN (bl_alloc (bl_refl _) _) _
      have z0 : w1.cell? ⟨w.heap.size, 0, none⟩ = some (.int .i64 x.stop) := by rw [← hw1]; simp
      have z1 : w1.cell? ⟨w.heap.size, 1, none⟩ = some (.int .i64 x.arrive) := by rw [← hw1]; simp
      have z2 : w1.cell? ⟨w.heap.size, 2, none⟩ = some (.int .i64 x.depart) := by rw [← hw1]; simp
      have y2 : w1.cell? ⟨b, o + j * 5 + 2, none⟩ = some (.int .i64 p.depart) := by rw [(bl_cell B1).1 _ _ hbw]; exact k2
      clear hw1 k0 k1 k2 k3 k4 g0 g1 g2 g3 g4
      by_cases t1 : x.arrive < lo
      · have HF := Lib.hid ((err_time1 h1 h2 (.inl t1)).symm.trans H.out)
        go_quiet (fail)
        go_wp2
        go_ret
        exact ⟨ret_int HF.out, bl_drewN B1 _⟩
      by_cases t2 : x.depart < x.arrive
      · have HF := Lib.hid ((err_time1 h1 h2 (.inr (.inl t2))).symm.trans H.out)
        go_quiet (fail)
        go_wp2
        go_ret
        exact ⟨ret_int HF.out, bl_drewN B1 _⟩
      by_cases t3 : hi' < x.depart
      · have HF := Lib.hid ((err_time1 h1 h2 (.inr (.inr (.inl t3)))).symm.trans H.out)
        go_quiet (fail)
        go_wp2
        go_ret
        exact ⟨ret_int HF.out, bl_drewN B1 _⟩
      by_cases t4 : x.arrive < p.depart
      · have HF := Lib.hid ((err_time1 h1 h2 (.inr (.inr (.inr t4)))).symm.trans H.out)
        go_quiet (fail)
        go_wp2
        go_ret
        exact ⟨ret_int HF.out, bl_drewN B1 _⟩
      · have HF := Lib.hid ((err_ok1 (lo := lo) (hi := hi') h1 h2 (by omega)).symm.trans H.out)
        go_quiet (fail)
        go_wp2
        go_ret
        exact ⟨ret_int HF.out, bl_drewN B1 _⟩
  · rw [show prevOf cs i = none by unfold prevOf; rw [if_pos (by omega)]] at H
    clear hc hx hx' hv
    go_enter Tryd.func76, Tryd.ntmps76
    go_wp2_with fail
    go_quiet (fail)
    go_wp2_with fail
    generalize hw1 : (w.alloc (Obj.cells #[.int .i64 x.stop, .int .i64 x.arrive, .int .i64 x.depart, .bool x.board, .bool x.alight] 46)).drewN nq = w1
    have B1 : Bl w w1 := by rw [← hw1]; exact bl_drewN (bl_alloc (bl_refl _) _) _
    have z0 : w1.cell? ⟨w.heap.size, 0, none⟩ = some (.int .i64 x.stop) := by rw [← hw1]; simp
    have z1 : w1.cell? ⟨w.heap.size, 1, none⟩ = some (.int .i64 x.arrive) := by rw [← hw1]; simp
    have z2 : w1.cell? ⟨w.heap.size, 2, none⟩ = some (.int .i64 x.depart) := by rw [← hw1]; simp
    clear hw1 g0 g1 g2 g3 g4
    by_cases t1 : x.arrive < lo
    · have HF := Lib.hid ((err_time0 h1 (.inl t1)).symm.trans H.out)
      go_quiet (fail)
      go_wp2
      go_ret
      exact ⟨ret_int HF.out, bl_drewN B1 _⟩
    by_cases t2 : x.depart < x.arrive
    · have HF := Lib.hid ((err_time0 h1 (.inr (.inl t2))).symm.trans H.out)
      go_quiet (fail)
      go_wp2
      go_ret
      exact ⟨ret_int HF.out, bl_drewN B1 _⟩
    by_cases t3 : hi' < x.depart
    · have HF := Lib.hid ((err_time0 h1 (.inr (.inr t3))).symm.trans H.out)
      go_quiet (fail)
      go_wp2
      go_ret
      exact ⟨ret_int HF.out, bl_drewN B1 _⟩
    · have HF := Lib.hid ((err_ok0 (lo := lo) (hi := hi') h1 (by omega)).symm.trans H.out)
      go_quiet (fail)
      go_wp2
      go_ret
      exact ⟨ret_int HF.out, bl_drewN B1 _⟩
end Go.Proofs.YthdadalmgldppaaDoor
