/-
  THE CONTRACTS OF MESSAGE, THIRD PART: lists of calls: their check and their comparison, in the program and in the reference. Conditions: those of each contract.
-/
import Derived.Test.YthdadalmgldppaaDoorMsgWalksB
namespace Go.Proofs.YthdadalmgldppaaDoor
open Go.RowKit
open Msg

theorem calls_step {stops lo hi : Int} {cs : List CallD} {k : Nat} {x : CallD} (hx : cs[k]? = some x) (h : callErr stops lo hi (prevOf cs k) x = 0) :
    callsF stops lo hi (prevOf cs k) (cs.drop k) = callsF stops lo hi (prevOf cs (k + 1)) (cs.drop (k + 1)) := by
  obtain ⟨hk, rfl⟩ := List.getElem?_eq_some_iff.1 hx
  rw [List.drop_eq_getElem_cons hk, prevOf_succ hx]
  show (if callErr stops lo hi (prevOf cs k) cs[k] = 0 then callsF stops lo hi (some cs[k]) (cs.drop (k + 1)) else _) = _
  rw [if_pos h]
theorem calls_stop {stops lo hi : Int} {cs : List CallD} {k : Nat} {x : CallD} (hx : cs[k]? = some x) (h : ¬ callErr stops lo hi (prevOf cs k) x = 0) :
    callsF stops lo hi (prevOf cs k) (cs.drop k) = callErr stops lo hi (prevOf cs k) x := by
  obtain ⟨hk, rfl⟩ := List.getElem?_eq_some_iff.1 hx
  rw [List.drop_eq_getElem_cons hk]
  show (if callErr stops lo hi (prevOf cs k) cs[k] = 0 then _ else callErr stops lo hi (prevOf cs k) cs[k]) = _
  rw [if_neg h]
set_option maxRecDepth 20000 in
set_option maxHeartbeats 4000000 in
theorem calls_c (v : Value) (cs : List CallD) (stops lo hi e : Int) (H : Hid (callsErr stops lo hi cs = e)) (B : Nat) (w : World) (hv : CallsIn B w v cs) (hB : B ≤ w.heap.size) :
    Calls Tryd.prog 52 #[v, .int .i64 stops, .int .i64 lo, .int .i64 hi] w fun r w' => (∃ i : Int, r = .returned (.tuple #[.int .i64 i, .int .i64 e])) ∧ Bl w w' := by
  by_cases hbad : cs.length < 2 ∨ 32 < cs.length
  · have HF := Lib.hid (show (5 : Int) = e by rw [← H.out]; unfold callsErr; rw [if_pos hbad])
    have f0 := HF.out
    clear H HF
    subst f0
    rcases Nat.eq_zero_or_pos cs.length with h0 | h0
    · obtain ⟨a1, c1, rfl, m1, rfl⟩ := hv.empty h0
      go_enter Tryd.func52, Tryd.ntmps52
      go_wp2
      go_ret2
      exact ⟨⟨0, rfl⟩, bl_refl _⟩
    · obtain ⟨b, o, cap, rfl, l1, l2, l3, hc⟩ := hv.open h0
      clear hc hv
      rcases hbad with h | h
      all_goals
        go_enter Tryd.func52, Tryd.ntmps52
        go_wp2
        go_ret2
        exact ⟨⟨0, rfl⟩, bl_refl _⟩
  have HV := Lib.hid hv
  obtain ⟨b, o, cap, rfl, l1, l2, l3, hc⟩ := hv.open (by omega)
  have n1 : 2 ≤ cs.length := by omega
  have n2 : cs.length ≤ 32 := by omega
  have HS := Lib.hid (show callsF stops lo hi (prevOf cs 0) (cs.drop 0) = e by rw [← H.out]; unfold callsErr; rw [if_neg hbad]; rfl)
  clear hc hv H hbad
  go_enter Tryd.func52, Tryd.ntmps52
  go_wp2
  go_loopw [22] (fun i wr => ∃ k : Nat, k ≤ cs.length ∧ i = .int .i64 k ∧ Hid (callsF stops lo hi (prevOf cs k) (cs.drop k) = e) ∧ Bl w wr) (fun i _ => cs.length - (intOf i).toNat)
  case atStart => exact ⟨0, Nat.zero_le _, rfl, HS, bl_refl _⟩
  case round =>
    obtain ⟨k, hk, rfl, HK, hb⟩ := hrel
    by_cases hlt : k < cs.length
    · have hx : cs[k]? = some (cs[k]'hlt) := List.getElem?_eq_getElem hlt
      obtain ⟨ce, hce⟩ : ∃ ce, callErr stops lo hi (prevOf cs k) (cs[k]'hlt) = ce := ⟨_, rfl⟩
      have HC := Lib.hid hce
      have hkI : (k : Int) < (cs.length : Int) := by omega
      have hone := one_call _ cs k hlt stops lo hi ce HC B wr (HV.out.below (hb.mono hB)) (Nat.le_trans hB hb.size)
      by_cases h0 : ce = 0
      · have HN := Lib.hid (show callsF stops lo hi (prevOf cs (k + 1)) (cs.drop (k + 1)) = e by rw [← calls_step hx (by rw [hce, h0])]; exact HK.out)
        subst h0
        clear hce hx
        go_wp2_with (go_at_call 76; refine hone.mono ?_)
        rintro r w1 ⟨rfl, b1⟩
        have B1 := bl_next hb b1
        go_wp2
        go_roundw
        case rel => exact ⟨k + 1, by omega, by go_num, HN, B1⟩
        case measure => simp [intOf]; omega
      · have HF := Lib.hid (show ce = e by rw [← hce, ← calls_stop hx (by rw [hce]; exact h0)]; exact HK.out)
        have g0 : (ce != 0) = true := by rw [bne_iff_ne]; exact h0
        clear hce hx
        go_wp2_with (go_at_call 76; refine hone.mono ?_)
        rintro r w1 ⟨rfl, b1⟩
        have B1 := bl_next hb b1
        go_wp2
        go_ret2
        exact ⟨⟨k, by rw [← HF.out]; rfl⟩, B1⟩
    · have HF := Lib.hid (show (0 : Int) = e by rw [← HK.out, List.drop_eq_nil_of_le (by omega)]; rfl)
      have f0 := HF.out
      clear HF HK
      subst f0
      go_wp2
      go_ret2
      exact ⟨⟨0, rfl⟩, hb⟩
set_option maxRecDepth 20000 in
set_option maxHeartbeats 8000000 in
theorem rcalls_c (v : Value) (cs : List CallD) (stops lo hi e : Int) (H : Hid (callsErr stops lo hi cs = e)) (B : Nat) (w : World) (hv : CallsIn B w v cs) (hB : B ≤ w.heap.size) :
    Calls Tryd.prog 29 #[v, .int .i64 stops, .int .i64 lo, .int .i64 hi] w fun r w' => (∃ i : Int, r = .returned (.tuple #[.int .i64 i, .int .i64 e])) ∧ Bl w w' := by
  by_cases hbad : cs.length < 2 ∨ 32 < cs.length
  · have HF := Lib.hid (show (5 : Int) = e by rw [← H.out]; unfold callsErr; rw [if_pos hbad])
    have f0 := HF.out
    clear H HF
    subst f0
    rcases Nat.eq_zero_or_pos cs.length with h0 | h0
    · obtain ⟨a1, c1, rfl, m1, rfl⟩ := hv.empty h0
      go_enter Tryd.func29, Tryd.ntmps29
      go_wp2
      go_ret2
      exact ⟨⟨0, rfl⟩, bl_refl _⟩
    · obtain ⟨b, o, cap, rfl, l1, l2, l3, hc⟩ := hv.open h0
      clear hc hv
      rcases hbad with h | h
      all_goals
        go_enter Tryd.func29, Tryd.ntmps29
        go_wp2
        go_ret2
        exact ⟨⟨0, rfl⟩, bl_refl _⟩
  have HV := Lib.hid hv
  obtain ⟨b, o, cap, rfl, l1, l2, l3, hc⟩ := hv.open (by omega)
  have n1 : 2 ≤ cs.length := by omega
  have n2 : cs.length ≤ 32 := by omega
  have H1 := Lib.hid hc
  have HS := Lib.hid (show callsF stops lo hi (prevOf cs 0) (cs.drop 0) = e by rw [← H.out]; unfold callsErr; rw [if_neg hbad]; rfl)
  clear hc hv H hbad
  go_enter Tryd.func29, Tryd.ntmps29
  go_wp2
  go_loopw [10] (fun i wr => ∃ k : Nat, k ≤ cs.length ∧ i = .int .i64 k ∧ Hid (callsF stops lo hi (prevOf cs k) (cs.drop k) = e) ∧ Bl w wr) (fun i _ => cs.length - (intOf i).toNat)
  case atStart => exact ⟨0, Nat.zero_le _, rfl, HS, bl_refl _⟩
  case round =>
    obtain ⟨k, hk, rfl, HK, hb⟩ := hrel
    by_cases hlt : k < cs.length
    · obtain ⟨x, hx⟩ : ∃ x, cs[k]? = some x := ⟨_, List.getElem?_eq_getElem hlt⟩
      have hbz := hb.size
      have hbw : b < wr.heap.size := by omega
      have hc0 : ∀ (j : Nat) (u : Value), (callCells x)[j]? = some u → wr.cell? ⟨b, o + k * 5 + j, none⟩ = some u := fun j u hu => by rw [(bl_cell hb).1 _ _ (by omega)]; exact H1.out k x hx j u hu
      have g0 : wr.cell? ⟨b, o + k * 5, none⟩ = some (.int .i64 x.stop) := hc0 0 _ rfl
      have g1 := hc0 1 _ rfl
      have g2 := hc0 2 _ rfl
      have g3 := hc0 3 _ rfl
      have g4 := hc0 4 _ rfl
      have iI : (k : Int) < (cs.length : Int) := by omega
      clear hc0
      by_cases h1 : x.stop < 0 ∨ stops ≤ x.stop
      · have HF := Lib.hid (show (9 : Int) = e by rw [← HK.out, calls_stop hx (by rw [err_ref h1]; decide), err_ref h1])
        clear hx
        rcases h1 with h | h
        all_goals
          go_wp2
          all_goals
            go_ret2
            exact ⟨⟨k, by rw [← HF.out]; rfl⟩, bl_alloc hb _⟩
      have s1 : ¬ x.stop < 0 := fun h => h1 (.inl h)
      have s2 : ¬ stops ≤ x.stop := fun h => h1 (.inr h)
      by_cases hz : 0 < k
      · obtain ⟨j, hj⟩ : ∃ j, k = j + 1 := ⟨k - 1, by omega⟩
        obtain ⟨p, hp⟩ : ∃ p, cs[j]? = some p := ⟨_, List.getElem?_eq_getElem (by omega)⟩
        have hc1 : ∀ (i : Nat) (u : Value), (callCells p)[i]? = some u → wr.cell? ⟨b, o + j * 5 + i, none⟩ = some u := fun i u hu => by rw [(bl_cell hb).1 _ _ (by omega)]; exact H1.out j p hp i u hu
        have k0 : wr.cell? ⟨b, o + j * 5, none⟩ = some (.int .i64 p.stop) := hc1 0 _ rfl
        have k2 := hc1 2 _ rfl
        have jI : ((k : Int) - 1) = (j : Int) := by omega
        have jL : (j : Int) < (cs.length : Int) := by omega
        have jW : IntKind.i64.wrap (j : Int) = (j : Int) := IntWalk.i64_in _ (by omega)
        have hpv : prevOf cs k = some p := by rw [hj]; exact prevOf_succ hp
        clear hc1 hp hj
        by_cases h2 : p.stop = x.stop
        · have HF := Lib.hid (show (13 : Int) = e by rw [← HK.out, calls_stop hx (by rw [hpv, err_stop h1 h2]; decide), hpv, err_stop h1 h2])
          have h2' : (p.stop == x.stop) = true := by rw [beq_iff_eq]; exact h2
          clear hx hpv
          go_wp2_with fail
          go_quiet (fail)
          go_wp2
          go_ret2
          exact ⟨⟨k, by rw [← HF.out]; rfl⟩, bl_drewN (bl_alloc hb _) _⟩
        · have h2' : (p.stop == x.stop) = false := by rw [beq_eq_false_iff_ne]; exact h2
          have HX := Lib.hid hx
          have HP := Lib.hid hpv
          clear hx hpv
          go_wp2_with fail
          go_quiet (fail)
          go_wp2_with fail
          generalize hw1 : (wr.alloc (Obj.cells #[.int .i64 x.stop, .int .i64 x.arrive, .int .i64 x.depart, .bool x.board, .bool x.alight] 46)).drewN nq = w1
          have B1 : Bl w w1 := by rw [← hw1]; exact bl_drewN (bl_alloc hb _) _
          have z0 : w1.cell? ⟨wr.heap.size, 0, none⟩ = some (.int .i64 x.stop) := by rw [← hw1]; simp
          have z1 : w1.cell? ⟨wr.heap.size, 1, none⟩ = some (.int .i64 x.arrive) := by rw [← hw1]; simp
          have z2 : w1.cell? ⟨wr.heap.size, 2, none⟩ = some (.int .i64 x.depart) := by rw [← hw1]; simp
          have y2 : w1.cell? ⟨b, o + j * 5 + 2, none⟩ = some (.int .i64 p.depart) := by rw [(bl_cell (show Bl wr w1 by rw [← hw1]; exact bl_drewN (bl_alloc (bl_refl _) _) _)).1 _ _ hbw]; exact k2
          clear hw1 k0 k2 g0 g1 g2 g3 g4
          by_cases t1 : x.arrive < lo
          · have HF := Lib.hid (show (10 : Int) = e by rw [← HK.out, calls_stop HX.out (by rw [HP.out, err_time1 h1 h2 (.inl t1)]; decide), HP.out, err_time1 h1 h2 (.inl t1)])
            go_quiet (fail)
            go_wp2
            go_ret2
            exact ⟨⟨k, by rw [← HF.out]; rfl⟩, bl_drewN B1 _⟩
          by_cases t2 : x.depart < x.arrive
          · have HF := Lib.hid (show (10 : Int) = e by rw [← HK.out, calls_stop HX.out (by rw [HP.out, err_time1 h1 h2 (.inr (.inl t2))]; decide), HP.out, err_time1 h1 h2 (.inr (.inl t2))])
            go_quiet (fail)
            go_wp2
            go_ret2
            exact ⟨⟨k, by rw [← HF.out]; rfl⟩, bl_drewN B1 _⟩
          by_cases t3 : hi < x.depart
          · have HF := Lib.hid (show (10 : Int) = e by rw [← HK.out, calls_stop HX.out (by rw [HP.out, err_time1 h1 h2 (.inr (.inr (.inl t3)))]; decide), HP.out, err_time1 h1 h2 (.inr (.inr (.inl t3)))])
            go_quiet (fail)
            go_wp2
            go_ret2
            exact ⟨⟨k, by rw [← HF.out]; rfl⟩, bl_drewN B1 _⟩
          by_cases t4 : x.arrive < p.depart
          · have HF := Lib.hid (show (10 : Int) = e by rw [← HK.out, calls_stop HX.out (by rw [HP.out, err_time1 h1 h2 (.inr (.inr (.inr t4)))]; decide), HP.out, err_time1 h1 h2 (.inr (.inr (.inr t4)))])
            go_quiet (fail)
            go_wp2
            go_ret2
            exact ⟨⟨k, by rw [← HF.out]; rfl⟩, bl_drewN B1 _⟩
          · have HN := Lib.hid (show callsF stops lo hi (prevOf cs (k + 1)) (cs.drop (k + 1)) = e by rw [← calls_step HX.out (by rw [HP.out]; exact err_ok1 h1 h2 (by omega))]; exact HK.out)
            go_quiet (fail)
            go_wp2
            go_roundw
            case rel => exact ⟨k + 1, by omega, by go_num, HN, bl_drewN B1 _⟩
            case measure => simp [intOf]; omega
      · have HX := Lib.hid hx
        have HP := Lib.hid (show prevOf cs k = none by unfold prevOf; rw [if_pos (by omega)])
        clear hx
        go_wp2_with fail
        go_quiet (fail)
        go_wp2_with fail
        generalize hw1 : (wr.alloc (Obj.cells #[.int .i64 x.stop, .int .i64 x.arrive, .int .i64 x.depart, .bool x.board, .bool x.alight] 46)).drewN nq = w1
        have B1 : Bl w w1 := by rw [← hw1]; exact bl_drewN (bl_alloc hb _) _
        have z0 : w1.cell? ⟨wr.heap.size, 0, none⟩ = some (.int .i64 x.stop) := by rw [← hw1]; simp
        have z1 : w1.cell? ⟨wr.heap.size, 1, none⟩ = some (.int .i64 x.arrive) := by rw [← hw1]; simp
        have z2 : w1.cell? ⟨wr.heap.size, 2, none⟩ = some (.int .i64 x.depart) := by rw [← hw1]; simp
        clear hw1 g0 g1 g2 g3 g4
        by_cases t1 : x.arrive < lo
        · have HF := Lib.hid (show (10 : Int) = e by rw [← HK.out, calls_stop HX.out (by rw [HP.out, err_time0 h1 (.inl t1)]; decide), HP.out, err_time0 h1 (.inl t1)])
          go_quiet (fail)
          go_wp2
          go_ret2
          exact ⟨⟨k, by rw [← HF.out]; rfl⟩, bl_drewN B1 _⟩
        by_cases t2 : x.depart < x.arrive
        · have HF := Lib.hid (show (10 : Int) = e by rw [← HK.out, calls_stop HX.out (by rw [HP.out, err_time0 h1 (.inr (.inl t2))]; decide), HP.out, err_time0 h1 (.inr (.inl t2))])
          go_quiet (fail)
          go_wp2
          go_ret2
          exact ⟨⟨k, by rw [← HF.out]; rfl⟩, bl_drewN B1 _⟩
        by_cases t3 : hi < x.depart
        · have HF := Lib.hid (show (10 : Int) = e by rw [← HK.out, calls_stop HX.out (by rw [HP.out, err_time0 h1 (.inr (.inr t3))]; decide), HP.out, err_time0 h1 (.inr (.inr t3))])
          go_quiet (fail)
          go_wp2
          go_ret2
          exact ⟨⟨k, by rw [← HF.out]; rfl⟩, bl_drewN B1 _⟩
        · have HN := Lib.hid (show callsF stops lo hi (prevOf cs (k + 1)) (cs.drop (k + 1)) = e by rw [← calls_step HX.out (by rw [HP.out]; exact err_ok0 h1 (by omega))]; exact HK.out)
          go_quiet (fail)
          go_wp2
          go_roundw
          case rel => exact ⟨k + 1, by omega, by go_num, HN, bl_drewN B1 _⟩
          case measure => simp [intOf]; omega
    · have HF := Lib.hid (show (0 : Int) = e by rw [← HK.out, List.drop_eq_nil_of_le (by omega)]; rfl)
      have f0 := HF.out
      clear HF HK
      subst f0
      go_wp2
      go_ret2
      exact ⟨⟨0, rfl⟩, hb⟩
end Go.Proofs.YthdadalmgldppaaDoor
