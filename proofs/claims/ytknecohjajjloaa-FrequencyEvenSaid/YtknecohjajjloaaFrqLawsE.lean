/-
  THE LAWS OF FREQUENCY, FIFTH PART: FrequencyEven. Conditions: those of each contract.
-/
import Derived.Test.YtknecohjajjloaaFrqEven
import Derived.Test.YtknecohjajjloaaFrqLawsB
import Derived.Test.YtknecohjajjloaaFrqIter
namespace Go.Proofs.Ytknecohjajjloaa
open Go.RowKit
open Frq

abbrev FCells (w : World) (b : Nat) (f : FreqD) : Prop := w.cell? ⟨b, 0, none⟩ = some (.int .i64 f.trip) ∧ w.cell? ⟨b, 1, none⟩ = some (.int .i64 f.frm) ∧ w.cell? ⟨b, 2, none⟩ = some (.int .i64 f.to) ∧ w.cell? ⟨b, 3, none⟩ = some (.int .i64 f.every)
abbrev TCells (w : World) (b : Nat) (id : ByteArray) (rt cal : Int) (step : Bool) (v : Value) : Prop := w.cell? ⟨b, 0, none⟩ = some (.string id) ∧ w.cell? ⟨b, 1, none⟩ = some (.int .i64 rt) ∧ w.cell? ⟨b, 2, none⟩ = some (.int .i64 cal) ∧ w.cell? ⟨b, 3, none⟩ = some (.bool step) ∧ w.cell? ⟨b, 4, none⟩ = some v
theorem FCells.bl {w w' : World} {b : Nat} {f : FreqD} (h : FCells w b f) (hb : Bl w w') (hlt : b < w.heap.size) : FCells w' b f := by
  obtain ⟨h0, h1, h2, h3⟩ := h
  exact ⟨((bl_cell hb).1 _ _ hlt).trans h0, ((bl_cell hb).1 _ _ hlt).trans h1, ((bl_cell hb).1 _ _ hlt).trans h2, ((bl_cell hb).1 _ _ hlt).trans h3⟩
theorem TCells.bl {w w' : World} {b : Nat} {id : ByteArray} {rt cal : Int} {step : Bool} {v : Value} (h : TCells w b id rt cal step v) (hb : Bl w w') (hlt : b < w.heap.size) : TCells w' b id rt cal step v := by
  obtain ⟨h0, h1, h2, h3, h4⟩ := h
  exact ⟨((bl_cell hb).1 _ _ hlt).trans h0, ((bl_cell hb).1 _ _ hlt).trans h1, ((bl_cell hb).1 _ _ hlt).trans h2, ((bl_cell hb).1 _ _ hlt).trans h3, ((bl_cell hb).1 _ _ hlt).trans h4⟩

set_option maxRecDepth 100000 in
set_option maxHeartbeats 8000000 in
theorem even_law (f : FreqD) (id : ByteArray) (rt cal : Int) (step : Bool) (v : Value) (cs : List CallD) (B : Nat) (w : World) (hcs : CallsIn B w v cs) (hB : B ≤ w.heap.size) (hok : ∀ c ∈ cs, okT c) :
    Calls Try.prog 5 #[.agg #[.int .i64 f.trip, .int .i64 f.frm, .int .i64 f.to, .int .i64 f.every], .agg #[.string id, .int .i64 rt, .int .i64 cal, .bool step, v]] w fun e w' => e = .returned (.bool true) ∧ Bl w w' := by
  have HC := Lib.hid hcs
  have HO := Lib.hid hok
  obtain ⟨a, cap, rfl, -, -, -⟩ := hcs
  clear hok
  go_enter Try.func5, Try.ntmps5
  go_wp2_with fail
  obtain ⟨w1, hw1⟩ : ∃ w1, (w.alloc (.cells #[.int .i64 f.trip, .int .i64 f.frm, .int .i64 f.to, .int .i64 f.every] 39)).alloc (.cells #[.string id, .int .i64 rt, .int .i64 cal, .bool step, .slice a cs.length cap] 33) = w1 := ⟨_, rfl⟩
  rw [hw1]
  have s1 : w1.heap.size = w.heap.size + 2 := by rw [← hw1]; simp
  have b1 : Bl w w1 := by rw [← hw1]; exact bl_alloc (bl_alloc (bl_refl _) _) _
  have kf : FCells w1 w.heap.size f := by
    have hc : ∀ j u, (freqCells f)[j]? = some u → w1.cell? ⟨w.heap.size, j, none⟩ = some u := by
      intro j u hu
      rw [← hw1, (bl_cell (bl_alloc (bl_refl _) _)).1 _ _ (by simp), World.cell?_alloc_at (hn := rfl)]
      simpa [freqCells] using hu
    exact ⟨hc 0 _ rfl, hc 1 _ rfl, hc 2 _ rfl, hc 3 _ rfl⟩
  have kt : TCells w1 (w.heap.size + 1) id rt cal step (.slice a cs.length cap) := by
    have hc : ∀ j u, (tripCells ⟨id, rt, cal, step, .slice a cs.length cap, cs⟩)[j]? = some u → w1.cell? ⟨w.heap.size + 1, j, none⟩ = some u := by
      intro j u hu
      rw [← hw1, World.cell?_alloc_at (hn := by simp)]
      simpa [tripCells] using hu
    exact ⟨hc 0 _ rfl, hc 1 _ rfl, hc 2 _ rfl, hc 3 _ rfl, hc 4 _ rfl⟩
  have B1 := Lib.hid b1
  have KF := Lib.hid kf
  have KT := Lib.hid kt
  have S1 := Lib.hid s1
  clear hw1 b1 kf kt
  obtain ⟨w2, hw2⟩ : ∃ w2, w1.alloc (.cells #[.int .i64 f.trip, .int .i64 f.frm, .int .i64 f.to, .int .i64 f.every] 39) = w2 := ⟨_, rfl⟩
  have b2 : Bl w1 w2 := by rw [← hw2]; exact bl_alloc (bl_refl _) _
  have i2 : FreqsIn w2.heap.size w2 (.slice (some ⟨w1.heap.size, 0, none⟩) 1 1) [f] := by
    rw [← hw2]; exact slIn_new freqCells_len _ w1 _ _ 1 1 rfl (by omega) (by unfold maxLen; omega) rfl
  have B2 : Hid (Bl w1 w2) := b2
  rw [show w.heap.size + 2 = w1.heap.size from s1.symm, hw2]
  clear hw2 b2
  obtain ⟨m, hm⟩ : ∃ m, manyB [f] 3000 = m := ⟨_, rfl⟩
  refine (many_c _ [f] 3000 m hm _ w2 i2 (Nat.le_refl _)).mono ?_
  rintro e w3 ⟨rfl, b3⟩
  have B3 : Hid (Bl w1 w3) := bl_next B2.out b3
  clear hm b3 i2
  cases m with
  | true =>
    go_wp2_with fail
    refine (example_c _).mono ?_
    rintro e w4 ⟨rfl, b4⟩
    go_wp2
    go_ret
    exact ⟨rfl, bl_next B1.out (bl_next B3.out b4)⟩
  | false =>
  have z3 := B3.out.size
  obtain ⟨t0, t1, t2, t3, t4⟩ := TCells.bl KT.out B3.out (by omega)
  go_wp2_with fail
  obtain ⟨w4, hw4⟩ : ∃ w4, w3.alloc (.cells #[.string id, .int .i64 rt, .int .i64 cal, .bool step, .slice a cs.length cap] 33) = w4 := ⟨_, rfl⟩
  have b4 : Bl w3 w4 := by rw [← hw4]; exact bl_alloc (bl_refl _) _
  have i4 : SlIn tripCells 5 w4.heap.size w4 (.slice (some ⟨w3.heap.size, 0, none⟩) 1 1) [⟨id, rt, cal, step, .slice a cs.length cap, cs⟩] := by
    rw [← hw4]; exact slIn_new tripCells_len _ w3 _ _ 1 1 rfl (by omega) (by unfold maxLen; omega) rfl
  have B4 : Hid (Bl w1 w4) := bl_next B3.out b4
  have z4 := B4.out.size
  have hBw : B ≤ w4.heap.size := by omega
  have C4 : Hid (CallsIn B w4 (.slice a cs.length cap) cs) := HC.out.below ((bl_next B1.out B4.out).mono hB)
  have IT : TripsRd w4.heap.size w4 (.slice (some ⟨w3.heap.size, 0, none⟩) 1 1) [⟨id, rt, cal, step, .slice a cs.length cap, cs⟩] := ⟨i4, fun t ht => by
    rw [List.mem_singleton] at ht
    rw [ht]
    exact ⟨C4.out.mono hBw, HO.out⟩⟩
  rw [hw4]
  clear hw4 b4 i4 hBw C4 t0 t1 t2 t3 t4
  obtain ⟨m, hm⟩ : ∃ m, plainB [⟨id, rt, cal, step, .slice a cs.length cap, cs⟩] = m := ⟨_, rfl⟩
  refine (plain_c _ [⟨id, rt, cal, step, .slice a cs.length cap, cs⟩] m hm _ w4 IT (Nat.le_refl _)).mono ?_
  rintro e w5 ⟨rfl, b5⟩
  have B5 : Hid (Bl w1 w5) := bl_next B4.out b5
  cases m with
  | false =>
    clear IT hm b5
    go_wp2_with fail
    refine (example_c _).mono ?_
    rintro e w6 ⟨rfl, b6⟩
    go_wp2
    go_ret
    exact ⟨rfl, bl_next B1.out (bl_next B5.out b6)⟩
  | true =>
  have hlen : cs.length ≤ 1000 := (IT.into hm).ok _ (List.mem_singleton.2 rfl) |>.len
  clear IT hm b5
  have z5 := B5.out.size
  obtain ⟨t0, t1, t2, t3, t4⟩ := TCells.bl KT.out B5.out (by omega)
  go_wp2_with fail
  obtain ⟨w6, hw6⟩ : ∃ w6, w5.alloc (.cells #[.string id, .int .i64 rt, .int .i64 cal, .bool step, .slice a cs.length cap] 33) = w6 := ⟨_, rfl⟩
  have b6 : Bl w5 w6 := by rw [← hw6]; exact bl_alloc (bl_refl _) _
  have i6 : SlIn tripCells 5 w6.heap.size w6 (.slice (some ⟨w5.heap.size, 0, none⟩) 1 1) [⟨id, rt, cal, step, .slice a cs.length cap, cs⟩] := by
    rw [← hw6]; exact slIn_new tripCells_len _ w5 _ _ 1 1 rfl (by omega) (by unfold maxLen; omega) rfl
  have B6 : Hid (Bl w1 w6) := bl_next B5.out b6
  have z6 := B6.out.size
  have hBw : B ≤ w6.heap.size := by omega
  have C6 : Hid (CallsIn B w6 (.slice a cs.length cap) cs) := HC.out.below ((bl_next B1.out B6.out).mono hB)
  have IT : TripsRd w6.heap.size w6 (.slice (some ⟨w5.heap.size, 0, none⟩) 1 1) [⟨id, rt, cal, step, .slice a cs.length cap, cs⟩] := ⟨i6, fun t ht => by
    rw [List.mem_singleton] at ht
    rw [ht]
    exact ⟨C6.out.mono hBw, HO.out⟩⟩
  rw [hw6]
  clear hw6 b6 i6 hBw C6 t0 t1 t2 t3 t4
  obtain ⟨m, hm⟩ : ∃ m, validB [⟨id, rt, cal, step, .slice a cs.length cap, cs⟩] = m := ⟨_, rfl⟩
  refine (valid_c _ [⟨id, rt, cal, step, .slice a cs.length cap, cs⟩] m hm _ w6 IT (Nat.le_refl _)).mono ?_
  rintro e w7 ⟨rfl, b7⟩
  have B7 : Hid (Bl w1 w7) := bl_next B6.out b7
  cases m with
  | false =>
    clear IT hm b7
    go_wp2_with fail
    refine (example_c _).mono ?_
    rintro e w8 ⟨rfl, b8⟩
    go_wp2
    go_ret
    exact ⟨rfl, bl_next B1.out (bl_next B7.out b8)⟩
  | true =>
  have HV : Hid (validT cs = true) := by
    show validT cs = true
    unfold validB at hm
    rw [List.all_cons, Bool.and_eq_true] at hm
    exact hm.1
  clear IT hm b7
  have z7 := B7.out.size
  obtain ⟨f0, f1, f2, f3⟩ := FCells.bl KF.out B7.out (by omega)
  go_wp2_with fail
  refine (starts_c f _).mono ?_
  rintro e w8 ⟨v8, rfl, i8, b8⟩
  have B8 : Hid (Bl w1 w8) := bl_next B7.out b8
  clear b8 f0 f1 f2 f3
  have z8 := B8.out.size
  obtain ⟨f0, f1, f2, f3⟩ := FCells.bl KF.out B8.out (by omega)
  have I8 := Lib.hid i8
  obtain ⟨m, hm⟩ : ∃ m, soundB f = m := ⟨_, rfl⟩
  cases m with
  | false =>
    have e8 := starts_unsound hm
    rw [e8] at i8
    obtain ⟨a8, cap8, rfl, -, -⟩ := i8.empty rfl
    clear e8
    go_wp2_with fail
    refine (rsound_b f false hm _).mono ?_
    rintro e w9 ⟨rfl, b9⟩
    clear hm
    go_wp2_with fail
    refine (example_c _).mono ?_
    rintro e w10 ⟨rfl, b10⟩
    go_wp2
    go_ret
    exact ⟨rfl, bl_next B1.out (bl_next B8.out (bl_next b9 b10))⟩
  | true =>
  have hs : sound f := of_decide_eq_true hm
  have hpos := starts_pos hs
  have HS := Lib.hid hs
  have HM := Lib.hid hm
  have HAT : Hid (∀ k, k < (starts f).length → (starts f)[k]? = some (f.frm + k * f.every)) := fun k hk => starts_at hs hk
  have HLAST := Lib.hid (starts_last hs)
  have HLB := Lib.hid (lastS_bd hs)
  have HRG : Hid (∀ (k : Nat) (s : Int), (starts f)[k]? = some s → f.frm ≤ s ∧ s < f.to) := fun k s hk => starts_in_range hs (List.mem_of_getElem? hk)
  obtain ⟨L, hL⟩ : ∃ L, starts f = L := ⟨_, rfl⟩
  rw [hL] at i8 I8 hpos HAT HLAST HRG
  obtain ⟨n, hn⟩ : ∃ n, L.length = n + 1 := ⟨L.length - 1, by omega⟩
  obtain ⟨bs, os, caps, rfl, l8, m8, hbs, hcs8⟩ := i8.open hpos
  have HCL := Lib.hid hcs8
  have HN := Lib.hid hn
  clear hL hm hs hcs8 hn
  go_wp2_with fail
  refine (rsound_b f true HM _).mono ?_
  rintro e w9 ⟨rfl, b9⟩
  have B9 : Hid (Bl w1 w9) := bl_next B8.out b9
  have H89 := Lib.hid b9
  clear b9 f0 f1 f2 f3
  have z9 := B9.out.size
  have z89 := H89.out.size
  obtain ⟨hs1, hs2, hs3, hs4, hs5⟩ := HS.out
  obtain ⟨f0, f1, f2, f3⟩ := FCells.bl KF.out B9.out (by omega)
  have hbs9 : bs < w9.heap.size := by omega
  have CS : Hid (∀ w' : World, Bl w9 w' → ∀ k s, L[k]? = some s → w'.cell? ⟨bs, os + k, none⟩ = some (.int .i64 s)) := fun w' hb k s hk => by
    rw [(bl_cell hb).1 _ _ hbs9, (bl_cell H89.out).1 _ _ hbs]
    have := HCL.out k s hk 0 _ rfl
    simpa using this
  have c0 : w9.cell? ⟨bs, os, none⟩ = some (.int .i64 f.frm) := by
    have := CS.out w9 (bl_refl _) 0 f.frm (by have := HAT.out 0 (by omega); simpa using this)
    simpa using this
  obtain ⟨la, hla⟩ : ∃ la, lastS f = la := ⟨_, rfl⟩
  have cl : w9.cell? ⟨bs, os + n, none⟩ = some (.int .i64 la) := CS.out w9 (bl_refl _) n la (by have := HLAST.out; rw [HN.out, hla] at this; exact this)
  have hlb := HLB.out
  rw [hla] at hlb
  obtain ⟨hl1, hl2⟩ := hlb
  have qz : ((L.length : Int) == 0) = false := by rw [beq_eq_false_iff_ne]; omega
  have e1 : IntKind.i64.wrap ((L.length : Int) - 1) = (n : Int) := by have := HN.out; rw [IntWalk.i64_in _ (by omega)]; omega
  have i1 : (n : Int) < (L.length : Int) := by have := HN.out; omega
  have i0 : 0 < L.length := hpos
  have qf : (f.frm != f.frm) = false := by simp
  have q1 : decide (f.to ≤ la) = false := by rw [decide_eq_false_iff_not]; omega
  have e2 : IntKind.i64.wrap (f.to - f.every) = f.to - f.every := by rw [IntWalk.i64_in _ (by omega)]
  have q2 : decide (la < f.to - f.every) = false := by rw [decide_eq_false_iff_not]; omega
  clear hla
  go_wp2_with fail
  go_quiet (fail)
  generalize hwz : w9.drewN _ = wz
  have bz : Bl w9 wz := by rw [← hwz]; exact bl_drewN (bl_refl _) _
  have BZ : Hid (Bl w1 wz) := bl_next B9.out bz
  have H9Z := Lib.hid bz
  have zz := bz.size
  clear hwz e1 e2 q1 q2 qf qz c0 cl f0 f1 f2 f3 i1 hl1 hl2 bz
  go_wp2_with fail
  go_loopw [6] (fun i wr => ∃ k : Nat, k ≤ L.length ∧ i = .int .i64 k ∧ Bl wz wr) (fun i _ => L.length - (intOf i).toNat)
  case atStart => exact ⟨0, Nat.zero_le _, rfl, bl_refl _⟩
  case round =>
    obtain ⟨k, hk, rfl, hbl⟩ := hrel
    have hzr := hbl.size
    have HBR : Hid (Bl w1 wr) := bl_next BZ.out hbl
    have H9R : Hid (Bl w9 wr) := bl_next H9Z.out hbl
    by_cases hlt : k < L.length
    · have hkI : (k : Int) < (L.length : Int) := by omega
      rcases Nat.eq_zero_or_pos k with hk0 | hkp
      · have qj : decide (0 < k) = false := by rw [decide_eq_false_iff_not]; omega
        clear hk0
        go_wp2_with fail
        go_quiet (fail)
        go_wp2
        go_roundw
        case rel => exact ⟨k + 1, by omega, by go_num, bl_drewN hbl _⟩
        case measure => simp [intOf]; omega
      · obtain ⟨i, hi⟩ : ∃ i, k = i + 1 := ⟨k - 1, by omega⟩
        obtain ⟨s, hs⟩ : ∃ s, f.frm + (i : Int) * f.every = s := ⟨_, rfl⟩
        obtain ⟨t, ht⟩ : ∃ t, f.frm + (k : Int) * f.every = t := ⟨_, rfl⟩
        have hst : t = s + f.every := by rw [← hs, ← ht, hi, mul_succ']; omega
        have cs0 := CS.out wr H9R.out i s (by rw [HAT.out i (by omega), hs])
        have cs1 := CS.out wr H9R.out k t (by rw [HAT.out k (by omega), ht])
        have hsb := HRG.out i s (by rw [HAT.out i (by omega), hs])
        have e1 : IntKind.i64.wrap ((k : Int) - 1) = (i : Int) := by rw [IntWalk.i64_in _ (by omega)]; omega
        have e2 : IntKind.i64.wrap (t - f.every) = s := by rw [IntWalk.i64_in _ (by omega)]; omega
        have i2 : (i : Int) < (L.length : Int) := by omega
        have qj : decide (0 < k) = true := by rw [decide_eq_true_iff]; omega
        have qs : (s != s) = false := by simp
        obtain ⟨f0, f1, f2, f3⟩ := FCells.bl KF.out HBR.out (by omega)
        clear hs ht hst hi
        go_wp2_with fail
        go_quiet (fail)
        go_wp2
        go_roundw
        case rel => exact ⟨k + 1, by omega, by go_num, bl_drewN hbl _⟩
        case measure => simp [intOf]; omega
    · have c0 : wr.cell? ⟨bs, os, none⟩ = some (.int .i64 f.frm) := by
        have := CS.out wr H9R.out 0 f.frm (by have := HAT.out 0 (by omega); simpa using this)
        simpa using this
      have KR : Hid (TCells wr (w.heap.size + 1) id rt cal step (.slice a cs.length cap)) := TCells.bl KT.out HBR.out (by omega)
      have hbr : bs < wr.heap.size := by have := H9R.out.size; omega
      have htr : w.heap.size + 1 < wr.heap.size := by have := HBR.out.size; omega
      have hold : ∀ w' : World, Bl wr w' → TCells w' (w.heap.size + 1) id rt cal step (.slice a cs.length cap) ∧ w'.cell? ⟨bs, os, none⟩ = some (.int .i64 f.frm) := fun w' hb => ⟨TCells.bl KR.out hb htr, ((bl_cell hb).1 _ _ hbr).trans c0⟩
      obtain ⟨⟨t0, t1, t2, t3, t4⟩, -⟩ := hold wr (bl_refl _)
      have HFI : Hid (isInt f.frm) := by constructor <;> omega
      have HBW : Hid (Bl w wr) := bl_next B1.out HBR.out
      have hzw := HBW.out.size
      go_wp2_with fail
      go_region_held3 (fun w' => w'.cell? ⟨w.heap.size + 1, 0, none⟩ = some (.string id) ∧ w'.cell? ⟨w.heap.size + 1, 1, none⟩ = some (.int .i64 rt) ∧ w'.cell? ⟨w.heap.size + 1, 2, none⟩ = some (.int .i64 cal) ∧ w'.cell? ⟨w.heap.size + 1, 3, none⟩ = some (.bool step) ∧ w'.cell? ⟨w.heap.size + 1, 4, none⟩ = some (.slice a cs.length cap) ∧ w'.cell? ⟨bs, os, none⟩ = some (.int .i64 f.frm)) (first | (have hh := hold _ (bl_drew (bl_refl _)); exact ⟨hh.1.1, hh.1.2.1, hh.1.2.2.1, hh.1.2.2.2.1, hh.1.2.2.2.2, hh.2⟩) | (have hh := hold _ (bl_next (bl_drew (bl_refl _)) b10); exact ⟨hh.1.1, hh.1.2.1, hh.1.2.2.1, hh.1.2.2.2.1, hh.1.2.2.2.2, hh.2⟩)) (first | (go_at_call 14; refine (calls_c id rt cal step _ cs f.frm HFI.out B _ (HC.out.below ((bl_next HBW.out (bl_drew (bl_refl _))).mono hB)) (by simp; omega) HO.out hlen).mono ?_; rintro e w10 ⟨⟨v10, rfl, i10⟩, b10⟩))
      all_goals
        have B10 := Lib.hid (bl_next HBR.out (bl_next (bl_drew (bl_refl _)) b10))
        have I10 := Lib.hid i10
        clear i10 hold b10 t0 t1 t2 t3 t4 c0
        obtain ⟨x0, rest, hxr⟩ : ∃ x0 rest, cs = x0 :: rest := by
          cases hcs : cs with
          | nil => have := HV.out; rw [hcs] at this; exact absurd this (by decide)
          | cons c r => exact ⟨c, r, rfl⟩
        have hx0 : cs[0]? = some x0 := by rw [hxr]; rfl
        have HX0 := Lib.hid hx0
        have hcpos : 0 < cs.length := by rw [hxr]; simp
        have hbad : (callsS cs f.frm).2 ≠ 0 → callsS cs f.frm = ([], 10) := by rw [hxr]; exact callsS_bad
        have hmap : (callsS cs f.frm).2 = 0 → (callsS cs f.frm).1 = cs.map (shiftC x0.depart f.frm) := by rw [hxr]; exact callsS_map
        clear hxr hx0
        have z10 := B10.out.size
        by_cases he : (callsS cs f.frm).2 = 0
        · have HM10 := Lib.hid (hmap he)
          have J10 : Hid (CallsIn w10.heap.size w10 v10 (cs.map (shiftC x0.depart f.frm))) := by
            show CallsIn _ _ _ _
            rw [← HM10.out]; exact I10.out
          rw [he]
          clear hbad hmap he I10 HM10
          obtain ⟨bm, om, capm, rfl, lm, mm, hbm, hcm⟩ := J10.out.open (by simpa using hcpos)
          have HCM := Lib.hid hcm
          rw [List.length_map] at lm ⊢
          clear hcm
          obtain ⟨b0, o0, cap0, hve, l0, m0, hb0, hc0⟩ := HC.out.open hcpos
          simp only [Value.slice.injEq] at hve
          obtain ⟨rfl, -, rfl⟩ := hve
          have HC0 := Lib.hid hc0
          clear hc0
          obtain ⟨t0, t1, t2, t3, t4⟩ := TCells.bl KT.out B10.out (by omega)
          obtain ⟨f0, f1, f2, f3⟩ := FCells.bl KF.out B10.out (by omega)
          have hMx : ∀ (k : Nat) (x : CallD), cs[k]? = some x → (cs.map (shiftC x0.depart f.frm))[k]? = some (shiftC x0.depart f.frm x) := fun k x hx => by simp [hx]
          have HMX := Lib.hid hMx
          have g2 : w10.cell? ⟨bm, om + 2, none⟩ = some (.int .i64 f.frm) := by
            have := HCM.out 0 _ (HMX.out 0 x0 HX0.out) 2 _ rfl
            rw [show om + 0 * 5 + 2 = om + 2 by omega] at this
            rw [this]
            simp only [shiftC]
            rw [show x0.depart - x0.depart + f.frm = f.frm by omega]
          have ql : ((cs.length : Int) != (cs.length : Int)) = false := by simp
          have qf : (f.frm != f.frm) = false := by simp
          clear hMx
          go_wp2_with fail
          go_quiet (fail)
          generalize hwy : w10.drewN _ = wy
          have by' : Bl w10 wy := by rw [← hwy]; exact bl_drewN (bl_refl _) _
          have BY : Hid (Bl w1 wy) := bl_next B10.out by'
          have H10Y := Lib.hid by'
          have zy := by'.size
          clear hwy qf ql g2 t0 t1 t2 t3 t4 f0 f1 f2 f3 by'
          go_wp2_with fail
          go_loopw [9] (fun i wq => ∃ k : Nat, k ≤ cs.length ∧ i = .int .i64 k ∧ Bl wy wq) (fun i _ => cs.length - (intOf i).toNat)
          case atStart => exact ⟨0, Nat.zero_le _, rfl, bl_refl _⟩
          case round =>
            rename World => wq
            obtain ⟨k, hk, rfl, hbq⟩ := hrel
            have hzq := hbq.size
            have HBQ : Hid (Bl w1 wq) := bl_next BY.out hbq
            by_cases hltk : k < cs.length
            · obtain ⟨x, hx⟩ : ∃ x, cs[k]? = some x := ⟨_, List.getElem?_eq_getElem hltk⟩
              have hw0 : Bl w wq := bl_next B1.out HBQ.out
              have h10 : Bl w10 wq := bl_next H10Y.out hbq
              have kc : ∀ (k : Nat) (x : CallD), cs[k]? = some x → ∀ j u, (callCells x)[j]? = some u → wq.cell? ⟨b0, o0 + k * 5 + j, none⟩ = some u := fun k x hx j u hu => ((bl_cell hw0).1 _ _ (by omega)).trans (HC0.out k x hx j u hu)
              have km : ∀ (k : Nat) (x : CallD), cs[k]? = some x → ∀ j u, (callCells (shiftC x0.depart f.frm x))[j]? = some u → wq.cell? ⟨bm, om + k * 5 + j, none⟩ = some u := fun k x hx j u hu => ((bl_cell h10).1 _ _ hbm).trans (HCM.out k _ (HMX.out k x hx) j u hu)
              have d0 : wq.cell? ⟨b0, o0 + k * 5, none⟩ = some (.int .i64 x.stop) := kc k x hx 0 _ rfl
              have d1 := kc k x hx 1 _ rfl
              have d2 := kc k x hx 2 _ rfl
              have d3 := kc k x hx 3 _ rfl
              have d4 := kc k x hx 4 _ rfl
              have d00 := kc 0 x0 HX0.out 1 _ rfl
              obtain ⟨ya, hya⟩ : ∃ ya, x.arrive - x0.depart + f.frm = ya := ⟨_, rfl⟩
              obtain ⟨yd, hyd⟩ : ∃ yd, x.depart - x0.depart + f.frm = yd := ⟨_, rfl⟩
              obtain ⟨ye, hye⟩ : ∃ ye, x0.arrive - x0.depart + f.frm = ye := ⟨_, rfl⟩
              have m0 : wq.cell? ⟨bm, om + k * 5, none⟩ = some (.int .i64 x.stop) := km k x hx 0 _ rfl
              have m1 : wq.cell? ⟨bm, om + k * 5 + 1, none⟩ = some (.int .i64 ya) := by rw [← hya]; exact km k x hx 1 _ rfl
              have m2 : wq.cell? ⟨bm, om + k * 5 + 2, none⟩ = some (.int .i64 yd) := by rw [← hyd]; exact km k x hx 2 _ rfl
              have m3 := km k x hx 3 _ rfl
              have m4 := km k x hx 4 _ rfl
              have m00 : wq.cell? ⟨bm, om + 1, none⟩ = some (.int .i64 ye) := by rw [← hye]; have := km 0 x0 HX0.out 1 _ rfl; rw [show om + 0 * 5 + 1 = om + 1 by omega] at this; exact this
              rw [show o0 + 0 * 5 + 1 = o0 + 1 by omega] at d00
              obtain ⟨t0, t1, t2, t3, t4⟩ := TCells.bl KT.out HBQ.out (by omega)
              obtain ⟨v1, v2, v3⟩ := valid_times HV.out hx
              obtain ⟨v4, v5, v6⟩ := valid_times HV.out HX0.out
              obtain ⟨dd, hdd⟩ : ∃ dd, x.depart - x.arrive = dd := ⟨_, rfl⟩
              obtain ⟨ee, hee⟩ : ∃ ee, x.arrive - x0.arrive = ee := ⟨_, rfl⟩
              have e1 : yd - ya = dd := by omega
              have e2 : ya - ye = ee := by omega
              have y1 : -400000 ≤ ya := by omega
              have y2 : ya ≤ 400000 := by omega
              have y3 : -400000 ≤ yd := by omega
              have y4 : yd ≤ 400000 := by omega
              have y5 : -400000 ≤ ye := by omega
              have y6 : ye ≤ 400000 := by omega
              have hkI : (k : Int) < (cs.length : Int) := by omega
              have hbmq : bm < wq.heap.size := by omega
              have hb0q : b0 < wq.heap.size := by have := hw0.size; omega
              have htq : w.heap.size + 1 < wq.heap.size := by have := HBQ.out.size; omega
              clear hx kc km hya hyd hye
              go_wp2_with fail
              obtain ⟨wa, hwa⟩ : ∃ wa, wq.alloc (.cells #[.int .i64 x.stop, .int .i64 x.arrive, .int .i64 x.depart, .bool x.board, .bool x.alight] 44) = wa := ⟨_, rfl⟩
              have ba : Bl wq wa := by rw [← hwa]; exact bl_alloc (bl_refl _) _
              have BA := Lib.hid (bl_next hbq ba)
              have p0 := ((bl_cell ba).1 _ _ hbmq).trans m0
              have p1 := ((bl_cell ba).1 _ _ hbmq).trans m1
              have p2 := ((bl_cell ba).1 _ _ hbmq).trans m2
              have p3 := ((bl_cell ba).1 _ _ hbmq).trans m3
              have p4 := ((bl_cell ba).1 _ _ hbmq).trans m4
              have p00 := ((bl_cell ba).1 _ _ hbmq).trans m00
              have r00 := ((bl_cell ba).1 _ _ hb0q).trans d00
              have r4 := ((bl_cell ba).1 _ _ htq).trans t4
              have kx : ∀ j u, (callCells x)[j]? = some u → wa.cell? ⟨wq.heap.size, j, none⟩ = some u := by
                intro j u hu
                rw [← hwa, World.cell?_alloc_at (hn := rfl)]
                simpa [callCells] using hu
              have x0' := kx 0 _ rfl
              have x1' := kx 1 _ rfl
              have x2' := kx 2 _ rfl
              have x3' := kx 3 _ rfl
              have x4' := kx 4 _ rfl
              simp only [shiftC] at p3 p4
              rw [hwa]
              have w1' : IntKind.i64.wrap (yd - ya) = dd := by rw [IntWalk.i64_in _ (by omega)]; exact e1
              have w2' : IntKind.i64.wrap (ya - ye) = ee := by rw [IntWalk.i64_in _ (by omega)]; exact e2
              have w3' : IntKind.i64.wrap (x.depart - x.arrive) = dd := by rw [IntWalk.i64_in _ (by omega)]; exact hdd
              have w4' : IntKind.i64.wrap (x.arrive - x0.arrive) = ee := by rw [IntWalk.i64_in _ (by omega)]; exact hee
              have qd : (dd != dd) = false := by simp
              have qe : (ee != ee) = false := by simp
              have qs : (x.stop != x.stop) = false := by simp
              have qb : (x.board != x.board) = false := by simp
              have qa : (x.alight != x.alight) = false := by simp
              clear hwa ba kx m0 m1 m2 m3 m4 m00 d0 d1 d2 d3 d4 d00 t0 t1 t2 t3 t4 hdd hee e1 e2
              go_quiet (fail)
              go_wp2
              go_roundw
              case rel => exact ⟨k + 1, by omega, by go_num, bl_drewN BA.out _⟩
              case measure => simp [intOf]; omega
            · go_wp2_with fail
              refine (example_c _).mono ?_
              rintro e w11 ⟨rfl, b11⟩
              go_wp2
              go_ret
              exact ⟨rfl, bl_next B1.out (bl_next HBQ.out b11)⟩
        · have hb := hbad he
          rw [hb] at I10
          rw [hb]
          obtain ⟨a10, cap10, rfl, -, -⟩ := I10.out.empty rfl
          clear hb hbad hmap he I10
          go_wp2_with fail
          refine (example_c _).mono ?_
          rintro e w11 ⟨rfl, b11⟩
          go_wp2
          go_ret
          exact ⟨rfl, bl_next B1.out (bl_next B10.out b11)⟩
end Go.Proofs.Ytknecohjajjloaa
