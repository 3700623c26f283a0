/-
  THE CONTRACTS OF THROUGH SERVICES, NINTH PART: small, exampleHolds. Conditions: those of each contract.
-/
import Derived.Test.YtjdaikeljmccaaaThrWalksH
import Derived.Outline
namespace Go.Proofs.Ytjdaikeljmccaaa
open Go.RowKit
open Frq Thr

structure TabD where
  v1 : Value
  v2 : Value
  v3 : Value
  v4 : Value
  thr : List ThrD
  gua : List GuaD
  trips : List TripD
  reps : List FreqD
  stops : Int
def tabCells (t : TabD) : List Value := [t.v1, t.v2, t.v3, t.v4, .int .i64 t.stops]
structure TabRd (B : Nat) (w : World) (t : TabD) : Prop where
  thr : ThrIn B w t.v1 t.thr
  gua : GuaIn B w t.v2 t.gua
  trips : TripsRd B w t.v3 t.trips
  reps : FreqsIn B w t.v4 t.reps
  okx : ∀ x ∈ t.thr, okX x
  okg : ∀ x ∈ t.gua, okG x
theorem TabRd.bl {B : Nat} {w w' : World} {t : TabD} (h : TabRd B w t) (hb : Bl w w') (hB : B ≤ w.heap.size) : TabRd B w' t :=
  ⟨h.thr.out hb hB, h.gua.out hb hB, h.trips.bl hb hB, h.reps.out hb hB, h.okx, h.okg⟩
def smallB (t : TabD) : Bool := (decide (t.thr.length ≤ 150) && (decide (t.gua.length ≤ 150) && (decide (t.trips.length ≤ 150) && decide (t.reps.length ≤ 150)))) && t.trips.all fun x => decide (x.calls.length ≤ 40)
theorem all_no {α : Type} {p : α → Bool} {l : List α} {k : Nat} {x : α} (h : l[k]? = some x) (h1 : p x = false) : l.all p = false := by
  cases ha : l.all p with
  | false => rfl
  | true =>
    rw [List.all_eq_true] at ha
    have := ha x (List.mem_of_getElem? h)
    rw [h1] at this
    cases this
theorem all_take {α : Type} {p : α → Bool} {l : List α} {k : Nat} {x : α} (h : l[k]? = some x) (h1 : (l.take k).all p = true) (h2 : p x = true) : (l.take (k + 1)).all p = true := by
  rw [take_snoc_at h, List.all_append, h1]
  simp [h2]
set_option maxRecDepth 100000 in
set_option maxHeartbeats 8000000 in
theorem small_c (t : TabD) (r : Bool) (H : Hid (smallB t = r)) (B : Nat) (w : World) (ht : TabRd B w t) (hB : B ≤ w.heap.size) :
    Calls Try.prog 11 #[.agg #[t.v1, t.v2, t.v3, t.v4, .int .i64 t.stops]] w fun e w' => e = .returned (.bool r) ∧ Bl w w' := by
  obtain ⟨v1, v2, v3, v4, xs, gs, ts, fs, st⟩ := t
  have HT := Lib.hid ht
  obtain ⟨a1, c1, hv1, l1, m1⟩ := ht.thr.val
  obtain ⟨a2, c2, hv2, l2, m2⟩ := ht.gua.val
  obtain ⟨a3, c3, hv3, l3, m3⟩ := ht.trips.sl.val
  obtain ⟨a4, c4, hv4, l4, m4⟩ := ht.reps.val
  simp only at hv1 hv2 hv3 hv4
  subst hv1 hv2 hv3 hv4
  simp only at H l1 m1 l2 m2 l3 m3 l4 m4 ⊢
  clear ht
  by_cases h1 : 150 < xs.length
  · have HR := Lib.hid (show r = false by rw [← H.out]; unfold smallB; simp; omega)
    go_enter Try.func11, Try.ntmps11
    go_wp2
    go_ret
    exact ⟨ret_bool HR.out.symm, bl_alloc (bl_refl _) _⟩
  by_cases h2 : 150 < gs.length
  · have HR := Lib.hid (show r = false by rw [← H.out]; unfold smallB; simp; omega)
    go_enter Try.func11, Try.ntmps11
    go_wp2
    go_ret
    exact ⟨ret_bool HR.out.symm, bl_alloc (bl_refl _) _⟩
  by_cases h3 : 150 < ts.length
  · have HR := Lib.hid (show r = false by rw [← H.out]; unfold smallB; simp; omega)
    go_enter Try.func11, Try.ntmps11
    go_wp2
    go_ret
    exact ⟨ret_bool HR.out.symm, bl_alloc (bl_refl _) _⟩
  by_cases h4 : 150 < fs.length
  · have HR := Lib.hid (show r = false by rw [← H.out]; unfold smallB; simp; omega)
    go_enter Try.func11, Try.ntmps11
    go_wp2
    go_ret
    exact ⟨ret_bool HR.out.symm, bl_alloc (bl_refl _) _⟩
  have HR : Hid (ts.all (fun x => decide (x.calls.length ≤ 40)) = r) := by
    show _ = _
    rw [← H.out]
    unfold smallB
    simp only [show decide (xs.length ≤ 150) = true from decide_eq_true (by omega), show decide (gs.length ≤ 150) = true from decide_eq_true (by omega), show decide (ts.length ≤ 150) = true from decide_eq_true (by omega), show decide (fs.length ≤ 150) = true from decide_eq_true (by omega), Bool.true_and]
  clear H
  obtain ⟨w1, hw1⟩ : ∃ w1, w.alloc (.cells #[.slice a1 xs.length c1, .slice a2 gs.length c2, .slice a3 ts.length c3, .slice a4 fs.length c4, .int .i64 st] 27) = w1 := ⟨_, rfl⟩
  have b1 : Bl w w1 := by rw [← hw1]; exact bl_alloc (bl_refl _) _
  have z1 : w1.heap.size = w.heap.size + 1 := by rw [← hw1]; simp
  have B1 := Lib.hid b1
  have kc : ∀ (j : Nat) (u : Value), (#[.slice a1 xs.length c1, .slice a2 gs.length c2, .slice a3 ts.length c3, .slice a4 fs.length c4, .int .i64 st] : Array Value)[j]? = some u → w1.cell? ⟨w.heap.size, j, none⟩ = some u := by
    intro j u hu
    rw [← hw1, World.cell?_alloc_at (hn := rfl)]
    exact hu
  have k0 := kc 0 _ rfl
  have k1 := kc 1 _ rfl
  have k2 := kc 2 _ rfl
  have k3 := kc 3 _ rfl
  clear b1 kc
  go_enter Try.func11, Try.ntmps11
  go_wp2_with fail
  clear hw1
  go_loopw [30] (fun i wr => ∃ k : Nat, k ≤ ts.length ∧ i = .int .i64 k ∧ Hid ((ts.take k).all (fun x => decide (x.calls.length ≤ 40)) = true) ∧ Bl w1 wr) (fun i _ => ts.length - (intOf i).toNat)
  case atStart => exact ⟨0, Nat.zero_le _, rfl, rfl, bl_refl _⟩
  case round =>
    obtain ⟨k, hk, rfl, HN, hbl⟩ := hrel
    have HBR : Hid (Bl w wr) := bl_next B1.out hbl
    by_cases hlt : k < ts.length
    · obtain ⟨b, o, x, rfl, hbs, hx, hc⟩ := HT.out.trips.sl.get hlt HBR.out hB
      have HX := Lib.hid hx
      obtain ⟨av, cv, hv, lv1, lv2⟩ := (HT.out.trips.ok x (List.mem_of_getElem? hx)).calls.val
      have g0 : wr.cell? ⟨b, o + k * 5, none⟩ = some (.string x.id) := hc 0 _ rfl
      have g1 := hc 1 _ rfl
      have g2 := hc 2 _ rfl
      have g3 := hc 3 _ rfl
      have g4 : wr.cell? ⟨b, o + k * 5 + 4, none⟩ = some (.slice av x.calls.length cv) := by rw [← hv]; exact hc 4 _ rfl
      have hkI : (k : Int) < (ts.length : Int) := by omega
      clear hx hc hv
      by_cases h5 : 40 < x.calls.length
      · have HQ := Lib.hid (show r = false by rw [← HR.out]; exact all_no HX.out (decide_eq_false (by omega)))
        go_wp2
        go_ret
        exact ⟨ret_bool HQ.out.symm, bl_alloc HBR.out _⟩
      · have HN' := Lib.hid (all_take HX.out HN.out (decide_eq_true (by omega)))
        go_wp2
        go_roundw
        case rel => exact ⟨k + 1, by omega, by go_num, HN', bl_alloc hbl _⟩
        case measure => simp [intOf]; omega
    · have HQ := Lib.hid (show r = true by
        have := HN.out
        rw [List.take_of_length_le (by omega)] at this
        rw [← HR.out]; exact this)
      go_wp2
      go_ret
      exact ⟨ret_bool HQ.out.symm, HBR.out⟩

/-! ### the examples -/
abbrev exA : List CallD := [⟨0, 0, 0, true, false⟩, ⟨1, 200, 200, false, true⟩]
abbrev exB : List CallD := [⟨1, 200, 200, true, false⟩, ⟨2, 300, 300, false, true⟩]
abbrev exC : List CallD := [⟨1, 199, 199, true, false⟩, ⟨2, 300, 300, false, true⟩]
abbrev exD : List CallD := [⟨0, 0, 0, false, false⟩, ⟨1, 0, 0, false, false⟩]
abbrev exE : List CallD := [⟨1, 0, 0, false, false⟩, ⟨0, 0, 0, false, false⟩]
abbrev exT (v : Value) (cs : List CallD) : TripD := ⟨⟨#[]⟩, 0, 0, false, v, cs⟩
theorem okT_small {c : CallD} (h : (-1000 ≤ c.arrive ∧ c.arrive ≤ 1000) ∧ -1000 ≤ c.depart ∧ c.depart ≤ 1000) : okT c := by
  unfold okT isInt
  omega
theorem ex_ok {cs : List CallD} (h : (cs.all fun c => decide ((-1000 ≤ c.arrive ∧ c.arrive ≤ 1000) ∧ -1000 ≤ c.depart ∧ c.depart ≤ 1000)) = true) : ∀ c ∈ cs, okT c := fun c hc => by
  rw [List.all_eq_true] at h
  exact okT_small (of_decide_eq_true (h c hc))
/-- Two trips with calls of their own. -/
theorem trips_two {B : Nat} {w : World} {v v1 v2 : Value} {c1 c2 : List CallD} (hs : SlIn tripCells 5 B w v [exT v1 c1, exT v2 c2]) (h1 : CallsIn B w v1 c1) (h2 : CallsIn B w v2 c2) (k1 : ∀ c ∈ c1, okT c) (k2 : ∀ c ∈ c2, okT c) : TripsRd B w v [exT v1 c1, exT v2 c2] :=
  ⟨hs, fun t ht => by
    simp only [List.mem_cons, List.not_mem_nil, or_false] at ht
    rcases ht with rfl | rfl
    · exact ⟨h1, k1⟩
    · exact ⟨h2, k2⟩⟩
set_option maxRecDepth 100000 in
set_option maxHeartbeats 8000000 in
theorem example_c (w : World) : Calls Try.prog 12 #[] w fun e w' => e = .returned (.bool true) ∧ Bl w w' := by
  have KA := Lib.hid (ex_ok (cs := exA) (by decide +kernel))
  have KB := Lib.hid (ex_ok (cs := exB) (by decide +kernel))
  have KC := Lib.hid (ex_ok (cs := exC) (by decide +kernel))
  have KD := Lib.hid (ex_ok (cs := exD) (by decide +kernel))
  have KE := Lib.hid (ex_ok (cs := exE) (by decide +kernel))
  have R1 := Lib.hid (show checkS 128 (thrErr [⟨0, exA⟩, ⟨0, exB⟩] []) [⟨0, 1⟩] = (0, 0) by decide +kernel)
  have R2 := Lib.hid (show checkS 128 (thrErr [⟨0, exA⟩, ⟨0, exC⟩] []) [⟨0, 1⟩] = (0, 10) by decide +kernel)
  have R3 := Lib.hid (show checkS 128 (thrErr [⟨0, exD⟩, ⟨0, exE⟩] []) [⟨0, 1⟩, ⟨1, 0⟩] = (1, 19) by decide +kernel)
  have R4 := Lib.hid (show meetsS exA exB 1 = (1, 0, true) by decide +kernel)
  have R5 := Lib.hid (show chainS [⟨0, 1⟩] 0 = [0, 1] by decide +kernel)
  have OX : Hid (∀ x ∈ ([⟨0, 1⟩] : List ThrD), okX x) := by
    intro x hx
    rw [List.mem_singleton] at hx
    rw [hx]
    unfold okX isInt
    simp
  have OY : Hid (∀ x ∈ ([⟨0, 1⟩, ⟨1, 0⟩] : List ThrD), okX x) := by
    intro x hx
    simp only [List.mem_cons, List.not_mem_nil, or_false] at hx
    rcases hx with rfl | rfl <;> (unfold okX isInt; simp)
  go_enter Try.func12, Try.ntmps12
  go_wp2_with fail
  obtain ⟨w1, hw1⟩ : ∃ w1, w.alloc (.cells #[.int .i64 0, .int .i64 0, .int .i64 0, .bool true, .bool false, .int .i64 1, .int .i64 200, .int .i64 200, .bool false, .bool true] 49) = w1 := ⟨_, rfl⟩
  have s1 : w1.heap.size = w.heap.size + 1 := by rw [← hw1]; simp
  have b1 : Bl w w1 := by rw [← hw1]; exact bl_alloc (bl_refl _) _
  have IA1 : CallsIn w1.heap.size w1 (.slice (some ⟨w.heap.size, 0, none⟩) 2 2) exA := by rw [← hw1]; exact slIn_new callCells_len exA w _ _ 2 2 rfl (by omega) (by unfold maxLen; omega) rfl
  rw [hw1]
  obtain ⟨w2, hw2⟩ : ∃ w2, w1.alloc (.cells #[.int .i64 1, .int .i64 200, .int .i64 200, .bool true, .bool false, .int .i64 2, .int .i64 300, .int .i64 300, .bool false, .bool true] 49) = w2 := ⟨_, rfl⟩
  have s2 : w2.heap.size = w.heap.size + 2 := by rw [← hw2]; simp; omega
  have b2 : Bl w1 w2 := by rw [← hw2]; exact bl_alloc (bl_refl _) _
  have IB2 : CallsIn w2.heap.size w2 (.slice (some ⟨w.heap.size + 1, 0, none⟩) 2 2) exB := by rw [← hw2, ← s1]; exact slIn_new callCells_len exB w1 _ _ 2 2 rfl (by omega) (by unfold maxLen; omega) rfl
  rw [hw2]
  obtain ⟨w3, hw3⟩ : ∃ w3, w2.alloc (.cells #[.int .i64 1, .int .i64 199, .int .i64 199, .bool true, .bool false, .int .i64 2, .int .i64 300, .int .i64 300, .bool false, .bool true] 49) = w3 := ⟨_, rfl⟩
  have s3 : w3.heap.size = w.heap.size + 3 := by rw [← hw3]; simp; omega
  have b3 : Bl w2 w3 := by rw [← hw3]; exact bl_alloc (bl_refl _) _
  have IC3 : CallsIn w3.heap.size w3 (.slice (some ⟨w.heap.size + 2, 0, none⟩) 2 2) exC := by rw [← hw3, ← s2]; exact slIn_new callCells_len exC w2 _ _ 2 2 rfl (by omega) (by unfold maxLen; omega) rfl
  rw [hw3]
  obtain ⟨w4, hw4⟩ : ∃ w4, w3.alloc (.cells #[.int .i64 0, .int .i64 1] 54) = w4 := ⟨_, rfl⟩
  have s4 : w4.heap.size = w.heap.size + 4 := by rw [← hw4]; simp; omega
  have b4 : Bl w3 w4 := by rw [← hw4]; exact bl_alloc (bl_refl _) _
  have IL4 : ThrIn w4.heap.size w4 (.slice (some ⟨w.heap.size + 3, 0, none⟩) 1 1) [⟨0, 1⟩] := by rw [← hw4, ← s3]; exact slIn_new thrCells_len [⟨0, 1⟩] w3 _ _ 1 1 rfl (by omega) (by unfold maxLen; omega) rfl
  rw [hw4]
  have IA4 := Lib.hid (IA1.bl (bl_next b2 (bl_next b3 b4)))
  have IB4 := Lib.hid (IB2.bl (bl_next b3 b4))
  have IC4 := Lib.hid (IC3.bl b4)
  have HL4 := Lib.hid IL4
  have B4 := Lib.hid (bl_next b1 (bl_next b2 (bl_next b3 b4)))
  have S4 := Lib.hid s4
  clear hw1 hw2 hw3 hw4 s1 s2 s3 b1 b2 b3 b4 IA1 IB2 IC3 IL4
  obtain ⟨w5, hw5⟩ : ∃ w5, w4.alloc (.cells #[.string ⟨#[]⟩, .int .i64 0, .int .i64 0, .bool false, .slice (some ⟨w.heap.size, 0, none⟩) 2 2, .string ⟨#[]⟩, .int .i64 0, .int .i64 0, .bool false, .slice (some ⟨w.heap.size + 1, 0, none⟩) 2 2] 47) = w5 := ⟨_, rfl⟩
  have b5 : Bl w4 w5 := by rw [← hw5]; exact bl_alloc (bl_refl _) _
  have IT5 : SlIn tripCells 5 w5.heap.size w5 (.slice (some ⟨w.heap.size + 4, 0, none⟩) 2 2) [exT (.slice (some ⟨w.heap.size, 0, none⟩) 2 2) exA, exT (.slice (some ⟨w.heap.size + 1, 0, none⟩) 2 2) exB] := by rw [← hw5, ← s4]; exact slIn_new tripCells_len _ w4 _ _ 2 2 rfl (by omega) (by unfold maxLen; omega) rfl
  rw [hw5]
  have HT5 := trips_two IT5 (IA4.out.bl b5) (IB4.out.bl b5) KA.out KB.out
  have HL5 := HL4.out.bl b5
  have B45 := Lib.hid b5
  clear hw5 s4 b5 IT5
  refine (check_c _ _ _ [⟨0, 1⟩] [exT (.slice (some ⟨w.heap.size, 0, none⟩) 2 2) exA, exT (.slice (some ⟨w.heap.size + 1, 0, none⟩) 2 2) exB] [] (0, 0) R1 OX.out _ w5 HL5 HT5 slIn_nil (Nat.le_refl _)).mono ?_
  rintro e w6 ⟨rfl, b6⟩
  have B6 : Hid (Bl w4 w6) := bl_next B45.out b6
  have S46 := B6.out.size
  clear HL5 HT5 b6
  go_wp2_with fail
  obtain ⟨w7, hw7⟩ : ∃ w7, w6.alloc (.cells #[.string ⟨#[]⟩, .int .i64 0, .int .i64 0, .bool false, .slice (some ⟨w.heap.size, 0, none⟩) 2 2, .string ⟨#[]⟩, .int .i64 0, .int .i64 0, .bool false, .slice (some ⟨w.heap.size + 2, 0, none⟩) 2 2] 47) = w7 := ⟨_, rfl⟩
  have b7 : Bl w6 w7 := by rw [← hw7]; exact bl_alloc (bl_refl _) _
  have IT7 : SlIn tripCells 5 w7.heap.size w7 (.slice (some ⟨w6.heap.size, 0, none⟩) 2 2) [exT (.slice (some ⟨w.heap.size, 0, none⟩) 2 2) exA, exT (.slice (some ⟨w.heap.size + 2, 0, none⟩) 2 2) exC] := by rw [← hw7]; exact slIn_new tripCells_len _ w6 _ _ 2 2 rfl (by omega) (by unfold maxLen; omega) rfl
  rw [hw7]
  have HT7 := trips_two IT7 (IA4.out.bl (bl_next B6.out b7)) (IC4.out.bl (bl_next B6.out b7)) KA.out KC.out
  have HL7 := HL4.out.bl (bl_next B6.out b7)
  have B7 : Hid (Bl w4 w7) := bl_next B6.out b7
  clear hw7 b7 IT7
  refine (check_c _ _ _ [⟨0, 1⟩] [exT (.slice (some ⟨w.heap.size, 0, none⟩) 2 2) exA, exT (.slice (some ⟨w.heap.size + 2, 0, none⟩) 2 2) exC] [] (0, 10) R2 OX.out _ w7 HL7 HT7 slIn_nil (Nat.le_refl _)).mono ?_
  rintro e w8 ⟨rfl, b8⟩
  have B8 : Hid (Bl w4 w8) := bl_next B7.out b8
  clear HL7 HT7 b8
  go_wp2_with fail
  obtain ⟨w9, hw9⟩ : ∃ w9, w8.alloc (.cells #[.int .i64 0, .int .i64 0, .int .i64 0, .bool false, .bool false, .int .i64 1, .int .i64 0, .int .i64 0, .bool false, .bool false] 49) = w9 := ⟨_, rfl⟩
  have s9 : w9.heap.size = w8.heap.size + 1 := by rw [← hw9]; simp
  have b9 : Bl w8 w9 := by rw [← hw9]; exact bl_alloc (bl_refl _) _
  have ID9 : CallsIn w9.heap.size w9 (.slice (some ⟨w8.heap.size, 0, none⟩) 2 2) exD := by rw [← hw9]; exact slIn_new callCells_len exD w8 _ _ 2 2 rfl (by omega) (by unfold maxLen; omega) rfl
  rw [hw9]
  obtain ⟨w10, hw10⟩ : ∃ w10, w9.alloc (.cells #[.int .i64 1, .int .i64 0, .int .i64 0, .bool false, .bool false, .int .i64 0, .int .i64 0, .int .i64 0, .bool false, .bool false] 49) = w10 := ⟨_, rfl⟩
  have s10 : w10.heap.size = w8.heap.size + 2 := by rw [← hw10]; simp; omega
  have b10 : Bl w9 w10 := by rw [← hw10]; exact bl_alloc (bl_refl _) _
  have IE10 : CallsIn w10.heap.size w10 (.slice (some ⟨w8.heap.size + 1, 0, none⟩) 2 2) exE := by rw [← hw10, ← s9]; exact slIn_new callCells_len exE w9 _ _ 2 2 rfl (by omega) (by unfold maxLen; omega) rfl
  rw [hw10]
  obtain ⟨w11, hw11⟩ : ∃ w11, w10.alloc (.cells #[.string ⟨#[]⟩, .int .i64 0, .int .i64 0, .bool false, .slice (some ⟨w8.heap.size, 0, none⟩) 2 2, .string ⟨#[]⟩, .int .i64 0, .int .i64 0, .bool false, .slice (some ⟨w8.heap.size + 1, 0, none⟩) 2 2] 47) = w11 := ⟨_, rfl⟩
  have s11 : w11.heap.size = w8.heap.size + 3 := by rw [← hw11]; simp; omega
  have b11 : Bl w10 w11 := by rw [← hw11]; exact bl_alloc (bl_refl _) _
  have IT11 : SlIn tripCells 5 w11.heap.size w11 (.slice (some ⟨w8.heap.size + 2, 0, none⟩) 2 2) [exT (.slice (some ⟨w8.heap.size, 0, none⟩) 2 2) exD, exT (.slice (some ⟨w8.heap.size + 1, 0, none⟩) 2 2) exE] := by rw [← hw11, ← s10]; exact slIn_new tripCells_len _ w10 _ _ 2 2 rfl (by omega) (by unfold maxLen; omega) rfl
  rw [hw11]
  obtain ⟨w12, hw12⟩ : ∃ w12, w11.alloc (.cells #[.int .i64 0, .int .i64 1, .int .i64 1, .int .i64 0] 54) = w12 := ⟨_, rfl⟩
  have b12 : Bl w11 w12 := by rw [← hw12]; exact bl_alloc (bl_refl _) _
  have IM12 : ThrIn w12.heap.size w12 (.slice (some ⟨w8.heap.size + 3, 0, none⟩) 2 2) [⟨0, 1⟩, ⟨1, 0⟩] := by rw [← hw12, ← s11]; exact slIn_new thrCells_len [⟨0, 1⟩, ⟨1, 0⟩] w11 _ _ 2 2 rfl (by omega) (by unfold maxLen; omega) rfl
  rw [hw12]
  have HT12 := trips_two (IT11.bl b12) (ID9.bl (bl_next b10 (bl_next b11 b12))) (IE10.bl (bl_next b11 b12)) KD.out KE.out
  have B12 : Hid (Bl w4 w12) := bl_next B8.out (bl_next b9 (bl_next b10 (bl_next b11 b12)))
  clear hw9 hw10 hw11 hw12 s9 s10 s11 b9 b10 b11 b12 IT11 ID9 IE10
  refine (check_c _ _ _ [⟨0, 1⟩, ⟨1, 0⟩] [exT (.slice (some ⟨w8.heap.size, 0, none⟩) 2 2) exD, exT (.slice (some ⟨w8.heap.size + 1, 0, none⟩) 2 2) exE] [] (1, 19) R3 OY.out _ w12 IM12 HT12 slIn_nil (Nat.le_refl _)).mono ?_
  rintro e w13 ⟨rfl, b13⟩
  have B13 : Hid (Bl w4 w13) := bl_next B12.out b13
  clear IM12 HT12 b13
  go_wp2_with fail
  refine (meets_c _ _ exA exB 1 1 0 true R4 _ w13 (IA4.out.bl B13.out) (IB4.out.bl B13.out) (Nat.le_refl _)).mono ?_
  rintro e w14 ⟨rfl, b14⟩
  have B14 : Hid (Bl w4 w14) := bl_next B13.out b14
  clear b14
  go_wp2_with fail
  refine (chain_c _ [⟨0, 1⟩] 0 (by unfold isInt; omega) (fun x hx => (OX.out x hx).2) (by simp) _ w14 (HL4.out.bl B14.out) (Nat.le_refl _)).mono ?_
  rintro e w15 ⟨v15, rfl, i15, b15⟩
  rw [R5.out] at i15
  have I15 := Lib.hid i15
  have B15 : Hid (Bl w4 w15) := bl_next B14.out b15
  clear i15 b15
  go_wp2_with fail
  refine (same_c _ _ [0, 1] _ _ (I15.out.bl (bl_alloc (bl_refl _) _)) (slIn_new intCells_len [0, 1] w15 _ _ 2 2 rfl (by omega) (by unfold maxLen; omega) rfl) (Nat.le_refl _)).mono ?_
  rintro e w16 ⟨rfl, b16⟩
  go_wp2
  go_ret
  exact ⟨rfl, bl_next B4.out (bl_next B15.out (bl_next (bl_alloc (bl_refl _) _) b16))⟩
end Go.Proofs.Ytjdaikeljmccaaa
