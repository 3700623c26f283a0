/-
  THE LAWS OF THROUGH SERVICES, FIRST PART: Next, Chains, Meets, Checks, Guarantees. Conditions: those of each contract.
-/
import Derived.Test.YtjdaikeljmccaaaThrWalksI
namespace Go.Proofs.Ytjdaikeljmccaaa
open Go.RowKit
open Frq Thr

set_option maxHeartbeats 4000000 in
theorem next_law (v : Value) (l : List ThrD) (trip : Int) (B : Nat) (w : World) (hl : ThrIn B w v l) (hB : B ≤ w.heap.size) :
    Calls Try.prog 4 #[v, .int .i64 trip] w fun e w' => e = .returned (.bool true) ∧ Bl w w' := by
  have HL := Lib.hid hl
  obtain ⟨a, cap, rfl, l1, l2⟩ := hl.val
  clear hl
  by_cases h : 150 < l.length
  · go_enter Try.func4, Try.ntmps4
    go_wp2_with fail
    refine (example_c _).mono ?_
    rintro e w1 ⟨rfl, b1⟩
    go_wp2
    go_ret
    exact ⟨rfl, b1⟩
  · obtain ⟨n, hn⟩ : ∃ n, nextN l trip = n := ⟨_, rfl⟩
    obtain ⟨b, hb⟩ : ∃ b, nextB l trip = b := ⟨_, rfl⟩
    have HN := Lib.hid hn
    have HB := Lib.hid hb
    have qn : (n == n) = true := by simp
    clear hn hb
    go_enter Try.func4, Try.ntmps4
    go_wp2_with fail
    refine (next_c _ l trip B w HL.out hB).mono ?_
    rintro e w1 ⟨rfl, b1⟩
    have z1 := b1.size
    rw [HN.out, HB.out]
    go_wp2_with fail
    refine (rnext_c _ l trip B w1 (HL.out.out b1 hB) (by omega)).mono ?_
    rintro e w2 ⟨rfl, rfl⟩
    rw [HN.out, HB.out]
    cases b
    all_goals
      go_wp2_with fail
      refine (example_c _).mono ?_
      rintro e w2 ⟨rfl, b2⟩
      go_wp2
      go_ret
      exact ⟨rfl, bl_next b1 b2⟩

set_option maxHeartbeats 4000000 in
theorem chains_law (v : Value) (l : List ThrD) (trip : Int) (htr : isInt trip) (hok : ∀ x ∈ l, okX x) (B : Nat) (w : World) (hl : ThrIn B w v l) (hB : B ≤ w.heap.size) :
    Calls Try.prog 5 #[v, .int .i64 trip] w fun e w' => e = .returned (.bool true) ∧ Bl w w' := by
  have HL := Lib.hid hl
  have HT := Lib.hid htr
  have HO := Lib.hid hok
  obtain ⟨a, cap, rfl, l1, l2⟩ := hl.val
  clear hl htr hok
  by_cases h : 150 < l.length
  · go_enter Try.func5, Try.ntmps5
    go_wp2_with fail
    refine (example_c _).mono ?_
    rintro e w1 ⟨rfl, b1⟩
    go_wp2
    go_ret
    exact ⟨rfl, b1⟩
  · go_enter Try.func5, Try.ntmps5
    go_wp2_with fail
    refine (chain_c _ l trip HT.out (fun x hx => (HO.out x hx).2) (by omega) B w HL.out hB).mono ?_
    rintro e w1 ⟨v1, rfl, i1, b1⟩
    have I1 := Lib.hid i1
    have z1 := b1.size
    clear i1
    go_wp2_with fail
    refine (rchain_c _ l trip (by omega) B w1 (HL.out.out b1 hB) (by omega)).mono ?_
    rintro e w2 ⟨v2, rfl, i2, b2⟩
    have I2 := Lib.hid i2
    clear i2
    go_wp2_with fail
    refine (same_c _ _ _ _ _ (I1.out.bl b2) I2.out (Nat.le_refl _)).mono ?_
    rintro e w3 ⟨rfl, b3⟩
    go_wp2_with fail
    refine (example_c _).mono ?_
    rintro e w4 ⟨rfl, b4⟩
    go_wp2
    go_ret
    exact ⟨rfl, bl_next b1 (bl_next b2 (bl_next b3 b4))⟩

set_option maxHeartbeats 4000000 in
theorem meets_law (va vb : Value) (a b : List CallD) (stop : Int) (B : Nat) (w : World) (ha : CallsIn B w va a) (hb : CallsIn B w vb b) (hB : B ≤ w.heap.size) :
    Calls Try.prog 6 #[va, vb, .int .i64 stop] w fun e w' => e = .returned (.bool true) ∧ Bl w w' := by
  have HA := Lib.hid ha
  have HB := Lib.hid hb
  obtain ⟨aa, capa, rfl, la1, la2⟩ := ha.val
  obtain ⟨ab, capb, rfl, lb1, lb2⟩ := hb.val
  obtain ⟨m, hm⟩ : ∃ m, meetsS a b stop = m := ⟨_, rfl⟩
  obtain ⟨m1, m2, m3⟩ := m
  have HM := Lib.hid hm
  have q1 : (m1 == m1) = true := by simp
  have q2 : (m2 == m2) = true := by simp
  clear ha hb hm
  by_cases h : 100 < a.length
  · go_enter Try.func6, Try.ntmps6
    go_wp2_with fail
    refine (example_c _).mono ?_
    rintro e w1 ⟨rfl, b1⟩
    go_wp2
    go_ret
    exact ⟨rfl, b1⟩
  by_cases h' : 100 < b.length
  · go_enter Try.func6, Try.ntmps6
    go_wp2_with fail
    refine (example_c _).mono ?_
    rintro e w1 ⟨rfl, b1⟩
    go_wp2
    go_ret
    exact ⟨rfl, b1⟩
  · go_enter Try.func6, Try.ntmps6
    go_wp2_with fail
    refine (meets_c _ _ a b stop m1 m2 m3 HM B w HA.out HB.out hB).mono ?_
    rintro e w1 ⟨rfl, b1⟩
    have z1 := b1.size
    go_wp2_with fail
    refine (rmeets_c _ _ a b stop m1 m2 m3 HM B w1 (HA.out.out b1 hB) (HB.out.out b1 hB) (by omega)).mono ?_
    rintro e w2 ⟨rfl, b2⟩
    cases m3
    all_goals
      go_wp2_with fail
      refine (example_c _).mono ?_
      rintro e w3 ⟨rfl, b3⟩
      go_wp2
      go_ret
      exact ⟨rfl, bl_next b1 (bl_next b2 b3)⟩

/-- A table's cells, at the head of a block. -/
def TbCl (w : World) (b : Nat) (t : TabD) : Prop := w.cell? ⟨b, 0, none⟩ = some t.v1 ∧ w.cell? ⟨b, 1, none⟩ = some t.v2 ∧ w.cell? ⟨b, 2, none⟩ = some t.v3 ∧ w.cell? ⟨b, 3, none⟩ = some t.v4 ∧ w.cell? ⟨b, 4, none⟩ = some (.int .i64 t.stops)
theorem tbCl_new (w : World) (t : TabD) (T : TypeId) : TbCl (w.alloc (.cells #[t.v1, t.v2, t.v3, t.v4, .int .i64 t.stops] T)) w.heap.size t := by
  refine ⟨?_, ?_, ?_, ?_, ?_⟩ <;> (rw [World.cell?_alloc_at (hn := rfl)]; rfl)
theorem TbCl.bl {w w' : World} {b : Nat} {t : TabD} (h : TbCl w b t) (hlt : b < w.heap.size) (hb : Bl w w') : TbCl w' b t := by
  obtain ⟨h0, h1, h2, h3, h4⟩ := h
  exact ⟨((bl_cell hb).1 _ _ hlt).trans h0, ((bl_cell hb).1 _ _ hlt).trans h1, ((bl_cell hb).1 _ _ hlt).trans h2, ((bl_cell hb).1 _ _ hlt).trans h3, ((bl_cell hb).1 _ _ hlt).trans h4⟩
theorem TabRd.vals {B : Nat} {w : World} {t : TabD} (h : TabRd B w t) : ∃ (a1 a2 a3 a4 : Option Addr) (c1 c2 c3 c4 : Nat), t = ⟨.slice a1 t.thr.length c1, .slice a2 t.gua.length c2, .slice a3 t.trips.length c3, .slice a4 t.reps.length c4, t.thr, t.gua, t.trips, t.reps, t.stops⟩ ∧
    (t.thr.length ≤ c1 ∧ c1 ≤ 9223372036854775807) ∧ (t.gua.length ≤ c2 ∧ c2 ≤ 9223372036854775807) ∧ (t.trips.length ≤ c3 ∧ c3 ≤ 9223372036854775807) ∧ (t.reps.length ≤ c4 ∧ c4 ≤ 9223372036854775807) := by
  obtain ⟨a1, c1, h1, l1⟩ := h.thr.val
  obtain ⟨a2, c2, h2, l2⟩ := h.gua.val
  obtain ⟨a3, c3, h3, l3⟩ := h.trips.sl.val
  obtain ⟨a4, c4, h4, l4⟩ := h.reps.val
  refine ⟨a1, a2, a3, a4, c1, c2, c3, c4, ?_, l1, l2, l3, l4⟩
  rw [← h1, ← h2, ← h3, ← h4]
theorem small_thr {t : TabD} (h : smallB t = true) : t.thr.length ≤ 150 := by
  unfold smallB at h
  simp only [Bool.and_eq_true, decide_eq_true_eq] at h
  exact h.1.1
set_option maxHeartbeats 4000000 in
theorem checks_law (t : TabD) (B : Nat) (w : World) (ht : TabRd B w t) (hB : B ≤ w.heap.size) :
    Calls Try.prog 3 #[.agg #[t.v1, t.v2, t.v3, t.v4, .int .i64 t.stops]] w fun e w' => e = .returned (.bool true) ∧ Bl w w' := by
  have HT := Lib.hid ht
  obtain ⟨a1, a2, a3, a4, c1, c2, c3, c4, hte, -⟩ := ht.vals
  obtain ⟨v1, v2, v3, v4, xs, gs, ts, fs, st⟩ := t
  simp only [TabD.mk.injEq, and_true] at hte
  obtain ⟨rfl, rfl, rfl, rfl⟩ := hte
  simp only
  obtain ⟨w1, hw1⟩ : ∃ w1, w.alloc (.cells #[.slice a1 xs.length c1, .slice a2 gs.length c2, .slice a3 ts.length c3, .slice a4 fs.length c4, .int .i64 st] 27) = w1 := ⟨_, rfl⟩
  have b1 : Bl w w1 := by rw [← hw1]; exact bl_alloc (bl_refl _) _
  have hk : TbCl w1 w.heap.size ⟨.slice a1 xs.length c1, .slice a2 gs.length c2, .slice a3 ts.length c3, .slice a4 fs.length c4, xs, gs, ts, fs, st⟩ := by rw [← hw1]; exact tbCl_new w ⟨.slice a1 xs.length c1, .slice a2 gs.length c2, .slice a3 ts.length c3, .slice a4 fs.length c4, xs, gs, ts, fs, st⟩ _
  have s1 : w1.heap.size = w.heap.size + 1 := by rw [← hw1]; simp
  have HK := Lib.hid hk
  have B1 := Lib.hid b1
  obtain ⟨k0, k1, k2, k3, k4⟩ := hk
  obtain ⟨r, hr⟩ : ∃ r, smallB ⟨.slice a1 xs.length c1, .slice a2 gs.length c2, .slice a3 ts.length c3, .slice a4 fs.length c4, xs, gs, ts, fs, st⟩ = r := ⟨_, rfl⟩
  have HR := Lib.hid hr
  obtain ⟨q, hq⟩ : ∃ q, checkS 128 (thrErr (ts.map trpOf) fs) xs = q := ⟨_, rfl⟩
  obtain ⟨q1, q2⟩ := q
  have HQ := Lib.hid hq
  have e1 : (q1 == q1) = true := by simp
  have e2 : (q2 == q2) = true := by simp
  clear ht b1 hr hq
  go_enter Try.func3, Try.ntmps3
  go_wp2_with fail
  clear hw1
  refine (small_c ⟨.slice a1 xs.length c1, .slice a2 gs.length c2, .slice a3 ts.length c3, .slice a4 fs.length c4, xs, gs, ts, fs, st⟩ r HR B w1 (HT.out.bl B1.out hB) (by omega)).mono ?_
  rintro e w2 ⟨rfl, b2⟩
  have B2 : Hid (Bl w w2) := bl_next B1.out b2
  have HK2 := Lib.hid (HK.out.bl (by omega) b2)
  have z2 := b2.size
  clear b2 k0 k1 k2 k3 k4
  cases r with
  | false =>
    go_wp2_with fail
    refine (example_c _).mono ?_
    rintro e w3 ⟨rfl, b3⟩
    go_wp2
    go_ret
    exact ⟨rfl, bl_next B2.out b3⟩
  | true =>
    obtain ⟨k0, k1, k2, k3, k4⟩ := HK2.out
    go_wp2_with fail
    refine (check_c _ _ _ xs ts fs (q1, q2) HQ HT.out.okx B w2 (HT.out.thr.out B2.out hB) (HT.out.trips.bl B2.out hB) (HT.out.reps.out B2.out hB) (by omega)).mono ?_
    rintro e w3 ⟨rfl, b3⟩
    have B3 : Hid (Bl w w3) := bl_next B2.out b3
    have HK3 := Lib.hid (HK2.out.bl (by omega) b3)
    have z3 := b3.size
    clear b3 k0 k1 k2 k3 k4
    obtain ⟨k0, k1, k2, k3, k4⟩ := HK3.out
    go_wp2_with fail
    refine (rcheck_c _ _ _ xs ts fs (q1, q2) HQ B w3 (HT.out.thr.out B3.out hB) (HT.out.trips.bl B3.out hB) (HT.out.reps.out B3.out hB) (by omega)).mono ?_
    rintro e w4 ⟨rfl, b4⟩
    clear k0 k1 k2 k3 k4
    go_wp2_with fail
    refine (example_c _).mono ?_
    rintro e w5 ⟨rfl, b5⟩
    go_wp2
    go_ret
    exact ⟨rfl, bl_next B3.out (bl_next b4 b5)⟩
set_option maxHeartbeats 4000000 in
theorem guarantees_law (t : TabD) (B : Nat) (w : World) (ht : TabRd B w t) (hB : B ≤ w.heap.size) :
    Calls Try.prog 9 #[.agg #[t.v1, t.v2, t.v3, t.v4, .int .i64 t.stops]] w fun e w' => e = .returned (.bool true) ∧ Bl w w' := by
  have HT := Lib.hid ht
  obtain ⟨a1, a2, a3, a4, c1, c2, c3, c4, hte, -⟩ := ht.vals
  obtain ⟨v1, v2, v3, v4, xs, gs, ts, fs, st⟩ := t
  simp only [TabD.mk.injEq, and_true] at hte
  obtain ⟨rfl, rfl, rfl, rfl⟩ := hte
  simp only
  obtain ⟨w1, hw1⟩ : ∃ w1, w.alloc (.cells #[.slice a1 xs.length c1, .slice a2 gs.length c2, .slice a3 ts.length c3, .slice a4 fs.length c4, .int .i64 st] 27) = w1 := ⟨_, rfl⟩
  have b1 : Bl w w1 := by rw [← hw1]; exact bl_alloc (bl_refl _) _
  have hk : TbCl w1 w.heap.size ⟨.slice a1 xs.length c1, .slice a2 gs.length c2, .slice a3 ts.length c3, .slice a4 fs.length c4, xs, gs, ts, fs, st⟩ := by rw [← hw1]; exact tbCl_new w ⟨.slice a1 xs.length c1, .slice a2 gs.length c2, .slice a3 ts.length c3, .slice a4 fs.length c4, xs, gs, ts, fs, st⟩ _
  have s1 : w1.heap.size = w.heap.size + 1 := by rw [← hw1]; simp
  have HK := Lib.hid hk
  have B1 := Lib.hid b1
  obtain ⟨k0, k1, k2, k3, k4⟩ := hk
  obtain ⟨r, hr⟩ : ∃ r, smallB ⟨.slice a1 xs.length c1, .slice a2 gs.length c2, .slice a3 ts.length c3, .slice a4 fs.length c4, xs, gs, ts, fs, st⟩ = r := ⟨_, rfl⟩
  have HR := Lib.hid hr
  obtain ⟨q, hq⟩ : ∃ q, checkS 128 (guaErr (ts.map trpOf) fs st) gs = q := ⟨_, rfl⟩
  obtain ⟨q1, q2⟩ := q
  have HQ := Lib.hid hq
  have e1 : (q1 == q1) = true := by simp
  have e2 : (q2 == q2) = true := by simp
  clear ht b1 hr hq
  go_enter Try.func9, Try.ntmps9
  go_wp2_with fail
  clear hw1
  refine (small_c ⟨.slice a1 xs.length c1, .slice a2 gs.length c2, .slice a3 ts.length c3, .slice a4 fs.length c4, xs, gs, ts, fs, st⟩ r HR B w1 (HT.out.bl B1.out hB) (by omega)).mono ?_
  rintro e w2 ⟨rfl, b2⟩
  have B2 : Hid (Bl w w2) := bl_next B1.out b2
  have HK2 := Lib.hid (HK.out.bl (by omega) b2)
  have z2 := b2.size
  clear b2 k0 k1 k2 k3 k4
  cases r with
  | false =>
    go_wp2_with fail
    refine (example_c _).mono ?_
    rintro e w3 ⟨rfl, b3⟩
    go_wp2
    go_ret
    exact ⟨rfl, bl_next B2.out b3⟩
  | true =>
    obtain ⟨k0, k1, k2, k3, k4⟩ := HK2.out
    go_wp2_with fail
    refine (gcheck_c _ _ _ gs ts fs st (q1, q2) HQ HT.out.okg B w2 (HT.out.gua.out B2.out hB) (HT.out.trips.bl B2.out hB) (HT.out.reps.out B2.out hB) (by omega)).mono ?_
    rintro e w3 ⟨rfl, b3⟩
    have B3 : Hid (Bl w w3) := bl_next B2.out b3
    have HK3 := Lib.hid (HK2.out.bl (by omega) b3)
    have z3 := b3.size
    clear b3 k0 k1 k2 k3 k4
    obtain ⟨k0, k1, k2, k3, k4⟩ := HK3.out
    go_wp2_with fail
    refine (rgcheck_c _ _ _ gs ts fs st (q1, q2) HQ B w3 (HT.out.gua.out B3.out hB) (HT.out.trips.bl B3.out hB) (HT.out.reps.out B3.out hB) (by omega)).mono ?_
    rintro e w4 ⟨rfl, b4⟩
    clear k0 k1 k2 k3 k4
    go_wp2_with fail
    refine (example_c _).mono ?_
    rintro e w5 ⟨rfl, b5⟩
    go_wp2
    go_ret
    exact ⟨rfl, bl_next B3.out (bl_next b4 b5)⟩
end Go.Proofs.Ytjdaikeljmccaaa
