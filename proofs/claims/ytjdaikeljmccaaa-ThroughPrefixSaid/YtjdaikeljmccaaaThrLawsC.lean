/-
  THE LAWS OF THROUGH SERVICES, THIRD PART: Prefix. Conditions: those of each contract.
-/
import Derived.Test.YtjdaikeljmccaaaThrLawsA
import Derived.Lib.MinMax
namespace Go.Proofs.Ytjdaikeljmccaaa
open Go.RowKit
open Frq Thr

theorem prefix_second {α : Type} {err : List α → α → Int} {l : List α} {q f : Int × Int} {n : Nat} (h : checkS 128 err l = q) (h' : checkS 128 err (l.take n) = f) : (q.2 != 0 || f.2 == 0) = true := by
  by_cases h0 : q.2 = 0
  · have := check_take (by rw [h]; exact h0) n (most := 128) (err := err) (l := l)
    rw [h'] at this
    rw [this]
    simp
  · simp [h0]
theorem add_zero (a : Option Addr) (s : Nat) : a.map (fun x => x.add (0 * s)) = a := by
  cases a with
  | none => rfl
  | some x => simp [Addr.add]
theorem slice_thr (a : Option Addr) (n c : Nat) (k : Int) (h0 : 0 ≤ k) (h1 : k ≤ c) (w : World) : (Instr.sliceAt 22 (.slice a n c) none (some (.int .i64 k)) none).run Try.prog w = .ok (.slice a k.toNat c) w := by
  have ht : Try.prog.underlying 22 = some (.slice (Try.prog.elem 22)) := by kernel_rfl
  have hs : (sizeOf (Try.prog.elem 22)).run Try.prog w = .ok 2 w := by kernel_rfl
  rw [run_sliceAt_slice w _ _ _ _ _ ht, run_slice_h w _ a n c ht .i64 k h0 h1, hs]
  simp only [Result.andThen, sliced, add_zero, ite_self, Nat.sub_zero]
theorem slice_gua (a : Option Addr) (n c : Nat) (k : Int) (h0 : 0 ≤ k) (h1 : k ≤ c) (w : World) : (Instr.sliceAt 23 (.slice a n c) none (some (.int .i64 k)) none).run Try.prog w = .ok (.slice a k.toNat c) w := by
  have ht : Try.prog.underlying 23 = some (.slice (Try.prog.elem 23)) := by kernel_rfl
  have hs : (sizeOf (Try.prog.elem 23)).run Try.prog w = .ok 3 w := by kernel_rfl
  rw [run_sliceAt_slice w _ _ _ _ _ ht, run_slice_h w _ a n c ht .i64 k h0 h1, hs]
  simp only [Result.andThen, sliced, add_zero, ite_self, Nat.sub_zero]
/-- The place of a cut at k. -/
theorem min_cut {k : Int} (h0 : 0 ≤ k) (n c : Nat) (hc : n ≤ c) : ∃ m : Nat, m ≤ n ∧ (((k ≤ n ∧ k ≤ c) ∧ m = k.toNat) ∨ (((n : Int) < k ∧ (n : Int) ≤ c) ∧ m = n)) := by
  by_cases h : k ≤ n
  · exact ⟨k.toNat, by omega, .inl ⟨by omega, rfl⟩⟩
  · exact ⟨n, Nat.le_refl _, .inr ⟨by omega, rfl⟩⟩
set_option maxRecDepth 100000 in
set_option maxHeartbeats 8000000 in
theorem prefix_law (t : TabD) (k : Int) (B : Nat) (w : World) (ht : TabRd B w t) (hB : B ≤ w.heap.size) :
    Calls Try.prog 10 #[.agg #[t.v1, t.v2, t.v3, t.v4, .int .i64 t.stops], .int .i64 k] w fun e w' => e = .returned (.bool true) ∧ Bl w w' := by
  have HT := Lib.hid ht
  obtain ⟨a1, a2, a3, a4, c1, c2, c3, c4, hte, ⟨l1, l1'⟩, ⟨l2, l2'⟩, ⟨l3, l3'⟩, ⟨l4, l4'⟩⟩ := ht.vals
  obtain ⟨v1, v2, v3, v4, xs, gs, ts, fs, st⟩ := t
  simp only [TabD.mk.injEq, and_true] at hte
  obtain ⟨rfl, rfl, rfl, rfl⟩ := hte
  simp only at l1 l2 l3 l4 ⊢
  obtain ⟨w1, hw1⟩ : ∃ w1, w.alloc (.cells #[.slice a1 xs.length c1, .slice a2 gs.length c2, .slice a3 ts.length c3, .slice a4 fs.length c4, .int .i64 st] 27) = w1 := ⟨_, rfl⟩
  have b1 : Bl w w1 := by rw [← hw1]; exact bl_alloc (bl_refl _) _
  have hk : TbCl w1 w.heap.size ⟨.slice a1 xs.length c1, .slice a2 gs.length c2, .slice a3 ts.length c3, .slice a4 fs.length c4, xs, gs, ts, fs, st⟩ := by rw [← hw1]; exact tbCl_new w ⟨.slice a1 xs.length c1, .slice a2 gs.length c2, .slice a3 ts.length c3, .slice a4 fs.length c4, xs, gs, ts, fs, st⟩ _
  have s1 : w1.heap.size = w.heap.size + 1 := by rw [← hw1]; simp
  have HK := Lib.hid hk
  have B1 := Lib.hid b1
  obtain ⟨k0, k1, k2, k3, k4⟩ := hk
  obtain ⟨r, hr⟩ : ∃ r, smallB ⟨.slice a1 xs.length c1, .slice a2 gs.length c2, .slice a3 ts.length c3, .slice a4 fs.length c4, xs, gs, ts, fs, st⟩ = r := ⟨_, rfl⟩
  have HR := Lib.hid hr
  obtain ⟨q, hq⟩ : ∃ q, checkS 128 (thrErr (ts.map trpOf) fs) xs = q := ⟨_, rfl⟩
  obtain ⟨q1, q2⟩ := q
  have HQ := Lib.hid hq
  obtain ⟨p, hp⟩ : ∃ p, checkS 128 (guaErr (ts.map trpOf) fs st) gs = p := ⟨_, rfl⟩
  obtain ⟨p1, p2⟩ := p
  have HP := Lib.hid hp
  clear ht b1 hr hq hp
  go_enter Try.func10, Try.ntmps10
  go_wp2_with fail
  clear hw1
  refine (small_c ⟨.slice a1 xs.length c1, .slice a2 gs.length c2, .slice a3 ts.length c3, .slice a4 fs.length c4, xs, gs, ts, fs, st⟩ r HR B w1 (HT.out.bl B1.out hB) (by omega)).mono ?_
  rintro e w2 ⟨rfl, b2⟩
  have B2 : Hid (Bl w w2) := bl_next B1.out b2
  have HK2 := Lib.hid (HK.out.bl (by omega) b2)
  have z2 := b2.size
  clear b2 k0 k1 k2 k3 k4
  cases r with
  | false =>
    go_wp2_with fail
    refine (example_c _).mono ?_
    rintro e w3 ⟨rfl, b3⟩
    go_wp2
    go_ret
    exact ⟨rfl, bl_next B2.out b3⟩
  | true =>
    by_cases hneg : k < 0
    · go_wp2_with fail
      refine (example_c _).mono ?_
      rintro e w3 ⟨rfl, b3⟩
      go_wp2
      go_ret
      exact ⟨rfl, bl_next B2.out b3⟩
    have hk0 : 0 ≤ k := by omega
    have HXL := small_thr HR.out
    simp only at HXL
    clear hneg
    obtain ⟨k0, k1, k2, k3, k4⟩ := HK2.out
    go_wp2_with fail
    refine (check_c _ _ _ xs ts fs (q1, q2) HQ HT.out.okx B w2 (HT.out.thr.out B2.out hB) (HT.out.trips.bl B2.out hB) (HT.out.reps.out B2.out hB) (by omega)).mono ?_
    rintro e w3 ⟨rfl, b3⟩
    have B3 : Hid (Bl w w3) := bl_next B2.out b3
    have HK3 := Lib.hid (HK2.out.bl (by omega) b3)
    have z3 := b3.size
    clear b3 k0 k1 k2 k3 k4
    obtain ⟨k0, k1, k2, k3, k4⟩ := HK3.out
    obtain ⟨m, hm, hmk⟩ := min_cut hk0 xs.length c1 l1
    obtain ⟨f, hf⟩ : ∃ f, checkS 128 (thrErr (ts.map trpOf) fs) (xs.take m) = f := ⟨_, rfl⟩
    obtain ⟨f1, f2⟩ := f
    have HF := Lib.hid hf
    have HE : Hid ((q2 != 0 || f2 == 0) = true) := prefix_second HQ.out hf
    have hold : ∀ w' : World, Bl w3 w' → w'.cell? ⟨w.heap.size, 0, none⟩ = some (.slice a1 xs.length c1) ∧ w'.cell? ⟨w.heap.size, 1, none⟩ = some (.slice a2 gs.length c2) ∧ w'.cell? ⟨w.heap.size, 2, none⟩ = some (.slice a3 ts.length c3) ∧ w'.cell? ⟨w.heap.size, 3, none⟩ = some (.slice a4 fs.length c4) ∧ w'.cell? ⟨w.heap.size, 4, none⟩ = some (.int .i64 st) := fun w' hb => (HK3.out.bl (by omega) hb)
    have HH := Lib.hid hold
    rcases hmk with ⟨⟨hlt, hmc⟩, rfl⟩ | ⟨⟨hge, hmc⟩, rfl⟩
    case' inl =>
      have hsl := fun w => slice_thr a1 xs.length c1 k hk0 hmc w
      have hmin : min k (xs.length : Int) = k := by omega
    case' inr =>
      have hsl := fun w => slice_thr a1 xs.length c1 xs.length (by omega) hmc w
      have hmin : min k (xs.length : Int) = xs.length := by omega
    all_goals
      clear hf
      go_wp2_with fail
      go_region_held3 (fun w' => w'.cell? ⟨w.heap.size, 0, none⟩ = some (.slice a1 xs.length c1) ∧ w'.cell? ⟨w.heap.size, 1, none⟩ = some (.slice a2 gs.length c2) ∧ w'.cell? ⟨w.heap.size, 2, none⟩ = some (.slice a3 ts.length c3) ∧ w'.cell? ⟨w.heap.size, 3, none⟩ = some (.slice a4 fs.length c4) ∧ w'.cell? ⟨w.heap.size, 4, none⟩ = some (.int .i64 st)) (first | exact hold _ (bl_drew (bl_refl _)) | exact hold _ (bl_next (bl_drew (bl_refl _)) b4)) (first | (go_at_call 13; refine (check_c _ _ _ _ ts fs (f1, f2) HF (fun x hx => HT.out.okx x (List.mem_of_mem_take hx)) B _ ((HT.out.thr.take hm).out (bl_next B3.out (bl_drew (bl_refl _))) hB) (HT.out.trips.bl (bl_next B3.out (bl_drew (bl_refl _))) hB) (HT.out.reps.out (bl_next B3.out (bl_drew (bl_refl _))) hB) (by simp; omega)).mono ?_; rintro e w4 ⟨rfl, b4⟩))
      all_goals
        have B4 : Hid (Bl w w4) := bl_next B3.out (bl_next (bl_drew (bl_refl _)) b4)
        have HK4 : Hid (TbCl w4 w.heap.size ⟨.slice a1 xs.length c1, .slice a2 gs.length c2, .slice a3 ts.length c3, .slice a4 fs.length c4, xs, gs, ts, fs, st⟩) := hold _ (bl_next (bl_drew (bl_refl _)) b4)
        have z4 : w3.heap.size ≤ w4.heap.size := (bl_next (bl_drew (bl_refl _)) b4).size
        clear hold HH k0 k1 k2 k3 k4 b4 hm hmc
        obtain ⟨k0, k1, k2, k3, k4⟩ := HK4.out
        go_wp2_with fail
        refine (gcheck_c _ _ _ gs ts fs st (p1, p2) HP HT.out.okg B w4 (HT.out.gua.out B4.out hB) (HT.out.trips.bl B4.out hB) (HT.out.reps.out B4.out hB) (by omega)).mono ?_
        rintro e w5 ⟨rfl, b5⟩
        have B5 : Hid (Bl w w5) := bl_next B4.out b5
        have HK5 := Lib.hid (HK4.out.bl (by omega) b5)
        have z5 := b5.size
        clear b5 k0 k1 k2 k3 k4
        obtain ⟨k0, k1, k2, k3, k4⟩ := HK5.out
        obtain ⟨m', hm', hmk'⟩ := min_cut hk0 gs.length c2 l2
        obtain ⟨g, hg⟩ : ∃ g, checkS 128 (guaErr (ts.map trpOf) fs st) (gs.take m') = g := ⟨_, rfl⟩
        obtain ⟨g1, g2⟩ := g
        have HG := Lib.hid hg
        have HE2 : Hid ((p2 != 0 || g2 == 0) = true) := prefix_second HP.out hg
        have hold : ∀ w' : World, Bl w5 w' → w'.cell? ⟨w.heap.size, 0, none⟩ = some (.slice a1 xs.length c1) ∧ w'.cell? ⟨w.heap.size, 1, none⟩ = some (.slice a2 gs.length c2) ∧ w'.cell? ⟨w.heap.size, 2, none⟩ = some (.slice a3 ts.length c3) ∧ w'.cell? ⟨w.heap.size, 3, none⟩ = some (.slice a4 fs.length c4) ∧ w'.cell? ⟨w.heap.size, 4, none⟩ = some (.int .i64 st) := fun w' hb => (HK5.out.bl (by omega) hb)
        have hw5 : B ≤ w5.heap.size := by omega
        clear hg
        clear hsl hmin
        rcases hmk' with ⟨⟨hlt', hmc'⟩, rfl⟩ | ⟨⟨hge', hmc'⟩, rfl⟩
        case' inl =>
          have hsl' := fun w => slice_gua a2 gs.length c2 k hk0 hmc' w
          have hmin' : min k (gs.length : Int) = k := by omega
        case' inr =>
          have hsl' := fun w => slice_gua a2 gs.length c2 gs.length (by omega) hmc' w
          have hmin' : min k (gs.length : Int) = gs.length := by omega
        all_goals
          go_wp2_with fail
          go_region_held3 (fun w' => w'.cell? ⟨w.heap.size, 0, none⟩ = some (.slice a1 xs.length c1) ∧ w'.cell? ⟨w.heap.size, 1, none⟩ = some (.slice a2 gs.length c2) ∧ w'.cell? ⟨w.heap.size, 2, none⟩ = some (.slice a3 ts.length c3) ∧ w'.cell? ⟨w.heap.size, 3, none⟩ = some (.slice a4 fs.length c4) ∧ w'.cell? ⟨w.heap.size, 4, none⟩ = some (.int .i64 st)) (first | exact hold _ (bl_drew (bl_refl _)) | exact hold _ (bl_next (bl_drew (bl_refl _)) b6)) (first | (go_at_call 23; refine (gcheck_c _ _ _ _ ts fs st (g1, g2) HG (fun x hx => HT.out.okg x (List.mem_of_mem_take hx)) B _ ((HT.out.gua.take hm').out (bl_next B5.out (bl_drew (bl_refl _))) hB) (HT.out.trips.bl (bl_next B5.out (bl_drew (bl_refl _))) hB) (HT.out.reps.out (bl_next B5.out (bl_drew (bl_refl _))) hB) (by simp; omega)).mono ?_; rintro e w6 ⟨rfl, b6⟩))
          all_goals
            have B6 : Hid (Bl w w6) := bl_next B5.out (bl_next (bl_drew (bl_refl _)) b6)
            have e1 := HE.out
            have e2 := HE2.out
            clear hold k0 k1 k2 k3 k4 b6 hm' hmc' HE HE2 hsl' hmin'
            rcases Bool.eq_false_or_eq_true (q2 != 0) with hq | hq
            · rcases Bool.eq_false_or_eq_true (p2 != 0) with hp | hp
              · clear e1 e2
                go_wp2_with fail
                refine (example_c _).mono ?_
                rintro e w7 ⟨rfl, b7⟩
                go_wp2
                go_ret
                exact ⟨rfl, bl_next B6.out b7⟩
              · rw [hp, Bool.false_or] at e2
                clear e1
                go_wp2_with fail
                refine (example_c _).mono ?_
                rintro e w7 ⟨rfl, b7⟩
                go_wp2
                go_ret
                exact ⟨rfl, bl_next B6.out b7⟩
            · rw [hq, Bool.false_or] at e1
              rcases Bool.eq_false_or_eq_true (p2 != 0) with hp | hp
              · clear e2
                go_wp2_with fail
                refine (example_c _).mono ?_
                rintro e w7 ⟨rfl, b7⟩
                go_wp2
                go_ret
                exact ⟨rfl, bl_next B6.out b7⟩
              · rw [hp, Bool.false_or] at e2
                go_wp2_with fail
                refine (example_c _).mono ?_
                rintro e w7 ⟨rfl, b7⟩
                go_wp2
                go_ret
                exact ⟨rfl, bl_next B6.out b7⟩
end Go.Proofs.Ytjdaikeljmccaaa
