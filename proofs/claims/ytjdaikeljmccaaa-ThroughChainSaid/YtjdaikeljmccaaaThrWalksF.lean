/-
  THE CONTRACTS OF THROUGH SERVICES, SIXTH PART: the reference's one and Check. Conditions: those of each contract.
-/
import Derived.Test.YtjdaikeljmccaaaThrWalksE
namespace Go.Proofs.Ytjdaikeljmccaaa
open Go.RowKit
open Frq Thr

def TCl (w : World) (b : Nat) (t : TripD) (v : Value) : Prop := w.cell? ⟨b, 0, none⟩ = some (.string t.id) ∧ w.cell? ⟨b, 1, none⟩ = some (.int .i64 t.rt) ∧ w.cell? ⟨b, 2, none⟩ = some (.int .i64 t.cal) ∧ w.cell? ⟨b, 3, none⟩ = some (.bool t.step) ∧ w.cell? ⟨b, 4, none⟩ = some v
/-- Two trips, each in a block of its own. -/
def TwoT (w : World) (t u : TripD) (vt vu s s' : Value) (wx : World) : Prop := ∃ b1 b2 : Nat, s = .pointer (some ⟨b1, 0, none⟩) ∧ s' = .pointer (some ⟨b2, 0, none⟩) ∧ (b1 < wx.heap.size ∧ b2 < wx.heap.size) ∧ TCl wx b1 t vt ∧ TCl wx b2 u vu ∧ Bl w wx
theorem tcl_new (w : World) (t : TripD) (v : Value) (T : TypeId) : TCl (w.alloc (.cells #[.string t.id, .int .i64 t.rt, .int .i64 t.cal, .bool t.step, v] T)) w.heap.size t v := by
  refine ⟨?_, ?_, ?_, ?_, ?_⟩ <;> (rw [World.cell?_alloc_at (hn := rfl)]; rfl)
theorem TCl.bl {w w' : World} {b : Nat} {t : TripD} {v : Value} (h : TCl w b t v) (hlt : b < w.heap.size) (hb : Bl w w') : TCl w' b t v := by
  obtain ⟨h0, h1, h2, h3, h4⟩ := h
  exact ⟨((bl_cell hb).1 _ _ hlt).trans h0, ((bl_cell hb).1 _ _ hlt).trans h1, ((bl_cell hb).1 _ _ hlt).trans h2, ((bl_cell hb).1 _ _ hlt).trans h3, ((bl_cell hb).1 _ _ hlt).trans h4⟩
theorem twoT_1 (w : World) (t u : TripD) (vt vu : Value) (T : TypeId) : TwoT w t u vt vu (.pointer (some ⟨w.heap.size, 0, none⟩)) (.pointer (some ⟨w.heap.size + 1, 0, none⟩)) (((w.alloc (.cells #[.string t.id, .int .i64 t.rt, .int .i64 t.cal, .bool t.step, vt] T)).alloc (.cells #[.string u.id, .int .i64 u.rt, .int .i64 u.cal, .bool u.step, vu] T)).drew) := by
  refine ⟨_, _, rfl, rfl, ⟨by simp; omega, by simp⟩, ?_, ?_, bl_drew (bl_alloc (bl_alloc (bl_refl _) _) _)⟩
  · exact (tcl_new w t vt T).bl (by simp) (bl_drew (bl_alloc (bl_refl _) _))
  · have := tcl_new (w.alloc (.cells #[.string t.id, .int .i64 t.rt, .int .i64 t.cal, .bool t.step, vt] T)) u vu T
    rw [show (w.alloc (.cells #[.string t.id, .int .i64 t.rt, .int .i64 t.cal, .bool t.step, vt] T)).heap.size = w.heap.size + 1 by simp] at this
    exact this.bl (by simp) (bl_drew (bl_refl _))
theorem TwoT.swap {w : World} {t u : TripD} {vt vu s s' : Value} {wx : World} (h : TwoT w t u vt vu s s' wx) : TwoT w u t vu vt s' s wx := by
  obtain ⟨b1, b2, h1, h2, ⟨h3, h4⟩, h5, h6, h7⟩ := h
  exact ⟨b2, b1, h2, h1, ⟨h4, h3⟩, h6, h5, h7⟩
set_option maxRecDepth 100000 in
set_option maxHeartbeats 8000000 in
theorem one_c (vl vt vf : Value) (l : List ThrD) (ts : List TripD) (fs : List FreqD) (k : Nat) (x : ThrD) (hx : l[k]? = some x) (r : Int) (H : Hid (thrErr (ts.map trpOf) fs (l.take k) x = r)) (hfew : l.length ≤ 128) (B : Nat) (w : World) (hl : ThrIn B w vl l) (ht : TripsRd B w vt ts) (hf : FreqsIn B w vf fs) (hB : B ≤ w.heap.size) :
    Calls Try.prog 28 #[vl, .int .i64 k, vt, vf] w fun e w' => e = .returned (.int .i64 r) ∧ Bl w w' := by
  obtain ⟨al, capl, rfl, ll1, ll2⟩ := hl.val
  obtain ⟨at', capt, rfl, lt1, lt2⟩ := ht.sl.val
  obtain ⟨af, capf, rfl, lf1, lf2⟩ := hf.val
  have HL := Lib.hid hl
  have HT := Lib.hid ht
  have HF := Lib.hid hf
  have hlt : k < l.length := (List.getElem?_eq_some_iff.1 hx).1
  obtain ⟨bl', ol, x', rfl, hbs, hx', hc⟩ := hl.get hlt (bl_refl w) hB
  obtain rfl : x = x' := by rw [hx] at hx'; exact Option.some.inj hx'
  have d0 : w.cell? ⟨bl', ol + k * 2, none⟩ = some (.int .i64 x.frm) := hc 0 _ rfl
  have d1 := hc 1 _ rfl
  have hkI : (k : Int) < (l.length : Int) := by omega
  have HX := Lib.hid hx
  clear hx hx' hc hl ht hf
  obtain ⟨w1, hw1⟩ : ∃ w1, w.alloc (.cells #[.int .i64 x.frm, .int .i64 x.to] 54) = w1 := ⟨_, rfl⟩
  have b1 : Bl w w1 := by rw [← hw1]; exact bl_alloc (bl_refl _) _
  have t0 : w1.cell? ⟨w.heap.size, 0, none⟩ = some (.int .i64 x.frm) := by rw [← hw1, World.cell?_alloc_at (hn := rfl)]; rfl
  have t1 : w1.cell? ⟨w.heap.size, 1, none⟩ = some (.int .i64 x.to) := by rw [← hw1, World.cell?_alloc_at (hn := rfl)]; rfl
  have s1 : w1.heap.size = w.heap.size + 1 := by rw [← hw1]; simp
  have B1 := Lib.hid b1
  have S1 := Lib.hid s1
  obtain ⟨e1, he1⟩ : ∃ e1, inB x.frm ts.length = e1 := ⟨_, rfl⟩
  obtain ⟨e2, he2⟩ : ∃ e2, inB x.to ts.length = e2 := ⟨_, rfl⟩
  obtain ⟨p, hp⟩ : ∃ p, pairB (ts.map trpOf).length x.frm x.to = p := ⟨_, rfl⟩
  have HPE : Hid (p = (e1 && (e2 && !(x.frm == x.to)))) := by
    show _ = _
    rw [← hp, List.length_map]
    unfold pairB
    rw [he1, he2]
  have HP := Lib.hid hp
  have E1 := Lib.hid he1
  have E2 := Lib.hid he2
  clear b1 s1 hp he1 he2
  go_enter Try.func28, Try.ntmps28
  go_wp2_with fail
  clear hw1
  refine (in_c x.frm ts.length e1 E1 w1).mono ?_
  rintro e w2 ⟨rfl, rfl⟩
  cases e1 with
  | false =>
    have HN := Lib.hid (show p = false by rw [HPE.out]; rfl)
    have HE := Lib.hid (thr_9 (ts := ts.map trpOf) (fs := fs) (pre := l.take k) (HP.out.trans HN.out))
    go_wp2
    go_ret
    exact ⟨ret_int (HE.out.symm.trans H.out), B1.out⟩
  | true =>
  go_wp2_with fail
  refine (in_c x.to ts.length e2 E2 w1).mono ?_
  rintro e w2 ⟨rfl, rfl⟩
  cases e2 with
  | false =>
    have HN := Lib.hid (show p = false by rw [HPE.out]; rfl)
    have HE := Lib.hid (thr_9 (ts := ts.map trpOf) (fs := fs) (pre := l.take k) (HP.out.trans HN.out))
    go_wp2
    go_ret
    exact ⟨ret_int (HE.out.symm.trans H.out), B1.out⟩
  | true =>
  by_cases hft : x.frm = x.to
  · have qe : (x.frm == x.to) = true := by rw [beq_iff_eq]; exact hft
    have HN := Lib.hid (show p = false by rw [HPE.out, qe]; rfl)
    have HE := Lib.hid (thr_9 (ts := ts.map trpOf) (fs := fs) (pre := l.take k) (HP.out.trans HN.out))
    clear hft
    go_wp2
    go_ret
    exact ⟨ret_int (HE.out.symm.trans H.out), B1.out⟩
  have qe : (x.frm == x.to) = false := by rw [beq_eq_false_iff_ne]; exact hft
  have HPT : Hid (pairB (ts.map trpOf).length x.frm x.to = true) := HP.out.trans (by rw [HPE.out, qe]; rfl)
  clear hft HPE HP
  obtain ⟨r1, hr1⟩ : ∃ r1, repS fs x.frm = r1 := ⟨_, rfl⟩
  obtain ⟨r2, hr2⟩ : ∃ r2, repS fs x.to = r2 := ⟨_, rfl⟩
  have R1 := Lib.hid hr1
  have R2 := Lib.hid hr2
  clear hr1 hr2
  have z1 : w.heap.size ≤ w1.heap.size := by have := S1.out; omega
  go_wp2_with fail
  refine (rrep_b _ fs x.frm r1 R1 B w1 (HF.out.out B1.out hB) (by omega)).mono ?_
  rintro e w2 ⟨rfl, rfl⟩
  cases r1 with
  | true =>
    have HE := Lib.hid (thr_17 (ts := ts.map trpOf) (fs := fs) (pre := l.take k) HPT.out (by rw [R1.out]; rfl))
    go_wp2
    go_ret
    exact ⟨ret_int (HE.out.symm.trans H.out), B1.out⟩
  | false =>
  go_wp2_with fail
  refine (rrep_b _ fs x.to r2 R2 B w1 (HF.out.out B1.out hB) (by omega)).mono ?_
  rintro e w2 ⟨rfl, rfl⟩
  have HQ : Hid ((repS fs x.frm || repS fs x.to) = r2) := by show _ = _; rw [R1.out, R2.out]; rfl
  cases r2 with
  | true =>
    have HE := Lib.hid (thr_17 (ts := ts.map trpOf) (fs := fs) (pre := l.take k) HPT.out HQ.out)
    go_wp2
    go_ret
    exact ⟨ret_int (HE.out.symm.trans H.out), B1.out⟩
  | false =>
  obtain ⟨⟨f1, f2⟩, ⟨f3, f4⟩⟩ := pairB_in HPT.out
  rw [List.length_map] at f2 f4
  obtain ⟨i1, hi1⟩ : ∃ i1 : Nat, x.frm = i1 := ⟨x.frm.toNat, by omega⟩
  obtain ⟨i2, hi2⟩ : ∃ i2 : Nat, x.to = i2 := ⟨x.to.toNat, by omega⟩
  have n1 : i1 < ts.length := by omega
  have n2 : i2 < ts.length := by omega
  obtain ⟨bt, ot, t, rfl, hbt, ht, htc⟩ := HT.out.sl.get n1 B1.out hB
  obtain ⟨bt', ot', u, hat, hbu, hu, huc⟩ := HT.out.sl.get n2 B1.out hB
  simp only [Option.some.injEq, Addr.mk.injEq] at hat
  obtain ⟨rfl, rfl, -⟩ := hat
  have HFT := Lib.hid (show atT (ts.map trpOf) x.frm = trpOf t from atT_of (by rw [hi1]; exact ht))
  have HFU := Lib.hid (show atT (ts.map trpOf) x.to = trpOf u from atT_of (by rw [hi2]; exact hu))
  have HTR := Lib.hid ((HT.out.ok t (List.mem_of_getElem? ht)).bl B1.out hB)
  have HUR := Lib.hid ((HT.out.ok u (List.mem_of_getElem? hu)).bl B1.out hB)
  have hi1I : (i1 : Int) < (ts.length : Int) := by omega
  have hi2I : (i2 : Int) < (ts.length : Int) := by omega
  rw [hi1] at t0
  rw [hi2] at t1
  have HI1 := Lib.hid hi1
  have HI2 := Lib.hid hi2
  have a0 : w1.cell? ⟨bt, ot + i1 * 5, none⟩ = some (.string t.id) := htc 0 _ rfl
  have a1 := htc 1 _ rfl
  have a2 := htc 2 _ rfl
  have a3 := htc 3 _ rfl
  obtain ⟨av, capv, hvt, lv1, lv2⟩ := HTR.out.calls.val
  obtain ⟨au, capu, hvu, lu1, lu2⟩ := HUR.out.calls.val
  have HVT := Lib.hid hvt
  have HVU := Lib.hid hvu
  have a4 : w1.cell? ⟨bt, ot + i1 * 5 + 4, none⟩ = some (.slice av t.calls.length capv) := by rw [← hvt]; exact htc 4 _ rfl
  have u0 : w1.cell? ⟨bt, ot + i2 * 5, none⟩ = some (.string u.id) := huc 0 _ rfl
  have u1 := huc 1 _ rfl
  have u2 := huc 2 _ rfl
  have u3 := huc 3 _ rfl
  have u4 : w1.cell? ⟨bt, ot + i2 * 5 + 4, none⟩ = some (.slice au u.calls.length capu) := by rw [← hvu]; exact huc 4 _ rfl
  have htw : w.heap.size < w1.heap.size := by have := S1.out; omega
  clear ht hu htc huc f1 f2 f3 f4 hi1 hi2 qe hvt hvu
  have hold : ∀ w' : World, Bl w1 w' → w'.cell? ⟨w.heap.size, 0, none⟩ = some (.int .i64 i1) ∧ w'.cell? ⟨w.heap.size, 1, none⟩ = some (.int .i64 i2) ∧ w'.cell? ⟨bt, ot + i1 * 5, none⟩ = some (.string t.id) ∧ w'.cell? ⟨bt, ot + i1 * 5 + 1, none⟩ = some (.int .i64 t.rt) ∧ w'.cell? ⟨bt, ot + i1 * 5 + 2, none⟩ = some (.int .i64 t.cal) ∧ w'.cell? ⟨bt, ot + i1 * 5 + 3, none⟩ = some (.bool t.step) ∧ w'.cell? ⟨bt, ot + i1 * 5 + 4, none⟩ = some (.slice av t.calls.length capv) ∧ w'.cell? ⟨bt, ot + i2 * 5, none⟩ = some (.string u.id) ∧ w'.cell? ⟨bt, ot + i2 * 5 + 1, none⟩ = some (.int .i64 u.rt) ∧ w'.cell? ⟨bt, ot + i2 * 5 + 2, none⟩ = some (.int .i64 u.cal) ∧ w'.cell? ⟨bt, ot + i2 * 5 + 3, none⟩ = some (.bool u.step) ∧ w'.cell? ⟨bt, ot + i2 * 5 + 4, none⟩ = some (.slice au u.calls.length capu) := fun w' hb => ⟨((bl_cell hb).1 _ _ htw).trans t0, ((bl_cell hb).1 _ _ htw).trans t1, ((bl_cell hb).1 _ _ hbt).trans a0, ((bl_cell hb).1 _ _ hbt).trans a1, ((bl_cell hb).1 _ _ hbt).trans a2, ((bl_cell hb).1 _ _ hbt).trans a3, ((bl_cell hb).1 _ _ hbt).trans a4, ((bl_cell hb).1 _ _ hbt).trans u0, ((bl_cell hb).1 _ _ hbt).trans u1, ((bl_cell hb).1 _ _ hbt).trans u2, ((bl_cell hb).1 _ _ hbt).trans u3, ((bl_cell hb).1 _ _ hbt).trans u4⟩
  go_upto_region 6 with fail
  go_cut [10, 11] (fun s s' wx => TwoT w1 t u (.slice av t.calls.length capv) (.slice au u.calls.length capu) s s' wx)
  case first =>
    go_region_held3 (fun w' => w'.cell? ⟨w.heap.size, 0, none⟩ = some (.int .i64 i1) ∧ w'.cell? ⟨w.heap.size, 1, none⟩ = some (.int .i64 i2) ∧ w'.cell? ⟨bt, ot + i1 * 5, none⟩ = some (.string t.id) ∧ w'.cell? ⟨bt, ot + i1 * 5 + 1, none⟩ = some (.int .i64 t.rt) ∧ w'.cell? ⟨bt, ot + i1 * 5 + 2, none⟩ = some (.int .i64 t.cal) ∧ w'.cell? ⟨bt, ot + i1 * 5 + 3, none⟩ = some (.bool t.step) ∧ w'.cell? ⟨bt, ot + i1 * 5 + 4, none⟩ = some (.slice av t.calls.length capv) ∧ w'.cell? ⟨bt, ot + i2 * 5, none⟩ = some (.string u.id) ∧ w'.cell? ⟨bt, ot + i2 * 5 + 1, none⟩ = some (.int .i64 u.rt) ∧ w'.cell? ⟨bt, ot + i2 * 5 + 2, none⟩ = some (.int .i64 u.cal) ∧ w'.cell? ⟨bt, ot + i2 * 5 + 3, none⟩ = some (.bool u.step) ∧ w'.cell? ⟨bt, ot + i2 * 5 + 4, none⟩ = some (.slice au u.calls.length capu)) ((refine hold _ ?_; repeat (first | exact bl_refl _ | refine bl_drew ?_ | refine bl_alloc ?_ _ | refine bl_set ?_ (by simp) _))) (fail)
    all_goals
      go_wp2_with fail
      go_meet
      first
      | exact twoT_1 w1 t u _ _ _
      | exact (twoT_1 w1 u t _ _ _).swap
  case rest =>
    obtain ⟨b1, b2, rfl, rfl, ⟨hb1, hb2⟩, HC1, HC2, bx⟩ := hcut
    have BX := Lib.hid bx
    have HC1 := Lib.hid HC1
    have HC2 := Lib.hid HC2
    obtain ⟨g0, g1, -⟩ := hold _ bx
    have HOLD := Lib.hid hold
    have HBX : Hid (Bl w wc) := bl_next B1.out bx
    obtain ⟨c10, c11, c12, c13, c14⟩ := HC1.out
    obtain ⟨c20, c21, c22, c23, c24⟩ := HC2.out
    have zx := bx.size
    clear hold a0 a1 a2 a3 a4 u0 u1 u2 u3 u4 t0 t1 bx c10 c11 c13 c20 c21 c23
    have HFE : ∀ e : Int, followS (trpOf t) (trpOf u) = e → e ≠ 0 → Hid (thrErr (ts.map trpOf) fs (l.take k) x = e) := fun e he hne => by
      have h1 : followS (atT (ts.map trpOf) x.frm) (atT (ts.map trpOf) x.to) = e := by rw [HFT.out, HFU.out]; exact he
      exact (thr_f HPT.out HQ.out (by rw [h1]; exact hne)).trans h1
    by_cases hcal : t.cal = u.cal
    · have qc : (t.cal != u.cal) = false := by rw [hcal]; simp
      by_cases hte : t.calls = []
      · have HFO := Lib.hid (follow_e1 (a := trpOf t) (b := trpOf u) hcal hte)
        have HE := HFE 13 HFO.out (by decide)
        have qe : IntKind.i64.wrap ((t.calls.length : Int) - 1) = -1 := by rw [hte]; rfl
        clear hcal hte
        go_wp2_with fail
        go_quiet (fail)
        go_wp2
        go_ret
        exact ⟨ret_int (HE.out.symm.trans H.out), bl_drewN HBX.out _⟩
      · have hpt : 0 < t.calls.length := List.length_pos_iff.2 hte
        obtain ⟨n, hn⟩ : ∃ n, t.calls.length = n + 1 := ⟨t.calls.length - 1, by omega⟩
        have qe : IntKind.i64.wrap ((t.calls.length : Int) - 1) = (n : Int) := by rw [IntWalk.i64_in _ (by omega)]; omega
        have qn : decide ((n : Int) < 0) = false := decide_eq_false (by omega)
        by_cases hue : u.calls = []
        · have HFO := Lib.hid (follow_e2 (a := trpOf t) (b := trpOf u) hcal hue)
          have HE := HFE 13 HFO.out (by decide)
          have q2 : ((u.calls.length : Int) == 0) = true := by rw [hue]; rfl
          clear hcal hte hue hn
          go_wp2_with fail
          go_quiet (fail)
          go_wp2
          go_ret
          exact ⟨ret_int (HE.out.symm.trans H.out), bl_drewN HBX.out _⟩
        · have hpu : 0 < u.calls.length := List.length_pos_iff.2 hue
          have HTC := HTR.out.calls
          have HUC := HUR.out.calls
          rw [HVT.out] at HTC
          rw [HVU.out] at HUC
          obtain ⟨ba, oa, xa, hav, hba, hxa, hca⟩ := HTC.get (k := n) (by omega) BX.out (by omega)
          obtain ⟨bb, ob, yb, hau, hbb, hyb, hcb⟩ := HUC.get (k := 0) hpu BX.out (by omega)
          subst hav hau
          have HFO := Lib.hid (follow_xy (a := trpOf t) (b := trpOf u) hcal hn hxa hyb)
          have m0 : wc.cell? ⟨ba, oa + n * 5, none⟩ = some (.int .i64 xa.stop) := hca 0 _ rfl
          have m1 := hca 1 _ rfl
          have hcb' : ∀ j z, (callCells yb)[j]? = some z → wc.cell? ⟨bb, ob + j, none⟩ = some z := fun j z hz => by have := hcb j z hz; rwa [Nat.zero_mul, Nat.add_zero] at this
          have o0 : wc.cell? ⟨bb, ob, none⟩ = some (.int .i64 yb.stop) := hcb' 0 _ rfl
          have o2 := hcb' 2 _ rfl
          have q2 : ((u.calls.length : Int) == 0) = false := by rw [beq_eq_false_iff_ne]; omega
          have inI : (n : Int) < (t.calls.length : Int) := by omega
          clear hcal hte hue hn hxa hyb hca hcb hcb' HTC HUC
          by_cases hs : xa.stop = yb.stop
          · have q3 : (xa.stop != yb.stop) = false := by rw [hs]; simp
            rw [if_neg (by simpa using hs)] at HFO
            go_wp2_with fail
            go_quiet (fail)
            generalize hwz : wc.drewN _ = wz
            have bz : Bl wc wz := by rw [← hwz]; exact bl_drewN (bl_refl _) _
            have kc := fun a o (h : a < wc.heap.size) => (bl_cell bz).1 a o h
            have c14' := (kc _ _ hb1).trans c14
            have c24' := (kc _ _ hb2).trans c24
            have m1' := (kc _ _ hba).trans m1
            have o2' := (kc _ _ hbb).trans o2
            have HBZ : Hid (Bl w wz) := bl_next HBX.out bz
            have H1Z : Hid (Bl w1 wz) := bl_next BX.out bz
            have zz := bz.size
            clear hwz kc c12 c22 c14 c24 m0 m1 o0 o2 bz g0 g1 qe qn
            by_cases hd : yb.depart < xa.arrive
            · have q4 : decide (yb.depart < xa.arrive) = true := decide_eq_true hd
              have HE := HFE 10 (HFO.out.trans (if_pos hd)) (by decide)
              clear hs hd
              go_wp2_with fail
              go_quiet (fail)
              go_wp2
              go_ret
              exact ⟨ret_int (HE.out.symm.trans H.out), bl_drewN HBZ.out _⟩
            · have q4 : decide (yb.depart < xa.arrive) = false := decide_eq_false hd
              have HFZ : Hid (followS (atT (ts.map trpOf) x.frm) (atT (ts.map trpOf) x.to) = 0) := by
                show _ = _
                rw [HFT.out, HFU.out]
                exact HFO.out.trans (if_neg hd)
              clear hs hd HFE
              go_wp2_with fail
              go_quiet (fail)
              generalize hwv : wz.drewN _ = wv
              have bv : Bl wz wv := by rw [← hwv]; exact bl_drewN (bl_refl _) _
              have HBV : Hid (Bl w wv) := bl_next HBZ.out bv
              have H1V : Hid (Bl w1 wv) := bl_next H1Z.out bv
              have zv := bv.size
              clear hwv c14' c24' m1' o2' bv q4 q3
              go_wp2_with fail
              go_loopw [13] (fun i wr => ∃ j : Nat, j ≤ k ∧ i = .int .i64 j ∧ Hid (((l.take j).any fun y => y.frm == x.frm || y.to == x.to) = false) ∧ Bl wv wr) (fun i _ => k - (intOf i).toNat)
              case atStart => exact ⟨0, Nat.zero_le _, rfl, rfl, bl_refl _⟩
              case round =>
                obtain ⟨j, hj, rfl, HN, hbl⟩ := hrel
                have HBR : Hid (Bl w wr) := bl_next HBV.out hbl
                have H1R : Hid (Bl w1 wr) := bl_next H1V.out hbl
                have zr := hbl.size
                obtain ⟨g0, g1, -⟩ := HOLD.out wr H1R.out
                by_cases hjk : j < k
                · obtain ⟨bl2, ol2, y, hal, hbs2, hy, hcy⟩ := HL.out.get (k := j) (by omega) HBR.out hB
                  simp only [Option.some.injEq, Addr.mk.injEq] at hal
                  obtain ⟨rfl, rfl, -⟩ := hal
                  have p0 : wr.cell? ⟨bl', ol + j * 2, none⟩ = some (.int .i64 y.frm) := hcy 0 _ rfl
                  have p1 := hcy 1 _ rfl
                  have jI : (j : Int) < (l.length : Int) := by omega
                  have jK : (j : Int) < (k : Int) := by omega
                  have HY := Lib.hid hy
                  have HTK : Hid ((l.take k)[j]? = some y) := by show _ = _; rw [List.getElem?_take_of_lt hjk]; exact hy
                  clear hy hcy
                  by_cases h1 : y.frm = i1
                  · have qf : (y.frm == (i1 : Int)) = true := by rw [beq_iff_eq]; exact h1
                    have HD : Hid (((l.take k).any fun y => y.frm == x.frm || y.to == x.to) = true) := any_yes HTK.out (by rw [HI1.out, qf]; rfl)
                    have HE := Lib.hid (thr_6 HPT.out HQ.out HFZ.out HD.out)
                    clear h1
                    go_wp2_with fail
                    go_quiet (fail)
                    go_wp2
                    go_ret
                    exact ⟨ret_int (HE.out.symm.trans H.out), bl_drewN HBR.out _⟩
                  · have qf : (y.frm == (i1 : Int)) = false := by rw [beq_eq_false_iff_ne]; exact h1
                    clear h1
                    by_cases h2 : y.to = i2
                    · have qt : (y.to == (i2 : Int)) = true := by rw [beq_iff_eq]; exact h2
                      have HD : Hid (((l.take k).any fun y => y.frm == x.frm || y.to == x.to) = true) := any_yes HTK.out (by rw [HI2.out, qt, Bool.or_true])
                      have HE := Lib.hid (thr_6 HPT.out HQ.out HFZ.out HD.out)
                      clear h2
                      go_wp2_with fail
                      go_quiet (fail)
                      go_wp2
                      go_ret
                      exact ⟨ret_int (HE.out.symm.trans H.out), bl_drewN HBR.out _⟩
                    · have qt : (y.to == (i2 : Int)) = false := by rw [beq_eq_false_iff_ne]; exact h2
                      have HN' : Hid (((l.take (j + 1)).any fun y => y.frm == x.frm || y.to == x.to) = false) := by
                        show (List.take (j + 1) l).any (fun z => z.frm == x.frm || z.to == x.to) = false
                        rw [any_take (p := fun z : ThrD => z.frm == x.frm || z.to == x.to) HY.out HN.out, HI1.out, HI2.out, qf, qt]
                        rfl
                      clear h2
                      go_wp2_with fail
                      go_quiet (fail)
                      go_wp2
                      go_roundw
                      case rel => exact ⟨j + 1, by omega, by go_num, HN', bl_drewN hbl _⟩
                      case measure => simp [intOf]; omega
                · obtain rfl : j = k := by omega
                  obtain ⟨e3, he3⟩ : ∃ e3, (chainS (l.take j) i2).contains (i1 : Int) = e3 := ⟨_, rfl⟩
                  have HE3 := Lib.hid he3
                  have hwr : w.heap.size < wr.heap.size := by omega
                  have hold : ∀ w' : World, Bl wr w' → w'.cell? ⟨w.heap.size, 0, none⟩ = some (.int .i64 i1) ∧ w'.cell? ⟨w.heap.size, 1, none⟩ = some (.int .i64 i2) := fun w' hb => ⟨((bl_cell hb).1 _ _ hwr).trans g0, ((bl_cell hb).1 _ _ hwr).trans g1⟩
                  have hkc : (j : Int) ≤ (capl : Int) := by omega
                  clear he3
                  go_wp2_with fail
                  go_region_held3 (fun w' => w'.cell? ⟨w.heap.size, 0, none⟩ = some (.int .i64 i1) ∧ w'.cell? ⟨w.heap.size, 1, none⟩ = some (.int .i64 i2)) (first | exact hold _ (bl_drew (bl_refl _)) | exact hold _ (bl_next (bl_drew (bl_refl _)) b5)) (first | (go_at_call 19; refine (rchain_c _ (l.take j) i2 (by rw [List.length_take]; omega) B _ ((HL.out.take (k := j) (by omega)).out (bl_next HBR.out (bl_drew (bl_refl _))) hB) (by simp; omega)).mono ?_; rintro e w5 ⟨v5, rfl, i5, b5⟩) | (go_at_call 22; refine (has_c _ _ i1 e3 HE3 _ _ i5 (Nat.le_refl _)).mono ?_; rintro e w6 ⟨rfl, rfl⟩))
                  all_goals
                    have HB5 : Hid (Bl w w5) := bl_next HBR.out (bl_next (bl_drew (bl_refl _)) b5)
                    clear hold b5
                    cases e3 with
                    | true =>
                      have HE := Lib.hid (thr_19 HPT.out HQ.out HFZ.out HN.out (by rw [HI1.out, HI2.out]; exact HE3.out))
                      go_wp2
                      go_ret
                      exact ⟨ret_int (HE.out.symm.trans H.out), HB5.out⟩
                    | false =>
                      have HE := Lib.hid (thr_0 HPT.out HQ.out HFZ.out HN.out (by rw [HI1.out, HI2.out]; exact HE3.out))
                      go_wp2
                      go_ret
                      exact ⟨ret_int (HE.out.symm.trans H.out), HB5.out⟩
          · have q3 : (xa.stop != yb.stop) = true := by simpa using hs
            rw [if_pos hs] at HFO
            have HE := HFE 13 HFO.out (by decide)
            clear hs
            go_wp2_with fail
            go_quiet (fail)
            go_wp2
            go_ret
            exact ⟨ret_int (HE.out.symm.trans H.out), bl_drewN HBX.out _⟩
    · have qc : (t.cal != u.cal) = true := by simpa using hcal
      have HFO := Lib.hid (follow_cal (a := trpOf t) (b := trpOf u) hcal)
      have HE := HFE 15 HFO.out (by decide)
      clear hcal
      go_wp2
      go_ret
      exact ⟨ret_int (HE.out.symm.trans H.out), HBX.out⟩

/-! ### the reference's Check -/
set_option maxRecDepth 100000 in
set_option maxHeartbeats 8000000 in
theorem rcheck_c (vl vt vf : Value) (l : List ThrD) (ts : List TripD) (fs : List FreqD) (r : Int × Int) (H : Hid (checkS 128 (thrErr (ts.map trpOf) fs) l = r)) (B : Nat) (w : World) (hl : ThrIn B w vl l) (ht : TripsRd B w vt ts) (hf : FreqsIn B w vf fs) (hB : B ≤ w.heap.size) :
    Calls Try.prog 14 #[vl, vt, vf] w fun e w' => e = .returned (.tuple #[.int .i64 r.1, .int .i64 r.2]) ∧ Bl w w' := by
  obtain ⟨al, capl, rfl, ll1, ll2⟩ := hl.val
  have HL := Lib.hid hl
  have HT := Lib.hid ht
  have HF := Lib.hid hf
  clear hl ht hf
  by_cases hmany : 128 < l.length
  · have HR := Lib.hid (checkS_many (err := thrErr (ts.map trpOf) fs) hmany)
    go_enter Try.func14, Try.ntmps14
    go_wp2
    go_ret2
    exact ⟨ret_r HR.out H.out, bl_refl _⟩
  · have hfew : l.length ≤ 128 := by omega
    have HR : Hid (chk (thrErr (ts.map trpOf) fs) (l.take 0) (l.drop 0) = r) := (checkS_few hfew).symm.trans H.out
    clear hmany
    go_enter Try.func14, Try.ntmps14
    go_wp2_with fail
    go_loopw [8] (fun i wr => ∃ k : Nat, (k ≤ l.length ∧ i = .int .i64 k) ∧ Hid (chk (thrErr (ts.map trpOf) fs) (l.take k) (l.drop k) = r) ∧ Bl w wr) (fun i _ => l.length - (intOf i).toNat)
    case atStart => exact ⟨0, ⟨Nat.zero_le _, rfl⟩, HR, bl_refl _⟩
    case round =>
      obtain ⟨k, ⟨hk, rfl⟩, HC, hbl⟩ := hrel
      have z1 := hbl.size
      by_cases hlt : k < l.length
      · obtain ⟨x, hx⟩ : ∃ x, l[k]? = some x := ⟨_, List.getElem?_eq_getElem hlt⟩
        obtain ⟨e, he⟩ : ∃ e, thrErr (ts.map trpOf) fs (l.take k) x = e := ⟨_, rfl⟩
        have HX := Lib.hid hx
        have HE := Lib.hid he
        clear hx he
        go_wp2_with fail
        refine (one_c _ vt vf l ts fs k x HX.out e HE hfew B wr (HL.out.out hbl hB) (HT.out.bl hbl hB) (HF.out.out hbl hB) (by omega)).mono ?_
        rintro e' w3 ⟨rfl, b3⟩
        have B3 : Hid (Bl w w3) := bl_next hbl b3
        clear b3
        by_cases h0 : e = 0
        · have q : (e != 0) = false := by rw [h0]; rfl
          have HG := Lib.hid (chk_good (err := thrErr (ts.map trpOf) fs) HX.out (HE.out.trans h0))
          clear h0
          go_wp2
          go_roundw
          case rel => exact ⟨k + 1, ⟨by omega, by go_num⟩, HG.out.symm.trans HC.out, B3.out⟩
          case measure => simp [intOf]; omega
        · have q : (e != 0) = true := by simpa using h0
          have HG := Lib.hid (chk_bad (err := thrErr (ts.map trpOf) fs) HX.out HE.out h0)
          clear h0
          go_wp2
          go_ret2
          exact ⟨ret_r HG.out HC.out, B3.out⟩
      · have HE := Lib.hid (chk_end (err := thrErr (ts.map trpOf) fs) (show l.length ≤ k by omega))
        go_wp2
        go_ret2
        exact ⟨ret_r HE.out HC.out, hbl⟩
end Go.Proofs.Ytjdaikeljmccaaa
