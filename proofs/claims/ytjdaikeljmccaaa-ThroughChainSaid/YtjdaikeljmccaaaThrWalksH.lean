/-
  THE CONTRACTS OF THROUGH SERVICES, EIGHTH PART: the reference's guarantee and CheckGuarantees. Conditions: those of each contract.
-/
import Derived.Test.YtjdaikeljmccaaaThrWalksG
namespace Go.Proofs.Ytjdaikeljmccaaa
open Go.RowKit
open Frq Thr

set_option maxRecDepth 100000 in
set_option maxHeartbeats 8000000 in
theorem guarantee_c (vl vt vf : Value) (l : List GuaD) (ts : List TripD) (fs : List FreqD) (stops : Int) (k : Nat) (x : GuaD) (hx : l[k]? = some x) (r : Int) (H : Hid (guaErr (ts.map trpOf) fs stops (l.take k) x = r)) (hfew : l.length ≤ 128) (B : Nat) (w : World) (hl : GuaIn B w vl l) (ht : TripsRd B w vt ts) (hf : FreqsIn B w vf fs) (hB : B ≤ w.heap.size) :
    Calls Try.prog 31 #[vl, .int .i64 k, vt, vf, .int .i64 stops] w fun e w' => e = .returned (.int .i64 r) ∧ Bl w w' := by
  obtain ⟨al, capl, rfl, ll1, ll2⟩ := hl.val
  obtain ⟨at', capt, rfl, lt1, lt2⟩ := ht.sl.val
  obtain ⟨af, capf, rfl, lf1, lf2⟩ := hf.val
  have HL := Lib.hid hl
  have HT := Lib.hid ht
  have HF := Lib.hid hf
  have hlt : k < l.length := (List.getElem?_eq_some_iff.1 hx).1
  obtain ⟨bl', ol, x', rfl, hbs, hx', hc⟩ := hl.get hlt (bl_refl w) hB
  obtain rfl : x = x' := by rw [hx] at hx'; exact Option.some.inj hx'
  have d0 : w.cell? ⟨bl', ol + k * 3, none⟩ = some (.int .i64 x.frm) := hc 0 _ rfl
  have d1 := hc 1 _ rfl
  have d2 := hc 2 _ rfl
  have hkI : (k : Int) < (l.length : Int) := by omega
  have HX := Lib.hid hx
  clear hx hx' hc hl ht hf
  obtain ⟨w1, hw1⟩ : ∃ w1, w.alloc (.cells #[.int .i64 x.frm, .int .i64 x.to, .int .i64 x.stop] 64) = w1 := ⟨_, rfl⟩
  have b1 : Bl w w1 := by rw [← hw1]; exact bl_alloc (bl_refl _) _
  have t0 : w1.cell? ⟨w.heap.size, 0, none⟩ = some (.int .i64 x.frm) := by rw [← hw1, World.cell?_alloc_at (hn := rfl)]; rfl
  have t1 : w1.cell? ⟨w.heap.size, 1, none⟩ = some (.int .i64 x.to) := by rw [← hw1, World.cell?_alloc_at (hn := rfl)]; rfl
  have t2 : w1.cell? ⟨w.heap.size, 2, none⟩ = some (.int .i64 x.stop) := by rw [← hw1, World.cell?_alloc_at (hn := rfl)]; rfl
  have s1 : w1.heap.size = w.heap.size + 1 := by rw [← hw1]; simp
  have B1 := Lib.hid b1
  have S1 := Lib.hid s1
  obtain ⟨e1, he1⟩ : ∃ e1, inB x.frm ts.length = e1 := ⟨_, rfl⟩
  obtain ⟨e2, he2⟩ : ∃ e2, inB x.to ts.length = e2 := ⟨_, rfl⟩
  obtain ⟨e3, he3⟩ : ∃ e3, inB x.stop stops = e3 := ⟨_, rfl⟩
  obtain ⟨p, hp⟩ : ∃ p, pairB (ts.map trpOf).length x.frm x.to = p := ⟨_, rfl⟩
  have HPE : Hid (p = (e1 && (e2 && !(x.frm == x.to)))) := by
    show _ = _
    rw [← hp, List.length_map]
    unfold pairB
    rw [he1, he2]
  have HP := Lib.hid hp
  have E1 := Lib.hid he1
  have E2 := Lib.hid he2
  have E3 := Lib.hid he3
  clear b1 s1 hp he1 he2 he3
  go_enter Try.func31, Try.ntmps31
  go_wp2_with fail
  clear hw1
  refine (in_c x.frm ts.length e1 E1 w1).mono ?_
  rintro e w2 ⟨rfl, rfl⟩
  cases e1 with
  | false =>
    have HN := Lib.hid (show p = false by rw [HPE.out]; rfl)
    have HE := Lib.hid (gua_9 (ts := ts.map trpOf) (fs := fs) (stops := stops) (pre := l.take k) (HP.out.trans HN.out))
    go_wp2
    go_ret
    exact ⟨ret_int (HE.out.symm.trans H.out), B1.out⟩
  | true =>
  go_wp2_with fail
  refine (in_c x.to ts.length e2 E2 w1).mono ?_
  rintro e w2 ⟨rfl, rfl⟩
  cases e2 with
  | false =>
    have HN := Lib.hid (show p = false by rw [HPE.out]; rfl)
    have HE := Lib.hid (gua_9 (ts := ts.map trpOf) (fs := fs) (stops := stops) (pre := l.take k) (HP.out.trans HN.out))
    go_wp2
    go_ret
    exact ⟨ret_int (HE.out.symm.trans H.out), B1.out⟩
  | true =>
  by_cases hft : x.frm = x.to
  · have qe : (x.frm == x.to) = true := by rw [beq_iff_eq]; exact hft
    have HN := Lib.hid (show p = false by rw [HPE.out, qe]; rfl)
    have HE := Lib.hid (gua_9 (ts := ts.map trpOf) (fs := fs) (stops := stops) (pre := l.take k) (HP.out.trans HN.out))
    clear hft
    go_wp2
    go_ret
    exact ⟨ret_int (HE.out.symm.trans H.out), B1.out⟩
  have qe : (x.frm == x.to) = false := by rw [beq_eq_false_iff_ne]; exact hft
  have HPT : Hid (pairB (ts.map trpOf).length x.frm x.to = true) := HP.out.trans (by rw [HPE.out, qe]; rfl)
  clear hft HPE HP
  go_wp2_with fail
  refine (in_c x.stop stops e3 E3 w1).mono ?_
  rintro e w2 ⟨rfl, rfl⟩
  cases e3 with
  | false =>
    have HE := Lib.hid (gua_9' (ts := ts.map trpOf) (fs := fs) (stops := stops) (pre := l.take k) HPT.out E3.out)
    go_wp2
    go_ret
    exact ⟨ret_int (HE.out.symm.trans H.out), B1.out⟩
  | true =>
  obtain ⟨r1, hr1⟩ : ∃ r1, repS fs x.frm = r1 := ⟨_, rfl⟩
  obtain ⟨r2, hr2⟩ : ∃ r2, repS fs x.to = r2 := ⟨_, rfl⟩
  have R1 := Lib.hid hr1
  have R2 := Lib.hid hr2
  clear hr1 hr2
  have z1 : w.heap.size ≤ w1.heap.size := by have := S1.out; omega
  go_wp2_with fail
  refine (rrep_b _ fs x.frm r1 R1 B w1 (HF.out.out B1.out hB) (by omega)).mono ?_
  rintro e w2 ⟨rfl, rfl⟩
  cases r1 with
  | true =>
    have HE := Lib.hid (gua_17 (ts := ts.map trpOf) (fs := fs) (stops := stops) (pre := l.take k) HPT.out E3.out (by rw [R1.out]; rfl))
    go_wp2
    go_ret
    exact ⟨ret_int (HE.out.symm.trans H.out), B1.out⟩
  | false =>
  go_wp2_with fail
  refine (rrep_b _ fs x.to r2 R2 B w1 (HF.out.out B1.out hB) (by omega)).mono ?_
  rintro e w2 ⟨rfl, rfl⟩
  have HQ : Hid ((repS fs x.frm || repS fs x.to) = r2) := by show _ = _; rw [R1.out, R2.out]; rfl
  cases r2 with
  | true =>
    have HE := Lib.hid (gua_17 (ts := ts.map trpOf) (fs := fs) (stops := stops) (pre := l.take k) HPT.out E3.out HQ.out)
    go_wp2
    go_ret
    exact ⟨ret_int (HE.out.symm.trans H.out), B1.out⟩
  | false =>
  obtain ⟨⟨f1, f2⟩, ⟨f3, f4⟩⟩ := pairB_in HPT.out
  rw [List.length_map] at f2 f4
  obtain ⟨i1, hi1⟩ : ∃ i1 : Nat, x.frm = i1 := ⟨x.frm.toNat, by omega⟩
  obtain ⟨i2, hi2⟩ : ∃ i2 : Nat, x.to = i2 := ⟨x.to.toNat, by omega⟩
  have n1 : i1 < ts.length := by omega
  have n2 : i2 < ts.length := by omega
  obtain ⟨bt, ot, t, rfl, hbt, ht, htc⟩ := HT.out.sl.get n1 B1.out hB
  obtain ⟨bt', ot', u, hat, hbu, hu, huc⟩ := HT.out.sl.get n2 B1.out hB
  simp only [Option.some.injEq, Addr.mk.injEq] at hat
  obtain ⟨rfl, rfl, -⟩ := hat
  have HFT := Lib.hid (show atT (ts.map trpOf) x.frm = trpOf t from atT_of (by rw [hi1]; exact ht))
  have HFU := Lib.hid (show atT (ts.map trpOf) x.to = trpOf u from atT_of (by rw [hi2]; exact hu))
  have HTR := Lib.hid ((HT.out.ok t (List.mem_of_getElem? ht)).bl B1.out hB)
  have HUR := Lib.hid ((HT.out.ok u (List.mem_of_getElem? hu)).bl B1.out hB)
  have hi1I : (i1 : Int) < (ts.length : Int) := by omega
  have hi2I : (i2 : Int) < (ts.length : Int) := by omega
  rw [hi1] at t0
  rw [hi2] at t1
  have HI1 := Lib.hid hi1
  have HI2 := Lib.hid hi2
  have a4 : w1.cell? ⟨bt, ot + i1 * 5 + 4, none⟩ = some t.v := htc 4 _ rfl
  have u4 : w1.cell? ⟨bt, ot + i2 * 5 + 4, none⟩ = some u.v := huc 4 _ rfl
  have htw : w.heap.size < w1.heap.size := by have := S1.out; omega
  clear ht hu htc huc f1 f2 f3 f4 hi1 hi2 qe
  have hold : ∀ w' : World, Bl w1 w' → w'.cell? ⟨w.heap.size, 0, none⟩ = some (.int .i64 i1) ∧ w'.cell? ⟨w.heap.size, 1, none⟩ = some (.int .i64 i2) ∧ w'.cell? ⟨w.heap.size, 2, none⟩ = some (.int .i64 x.stop) ∧ w'.cell? ⟨bt, ot + i1 * 5 + 4, none⟩ = some t.v ∧ w'.cell? ⟨bt, ot + i2 * 5 + 4, none⟩ = some u.v := fun w' hb => ⟨((bl_cell hb).1 _ _ htw).trans t0, ((bl_cell hb).1 _ _ htw).trans t1, ((bl_cell hb).1 _ _ htw).trans t2, ((bl_cell hb).1 _ _ hbt).trans a4, ((bl_cell hb).1 _ _ hbt).trans u4⟩
  obtain ⟨m, hm⟩ : ∃ m, meetsS t.calls u.calls x.stop = m := ⟨_, rfl⟩
  obtain ⟨m1, m2, m3⟩ := m
  have HM := Lib.hid hm
  have HOLD := Lib.hid hold
  clear hm
  go_wp2_with fail
  go_region_held3 (fun w' => w'.cell? ⟨w.heap.size, 0, none⟩ = some (.int .i64 i1) ∧ w'.cell? ⟨w.heap.size, 1, none⟩ = some (.int .i64 i2) ∧ w'.cell? ⟨w.heap.size, 2, none⟩ = some (.int .i64 x.stop) ∧ w'.cell? ⟨bt, ot + i1 * 5 + 4, none⟩ = some t.v ∧ w'.cell? ⟨bt, ot + i2 * 5 + 4, none⟩ = some u.v) (first | exact hold _ (bl_drew (bl_refl _)) | exact hold _ (bl_next (bl_drew (bl_refl _)) b4)) (first | (go_at_call 21; refine (rmeets_c t.v u.v t.calls u.calls x.stop m1 m2 m3 HM B _ (HTR.out.calls.out (bl_drew (bl_refl _)) (by omega)) (HUR.out.calls.out (bl_drew (bl_refl _)) (by omega)) (by simp; omega)).mono ?_; rintro e w4 ⟨rfl, b4⟩))
  all_goals
    have HB4 : Hid (Bl w w4) := bl_next B1.out (bl_next (bl_drew (bl_refl _)) b4)
    have HR4 : Hid (Bl w1 w4) := bl_next (bl_drew (bl_refl _)) b4
    clear hold t0 t1 t2 a4 u4 b4 d0 d1 d2
    have HMM : Hid ((meetsS (atT (ts.map trpOf) x.frm).calls (atT (ts.map trpOf) x.to).calls x.stop).2.2 = m3) := by
      show _ = _
      rw [HFT.out, HFU.out]
      show (meetsS t.calls u.calls x.stop).2.2 = m3
      rw [HM.out]
    have z4 := HR4.out.size
    cases m3 with
    | false =>
      have HE := Lib.hid (gua_19 (pre := l.take k) HPT.out E3.out HQ.out HMM.out)
      go_wp2
      go_ret
      exact ⟨ret_int (HE.out.symm.trans H.out), HB4.out⟩
    | true =>
      go_wp2_with fail
      go_loopw [15] (fun i wr => ∃ j : Nat, j ≤ k ∧ i = .int .i64 j ∧ Hid ((l.take j).contains x = false) ∧ Bl w4 wr) (fun i _ => k - (intOf i).toNat)
      case atStart => exact ⟨0, Nat.zero_le _, rfl, rfl, bl_refl _⟩
      case round =>
        obtain ⟨j, hj, rfl, HN, hbl⟩ := hrel
        have HBR : Hid (Bl w wr) := bl_next HB4.out hbl
        have H1R : Hid (Bl w1 wr) := bl_next HR4.out hbl
        have zr := hbl.size
        obtain ⟨g0, g1, g2, -⟩ := HOLD.out wr H1R.out
        by_cases hjk : j < k
        · obtain ⟨bl2, ol2, y, hal, hbs2, hy, hcy⟩ := HL.out.get (k := j) (by omega) HBR.out hB
          simp only [Option.some.injEq, Addr.mk.injEq] at hal
          obtain ⟨rfl, rfl, -⟩ := hal
          have p0 : wr.cell? ⟨bl', ol + j * 3, none⟩ = some (.int .i64 y.frm) := hcy 0 _ rfl
          have p1 := hcy 1 _ rfl
          have p2 := hcy 2 _ rfl
          have jI : (j : Int) < (l.length : Int) := by omega
          have jK : (j : Int) < (k : Int) := by omega
          have HY := Lib.hid hy
          have HTK : Hid ((l.take k)[j]? = some y) := by show _ = _; rw [List.getElem?_take_of_lt hjk]; exact hy
          clear hy hcy
          by_cases hyx : y = x
          · have h1 : y.frm = i1 := by rw [hyx]; exact HI1.out
            have h2 : y.to = i2 := by rw [hyx]; exact HI2.out
            have h3 : y.stop = x.stop := by rw [hyx]
            rw [h1] at p0
            rw [h2] at p1
            rw [h3] at p2
            have HD : Hid ((l.take k).contains x = true) := List.contains_iff_mem.2 (hyx ▸ List.mem_of_getElem? HTK.out)
            have HE := Lib.hid (gua_6 HPT.out E3.out HQ.out HMM.out HD.out)
            clear hyx h1 h2 h3
            go_wp2_with fail
            go_quiet (fail)
            go_wp2
            go_ret
            exact ⟨ret_int (HE.out.symm.trans H.out), bl_drewN HBR.out _⟩
          · have HN' : Hid ((l.take (j + 1)).contains x = false) := by
              show _ = _
              rw [take_snoc_at HY.out]
              have := HN.out
              simp only [List.contains_eq_any_beq, List.any_append, List.any_cons, List.any_nil, Bool.or_false] at this ⊢
              rw [this, Bool.false_or, beq_eq_false_iff_ne]
              exact fun e => hyx e.symm
            have hne : ¬ (y.frm = i1 ∧ y.to = i2 ∧ y.stop = x.stop) := fun ⟨h1, h2, h3⟩ => hyx (by
              have q1 := HI1.out
              have q2 := HI2.out
              cases x
              cases y
              simp only at q1 q2 h1 h2 h3
              rw [q1, q2, h1, h2, h3])
            clear hyx
            by_cases h1 : y.frm = i1
            · have qf : (y.frm == (i1 : Int)) = true := by rw [beq_iff_eq]; exact h1
              by_cases h2 : y.to = i2
              · have qt : (y.to == (i2 : Int)) = true := by rw [beq_iff_eq]; exact h2
                have qs : (y.stop == x.stop) = false := by rw [beq_eq_false_iff_ne]; exact fun h3 => hne ⟨h1, h2, h3⟩
                clear hne h1 h2
                go_wp2_with fail
                go_quiet (fail)
                go_wp2
                go_roundw
                case rel => exact ⟨j + 1, by omega, by go_num, HN', bl_drewN hbl _⟩
                case measure => simp [intOf]; omega
              · have qt : (y.to == (i2 : Int)) = false := by rw [beq_eq_false_iff_ne]; exact h2
                clear hne h1 h2
                go_wp2_with fail
                go_quiet (fail)
                go_wp2
                go_roundw
                case rel => exact ⟨j + 1, by omega, by go_num, HN', bl_drewN hbl _⟩
                case measure => simp [intOf]; omega
            · have qf : (y.frm == (i1 : Int)) = false := by rw [beq_eq_false_iff_ne]; exact h1
              clear hne h1
              go_wp2_with fail
              go_quiet (fail)
              go_wp2
              go_roundw
              case rel => exact ⟨j + 1, by omega, by go_num, HN', bl_drewN hbl _⟩
              case measure => simp [intOf]; omega
        · obtain rfl : j = k := by omega
          have HE := Lib.hid (gua_0 HPT.out E3.out HQ.out HMM.out HN.out)
          go_wp2
          go_ret
          exact ⟨ret_int (HE.out.symm.trans H.out), HBR.out⟩

set_option maxRecDepth 100000 in
set_option maxHeartbeats 8000000 in
theorem rgcheck_c (vl vt vf : Value) (l : List GuaD) (ts : List TripD) (fs : List FreqD) (stops : Int) (r : Int × Int) (H : Hid (checkS 128 (guaErr (ts.map trpOf) fs stops) l = r)) (B : Nat) (w : World) (hl : GuaIn B w vl l) (ht : TripsRd B w vt ts) (hf : FreqsIn B w vf fs) (hB : B ≤ w.heap.size) :
    Calls Try.prog 24 #[vl, vt, vf, .int .i64 stops] w fun e w' => e = .returned (.tuple #[.int .i64 r.1, .int .i64 r.2]) ∧ Bl w w' := by
  obtain ⟨al, capl, rfl, ll1, ll2⟩ := hl.val
  have HL := Lib.hid hl
  have HT := Lib.hid ht
  have HF := Lib.hid hf
  clear hl ht hf
  by_cases hmany : 128 < l.length
  · have HR := Lib.hid (checkS_many (err := guaErr (ts.map trpOf) fs stops) hmany)
    go_enter Try.func24, Try.ntmps24
    go_wp2
    go_ret2
    exact ⟨ret_r HR.out H.out, bl_refl _⟩
  · have hfew : l.length ≤ 128 := by omega
    have HR : Hid (chk (guaErr (ts.map trpOf) fs stops) (l.take 0) (l.drop 0) = r) := (checkS_few hfew).symm.trans H.out
    clear hmany
    go_enter Try.func24, Try.ntmps24
    go_wp2_with fail
    go_loopw [10] (fun i wr => ∃ k : Nat, (k ≤ l.length ∧ i = .int .i64 k) ∧ Hid (chk (guaErr (ts.map trpOf) fs stops) (l.take k) (l.drop k) = r) ∧ Bl w wr) (fun i _ => l.length - (intOf i).toNat)
    case atStart => exact ⟨0, ⟨Nat.zero_le _, rfl⟩, HR, bl_refl _⟩
    case round =>
      obtain ⟨k, ⟨hk, rfl⟩, HC, hbl⟩ := hrel
      have z1 := hbl.size
      by_cases hlt : k < l.length
      · obtain ⟨x, hx⟩ : ∃ x, l[k]? = some x := ⟨_, List.getElem?_eq_getElem hlt⟩
        obtain ⟨e, he⟩ : ∃ e, guaErr (ts.map trpOf) fs stops (l.take k) x = e := ⟨_, rfl⟩
        have HX := Lib.hid hx
        have HE := Lib.hid he
        clear hx he
        go_wp2_with fail
        refine (guarantee_c _ vt vf l ts fs stops k x HX.out e HE hfew B wr (HL.out.out hbl hB) (HT.out.bl hbl hB) (HF.out.out hbl hB) (by omega)).mono ?_
        rintro e' w3 ⟨rfl, b3⟩
        have B3 : Hid (Bl w w3) := bl_next hbl b3
        clear b3
        by_cases h0 : e = 0
        · have q : (e != 0) = false := by rw [h0]; rfl
          have HG := Lib.hid (chk_good (err := guaErr (ts.map trpOf) fs stops) HX.out (HE.out.trans h0))
          clear h0
          go_wp2
          go_roundw
          case rel => exact ⟨k + 1, ⟨by omega, by go_num⟩, HG.out.symm.trans HC.out, B3.out⟩
          case measure => simp [intOf]; omega
        · have q : (e != 0) = true := by simpa using h0
          have HG := Lib.hid (chk_bad (err := guaErr (ts.map trpOf) fs stops) HX.out HE.out h0)
          clear h0
          go_wp2
          go_ret2
          exact ⟨ret_r HG.out HC.out, B3.out⟩
      · have HE := Lib.hid (chk_end (err := guaErr (ts.map trpOf) fs stops) (show l.length ≤ k by omega))
        go_wp2
        go_ret2
        exact ⟨ret_r HE.out HC.out, hbl⟩
end Go.Proofs.Ytjdaikeljmccaaa
