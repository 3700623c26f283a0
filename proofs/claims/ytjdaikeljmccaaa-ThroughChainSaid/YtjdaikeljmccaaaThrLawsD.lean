/-
  THE LAWS OF THROUGH SERVICES, FOURTH PART: Chain. Conditions: those of each contract.
-/
import Derived.Test.YtjdaikeljmccaaaThrLawsA
namespace Go.Proofs.Ytjdaikeljmccaaa
open Go.RowKit
open Frq Thr

/-- What two trips that follow each other in an accepted chain have. -/
theorem chain_pair {ts : List TrpD} {fs : List FreqD} {l : List ThrD} (h : (checkS 128 (thrErr ts fs) l).2 = 0) {t : Int} {j : Nat} {a b : Int} (ha : (chainS l t)[j]? = some a) (hb : (chainS l t)[j + 1]? = some b) :
    ∃ x y, (atT ts a).calls.getLast? = some x ∧ (atT ts b).calls.head? = some y ∧ x.stop = y.stop ∧ x.arrive ≤ y.depart := by
  obtain ⟨x, hx, rfl⟩ := (chainS_making l t).link j a b ha hb
  have hxf : x.frm = a := by
    have := List.find?_some hx
    simpa using this
  have := accepted_link h (List.mem_of_find?_eq_some hx)
  rw [hxf] at this
  exact followS_zero this.2
set_option maxRecDepth 100000 in
set_option maxHeartbeats 8000000 in
theorem chain_law (t : TabD) (trip : Int) (htr : isInt trip) (B : Nat) (w : World) (ht : TabRd B w t) (hB : B ≤ w.heap.size) :
    Calls Try.prog 7 #[.agg #[t.v1, t.v2, t.v3, t.v4, .int .i64 t.stops], .int .i64 trip] w fun e w' => e = .returned (.bool true) ∧ Bl w w' := by
  have HT := Lib.hid ht
  have HTI := Lib.hid htr
  obtain ⟨a1, a2, a3, a4, c1, c2, c3, c4, hte, ⟨l1, l1'⟩, ⟨l2, l2'⟩, ⟨l3, l3'⟩, ⟨l4, l4'⟩⟩ := ht.vals
  obtain ⟨v1, v2, v3, v4, xs, gs, ts, fs, st⟩ := t
  simp only [TabD.mk.injEq, and_true] at hte
  obtain ⟨rfl, rfl, rfl, rfl⟩ := hte
  simp only at l1 l2 l3 l4 ⊢
  obtain ⟨w1, hw1⟩ : ∃ w1, w.alloc (.cells #[.slice a1 xs.length c1, .slice a2 gs.length c2, .slice a3 ts.length c3, .slice a4 fs.length c4, .int .i64 st] 27) = w1 := ⟨_, rfl⟩
  have b1 : Bl w w1 := by rw [← hw1]; exact bl_alloc (bl_refl _) _
  have hk : TbCl w1 w.heap.size ⟨.slice a1 xs.length c1, .slice a2 gs.length c2, .slice a3 ts.length c3, .slice a4 fs.length c4, xs, gs, ts, fs, st⟩ := by rw [← hw1]; exact tbCl_new w ⟨.slice a1 xs.length c1, .slice a2 gs.length c2, .slice a3 ts.length c3, .slice a4 fs.length c4, xs, gs, ts, fs, st⟩ _
  have s1 : w1.heap.size = w.heap.size + 1 := by rw [← hw1]; simp
  have HK := Lib.hid hk
  have B1 := Lib.hid b1
  obtain ⟨k0, k1, k2, k3, k4⟩ := hk
  obtain ⟨r, hr⟩ : ∃ r, smallB ⟨.slice a1 xs.length c1, .slice a2 gs.length c2, .slice a3 ts.length c3, .slice a4 fs.length c4, xs, gs, ts, fs, st⟩ = r := ⟨_, rfl⟩
  have HR := Lib.hid hr
  obtain ⟨q, hq⟩ : ∃ q, checkS 128 (thrErr (ts.map trpOf) fs) xs = q := ⟨_, rfl⟩
  obtain ⟨q1, q2⟩ := q
  have HQ := Lib.hid hq
  clear ht b1 hr hq htr
  go_enter Try.func7, Try.ntmps7
  go_wp2_with fail
  clear hw1
  refine (small_c ⟨.slice a1 xs.length c1, .slice a2 gs.length c2, .slice a3 ts.length c3, .slice a4 fs.length c4, xs, gs, ts, fs, st⟩ r HR B w1 (HT.out.bl B1.out hB) (by omega)).mono ?_
  rintro e w2 ⟨rfl, b2⟩
  have B2 : Hid (Bl w w2) := bl_next B1.out b2
  have HK2 := Lib.hid (HK.out.bl (by omega) b2)
  have z2 := b2.size
  clear b2 k0 k1 k2 k3 k4
  cases r with
  | false =>
    go_wp2_with fail
    refine (example_c _).mono ?_
    rintro e w3 ⟨rfl, b3⟩
    go_wp2
    go_ret
    exact ⟨rfl, bl_next B2.out b3⟩
  | true =>
  obtain ⟨k0, k1, k2, k3, k4⟩ := HK2.out
  by_cases hneg : trip < 0
  · go_wp2_with fail
    refine (example_c _).mono ?_
    rintro e w3 ⟨rfl, b3⟩
    go_wp2
    go_ret
    exact ⟨rfl, bl_next B2.out b3⟩
  have hk0 : 0 ≤ trip := by omega
  clear hneg
  by_cases hbig : (ts.length : Int) ≤ trip
  · go_wp2_with fail
    refine (example_c _).mono ?_
    rintro e w3 ⟨rfl, b3⟩
    go_wp2
    go_ret
    exact ⟨rfl, bl_next B2.out b3⟩
  have hkn : trip < (ts.length : Int) := by omega
  clear hbig
  have HXL := small_thr HR.out
  simp only at HXL
  go_wp2_with fail
  refine (check_c _ _ _ xs ts fs (q1, q2) HQ HT.out.okx B w2 (HT.out.thr.out B2.out hB) (HT.out.trips.bl B2.out hB) (HT.out.reps.out B2.out hB) (by omega)).mono ?_
  rintro e w3 ⟨rfl, b3⟩
  have B3 : Hid (Bl w w3) := bl_next B2.out b3
  have HK3 := Lib.hid (HK2.out.bl (by omega) b3)
  have z3 := b3.size
  clear b3 k0 k1 k2 k3 k4
  obtain ⟨k0, k1, k2, k3, k4⟩ := HK3.out
  go_wp2_with fail
  refine (chain_c _ xs trip HTI.out (fun x hx => (HT.out.okx x hx).2) (by omega) B w3 (HT.out.thr.out B3.out hB) (by omega)).mono ?_
  rintro e w4 ⟨v4, rfl, i4, b4⟩
  have B4 : Hid (Bl w w4) := bl_next B3.out b4
  have HK4 := Lib.hid (HK3.out.bl (by omega) b4)
  have z4 := b4.size
  clear b4 k0 k1 k2 k3 k4
  by_cases hq0 : q2 = 0
  · have HOK : Hid ((checkS 128 (thrErr (ts.map trpOf) fs) xs).2 = 0) := by show _ = _; rw [HQ.out]; exact hq0
    have qq : (q2 != 0) = false := by rw [hq0]; rfl
    have HMK := Lib.hid (chainS_making xs trip)
    have HLA := Lib.hid (accepted_last HOK.out trip)
    have HSH := Lib.hid (chain_short HOK.out hk0 (by rw [List.length_map]; exact hkn))
    rw [List.length_map] at HSH
    have HIN : Hid (∀ n, n ∈ chainS xs trip → 0 ≤ n ∧ n < (ts.length : Int)) := fun n hn => by
      have := chain_in HOK.out hk0 (by rw [List.length_map]; exact hkn) hn
      rw [List.length_map] at this
      exact this
    have HPR : Hid (∀ j a b, (chainS xs trip)[j]? = some a → (chainS xs trip)[j + 1]? = some b → ∃ x y, (atT (ts.map trpOf) a).calls.getLast? = some x ∧ (atT (ts.map trpOf) b).calls.head? = some y ∧ x.stop = y.stop ∧ x.arrive ≤ y.depart) := fun j a b ha hb => chain_pair HOK.out ha hb
    obtain ⟨C, hC⟩ : ∃ C, chainS xs trip = C := ⟨_, rfl⟩
    rw [hC] at i4 HMK HLA HSH HIN HPR
    have hpos := HMK.out.pos
    obtain ⟨n, hn⟩ : ∃ n, C.length = n + 1 := ⟨C.length - 1, by omega⟩
    have hsh := HSH.out
    have I4 := Lib.hid i4
    obtain ⟨bc, oc, capc, rfl, lc1, lc2, hbc, hcc⟩ := i4.open hpos
    have HCC : Hid (∀ w' : World, Bl w4 w' → ∀ k s, C[k]? = some s → w'.cell? ⟨bc, oc + k, none⟩ = some (.int .i64 s)) := fun w' hb k s hk => by
      rw [(bl_cell hb).1 _ _ hbc]
      have := hcc k s hk 0 _ rfl
      simpa using this
    have x0 : w4.cell? ⟨bc, oc, none⟩ = some (.int .i64 trip) := by have := HCC.out w4 (bl_refl _) 0 trip HMK.out.head; simpa using this
    obtain ⟨la, hla⟩ : ∃ la, lastI C = la := ⟨_, rfl⟩
    have xl : w4.cell? ⟨bc, oc + n, none⟩ = some (.int .i64 la) := by rw [← hla]; exact HCC.out w4 (bl_refl _) n _ (lastI_at hn)
    have HLA' : Hid (nextS xs la = none) := by rw [← hla]; exact HLA.out
    have HN := Lib.hid hn
    have qz : ((C.length : Int) == 0) = false := by rw [beq_eq_false_iff_ne]; omega
    have e1 : IntKind.i64.wrap ((C.length : Int) - 1) = (n : Int) := by rw [IntWalk.i64_in _ (by omega)]; omega
    have i1 : (n : Int) < (C.length : Int) := by omega
    have qt : (trip != trip) = false := by simp
    have hcl : C.length ≤ ts.length := hsh
    clear hC i4 hcc hla hn hq0 hsh
    obtain ⟨k0, k1, k2, k3, k4⟩ := HK4.out
    have hw4 : B ≤ w4.heap.size := by omega
    have hold : ∀ w' : World, Bl w4 w' → w'.cell? ⟨w.heap.size, 0, none⟩ = some (.slice a1 xs.length c1) ∧ w'.cell? ⟨bc, oc + n, none⟩ = some (.int .i64 la) := fun w' hb => ⟨((bl_cell hb).1 _ _ (by omega)).trans k0, ((bl_cell hb).1 _ _ hbc).trans xl⟩
    go_wp2_with fail
    go_region_held3 (fun w' => w'.cell? ⟨w.heap.size, 0, none⟩ = some (.slice a1 xs.length c1) ∧ w'.cell? ⟨bc, oc + n, none⟩ = some (.int .i64 la)) (first | exact hold _ (bl_drew (bl_refl _)) | exact hold _ (bl_next (bl_drew (bl_refl _)) b5)) (first | (go_at_call 15; refine (next_c _ xs la B _ (HT.out.thr.out (bl_next B4.out (bl_drew (bl_refl _))) hB) (by simp; omega)).mono ?_; rintro e w5 ⟨rfl, b5⟩))
    all_goals
      have HNN := Lib.hid (next_none HLA'.out)
      rw [HNN.out.1, HNN.out.2]
      have B5 : Hid (Bl w w5) := bl_next B4.out (bl_next (bl_drew (bl_refl _)) b5)
      have H45 : Hid (Bl w4 w5) := bl_next (bl_drew (bl_refl _)) b5
      have z5 : w4.heap.size ≤ w5.heap.size := H45.out.size
      clear hold b5 x0 xl k0 k1 k2 k3 k4 qz e1 qt
      go_wp2_with fail
      go_loopw [79] (fun i wr => ∃ j : Nat, j ≤ C.length ∧ i = .int .i64 j ∧ Bl w5 wr) (fun i _ => C.length - (intOf i).toNat)
      case atStart => exact ⟨0, Nat.zero_le _, rfl, bl_refl _⟩
      case round =>
        obtain ⟨j, hj, rfl, hbl⟩ := hrel
        have HBR : Hid (Bl w wr) := bl_next B5.out hbl
        have H4R : Hid (Bl w4 wr) := bl_next H45.out hbl
        have zr := hbl.size
        by_cases hlt : j < C.length
        · obtain ⟨s, hs⟩ : ∃ s, C[j]? = some s := ⟨_, List.getElem?_eq_getElem hlt⟩
          obtain ⟨hs0, hsn⟩ := HIN.out s (List.mem_of_getElem? hs)
          obtain ⟨i1', hi1⟩ : ∃ i1 : Nat, s = i1 := ⟨s.toNat, by omega⟩
          subst hi1
          have cj : wr.cell? ⟨bc, oc + j, none⟩ = some (.int .i64 (i1' : Int)) := HCC.out wr H4R.out j _ hs
          have hjI : (j : Int) < (C.length : Int) := by omega
          have hjc : (j : Int) ≤ (capc : Int) := by omega
          have HC0 : Hid ((C.take j).contains (i1' : Int) = false) := by
            show _ = _
            cases hc : (C.take j).contains (i1' : Int) with
            | false => rfl
            | true =>
              exfalso
              obtain ⟨j', hj'⟩ := List.getElem?_of_mem (List.contains_iff_mem.1 hc)
              have hjl : j' < (C.take j).length := (List.getElem?_eq_some_iff.1 hj').1
              rw [List.length_take] at hjl
              rw [List.getElem?_take_of_lt (by omega)] at hj'
              obtain ⟨g1, e1⟩ := List.getElem?_eq_some_iff.1 hj'
              obtain ⟨g2, e2⟩ := List.getElem?_eq_some_iff.1 hs
              exact List.pairwise_iff_getElem.1 HMK.out.nodup j' j g1 g2 (by omega) (e1.trans e2.symm)
          have HS := Lib.hid hs
          have HKR : Hid (TbCl wr w.heap.size ⟨.slice a1 xs.length c1, .slice a2 gs.length c2, .slice a3 ts.length c3, .slice a4 fs.length c4, xs, gs, ts, fs, st⟩) := HK4.out.bl (by omega) H4R.out
          obtain ⟨k0, k1, k2, k3, k4⟩ := HKR.out
          have qn : decide ((ts.length : Int) ≤ (i1' : Int)) = false := decide_eq_false (by omega)
          clear hs hs0
          go_wp2_with fail
          refine (has_c _ (C.take j) i1' false HC0 _ wr ((I4.out.take (k := j) (by omega)).out H4R.out (Nat.le_refl _)) (by have := H4R.out.size; omega)).mono ?_
          rintro e w6 ⟨rfl, rfl⟩
          rcases Nat.eq_zero_or_pos j with hj0 | hjp
          · have qj : ((j : Int) == 0) = true := by rw [beq_iff_eq]; omega
            go_wp2
            go_roundw
            case rel => exact ⟨j + 1, by omega, by go_num, hbl⟩
            case measure => simp [intOf]; omega
          · have qj : ((j : Int) == 0) = false := by rw [beq_eq_false_iff_ne]; omega
            obtain ⟨j', hj'⟩ : ∃ j', j = j' + 1 := ⟨j - 1, by omega⟩
            obtain ⟨s', hs'⟩ : ∃ s', C[j']? = some s' := ⟨_, List.getElem?_eq_getElem (by omega)⟩
            obtain ⟨hs0', hsn'⟩ := HIN.out s' (List.mem_of_getElem? hs')
            obtain ⟨i2', hi2⟩ : ∃ i2 : Nat, s' = i2 := ⟨s'.toNat, by omega⟩
            subst hi2
            have cj' : wr.cell? ⟨bc, oc + j', none⟩ = some (.int .i64 (i2' : Int)) := HCC.out wr H4R.out j' _ hs'
            obtain ⟨x, y, hx, hy, hst, hle⟩ := HPR.out j' i2' i1' hs' (by rw [← hj']; exact HS.out)
            have n1 : i1' < ts.length := by omega
            have n2 : i2' < ts.length := by omega
            obtain ⟨bt, ot, t1, rfl, hbt, ht1, htc1⟩ := HT.out.trips.sl.get n1 HBR.out hB
            obtain ⟨bt', ot', t2, hat, hbt', ht2, htc2⟩ := HT.out.trips.sl.get n2 HBR.out hB
            simp only [Option.some.injEq, Addr.mk.injEq] at hat
            obtain ⟨rfl, rfl, -⟩ := hat
            rw [atT_of (t := t2) (by simpa using ht2)] at hx
            rw [atT_of (t := t1) (by simpa using ht1)] at hy
            simp only [trpOf] at hx hy
            rw [List.getLast?_eq_getElem?] at hx
            rw [List.head?_eq_getElem?] at hy
            have hp1 : 0 < t1.calls.length := (List.getElem?_eq_some_iff.1 hy).1
            have hp2 : t2.calls.length - 1 < t2.calls.length := (List.getElem?_eq_some_iff.1 hx).1
            obtain ⟨n', hn'⟩ : ∃ n', t2.calls.length = n' + 1 := ⟨t2.calls.length - 1, by omega⟩
            have HR1 := (HT.out.trips.ok t1 (List.mem_of_getElem? ht1)).bl HBR.out hB
            have HR2 := (HT.out.trips.ok t2 (List.mem_of_getElem? ht2)).bl HBR.out hB
            obtain ⟨av1, cv1, hv1, lv1, lv1'⟩ := HR1.calls.val
            obtain ⟨av2, cv2, hv2, lv2, lv2'⟩ := HR2.calls.val
            have HC1 := HR1.calls
            have HC2 := HR2.calls
            rw [hv1] at HC1
            rw [hv2] at HC2
            obtain ⟨b1', o1', y', ha1, hb1', hy', hcy⟩ := HC1.get hp1 (bl_refl wr) (by omega)
            obtain ⟨b2', o2', x', ha2, hb2', hx', hcx⟩ := HC2.get (k := n') (by omega) (bl_refl wr) (by omega)
            obtain rfl : y = y' := by rw [hy] at hy'; exact Option.some.inj hy'
            obtain rfl : x = x' := by rw [show t2.calls.length - 1 = n' by omega] at hx; rw [hx] at hx'; exact Option.some.inj hx'
            subst ha1 ha2
            have g1 : wr.cell? ⟨bt, ot + i1' * 5 + 4, none⟩ = some (.slice (some ⟨b1', o1', none⟩) t1.calls.length cv1) := by rw [← hv1]; exact htc1 4 _ rfl
            have g2 : wr.cell? ⟨bt, ot + i2' * 5 + 4, none⟩ = some (.slice (some ⟨b2', o2', none⟩) t2.calls.length cv2) := by rw [← hv2]; exact htc2 4 _ rfl
            have m0 : wr.cell? ⟨b2', o2' + n' * 5, none⟩ = some (.int .i64 x.stop) := hcx 0 _ rfl
            have m1 := hcx 1 _ rfl
            have hcy' : ∀ j z, (callCells y)[j]? = some z → wr.cell? ⟨b1', o1' + j, none⟩ = some z := fun j z hz => by have := hcy j z hz; rwa [Nat.zero_mul, Nat.add_zero] at this
            have o0 : wr.cell? ⟨b1', o1', none⟩ = some (.int .i64 x.stop) := by rw [hst]; exact hcy' 0 _ rfl
            have o2 := hcy' 2 _ rfl
            have e1 : IntKind.i64.wrap ((j : Int) - 1) = (j' : Int) := by rw [IntWalk.i64_in _ (by omega)]; omega
            have e2 : IntKind.i64.wrap ((t2.calls.length : Int) - 1) = (n' : Int) := by rw [IntWalk.i64_in _ (by omega)]; omega
            have q1' : ((t1.calls.length : Int) == 0) = false := by rw [beq_eq_false_iff_ne]; omega
            have q2' : ((t2.calls.length : Int) == 0) = false := by rw [beq_eq_false_iff_ne]; omega
            have qs : (x.stop != x.stop) = false := by simp
            have ql : decide (y.depart < x.arrive) = false := decide_eq_false (by omega)
            have i1I : (i1' : Int) < (ts.length : Int) := by omega
            have i2I : (i2' : Int) < (ts.length : Int) := by omega
            have jI' : (j' : Int) < (C.length : Int) := by omega
            have nI' : (n' : Int) < (t2.calls.length : Int) := by omega
            clear hj' hs' hx hy hst hle ht1 htc1 ht2 htc2 hn' HR1 HR2 hv1 hv2 HC1 HC2 hy' hcy hx' hcx hcy' hs0'
            go_wp2_with fail
            go_quiet (fail)
            generalize hwz : wr.drewN _ = wz
            have bz : Bl wr wz := by rw [← hwz]; exact bl_drewN (bl_refl _) _
            have kc := fun a o (h : a < wr.heap.size) => (bl_cell bz).1 a o h
            have m0' := (kc _ _ hb2').trans m0
            have m1' := (kc _ _ hb2').trans m1
            have o0' := (kc _ _ hb1').trans o0
            have o2' := (kc _ _ hb1').trans o2
            have HZ := Lib.hid (bl_next hbl bz)
            clear hwz kc m0 m1 o0 o2 bz g1 g2 cj cj' k0 k1 k2 k3 k4 e1
            go_wp2_with fail
            go_quiet (fail)
            go_wp2
            go_roundw
            case rel => exact ⟨j + 1, by omega, by go_num, bl_drewN HZ.out _⟩
            case measure => simp [intOf]; omega
        · go_wp2_with fail
          refine (example_c _).mono ?_
          rintro e w6 ⟨rfl, b6⟩
          go_wp2
          go_ret
          exact ⟨rfl, bl_next HBR.out b6⟩
  · have qq : (q2 != 0) = true := by simpa using hq0
    go_wp2_with fail
    refine (example_c _).mono ?_
    rintro e w5 ⟨rfl, b5⟩
    go_wp2
    go_ret
    exact ⟨rfl, bl_next B4.out b5⟩
end Go.Proofs.Ytjdaikeljmccaaa
