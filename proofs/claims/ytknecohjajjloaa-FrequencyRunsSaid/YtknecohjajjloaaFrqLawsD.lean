/-
  THE LAWS OF FREQUENCY, FOURTH PART: FrequencyRuns. Conditions: those of each contract.
-/
import Derived.Test.YtknecohjajjloaaFrqInst
import Derived.Test.YtknecohjajjloaaFrqAcc
import Derived.Test.YtknecohjajjloaaFrqLawsB
namespace Go.Proofs.Ytknecohjajjloaa
open Go.RowKit
open Frq

theorem valid_ne {ts : List TripD} (h : validB ts = true) {k : Nat} {t : TripD} (ht : ts[k]? = some t) : t.calls ≠ [] := by
  unfold validB at h
  rw [List.all_eq_true] at h
  have := h t (List.mem_of_getElem? ht)
  unfold validT at this
  rw [Bool.and_eq_true] at this
  have h2 := of_decide_eq_true this.1
  intro e
  rw [e] at h2
  simp at h2

theorem inst_int {ts : List TripD} {l : List FreqD} (h : (checkS l ts).2 = 0) {trip s : Int} (hs : s ∈ allS l trip) : isInt s := by
  obtain ⟨-, h2⟩ := allS_nodup h trip l.length (Nat.le_refl _)
  rw [List.take_length] at h2
  obtain ⟨i, g, -, hg, -, hsg⟩ := h2 s hs
  have hsd := errAt_sound (check_ok h hg)
  obtain ⟨r1, r2⟩ := starts_in_range hsd hsg
  obtain ⟨a1, a2, a3, a4, a5⟩ := hsd
  constructor <;> omega
set_option maxRecDepth 100000 in
set_option maxHeartbeats 8000000 in
theorem runs_law (v : Value) (fs : List FreqD) (vt : Value) (ts : List TripD) (B : Nat) (w : World) (ha : FreqsIn B w v fs) (ht : TripsRd B w vt ts) (hB : B ≤ w.heap.size) :
    Calls Try.prog 7 #[v, vt] w fun e w' => e = .returned (.bool true) ∧ Bl w w' := by
  have HA := Lib.hid ha
  have HT := Lib.hid ht
  have hT : ∃ at' capt, vt = .slice at' ts.length capt ∧ capt ≤ 9223372036854775807 ∧ ts.length ≤ capt := by
    obtain ⟨a, c, h1, h2, h3, _⟩ := ht.sl
    exact ⟨a, c, h1, by unfold maxLen at h3; exact h3, h2⟩
  obtain ⟨at', capt, rfl, tcap, tlen⟩ := hT
  clear ha ht
  go_enter Try.func7, Try.ntmps7
  go_wp2_with fail
  rcases Bool.eq_false_or_eq_true (manyB fs 3000) with hm | hm
  · refine (many_c v fs 3000 true hm B w HA.out hB).mono ?_
    rintro e w1 ⟨rfl, b1⟩
    clear hm
    go_wp2_with fail
    refine (example_c _).mono ?_
    rintro e w2 ⟨rfl, b2⟩
    go_wp2
    go_ret
    exact ⟨rfl, bl_next b1 b2⟩
  · have h100 : fs.length ≤ 100 := by
      unfold manyB at hm
      rw [Bool.or_eq_false_iff] at hm
      have := of_decide_eq_false hm.1
      omega
    refine (many_c v fs 3000 false hm B w HA.out hB).mono ?_
    rintro e w1 ⟨rfl, b1⟩
    have B1 := Lib.hid b1
    have z1 := b1.size
    clear hm b1
    go_wp2_with fail
    rcases Bool.eq_false_or_eq_true (plainB ts) with hp | hp
    · refine (plain_c _ ts true hp B w1 (HT.out.bl B1.out hB) (by omega)).mono ?_
      rintro e w2 ⟨rfl, b2⟩
      have B2 : Hid (Bl w w2) := bl_next B1.out b2
      have z2 := b2.size
      clear b2
      have HI := Lib.hid (HT.out.into hp)
      clear hp
      go_wp2_with fail
      rcases Bool.eq_false_or_eq_true (validB ts) with hv | hv
      · refine (valid_c _ ts true hv B w2 (HT.out.bl B2.out hB) (by omega)).mono ?_
        rintro e w3 ⟨rfl, b3⟩
        have B3 : Hid (Bl w w3) := bl_next B2.out b3
        have z3 := b3.size
        have HV := Lib.hid hv
        clear b3 hv
        obtain ⟨r, hr⟩ : ∃ r, checkS fs ts = r := ⟨_, rfl⟩
        obtain ⟨r1, r2⟩ := r
        have HR := Lib.hid hr
        clear hr
        go_wp2_with fail
        refine (check_c v fs _ ts (r1, r2) HR B w3 (FreqsIn_bl HA.out B3.out hB) (HI.out.bl B3.out hB) (by omega)).mono ?_
        rintro e w4 ⟨rfl, b4⟩
        have B4 : Hid (Bl w w4) := bl_next B3.out b4
        have z4 := b4.size
        clear b4
        rcases Bool.eq_false_or_eq_true (r2 != 0) with h2 | h2
        · go_wp2_with fail
          refine (example_c _).mono ?_
          rintro e w5 ⟨rfl, b5⟩
          go_wp2
          go_ret
          exact ⟨rfl, bl_next B4.out b5⟩
        · have HOK : Hid ((checkS fs ts).2 = 0) := by
            show _ = _
            rw [HR.out]
            simpa using h2
          go_wp2_with fail
          go_loopw [7] (fun i wr => ∃ k : Nat, k ≤ ts.length ∧ i = .int .i64 k ∧ Bl w wr) (fun i _ => ts.length - (intOf i).toNat)
          case atStart => exact ⟨0, Nat.zero_le _, rfl, B4.out⟩
          case round =>
            rename World => wo
            obtain ⟨k, hk, rfl, hbl⟩ := hrel
            have hzw := hbl.size
            by_cases hlt : k < ts.length
            · go_wp2_with fail
              refine (inst_c v fs k h100 B wo (FreqsIn_bl HA.out hbl hB) (by omega)).mono ?_
              rintro e w5 ⟨v5, rfl, i5, b5⟩
              have HSTR := Lib.hid (fold_strict (l := allS fs k) (by have := (allS_nodup HOK.out k fs.length (Nat.le_refl _)).1; rw [List.take_length] at this; exact this))
              have HLEN := Lib.hid (fold_length (allS fs k))
              have H256 := Lib.hid (allS_most HOK.out k)
              have HREP := Lib.hid (allS_rep HOK.out k)
              have HMEM : Hid (∀ s ∈ fold (allS fs k), s ∈ allS fs k) := fun s hs => (fold_perm _).mem_iff.1 hs
              obtain ⟨L, hL⟩ : ∃ L, fold (allS fs k) = L := ⟨_, rfl⟩
              rw [hL] at i5 HSTR HLEN HMEM
              have hn := HLEN.out
              have hn256 := H256.out
              rw [← hn] at hn256 HREP
              have HI5 := Lib.hid i5
              have HB5 : Hid (Bl w w5) := bl_next hbl b5
              have z5 := b5.size
              obtain ⟨as5, cap5, rfl, -, -, -⟩ := i5
              clear hL b5 hn
              have hnI : (L.length : Int) ≤ 256 := by omega
              go_wp2_with fail
              refine (rep_b v fs k (decide (0 < L.length)) HREP.out.symm B w5 (FreqsIn_bl HA.out HB5.out hB) (by omega)).mono ?_
              rintro e w6 ⟨rfl, b6⟩
              have HB6 : Hid (Bl w w6) := bl_next HB5.out b6
              have HI6 : Hid (IntsIn w6.heap.size w6 (.slice as5 L.length cap5) L) := HI5.out.bl b6
              clear b6
              have qd : (decide (0 < (L.length : Int)) != decide (0 < L.length)) = false := by
                rw [show decide (0 < (L.length : Int)) = decide (0 < L.length) by rw [decide_eq_decide]; omega]
                simp
              go_wp2_with fail
              obtain ⟨bt, ot, capt', x, hve, -, -, hbt, hxt, hct⟩ := HT.out.sl.at (k := k) hlt
              simp only [Value.slice.injEq] at hve
              obtain ⟨rfl, -, -⟩ := hve
              have HTR := Lib.hid (HT.out.ok x (List.mem_of_getElem? hxt))
              have HTI := Lib.hid (HI.out.ok x (List.mem_of_getElem? hxt))
              have HNE := Lib.hid (valid_ne HV.out hxt)
              have HINS : Hid (∀ s ∈ L, (callsS x.calls s).2 = 0 ∧ (callsS x.calls s).1.length = x.calls.length) := fun s hs => inst_ok HOK.out hxt HNE.out (HMEM.out s hs)
              obtain ⟨ac, capc, hxv, -, -, -⟩ := HTR.out.calls
              have HXV := Lib.hid hxv
              have HCT := Lib.hid hct
              have hkI : (k : Int) < (ts.length : Int) := by omega
              clear hxt hct hxv
              go_loopw [9] (fun i wr => ∃ j : Nat, j ≤ L.length ∧ i = .int .i64 j ∧ Bl w6 wr) (fun i _ => L.length - (intOf i).toNat)
              case atStart => exact ⟨0, Nat.zero_le _, rfl, bl_refl _⟩
              case round =>
                rename World => wq
                obtain ⟨j, hj, rfl, hbq⟩ := hrel
                have hzq := hbq.size
                have z6 := HB6.out.size
                have HBQ : Hid (Bl w wq) := bl_next HB6.out hbq
                by_cases hjl : j < L.length
                · obtain ⟨bs, os, caps, hve, l5, m5, hbs, hcs⟩ := (HI6.out.bl hbq).open (by omega)
                  simp only [Value.slice.injEq] at hve
                  obtain ⟨rfl, -, -⟩ := hve
                  obtain ⟨s, hs⟩ : ∃ s, L[j]? = some s := ⟨_, List.getElem?_eq_getElem hjl⟩
                  have c0 : wq.cell? ⟨bs, os + j, none⟩ = some (.int .i64 s) := by have := hcs j s hs 0 _ rfl; simpa using this
                  have jI : (j : Int) < (L.length : Int) := by omega
                  have HCS := Lib.hid hcs
                  have HS := Lib.hid hs
                  have HSI : Hid (isInt s) := inst_int HOK.out (HMEM.out s (List.mem_of_getElem? hs))
                  have HCC : Hid (CallsIn B w (.slice ac x.calls.length capc) x.calls) := by show CallsIn _ _ _ _; rw [← HXV.out]; exact HTR.out.calls
                  have hbtq : bt < wq.heap.size := by omega
                  have hbsq : bs < wq.heap.size := hbs
                  have kt : ∀ jj u, (tripCells x)[jj]? = some u → wq.cell? ⟨bt, ot + k * 5 + jj, none⟩ = some u := fun jj u hu => ((bl_cell HBQ.out).1 _ _ (by omega)).trans (HCT.out jj u hu)
                  have t0 : wq.cell? ⟨bt, ot + k * 5, none⟩ = some (.string x.id) := kt 0 _ rfl
                  have t1 := kt 1 _ rfl
                  have t2 := kt 2 _ rfl
                  have t3 := kt 3 _ rfl
                  have t4 : wq.cell? ⟨bt, ot + k * 5 + 4, none⟩ = some (.slice ac x.calls.length capc) := kt 4 _ (by rw [← HXV.out]; rfl)
                  clear kt hcs hs
                  rcases Nat.eq_zero_or_pos j with hj0 | hjp
                  · have qj : decide (0 < j) = false := by rw [decide_eq_false_iff_not]; omega
                    clear hj0
                    go_wp2_with fail
                    go_quiet (fail)
                    generalize hwz : wq.drewN _ = wz
                    have bz : Bl wq wz := by rw [← hwz]; exact bl_drewN (bl_refl _) _
                    have hold : ∀ w' : World, Bl wz w' → w'.cell? ⟨bt, ot + k * 5, none⟩ = some (.string x.id) ∧ w'.cell? ⟨bt, ot + k * 5 + 1, none⟩ = some (.int .i64 x.rt) ∧ w'.cell? ⟨bt, ot + k * 5 + 2, none⟩ = some (.int .i64 x.cal) ∧ w'.cell? ⟨bt, ot + k * 5 + 3, none⟩ = some (.bool x.step) ∧ w'.cell? ⟨bt, ot + k * 5 + 4, none⟩ = some (.slice ac x.calls.length capc) ∧ w'.cell? ⟨bs, os + j, none⟩ = some (.int .i64 s) := fun w' hb => ⟨((bl_cell (bl_next bz hb)).1 _ _ hbtq).trans t0, ((bl_cell (bl_next bz hb)).1 _ _ hbtq).trans t1, ((bl_cell (bl_next bz hb)).1 _ _ hbtq).trans t2, ((bl_cell (bl_next bz hb)).1 _ _ hbtq).trans t3, ((bl_cell (bl_next bz hb)).1 _ _ hbtq).trans t4, ((bl_cell (bl_next bz hb)).1 _ _ hbsq).trans c0⟩
                    obtain ⟨y0, y1, y2, y3, y4, y5⟩ := hold wz (bl_refl _)
                    have HZ : Hid (Bl w wz) := bl_next HBQ.out bz
                    have zz := HZ.out.size
                    clear hwz t0 t1 t2 t3 t4 c0 qj
                    go_wp2_with fail
                    go_region_held3 (fun w' => w'.cell? ⟨bt, ot + k * 5, none⟩ = some (.string x.id) ∧ w'.cell? ⟨bt, ot + k * 5 + 1, none⟩ = some (.int .i64 x.rt) ∧ w'.cell? ⟨bt, ot + k * 5 + 2, none⟩ = some (.int .i64 x.cal) ∧ w'.cell? ⟨bt, ot + k * 5 + 3, none⟩ = some (.bool x.step) ∧ w'.cell? ⟨bt, ot + k * 5 + 4, none⟩ = some (.slice ac x.calls.length capc) ∧ w'.cell? ⟨bs, os + j, none⟩ = some (.int .i64 s)) (first | exact hold _ (bl_drew (bl_refl _)) | exact hold _ (bl_next (bl_drew (bl_refl _)) b8)) (first | (go_at_call 14; refine (calls_c x.id x.rt x.cal x.step _ x.calls s HSI.out B _ (HCC.out.below ((bl_next HZ.out (bl_drew (bl_refl _))).mono hB)) (by simp; omega) HTI.out.ok HTI.out.len).mono ?_; rintro e w8 ⟨⟨v8, rfl, i8⟩, b8⟩))
                    all_goals
                      obtain ⟨q0, q1⟩ := HINS.out s (List.mem_of_getElem? HS.out)
                      obtain ⟨x0, x1, x2, x3, x4, x5⟩ := hold _ (bl_next (bl_drew (bl_refl _)) b8)
                      obtain ⟨a8, cap8, rfl, -, -, -⟩ := i8
                      rw [q0, q1]
                      have B8 := Lib.hid (bl_next (bl_next hbq bz) (bl_next (bl_drew (bl_refl _)) b8))
                      have ql : ((x.calls.length : Int) != (x.calls.length : Int)) = false := by simp
                      clear hold q0 q1 y0 y1 y2 y3 y4 y5 b8 bz
                      go_wp2
                      go_roundw
                      case rel => exact ⟨j + 1, by omega, by go_num, B8.out⟩
                      case measure => simp [intOf]; omega
                  · obtain ⟨i, hi⟩ : ∃ i, j = i + 1 := ⟨j - 1, by omega⟩
                    obtain ⟨s', hs'⟩ : ∃ s', L[i]? = some s' := ⟨_, List.getElem?_eq_getElem (by omega)⟩
                    have cp : wq.cell? ⟨bs, os + i, none⟩ = some (.int .i64 s') := by have := HCS.out i s' hs' 0 _ rfl; simpa using this
                    have hss : s' < s := by
                      obtain ⟨g1, e1⟩ := List.getElem?_eq_some_iff.1 hs'
                      obtain ⟨g2, e2⟩ := List.getElem?_eq_some_iff.1 HS.out
                      have := List.pairwise_iff_getElem.1 HSTR.out i j g1 g2 (by omega)
                      rw [e1, e2] at this
                      exact this
                    have e1 : IntKind.i64.wrap ((j : Int) - 1) = (i : Int) := by rw [IntWalk.i64_in _ (by omega)]; omega
                    have i2 : (i : Int) < (L.length : Int) := by omega
                    have qj : decide (0 < j) = true := by rw [decide_eq_true_iff]; omega
                    clear hs' hi
                    go_wp2_with fail
                    go_quiet (fail)
                    generalize hwz : wq.drewN _ = wz
                    have bz : Bl wq wz := by rw [← hwz]; exact bl_drewN (bl_refl _) _
                    have hold : ∀ w' : World, Bl wz w' → w'.cell? ⟨bt, ot + k * 5, none⟩ = some (.string x.id) ∧ w'.cell? ⟨bt, ot + k * 5 + 1, none⟩ = some (.int .i64 x.rt) ∧ w'.cell? ⟨bt, ot + k * 5 + 2, none⟩ = some (.int .i64 x.cal) ∧ w'.cell? ⟨bt, ot + k * 5 + 3, none⟩ = some (.bool x.step) ∧ w'.cell? ⟨bt, ot + k * 5 + 4, none⟩ = some (.slice ac x.calls.length capc) ∧ w'.cell? ⟨bs, os + j, none⟩ = some (.int .i64 s) := fun w' hb => ⟨((bl_cell (bl_next bz hb)).1 _ _ hbtq).trans t0, ((bl_cell (bl_next bz hb)).1 _ _ hbtq).trans t1, ((bl_cell (bl_next bz hb)).1 _ _ hbtq).trans t2, ((bl_cell (bl_next bz hb)).1 _ _ hbtq).trans t3, ((bl_cell (bl_next bz hb)).1 _ _ hbtq).trans t4, ((bl_cell (bl_next bz hb)).1 _ _ hbsq).trans c0⟩
                    obtain ⟨y0, y1, y2, y3, y4, y5⟩ := hold wz (bl_refl _)
                    have HZ : Hid (Bl w wz) := bl_next HBQ.out bz
                    have zz := HZ.out.size
                    clear hwz t0 t1 t2 t3 t4 c0 qj e1 cp
                    go_wp2_with fail
                    go_region_held3 (fun w' => w'.cell? ⟨bt, ot + k * 5, none⟩ = some (.string x.id) ∧ w'.cell? ⟨bt, ot + k * 5 + 1, none⟩ = some (.int .i64 x.rt) ∧ w'.cell? ⟨bt, ot + k * 5 + 2, none⟩ = some (.int .i64 x.cal) ∧ w'.cell? ⟨bt, ot + k * 5 + 3, none⟩ = some (.bool x.step) ∧ w'.cell? ⟨bt, ot + k * 5 + 4, none⟩ = some (.slice ac x.calls.length capc) ∧ w'.cell? ⟨bs, os + j, none⟩ = some (.int .i64 s)) (first | exact hold _ (bl_drew (bl_refl _)) | exact hold _ (bl_next (bl_drew (bl_refl _)) b8)) (first | (go_at_call 14; refine (calls_c x.id x.rt x.cal x.step _ x.calls s HSI.out B _ (HCC.out.below ((bl_next HZ.out (bl_drew (bl_refl _))).mono hB)) (by simp; omega) HTI.out.ok HTI.out.len).mono ?_; rintro e w8 ⟨⟨v8, rfl, i8⟩, b8⟩))
                    all_goals
                      obtain ⟨q0, q1⟩ := HINS.out s (List.mem_of_getElem? HS.out)
                      obtain ⟨x0, x1, x2, x3, x4, x5⟩ := hold _ (bl_next (bl_drew (bl_refl _)) b8)
                      obtain ⟨a8, cap8, rfl, -, -, -⟩ := i8
                      rw [q0, q1]
                      have B8 := Lib.hid (bl_next (bl_next hbq bz) (bl_next (bl_drew (bl_refl _)) b8))
                      have ql : ((x.calls.length : Int) != (x.calls.length : Int)) = false := by simp
                      clear hold q0 q1 y0 y1 y2 y3 y4 y5 b8 bz
                      go_wp2
                      go_roundw
                      case rel => exact ⟨j + 1, by omega, by go_num, B8.out⟩
                      case measure => simp [intOf]; omega
                · go_wp2
                  go_roundw
                  case rel => exact ⟨k + 1, by omega, by go_num, HBQ.out⟩
                  case measure => simp [intOf]; omega
            · go_wp2_with fail
              refine (example_c _).mono ?_
              rintro e w5 ⟨rfl, b5⟩
              go_wp2
              go_ret
              exact ⟨rfl, bl_next hbl b5⟩
      · refine (valid_c _ ts false hv B w2 (HT.out.bl B2.out hB) (by omega)).mono ?_
        rintro e w3 ⟨rfl, b3⟩
        clear hv
        go_wp2_with fail
        refine (example_c _).mono ?_
        rintro e w4 ⟨rfl, b4⟩
        go_wp2
        go_ret
        exact ⟨rfl, bl_next B2.out (bl_next b3 b4)⟩
    · refine (plain_c _ ts false hp B w1 (HT.out.bl B1.out hB) (by omega)).mono ?_
      rintro e w2 ⟨rfl, b2⟩
      clear hp
      go_wp2_with fail
      refine (example_c _).mono ?_
      rintro e w3 ⟨rfl, b3⟩
      go_wp2
      go_ret
      exact ⟨rfl, bl_next B1.out (bl_next b2 b3)⟩
end Go.Proofs.Ytknecohjajjloaa
