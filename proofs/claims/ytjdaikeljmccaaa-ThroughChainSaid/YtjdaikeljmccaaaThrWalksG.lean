/-
  THE CONTRACTS OF THROUGH SERVICES, SEVENTH PART: CheckGuarantees. Conditions: those of each contract.
-/
import Derived.Test.YtjdaikeljmccaaaThrWalksF
import Derived.DeepKeys4
namespace Go.Proofs.Ytjdaikeljmccaaa
open Go.RowKit
open Go.Maps (Keyed)
open Frq Thr

theorem laidOut : laidOutB Try.prog = true := by kernel_rfl
theorem gua_law : Keyed Try.prog 64 := Keyed.of_law (deep_law_laid laidOut (m := 5) (by omega) (by decide +kernel) (by kernel_rfl) (by kernel_rfl))
def gv (x : GuaD) : Value := .agg #[.int .i64 x.frm, .int .i64 x.to, .int .i64 x.stop]
def okG (x : GuaD) : Prop := isInt x.frm ∧ isInt x.to ∧ isInt x.stop
theorem gua_type : Try.prog.keyType 64 = true := by kernel_rfl
theorem gua_cells : Try.prog.cellsOf 64 = 3 := by kernel_rfl
theorem int_cells : Try.prog.cellsOf 3 = 1 := by kernel_rfl
theorem types_pos : ∃ n, Try.prog.types.size = n + 1 := by
  have h : 0 < Try.prog.types.size := by decide +kernel
  exact ⟨Try.prog.types.size - 1, by omega⟩
theorem gk_ex {x : GuaD} (h : okG x) : ∃ kl, keyOf Try.prog 64 (gv x) = some kl := by
  obtain ⟨n, hn⟩ := types_pos
  have w1 := wf_int h.1
  have w2 := wf_int h.2.1
  have w3 := wf_int h.2.2
  unfold keyOf gv
  rw [Try.underlying64]
  simp only [gua_type, Value.formed, Try.underlying64, gua_cells, hn]
  simp [Program.keyLits, Try.underlying64, Try.underlying3, gua_cells, int_cells, w1, w2, w3, Value.cells]
/-- A function that says how guaranteed changes read as keys. -/
def KeyFn (gk : GuaD → Lit) : Prop := ∀ x, okG x → keyOf Try.prog 64 (gv x) = some (gk x)
theorem keyFn_ex : ∃ gk, KeyFn gk := by
  have h : ∀ x : GuaD, ∃ kl, okG x → keyOf Try.prog 64 (gv x) = some kl := fun x => by
    by_cases hx : okG x
    · obtain ⟨kl, hk⟩ := gk_ex hx
      exact ⟨kl, fun _ => hk⟩
    · exact ⟨.bool false, fun h => absurd h hx⟩
  exact ⟨fun x => Classical.choose (h x), fun x hx => Classical.choose_spec (h x) hx⟩
theorem gk_inj {gk : GuaD → Lit} (K : KeyFn gk) {x y : GuaD} (hx : okG x) (hy : okG y) (h : gk x = gk y) : x = y := by
  have := gua_law.inj (K x hx) (h ▸ K y hy)
  cases x
  cases y
  simpa [gv] using this
def GuaSet (gk : GuaD → Lit) (l : List GuaD) (S : Lit → Bool) : Prop := ∀ x : GuaD, okG x → S (gk x) = l.contains x
theorem GuaSet.next {gk : GuaD → Lit} (K : KeyFn gk) {l : List GuaD} {S : Lit → Bool} {k : Nat} {x : GuaD} (h : GuaSet gk (l.take k) S) (hx : l[k]? = some x) (hk : okG x) : GuaSet gk (l.take (k + 1)) (setPut S (gk x)) := fun y hy => by
  rw [take_snoc_at hx]
  by_cases e : y = x
  · rw [e, setPut_at _ (gua_law.key (K x hk))]; simp
  · rw [setPut_ne (fun e' => e (gk_inj K hy hk e')), h y hy]
    simp [e]
abbrev GuSet (w : World) (b n : Nat) (S : Lit → Bool) : Prop := OwnsSet w Try.prog 64 4 b n S
section
variable {ts : List TrpD} {fs : List FreqD} {stops : Int} {pre : List GuaD} {x : GuaD}
theorem gua_9 (h : pairB ts.length x.frm x.to = false) : guaErr ts fs stops pre x = 9 := by unfold guaErr; rw [if_pos h]
theorem gua_9' (h : pairB ts.length x.frm x.to = true) (h0 : inB x.stop stops = false) : guaErr ts fs stops pre x = 9 := by unfold guaErr; rw [if_neg (by rw [h]; simp), if_pos h0]
theorem gua_17 (h : pairB ts.length x.frm x.to = true) (h0 : inB x.stop stops = true) (h1 : (repS fs x.frm || repS fs x.to) = true) : guaErr ts fs stops pre x = 17 := by
  unfold guaErr; rw [if_neg (by rw [h]; simp), if_neg (by rw [h0]; simp), if_pos h1]
theorem gua_19 (h : pairB ts.length x.frm x.to = true) (h0 : inB x.stop stops = true) (h1 : (repS fs x.frm || repS fs x.to) = false) (h2 : (meetsS (atT ts x.frm).calls (atT ts x.to).calls x.stop).2.2 = false) : guaErr ts fs stops pre x = 19 := by
  unfold guaErr; rw [if_neg (by rw [h]; simp), if_neg (by rw [h0]; simp), if_neg (by rw [h1]; simp), if_pos h2]
theorem gua_6 (h : pairB ts.length x.frm x.to = true) (h0 : inB x.stop stops = true) (h1 : (repS fs x.frm || repS fs x.to) = false) (h2 : (meetsS (atT ts x.frm).calls (atT ts x.to).calls x.stop).2.2 = true) (h3 : pre.contains x = true) : guaErr ts fs stops pre x = 6 := by
  unfold guaErr; rw [if_neg (by rw [h]; simp), if_neg (by rw [h0]; simp), if_neg (by rw [h1]; simp), if_neg (by rw [h2]; simp), if_pos h3]
theorem gua_0 (h : pairB ts.length x.frm x.to = true) (h0 : inB x.stop stops = true) (h1 : (repS fs x.frm || repS fs x.to) = false) (h2 : (meetsS (atT ts x.frm).calls (atT ts x.to).calls x.stop).2.2 = true) (h3 : pre.contains x = false) : guaErr ts fs stops pre x = 0 := by
  unfold guaErr; rw [if_neg (by rw [h]; simp), if_neg (by rw [h0]; simp), if_neg (by rw [h1]; simp), if_neg (by rw [h2]; simp), if_neg (by rw [h3]; simp)]
end
set_option maxRecDepth 100000 in
set_option maxHeartbeats 8000000 in
theorem gcheck_c (vl vt vf : Value) (l : List GuaD) (ts : List TripD) (fs : List FreqD) (stops : Int) (r : Int × Int) (H : Hid (checkS 128 (guaErr (ts.map trpOf) fs stops) l = r)) (hok : ∀ x ∈ l, okG x) (B : Nat) (w : World) (hl : GuaIn B w vl l) (ht : TripsRd B w vt ts) (hf : FreqsIn B w vf fs) (hB : B ≤ w.heap.size) :
    Calls Try.prog 23 #[vl, vt, vf, .int .i64 stops] w fun e w' => e = .returned (.tuple #[.int .i64 r.1, .int .i64 r.2]) ∧ Bl w w' := by
  obtain ⟨gk, KG⟩ := keyFn_ex
  obtain ⟨al, capl, rfl, ll1, ll2⟩ := hl.val
  obtain ⟨at', capt, rfl, lt1, lt2⟩ := ht.sl.val
  obtain ⟨af, capf, rfl, lf1, lf2⟩ := hf.val
  have HL := Lib.hid hl
  have HT := Lib.hid ht
  have HF := Lib.hid hf
  have HOK := Lib.hid hok
  clear hl ht hf hok
  by_cases hmany : 128 < l.length
  · have HR := Lib.hid (checkS_many (err := guaErr (ts.map trpOf) fs stops) hmany)
    go_enter Try.func23, Try.ntmps23
    go_wp2
    go_ret2
    exact ⟨ret_r HR.out H.out, bl_refl _⟩
  · have hfew : l.length ≤ 128 := by omega
    have HR : Hid (chk (guaErr (ts.map trpOf) fs stops) (l.take 0) (l.drop 0) = r) := (checkS_few hfew).symm.trans H.out
    have hmm := @run_makeMap Try.prog
    have HS1 : Hid (GuSet (w.alloc (.map #[] 0)) w.heap.size 0 (fun _ => false)) := ownsSet_made w Try.prog 64 4
    have B1 : Hid (Bl w (w.alloc (.map #[] 0))) := bl_alloc (bl_refl _) _
    clear hmany
    go_enter Try.func23, Try.ntmps23
    go_wp2_with fail
    clear hmm
    go_loopw [24] (fun i wr => ∃ (k : Nat) (S : Lit → Bool), (k ≤ l.length ∧ i = .int .i64 k) ∧ Hid (GuaSet gk (l.take k) S ∧ GuSet wr w.heap.size k S) ∧ Hid (chk (guaErr (ts.map trpOf) fs stops) (l.take k) (l.drop k) = r) ∧ Bl w wr) (fun i _ => l.length - (intOf i).toNat)
    case atStart => exact ⟨0, _, ⟨Nat.zero_le _, rfl⟩, ⟨fun _ _ => rfl, HS1.out⟩, HR, B1.out⟩
    case round =>
      obtain ⟨k, S, ⟨hk, rfl⟩, HSS, HC, hbl⟩ := hrel
      have z1 := hbl.size
      by_cases hlt : k < l.length
      · obtain ⟨bl', ol, x, rfl, hbs, hx, hc⟩ := HL.out.get hlt hbl hB
        have d0 : wr.cell? ⟨bl', ol + k * 3, none⟩ = some (.int .i64 x.frm) := hc 0 _ rfl
        have d1 := hc 1 _ rfl
        have d2 := hc 2 _ rfl
        have hkI : (k : Int) < (l.length : Int) := by omega
        have HX := Lib.hid hx
        have HXI := Lib.hid (HOK.out x (List.mem_of_getElem? hx))
        clear hx hc
        obtain ⟨w2, hw2⟩ : ∃ w2, wr.alloc (.cells #[.int .i64 x.frm, .int .i64 x.to, .int .i64 x.stop] 64) = w2 := ⟨_, rfl⟩
        have b2 : Bl wr w2 := by rw [← hw2]; exact bl_alloc (bl_refl _) _
        have t0 : w2.cell? ⟨wr.heap.size, 0, none⟩ = some (.int .i64 x.frm) := by rw [← hw2, World.cell?_alloc_at (hn := rfl)]; rfl
        have t1 : w2.cell? ⟨wr.heap.size, 1, none⟩ = some (.int .i64 x.to) := by rw [← hw2, World.cell?_alloc_at (hn := rfl)]; rfl
        have t2 : w2.cell? ⟨wr.heap.size, 2, none⟩ = some (.int .i64 x.stop) := by rw [← hw2, World.cell?_alloc_at (hn := rfl)]; rfl
        have s2 : w2.heap.size = wr.heap.size + 1 := by rw [← hw2]; simp
        have B2 : Hid (Bl w w2) := bl_next hbl b2
        have BR2 := Lib.hid b2
        obtain ⟨p, hp⟩ : ∃ p, pairB ts.length x.frm x.to = p := ⟨_, rfl⟩
        obtain ⟨q, hq⟩ : ∃ q, (repS fs x.frm || repS fs x.to) = q := ⟨_, rfl⟩
        have HP := Lib.hid hp
        have HQ := Lib.hid hq
        have T0 := Lib.hid t0
        have T1 := Lib.hid t1
        have T2 := Lib.hid t2
        clear hp hq b2
        go_wp2_with fail
        clear hw2
        refine (pair_c x.frm x.to at' ts.length capt _ fs p q HP HQ B w2 (HF.out.out B2.out hB) (by omega)).mono ?_
        rintro e w3 ⟨rfl, b3⟩
        have B3 : Hid (Bl w w3) := bl_next B2.out b3
        have BR3 : Hid (Bl wr w3) := bl_next BR2.out b3
        have z3 := b3.size
        have t0' : w3.cell? ⟨wr.heap.size, 0, none⟩ = some (.int .i64 x.frm) := ((bl_cell b3).1 _ _ (by omega)).trans T0.out
        have t1' : w3.cell? ⟨wr.heap.size, 1, none⟩ = some (.int .i64 x.to) := ((bl_cell b3).1 _ _ (by omega)).trans T1.out
        have t2' : w3.cell? ⟨wr.heap.size, 2, none⟩ = some (.int .i64 x.stop) := ((bl_cell b3).1 _ _ (by omega)).trans T2.out
        clear t0 t1 t2 b3
        cases p with
        | false =>
          have HE := Lib.hid (chk_bad (err := guaErr (ts.map trpOf) fs stops) HX.out (gua_9 (by rw [List.length_map]; exact HP.out)) (by decide))
          rw [show missN false = 9 from rfl]
          go_wp2
          go_ret2
          exact ⟨ret_r HE.out HC.out, B3.out⟩
        | true =>
          have HPM : Hid (pairB (ts.map trpOf).length x.frm x.to = true) := by show _ = _; rw [List.length_map]; exact HP.out
          rw [show missN true = 0 from rfl]
          by_cases hin : inB x.stop stops = true
          · have HIN := Lib.hid hin
            have hst : 0 ≤ x.stop ∧ x.stop < stops := by unfold inB at hin; simpa using hin
            obtain ⟨hst1, hst2⟩ := hst
            have qs1 : decide (x.stop < 0) = false := decide_eq_false (by omega)
            have qs2 : decide (stops ≤ x.stop) = false := decide_eq_false (by omega)
            clear hin
            cases q with
            | true =>
              have HE := Lib.hid (chk_bad (err := guaErr (ts.map trpOf) fs stops) HX.out (gua_17 (pre := l.take k) HPM.out HIN.out HQ.out) (by decide))
              rw [show repN true true = 17 from rfl]
              go_wp2
              go_ret2
              exact ⟨ret_r HE.out HC.out, B3.out⟩
            | false =>
              rw [show repN true false = 0 from rfl]
              obtain ⟨⟨f1, f2⟩, ⟨f3, f4⟩⟩ := pairB_in HP.out
              obtain ⟨i1, hi1⟩ : ∃ i1 : Nat, x.frm = i1 := ⟨x.frm.toNat, by omega⟩
              obtain ⟨i2, hi2⟩ : ∃ i2 : Nat, x.to = i2 := ⟨x.to.toNat, by omega⟩
              have n1 : i1 < ts.length := by omega
              have n2 : i2 < ts.length := by omega
              obtain ⟨bt, ot, t, rfl, hbt, ht, htc⟩ := HT.out.sl.get n1 B3.out hB
              obtain ⟨bt', ot', u, hat, hbu, hu, huc⟩ := HT.out.sl.get n2 B3.out hB
              simp only [Option.some.injEq, Addr.mk.injEq] at hat
              obtain ⟨rfl, rfl, -⟩ := hat
              have HFT := Lib.hid (show atT (ts.map trpOf) x.frm = trpOf t from atT_of (by rw [hi1]; exact ht))
              have HFU := Lib.hid (show atT (ts.map trpOf) x.to = trpOf u from atT_of (by rw [hi2]; exact hu))
              have HTR := Lib.hid ((HT.out.ok t (List.mem_of_getElem? ht)).bl B3.out hB)
              have HUR := Lib.hid ((HT.out.ok u (List.mem_of_getElem? hu)).bl B3.out hB)
              have hi1I : (i1 : Int) < (ts.length : Int) := by omega
              have hi2I : (i2 : Int) < (ts.length : Int) := by omega
              rw [hi1] at t0'
              rw [hi2] at t1'
              have HI1 := Lib.hid hi1
              have HI2 := Lib.hid hi2
              have a4 : w3.cell? ⟨bt, ot + i1 * 5 + 4, none⟩ = some t.v := htc 4 _ rfl
              have u4 : w3.cell? ⟨bt, ot + i2 * 5 + 4, none⟩ = some u.v := huc 4 _ rfl
              have htw : wr.heap.size < w3.heap.size := by omega
              clear ht hu htc huc f1 f2 f3 f4 hi1 hi2
              have hold : ∀ w' : World, Bl w3 w' → w'.cell? ⟨wr.heap.size, 0, none⟩ = some (.int .i64 i1) ∧ w'.cell? ⟨wr.heap.size, 1, none⟩ = some (.int .i64 i2) ∧ w'.cell? ⟨wr.heap.size, 2, none⟩ = some (.int .i64 x.stop) ∧ w'.cell? ⟨bt, ot + i1 * 5 + 4, none⟩ = some t.v ∧ w'.cell? ⟨bt, ot + i2 * 5 + 4, none⟩ = some u.v := fun w' hb => ⟨((bl_cell hb).1 _ _ htw).trans t0', ((bl_cell hb).1 _ _ htw).trans t1', ((bl_cell hb).1 _ _ htw).trans t2', ((bl_cell hb).1 _ _ hbt).trans a4, ((bl_cell hb).1 _ _ hbt).trans u4⟩
              obtain ⟨m, hm⟩ : ∃ m, meetsS t.calls u.calls x.stop = m := ⟨_, rfl⟩
              obtain ⟨m1, m2, m3⟩ := m
              have HM := Lib.hid hm
              clear hm
              go_wp2_with fail
              go_region_held3 (fun w' => w'.cell? ⟨wr.heap.size, 0, none⟩ = some (.int .i64 i1) ∧ w'.cell? ⟨wr.heap.size, 1, none⟩ = some (.int .i64 i2) ∧ w'.cell? ⟨wr.heap.size, 2, none⟩ = some (.int .i64 x.stop) ∧ w'.cell? ⟨bt, ot + i1 * 5 + 4, none⟩ = some t.v ∧ w'.cell? ⟨bt, ot + i2 * 5 + 4, none⟩ = some u.v) (first | exact hold _ (bl_drew (bl_refl _)) | exact hold _ (bl_next (bl_drew (bl_refl _)) b4)) (first | (go_at_call 20; refine (meets_c t.v u.v t.calls u.calls x.stop m1 m2 m3 HM B _ (HTR.out.calls.out (bl_drew (bl_refl _)) (by omega)) (HUR.out.calls.out (bl_drew (bl_refl _)) (by omega)) (by simp; omega)).mono ?_; rintro e w4 ⟨rfl, b4⟩))
              all_goals
                have HB4 : Hid (Bl w w4) := bl_next B3.out (bl_next (bl_drew (bl_refl _)) b4)
                have HR4 : Hid (Bl wr w4) := bl_next BR3.out (bl_next (bl_drew (bl_refl _)) b4)
                obtain ⟨t0'', t1'', t2'', -⟩ := hold _ (bl_next (bl_drew (bl_refl _)) b4)
                clear hold t0' t1' t2' a4 u4 b4
                have HMM : Hid ((meetsS (atT (ts.map trpOf) x.frm).calls (atT (ts.map trpOf) x.to).calls x.stop).2.2 = m3) := by
                  show _ = _
                  rw [HFT.out, HFU.out]
                  show (meetsS t.calls u.calls x.stop).2.2 = m3
                  rw [HM.out]
                have z4 := HR4.out.size
                cases m3 with
                | false =>
                  have HE := Lib.hid (chk_bad (err := guaErr (ts.map trpOf) fs stops) HX.out (gua_19 (pre := l.take k) HPM.out HIN.out HQ.out HMM.out) (by decide))
                  go_wp2
                  go_ret2
                  exact ⟨ret_r HE.out HC.out, HB4.out⟩
                | true =>
                  have hset4 := HSS.out.2.bl HR4.out
                  have hkey := KG x HXI.out
                  have hlook := hset4.look gua_law Try.underlying62 Try.underlying4 (zero_bool w4) hkey
                  obtain ⟨w5, hput, hset5, hgr5⟩ := hset4.put gua_law Try.underlying62 Try.underlying4 (by unfold maxLen; omega) hkey
                  obtain ⟨c, hcc⟩ : ∃ c, S (gk x) = c := ⟨_, rfl⟩
                  have HCC : Hid ((l.take k).contains x = c) := (HSS.out.1 x HXI.out).symm.trans hcc
                  rw [hcc] at hlook
                  unfold gv at hlook hput
                  rw [HI1.out, HI2.out] at hlook hput
                  have HB5 : Hid (Bl w w5) := HB4.out.grown hgr5 (by have := HB4.out.size; omega) (fun k hk => by cases hk; exact Nat.le_refl _)
                  have HS5 := Lib.hid hset5
                  clear hset4 hkey hset5 hgr5 hcc
                  cases c with
                  | true =>
                    have HE := Lib.hid (chk_bad (err := guaErr (ts.map trpOf) fs stops) HX.out (gua_6 HPM.out HIN.out HQ.out HMM.out HCC.out) (by decide))
                    go_wp2
                    go_ret2
                    exact ⟨ret_r HE.out HC.out, HB4.out⟩
                  | false =>
                    have HG := Lib.hid (chk_good (err := guaErr (ts.map trpOf) fs stops) HX.out (gua_0 HPM.out HIN.out HQ.out HMM.out HCC.out))
                    go_wp2
                    go_roundw
                    case rel => exact ⟨k + 1, _, ⟨by omega, by go_num⟩, ⟨HSS.out.1.next KG HX.out HXI.out, HS5.out⟩, HG.out.symm.trans HC.out, HB5.out⟩
                    case measure => simp [intOf]; omega
          · have hin' : inB x.stop stops = false := by simpa using hin
            have HE := Lib.hid (chk_bad (err := guaErr (ts.map trpOf) fs stops) HX.out (gua_9' (pre := l.take k) HPM.out hin') (by decide))
            by_cases hneg : x.stop < 0
            · clear hin hin'
              have qs1 : decide (x.stop < 0) = true := decide_eq_true hneg
              go_wp2
              go_ret2
              exact ⟨ret_r HE.out HC.out, B3.out⟩
            · have hge : stops ≤ x.stop := by
                unfold inB at hin'
                simp at hin'
                omega
              have qs1 : decide (x.stop < 0) = false := decide_eq_false hneg
              have qs2 : decide (stops ≤ x.stop) = true := decide_eq_true hge
              clear hin hin' hneg
              go_wp2
              go_ret2
              exact ⟨ret_r HE.out HC.out, B3.out⟩
      · have HE := Lib.hid (chk_end (err := guaErr (ts.map trpOf) fs stops) (show l.length ≤ k by omega))
        go_wp2
        go_ret2
        exact ⟨ret_r HE.out HC.out, hbl⟩
end Go.Proofs.Ytjdaikeljmccaaa
