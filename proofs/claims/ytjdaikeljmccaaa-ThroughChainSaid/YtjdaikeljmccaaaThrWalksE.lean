/-
  THE CONTRACTS OF THROUGH SERVICES, FIFTH PART: Check. Conditions: those of the contract.
-/
import Derived.Test.YtjdaikeljmccaaaThrWalksD
namespace Go.Proofs.Ytjdaikeljmccaaa
open Go.RowKit
open Frq Thr

def okX (x : ThrD) : Prop := isInt x.frm ∧ isInt x.to
theorem ret_r {a b : Int} {r r' : Int × Int} (h : r' = (a, b)) (h' : r' = r) : Ending.returned (.tuple #[.int .i64 a, .int .i64 b]) = .returned (.tuple #[.int .i64 r.1, .int .i64 r.2]) := by rw [← h', h]
theorem any_or {α : Type} (p q : α → Bool) (l : List α) : (l.any fun y => p y || q y) = (l.any p || l.any q) := by
  induction l with
  | nil => rfl
  | cons y l ih =>
    rw [List.any_cons, List.any_cons, List.any_cons, ih]
    cases p y <;> cases q y <;> simp
theorem any_snoc {α : Type} (p : α → Bool) {l : List α} {k : Nat} {x : α} (h : l[k]? = some x) : (l.take (k + 1)).any p = ((l.take k).any p || p x) := by
  rw [take_snoc_at h, List.any_append]
  simp
/-- The two sets of Check. -/
def FrmSet (l : List ThrD) (S : Lit → Bool) : Prop := ∀ x : Int, S (.int .i64 x) = l.any fun y => y.frm == x
def ToSet (l : List ThrD) (S : Lit → Bool) : Prop := ∀ x : Int, S (.int .i64 x) = l.any fun y => y.to == x
theorem setPut_int (S : Lit → Bool) (a x : Int) : setPut S (.int .i64 a) (.int .i64 x) = (S (.int .i64 x) || (a == x)) := by
  by_cases h : x = a
  · rw [h, setPut_at _ (by trivial)]; simp
  · rw [setPut_ne (by simpa using h), show (a == x) = false by rw [beq_eq_false_iff_ne]; exact fun e => h e.symm, Bool.or_false]
theorem FrmSet.next {l : List ThrD} {S : Lit → Bool} {k : Nat} {x : ThrD} (h : FrmSet (l.take k) S) (hx : l[k]? = some x) : FrmSet (l.take (k + 1)) (setPut S (.int .i64 x.frm)) := fun y => by
  rw [setPut_int, h y, any_snoc _ hx]
theorem ToSet.next {l : List ThrD} {S : Lit → Bool} {k : Nat} {x : ThrD} (h : ToSet (l.take k) S) (hx : l[k]? = some x) : ToSet (l.take (k + 1)) (setPut S (.int .i64 x.to)) := fun y => by
  rw [setPut_int, h y, any_snoc _ hx]
section
variable {ts : List TrpD} {fs : List FreqD} {pre : List ThrD} {x : ThrD}
theorem thr_9 (h : pairB ts.length x.frm x.to = false) : thrErr ts fs pre x = 9 := by unfold thrErr; rw [if_pos h]
theorem thr_17 (h : pairB ts.length x.frm x.to = true) (h1 : (repS fs x.frm || repS fs x.to) = true) : thrErr ts fs pre x = 17 := by unfold thrErr; rw [if_neg (by rw [h]; simp), if_pos h1]
theorem thr_f (h : pairB ts.length x.frm x.to = true) (h1 : (repS fs x.frm || repS fs x.to) = false) (h2 : followS (atT ts x.frm) (atT ts x.to) ≠ 0) : thrErr ts fs pre x = followS (atT ts x.frm) (atT ts x.to) := by unfold thrErr; rw [if_neg (by rw [h]; simp), if_neg (by rw [h1]; simp), if_pos h2]
theorem thr_6 (h : pairB ts.length x.frm x.to = true) (h1 : (repS fs x.frm || repS fs x.to) = false) (h2 : followS (atT ts x.frm) (atT ts x.to) = 0) (h3 : (pre.any fun y => y.frm == x.frm || y.to == x.to) = true) : thrErr ts fs pre x = 6 := by
  unfold thrErr; rw [if_neg (by rw [h]; simp), if_neg (by rw [h1]; simp), if_neg (by rw [h2]; simp), if_pos h3]
theorem thr_19 (h : pairB ts.length x.frm x.to = true) (h1 : (repS fs x.frm || repS fs x.to) = false) (h2 : followS (atT ts x.frm) (atT ts x.to) = 0) (h3 : (pre.any fun y => y.frm == x.frm || y.to == x.to) = false) (h4 : (chainS pre x.to).contains x.frm = true) : thrErr ts fs pre x = 19 := by
  unfold thrErr; rw [if_neg (by rw [h]; simp), if_neg (by rw [h1]; simp), if_neg (by rw [h2]; simp), if_neg (by rw [h3]; simp), if_pos h4]
theorem thr_0 (h : pairB ts.length x.frm x.to = true) (h1 : (repS fs x.frm || repS fs x.to) = false) (h2 : followS (atT ts x.frm) (atT ts x.to) = 0) (h3 : (pre.any fun y => y.frm == x.frm || y.to == x.to) = false) (h4 : (chainS pre x.to).contains x.frm = false) : thrErr ts fs pre x = 0 := by
  unfold thrErr; rw [if_neg (by rw [h]; simp), if_neg (by rw [h1]; simp), if_neg (by rw [h2]; simp), if_neg (by rw [h3]; simp), if_neg (by rw [h4]; simp)]
end
theorem checkS_many {α : Type} {most : Nat} {err : List α → α → Int} {l : List α} (h : most < l.length) : checkS most err l = (0, 5) := by unfold checkS; rw [if_pos h]
theorem checkS_few {α : Type} {most : Nat} {err : List α → α → Int} {l : List α} (h : l.length ≤ most) : checkS most err l = chk err (l.take 0) (l.drop 0) := by unfold checkS; rw [if_neg (by omega)]; rfl
set_option maxRecDepth 100000 in
set_option maxHeartbeats 8000000 in
theorem check_c (vl vt vf : Value) (l : List ThrD) (ts : List TripD) (fs : List FreqD) (r : Int × Int) (H : Hid (checkS 128 (thrErr (ts.map trpOf) fs) l = r)) (hok : ∀ x ∈ l, okX x) (B : Nat) (w : World) (hl : ThrIn B w vl l) (ht : TripsRd B w vt ts) (hf : FreqsIn B w vf fs) (hB : B ≤ w.heap.size) :
    Calls Try.prog 13 #[vl, vt, vf] w fun e w' => e = .returned (.tuple #[.int .i64 r.1, .int .i64 r.2]) ∧ Bl w w' := by
  obtain ⟨al, capl, rfl, ll1, ll2⟩ := hl.val
  obtain ⟨at', capt, rfl, lt1, lt2⟩ := ht.sl.val
  obtain ⟨af, capf, rfl, lf1, lf2⟩ := hf.val
  have HL := Lib.hid hl
  have HT := Lib.hid ht
  have HF := Lib.hid hf
  have HOK := Lib.hid hok
  clear hl ht hf hok
  by_cases hmany : 128 < l.length
  · have HR := Lib.hid (checkS_many (err := thrErr (ts.map trpOf) fs) hmany)
    go_enter Try.func13, Try.ntmps13
    go_wp2
    go_ret2
    exact ⟨ret_r HR.out H.out, bl_refl _⟩
  · have hfew : l.length ≤ 128 := by omega
    have HR : Hid (chk (thrErr (ts.map trpOf) fs) (l.take 0) (l.drop 0) = r) := (checkS_few hfew).symm.trans H.out
    have hmm := @run_makeMap Try.prog
    obtain ⟨w1, hw1⟩ : ∃ w1, (w.alloc (.map #[] 0)).alloc (.map #[] 0) = w1 := ⟨_, rfl⟩
    have hs1 : IntSet w1 w.heap.size 0 (fun _ => false) := by rw [← hw1]; exact (ownsSet_made w Try.prog 3 4).kept (Below.heap_alloc _ _ _ (by simp))
    have hs2 : IntSet w1 (w.heap.size + 1) 0 (fun _ => false) := by
      rw [← hw1]
      have := ownsSet_made (w.alloc (.map #[] 0)) Try.prog 3 4
      rw [show (w.alloc (.map #[] 0)).heap.size = w.heap.size + 1 by simp] at this
      exact this
    have b1 : Bl w w1 := by rw [← hw1]; exact bl_alloc (bl_alloc (bl_refl _) _) _
    have HS1 := Lib.hid hs1
    have HS2 := Lib.hid hs2
    have B1 := Lib.hid b1
    clear hmany hs1 hs2 b1
    go_enter Try.func13, Try.ntmps13
    go_wp2_with fail
    clear hw1 hmm
    go_loopw [22] (fun i wr => ∃ (k : Nat) (S1 S2 : Lit → Bool), (k ≤ l.length ∧ i = .int .i64 k) ∧ Hid (FrmSet (l.take k) S1 ∧ ToSet (l.take k) S2 ∧ IntSet wr w.heap.size k S1 ∧ IntSet wr (w.heap.size + 1) k S2) ∧ Hid (chk (thrErr (ts.map trpOf) fs) (l.take k) (l.drop k) = r) ∧ Bl w wr) (fun i _ => l.length - (intOf i).toNat)
    case atStart => exact ⟨0, _, _, ⟨Nat.zero_le _, rfl⟩, ⟨fun _ => rfl, fun _ => rfl, HS1.out, HS2.out⟩, HR, B1.out⟩
    case round =>
      obtain ⟨k, S1, S2, ⟨hk, rfl⟩, HSS, HC, hbl⟩ := hrel
      have z1 := hbl.size
      by_cases hlt : k < l.length
      · obtain ⟨bl', ol, x, rfl, hbs, hx, hc⟩ := HL.out.get hlt hbl hB
        have d0 : wr.cell? ⟨bl', ol + k * 2, none⟩ = some (.int .i64 x.frm) := hc 0 _ rfl
        have d1 := hc 1 _ rfl
        have hkI : (k : Int) < (l.length : Int) := by omega
        have HX := Lib.hid hx
        have HXI := Lib.hid (HOK.out x (List.mem_of_getElem? hx))
        clear hx hc
        obtain ⟨w2, hw2⟩ : ∃ w2, wr.alloc (.cells #[.int .i64 x.frm, .int .i64 x.to] 54) = w2 := ⟨_, rfl⟩
        have b2 : Bl wr w2 := by rw [← hw2]; exact bl_alloc (bl_refl _) _
        have t0 : w2.cell? ⟨wr.heap.size, 0, none⟩ = some (.int .i64 x.frm) := by rw [← hw2, World.cell?_alloc_at (hn := rfl)]; rfl
        have t1 : w2.cell? ⟨wr.heap.size, 1, none⟩ = some (.int .i64 x.to) := by rw [← hw2, World.cell?_alloc_at (hn := rfl)]; rfl
        have s2 : w2.heap.size = wr.heap.size + 1 := by rw [← hw2]; simp
        have B2 : Hid (Bl w w2) := bl_next hbl b2
        have BR2 := Lib.hid b2
        obtain ⟨p, hp⟩ : ∃ p, pairB ts.length x.frm x.to = p := ⟨_, rfl⟩
        obtain ⟨q, hq⟩ : ∃ q, (repS fs x.frm || repS fs x.to) = q := ⟨_, rfl⟩
        have HP := Lib.hid hp
        have HQ := Lib.hid hq
        have T0 := Lib.hid t0
        have T1 := Lib.hid t1
        clear hp hq b2
        go_wp2_with fail
        clear hw2
        refine (pair_c x.frm x.to at' ts.length capt _ fs p q HP HQ B w2 (HF.out.out B2.out hB) (by omega)).mono ?_
        rintro e w3 ⟨rfl, b3⟩
        have B3 : Hid (Bl w w3) := bl_next B2.out b3
        have BR3 : Hid (Bl wr w3) := bl_next BR2.out b3
        have z3 := b3.size
        have t0' : w3.cell? ⟨wr.heap.size, 0, none⟩ = some (.int .i64 x.frm) := ((bl_cell b3).1 _ _ (by omega)).trans T0.out
        have t1' : w3.cell? ⟨wr.heap.size, 1, none⟩ = some (.int .i64 x.to) := ((bl_cell b3).1 _ _ (by omega)).trans T1.out
        clear t0 t1 b3
        cases p with
        | false =>
          have HE := Lib.hid (chk_bad (err := thrErr (ts.map trpOf) fs) HX.out (thr_9 (by rw [List.length_map]; exact HP.out)) (by decide))
          rw [show missN false = 9 from rfl]
          go_wp2
          go_ret2
          exact ⟨ret_r HE.out HC.out, B3.out⟩
        | true =>
          have HPM : Hid (pairB (ts.map trpOf).length x.frm x.to = true) := by show _ = _; rw [List.length_map]; exact HP.out
          cases q with
          | true =>
            have HE := Lib.hid (chk_bad (err := thrErr (ts.map trpOf) fs) HX.out (thr_17 (pre := l.take k) HPM.out HQ.out) (by decide))
            rw [show missN true = 0 from rfl, show repN true true = 17 from rfl]
            go_wp2
            go_ret2
            exact ⟨ret_r HE.out HC.out, B3.out⟩
          | false =>
            rw [show missN true = 0 from rfl, show repN true false = 0 from rfl]
            obtain ⟨⟨f1, f2⟩, ⟨f3, f4⟩⟩ := pairB_in HP.out
            obtain ⟨i1, hi1⟩ : ∃ i1 : Nat, x.frm = i1 := ⟨x.frm.toNat, by omega⟩
            obtain ⟨i2, hi2⟩ : ∃ i2 : Nat, x.to = i2 := ⟨x.to.toNat, by omega⟩
            have n1 : i1 < ts.length := by omega
            have n2 : i2 < ts.length := by omega
            obtain ⟨bt, ot, t, rfl, hbt, ht, htc⟩ := HT.out.sl.get n1 B3.out hB
            obtain ⟨bt', ot', u, hat, hbu, hu, huc⟩ := HT.out.sl.get n2 B3.out hB
            simp only [Option.some.injEq, Addr.mk.injEq] at hat
            obtain ⟨rfl, rfl, -⟩ := hat
            have HFT := Lib.hid (show atT (ts.map trpOf) x.frm = trpOf t from atT_of (by rw [hi1]; exact ht))
            have HFU := Lib.hid (show atT (ts.map trpOf) x.to = trpOf u from atT_of (by rw [hi2]; exact hu))
            have HTR := Lib.hid ((HT.out.ok t (List.mem_of_getElem? ht)).bl B3.out hB)
            have HUR := Lib.hid ((HT.out.ok u (List.mem_of_getElem? hu)).bl B3.out hB)
            have hi1I : (i1 : Int) < (ts.length : Int) := by omega
            have hi2I : (i2 : Int) < (ts.length : Int) := by omega
            rw [hi1] at t0'
            rw [hi2] at t1'
            have HI1 := Lib.hid hi1
            have HI2 := Lib.hid hi2
            obtain ⟨vt, hvt⟩ : ∃ vt, t.v = vt := ⟨_, rfl⟩
            obtain ⟨vu, hvu⟩ : ∃ vu, u.v = vu := ⟨_, rfl⟩
            have a0 : w3.cell? ⟨bt, ot + i1 * 5, none⟩ = some (.string t.id) := htc 0 _ rfl
            have a1 := htc 1 _ rfl
            have a2 := htc 2 _ rfl
            have a3 := htc 3 _ rfl
            have a4 := htc 4 _ rfl
            have u0 : w3.cell? ⟨bt, ot + i2 * 5, none⟩ = some (.string u.id) := huc 0 _ rfl
            have u1 := huc 1 _ rfl
            have u2 := huc 2 _ rfl
            have u3 := huc 3 _ rfl
            have u4 := huc 4 _ rfl
            have htw : wr.heap.size < w3.heap.size := by omega
            clear ht hu htc huc f1 f2 f3 f4 hi1 hi2 hvt hvu
            have hold : ∀ w' : World, Bl w3 w' → w'.cell? ⟨wr.heap.size, 0, none⟩ = some (.int .i64 i1) ∧ w'.cell? ⟨wr.heap.size, 1, none⟩ = some (.int .i64 i2) ∧ w'.cell? ⟨bt, ot + i1 * 5, none⟩ = some (.string t.id) ∧ w'.cell? ⟨bt, ot + i1 * 5 + 1, none⟩ = some (.int .i64 t.rt) ∧ w'.cell? ⟨bt, ot + i1 * 5 + 2, none⟩ = some (.int .i64 t.cal) ∧ w'.cell? ⟨bt, ot + i1 * 5 + 3, none⟩ = some (.bool t.step) ∧ w'.cell? ⟨bt, ot + i1 * 5 + 4, none⟩ = some t.v ∧ w'.cell? ⟨bt, ot + i2 * 5, none⟩ = some (.string u.id) ∧ w'.cell? ⟨bt, ot + i2 * 5 + 1, none⟩ = some (.int .i64 u.rt) ∧ w'.cell? ⟨bt, ot + i2 * 5 + 2, none⟩ = some (.int .i64 u.cal) ∧ w'.cell? ⟨bt, ot + i2 * 5 + 3, none⟩ = some (.bool u.step) ∧ w'.cell? ⟨bt, ot + i2 * 5 + 4, none⟩ = some u.v := fun w' hb => ⟨((bl_cell hb).1 _ _ htw).trans t0', ((bl_cell hb).1 _ _ htw).trans t1', ((bl_cell hb).1 _ _ hbt).trans a0, ((bl_cell hb).1 _ _ hbt).trans a1, ((bl_cell hb).1 _ _ hbt).trans a2, ((bl_cell hb).1 _ _ hbt).trans a3, ((bl_cell hb).1 _ _ hbt).trans a4, ((bl_cell hb).1 _ _ hbt).trans u0, ((bl_cell hb).1 _ _ hbt).trans u1, ((bl_cell hb).1 _ _ hbt).trans u2, ((bl_cell hb).1 _ _ hbt).trans u3, ((bl_cell hb).1 _ _ hbt).trans u4⟩
            obtain ⟨rf, hrf⟩ : ∃ rf, followS (trpOf t) (trpOf u) = rf := ⟨_, rfl⟩
            have HRF := Lib.hid hrf
            clear hrf
            go_wp2_with fail
            go_region_held3 (fun w' => w'.cell? ⟨wr.heap.size, 0, none⟩ = some (.int .i64 i1) ∧ w'.cell? ⟨wr.heap.size, 1, none⟩ = some (.int .i64 i2) ∧ w'.cell? ⟨bt, ot + i1 * 5, none⟩ = some (.string t.id) ∧ w'.cell? ⟨bt, ot + i1 * 5 + 1, none⟩ = some (.int .i64 t.rt) ∧ w'.cell? ⟨bt, ot + i1 * 5 + 2, none⟩ = some (.int .i64 t.cal) ∧ w'.cell? ⟨bt, ot + i1 * 5 + 3, none⟩ = some (.bool t.step) ∧ w'.cell? ⟨bt, ot + i1 * 5 + 4, none⟩ = some t.v ∧ w'.cell? ⟨bt, ot + i2 * 5, none⟩ = some (.string u.id) ∧ w'.cell? ⟨bt, ot + i2 * 5 + 1, none⟩ = some (.int .i64 u.rt) ∧ w'.cell? ⟨bt, ot + i2 * 5 + 2, none⟩ = some (.int .i64 u.cal) ∧ w'.cell? ⟨bt, ot + i2 * 5 + 3, none⟩ = some (.bool u.step) ∧ w'.cell? ⟨bt, ot + i2 * 5 + 4, none⟩ = some u.v) (first | exact hold _ (bl_drew (bl_refl _)) | exact hold _ (bl_next (bl_drew (bl_refl _)) b4)) (first | (go_at_call 26; refine (follows_c t u rf HRF B _ (HTR.out.calls.out (bl_drew (bl_refl _)) (by omega)) (HUR.out.calls.out (bl_drew (bl_refl _)) (by omega)) (by simp; omega)).mono ?_; rintro e w4 ⟨rfl, b4⟩))
            all_goals
              have HB4 : Hid (Bl w w4) := bl_next B3.out (bl_next (bl_drew (bl_refl _)) b4)
              have HR4 : Hid (Bl wr w4) := bl_next BR3.out (bl_next (bl_drew (bl_refl _)) b4)
              obtain ⟨t0'', t1'', -⟩ := hold _ (bl_next (bl_drew (bl_refl _)) b4)
              have z34 : w3.heap.size ≤ w4.heap.size := (bl_next (bl_drew (bl_refl _)) b4).size
              clear hold t0' t1' a0 a1 a2 a3 a4 u0 u1 u2 u3 u4 b4
              have HFL : Hid (followS (atT (ts.map trpOf) x.frm) (atT (ts.map trpOf) x.to) = rf) := by show _ = _; rw [HFT.out, HFU.out]; exact HRF.out
              have z4 := HR4.out.size
              by_cases hrf : rf = 0
              · subst hrf
                obtain ⟨e1, he1⟩ : ∃ e1, S1 (.int .i64 i1) = e1 := ⟨_, rfl⟩
                obtain ⟨e2, he2⟩ : ∃ e2, S2 (.int .i64 i2) = e2 := ⟨_, rfl⟩
                have hk1 : isInt (i1 : Int) := by rw [← HI1.out]; exact HXI.out.1
                have hk2 : isInt (i2 : Int) := by rw [← HI2.out]; exact HXI.out.2
                have hlook1 := ((HSS.out.2.2.1.bl HR4.out).look int_law Try.underlying55 Try.underlying4 (zero_bool w4) (key_int hk1))
                have hlook2 := ((HSS.out.2.2.2.bl HR4.out).look int_law Try.underlying55 Try.underlying4 (zero_bool w4) (key_int hk2))
                rw [he1] at hlook1
                rw [he2] at hlook2
                have HD : Hid (((l.take k).any fun y => y.frm == x.frm || y.to == x.to) = (e1 || e2)) := by
                  show _ = _
                  rw [any_or, ← he1, ← he2, ← HI1.out, ← HI2.out, HSS.out.1, HSS.out.2.1]
                have HK1 := Lib.hid hk1
                have HK2 := Lib.hid hk2
                clear he1 he2 hk1 hk2
                cases e1 with
                | true =>
                  have HE := Lib.hid (chk_bad (err := thrErr (ts.map trpOf) fs) HX.out (thr_6 HPM.out HQ.out HFL.out HD.out) (by decide))
                  go_wp2
                  go_ret2
                  exact ⟨ret_r HE.out HC.out, HB4.out⟩
                | false =>
                  cases e2 with
                  | true =>
                    have HE := Lib.hid (chk_bad (err := thrErr (ts.map trpOf) fs) HX.out (thr_6 HPM.out HQ.out HFL.out HD.out) (by decide))
                    go_wp2
                    go_ret2
                    exact ⟨ret_r HE.out HC.out, HB4.out⟩
                  | false =>
                    obtain ⟨e3, he3⟩ : ∃ e3, (chainS (l.take k) i2).contains (i1 : Int) = e3 := ⟨_, rfl⟩
                    have HE3 := Lib.hid he3
                    have htw4 : wr.heap.size < w4.heap.size := by omega
                    have hold : ∀ w' : World, Bl w4 w' → w'.cell? ⟨wr.heap.size, 0, none⟩ = some (.int .i64 i1) ∧ w'.cell? ⟨wr.heap.size, 1, none⟩ = some (.int .i64 i2) := fun w' hb => ⟨((bl_cell hb).1 _ _ htw4).trans t0'', ((bl_cell hb).1 _ _ htw4).trans t1''⟩
                    have hkc : (k : Int) ≤ (capl : Int) := by omega
                    clear he3
                    go_wp2_with fail
                    clear hlook1 hlook2
                    go_region_held3 (fun w' => w'.cell? ⟨wr.heap.size, 0, none⟩ = some (.int .i64 i1) ∧ w'.cell? ⟨wr.heap.size, 1, none⟩ = some (.int .i64 i2)) (first | exact hold _ (bl_drew (bl_refl _)) | exact hold _ (bl_next (bl_drew (bl_refl _)) b5)) (first | (go_at_call 27; refine (leads_c _ (l.take k) i2 i1 e3 HE3 HK2.out (fun y hy => (HOK.out y (List.mem_of_mem_take hy)).2) (by rw [List.length_take]; omega) B _ ((HL.out.take (k := k) (by omega)).out (bl_next HB4.out (bl_drew (bl_refl _))) hB) (by simp; omega)).mono ?_; rintro e w5 ⟨rfl, b5⟩))
                    all_goals
                      have HB5 : Hid (Bl w w5) := bl_next HB4.out (bl_next (bl_drew (bl_refl _)) b5)
                      have HR5 : Hid (Bl wr w5) := bl_next HR4.out (bl_next (bl_drew (bl_refl _)) b5)
                      obtain ⟨y0, y1⟩ := hold _ (bl_next (bl_drew (bl_refl _)) b5)
                      have z5 := HR5.out.size
                      have z45 : w4.heap.size ≤ w5.heap.size := (bl_next (bl_drew (bl_refl _)) b5).size
                      clear hold t0'' t1'' b5
                      cases e3 with
                      | true =>
                        have HE := Lib.hid (chk_bad (err := thrErr (ts.map trpOf) fs) HX.out (thr_19 HPM.out HQ.out HFL.out HD.out (by rw [HI1.out, HI2.out]; exact HE3.out)) (by decide))
                        go_wp2
                        go_ret2
                        exact ⟨ret_r HE.out HC.out, HB5.out⟩
                      | false =>
                        have HG := Lib.hid (chk_good (err := thrErr (ts.map trpOf) fs) HX.out (thr_0 HPM.out HQ.out HFL.out HD.out (by rw [HI1.out, HI2.out]; exact HE3.out)))
                        have hs1 := HSS.out.2.2.1.bl (bl_drew HR5.out)
                        have hs2 := HSS.out.2.2.2.bl (bl_drew HR5.out)
                        obtain ⟨wa, ha1, ha2, ha3⟩ := hs1.put int_law Try.underlying55 Try.underlying4 (by unfold maxLen; omega) (key_int HK1.out)
                        obtain ⟨wb, hb1, hb2, hb3⟩ := hs2.put int_law Try.underlying55 Try.underlying4 (by unfold maxLen; omega) (key_int HK2.out)
                        have hs2a := hs2.grown ha3 (by simp)
                        have hs1b := hs1.grown hb3 (by simp)
                        obtain ⟨wab, hab1, hab2, hab3⟩ := hs2a.put int_law Try.underlying55 Try.underlying4 (by unfold maxLen; omega) (key_int HK2.out)
                        obtain ⟨wba, hba1, hba2, hba3⟩ := hs1b.put int_law Try.underlying55 Try.underlying4 (by unfold maxLen; omega) (key_int HK1.out)
                        have htw5 : wr.heap.size < w5.heap.size := by omega
                        have zmap := HSS.out.2.2.2.lt
                        have ga : ∀ j v, w5.cell? ⟨wr.heap.size, j, none⟩ = some v → wa.cell? ⟨wr.heap.size, j, none⟩ = some v := fun j v h => ha3.cell (by exact h) (by simp; omega)
                        have gb : ∀ j v, w5.cell? ⟨wr.heap.size, j, none⟩ = some v → wb.cell? ⟨wr.heap.size, j, none⟩ = some v := fun j v h => hb3.cell (by exact h) (by simp; omega)
                        have ya0 := ga _ _ y0
                        have ya1 := ga _ _ y1
                        have yb0 := gb _ _ y0
                        have yb1 := gb _ _ y1
                        have HAB := Lib.hid (And.intro (hab2) (ha2.grown hab3 (by simp)))
                        have HBA := Lib.hid (And.intro (hba2) (hb2.grown hba3 (by simp)))
                        have HBAB : Hid (Bl w wab) := ((bl_drew HB5.out).grown ha3 (by simp; omega) (fun k hk => by cases hk; omega)).grown hab3 (by have := ha3.size; simp at this; omega) (fun k hk => by cases hk; omega)
                        have HBBA : Hid (Bl w wba) := ((bl_drew HB5.out).grown hb3 (by simp; omega) (fun k hk => by cases hk; omega)).grown hba3 (by have := hb3.size; simp at this; omega) (fun k hk => by cases hk; omega)
                        clear hs1 hs2 ha2 ha3 hb2 hb3 hs2a hs1b hab2 hab3 hba2 hba3 ga gb
                        go_wp2_with fail
                        go_region
                        all_goals
                          go_wp2
                          go_roundw
                          case rel =>
                            have hF := HSS.out.1.next HX.out
                            have hT := HSS.out.2.1.next HX.out
                            rw [HI1.out] at hF
                            rw [HI2.out] at hT
                            first
                            | exact ⟨k + 1, _, _, ⟨by omega, by go_num⟩, ⟨hF, hT, HAB.out.2, HAB.out.1⟩, HG.out.symm.trans HC.out, HBAB.out⟩
                            | exact ⟨k + 1, _, _, ⟨by omega, by go_num⟩, ⟨hF, hT, HBA.out.1, HBA.out.2⟩, HG.out.symm.trans HC.out, HBBA.out⟩
                          case measure => simp [intOf]; omega
              · have q : (rf != 0) = true := by simpa using hrf
                have HE := Lib.hid (chk_bad (err := thrErr (ts.map trpOf) fs) HX.out ((thr_f HPM.out HQ.out (by rw [HFL.out]; exact hrf)).trans HFL.out) hrf)
                clear hrf
                go_wp2
                go_ret2
                exact ⟨ret_r HE.out HC.out, HB4.out⟩
      · have HE := Lib.hid (chk_end (err := thrErr (ts.map trpOf) fs) (show l.length ≤ k by omega))
        go_wp2
        go_ret2
        exact ⟨ret_r HE.out HC.out, hbl⟩
end Go.Proofs.Ytjdaikeljmccaaa
