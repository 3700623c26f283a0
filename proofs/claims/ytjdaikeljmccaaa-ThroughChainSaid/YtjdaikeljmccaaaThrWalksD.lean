/-
  THE CONTRACTS OF THROUGH SERVICES, FOURTH PART: pair, follows. Conditions: those of each contract.
-/
import Derived.Test.YtjdaikeljmccaaaThrWalksB
import Derived.Test.YtjdaikeljmccaaaThrWalksC
import Derived.BigRegion
namespace Go.Proofs.Ytjdaikeljmccaaa
open Go.RowKit
open Frq Thr

theorem exists_c (i : Int) (a : Option Addr) (n cap b : Nat) (r : Bool) (H : Hid (inB i n = r)) (w : World) (hc : w.cell? ⟨b, 0, none⟩ = some (.slice a n cap)) :
    Calls Try.prog 32 #[.int .i64 i, .pointer (some ⟨b, 0, none⟩)] w fun e w' => e = .returned (.bool r) ∧ w = w' := by
  by_cases h0 : 0 ≤ i
  · by_cases h1 : i < n
    · obtain rfl : r = true := by rw [← H.out]; unfold inB; simp [h0, h1]
      clear H
      go_enter Try.func32, Try.ntmps32
      go_wp2
      go_ret
      exact ⟨rfl, rfl⟩
    · obtain rfl : r = false := by rw [← H.out]; unfold inB; simp [h1]
      clear H
      have h1' : decide (i < (n : Int)) = false := by rw [decide_eq_false_iff_not]; exact h1
      clear h1
      go_enter Try.func32, Try.ntmps32
      go_wp2
      go_ret
      exact ⟨rfl, rfl⟩
  · obtain rfl : r = false := by rw [← H.out]; unfold inB; simp [h0]
    clear H
    have h0' : i < 0 := by omega
    clear h0
    go_enter Try.func32, Try.ntmps32
    go_wp2
    go_ret
    exact ⟨rfl, rfl⟩
def missN (p : Bool) : Int := if p then 0 else 9
def repN (p q : Bool) : Int := if p && q then 17 else 0
theorem ret_ie {a b c d : Int} (h : a = c) (h' : b = d) : Ending.returned (.tuple #[.int .i64 a, .int .i64 b]) = .returned (.tuple #[.int .i64 c, .int .i64 d]) := by rw [h, h']
set_option maxHeartbeats 4000000 in
theorem pair_c (frm tt : Int) (a : Option Addr) (n cap : Nat) (vf : Value) (fs : List FreqD) (p q : Bool) (H1 : Hid (pairB n frm tt = p)) (H2 : Hid ((repS fs frm || repS fs tt) = q)) (B : Nat) (w : World) (hf : FreqsIn B w vf fs) (hB : B ≤ w.heap.size) :
    Calls Try.prog 25 #[.int .i64 frm, .int .i64 tt, .slice a n cap, vf] w fun e w' => e = .returned (.tuple #[.int .i64 (missN p), .int .i64 (repN p q)]) ∧ Bl w w' := by
  have HF := Lib.hid hf
  obtain ⟨w1, hw1⟩ : ∃ w1, w.alloc (.cells #[.slice a n cap] 24) = w1 := ⟨_, rfl⟩
  have c0 : w1.cell? ⟨w.heap.size, 0, none⟩ = some (.slice a n cap) := by rw [← hw1, World.cell?_alloc_at (hn := rfl)]; rfl
  have b1 : Bl w w1 := by rw [← hw1]; exact bl_alloc (bl_refl _) _
  have z1 := b1.size
  have B1 := Lib.hid b1
  obtain ⟨e1, he1⟩ : ∃ e1, inB frm n = e1 := ⟨_, rfl⟩
  obtain ⟨e2, he2⟩ : ∃ e2, inB tt n = e2 := ⟨_, rfl⟩
  have HP : Hid (p = (e1 && (e2 && !(frm == tt)))) := by rw [← he1, ← he2]; exact H1.out.symm
  have E1 := Lib.hid he1
  have E2 := Lib.hid he2
  have C0 := Lib.hid c0
  clear hf b1 he1 he2 H1 c0
  go_enter Try.func25, Try.ntmps25
  go_wp2_with fail
  clear hw1
  refine (exists_c frm a n cap _ e1 E1 w1 C0.out).mono ?_
  rintro e w2 ⟨rfl, rfl⟩
  cases e1 with
  | false =>
    have HN := Lib.hid (show p = false by rw [HP.out]; rfl)
    go_wp2
    go_ret2
    exact ⟨ret_ie (by rw [HN.out]; rfl) (by rw [HN.out]; rfl), B1.out⟩
  | true =>
    go_wp2_with fail
    refine (exists_c tt a n cap _ e2 E2 w1 C0.out).mono ?_
    rintro e w2 ⟨rfl, rfl⟩
    cases e2 with
    | false =>
      have HN := Lib.hid (show p = false by rw [HP.out]; rfl)
      go_wp2
      go_ret2
      exact ⟨ret_ie (by rw [HN.out]; rfl) (by rw [HN.out]; rfl), B1.out⟩
    | true =>
      by_cases he : frm = tt
      · have HN := Lib.hid (show p = false by rw [HP.out, he]; simp)
        have qe : (frm == tt) = true := by rw [beq_iff_eq]; exact he
        clear he
        go_wp2
        go_ret2
        exact ⟨ret_ie (by rw [HN.out]; rfl) (by rw [HN.out]; rfl), B1.out⟩
      · have qe : (frm == tt) = false := by rw [beq_eq_false_iff_ne]; exact he
        have HN := Lib.hid (show p = true by rw [HP.out, qe]; rfl)
        clear he
        obtain ⟨r1, hr1⟩ : ∃ r1, repS fs frm = r1 := ⟨_, rfl⟩
        obtain ⟨r2, hr2⟩ : ∃ r2, repS fs tt = r2 := ⟨_, rfl⟩
        have HQ : Hid (q = (r1 || r2)) := by rw [← hr1, ← hr2]; exact H2.out.symm
        have R1 := Lib.hid hr1
        have R2 := Lib.hid hr2
        clear hr1 hr2 H2 HP
        go_wp2_with fail
        refine (rep_b vf fs frm r1 R1 B w1 (HF.out.out B1.out hB) (by omega)).mono ?_
        rintro e w3 ⟨rfl, b3⟩
        have B3 : Hid (Bl w w3) := bl_next B1.out b3
        have z3 := b3.size
        clear b3
        cases r1 with
        | true =>
          have HR := Lib.hid (show q = true by rw [HQ.out]; rfl)
          go_wp2
          go_ret2
          exact ⟨ret_ie (by rw [HN.out]; rfl) (by rw [HN.out, HR.out]; rfl), B3.out⟩
        | false =>
          go_wp2_with fail
          refine (rep_b vf fs tt r2 R2 B w3 (HF.out.out B3.out hB) (by omega)).mono ?_
          rintro e w4 ⟨rfl, b4⟩
          have B4 : Hid (Bl w w4) := bl_next B3.out b4
          have HR := Lib.hid (show q = r2 by rw [HQ.out]; rfl)
          clear b4
          cases r2 with
          | true =>
            go_wp2
            go_ret2
            exact ⟨ret_ie (by rw [HN.out]; rfl) (by rw [HN.out, HR.out]; rfl), B4.out⟩
          | false =>
            go_wp2
            go_ret2
            exact ⟨ret_ie (by rw [HN.out]; rfl) (by rw [HN.out, HR.out]; rfl), B4.out⟩

/-! ### follows -/
theorem follow_cal {a b : TrpD} (h : a.cal ≠ b.cal) : followS a b = 15 := by unfold followS; rw [if_pos h]
theorem follow_e1 {a b : TrpD} (h : a.cal = b.cal) (h1 : a.calls = []) : followS a b = 13 := by unfold followS; rw [if_neg (by omega), h1]; rfl
theorem follow_e2 {a b : TrpD} (h : a.cal = b.cal) (h1 : b.calls = []) : followS a b = 13 := by unfold followS; rw [if_neg (by omega), h1]; cases a.calls.getLast? <;> rfl
theorem follow_xy {a b : TrpD} {x y : CallD} {n : Nat} (h : a.cal = b.cal) (hn : a.calls.length = n + 1) (h1 : a.calls[n]? = some x) (h2 : b.calls[0]? = some y) : followS a b = if x.stop ≠ y.stop then 13 else if y.depart < x.arrive then 10 else 0 := by
  unfold followS
  have e1 : a.calls.getLast? = some x := by rw [List.getLast?_eq_getElem?, hn]; exact h1
  have e2 : b.calls.head? = some y := by rw [List.head?_eq_getElem?]; exact h2
  rw [if_neg (by omega), e1, e2]
set_option maxRecDepth 100000 in
set_option maxHeartbeats 8000000 in
theorem follows_c (t u : TripD) (r : Int) (H : Hid (followS (trpOf t) (trpOf u) = r)) (B : Nat) (w : World) (ht : CallsIn B w t.v t.calls) (hu : CallsIn B w u.v u.calls) (hB : B ≤ w.heap.size) :
    Calls Try.prog 26 #[.agg #[.string t.id, .int .i64 t.rt, .int .i64 t.cal, .bool t.step, t.v], .agg #[.string u.id, .int .i64 u.rt, .int .i64 u.cal, .bool u.step, u.v]] w fun e w' => e = .returned (.int .i64 r) ∧ Bl w w' := by
  obtain ⟨ti, tr, tc, ts, tv, tl⟩ := t
  obtain ⟨ui, ur, uc, us, uv, ul⟩ := u
  simp only [trpOf] at H ht hu ⊢
  have HT := Lib.hid ht
  have HU := Lib.hid hu
  obtain ⟨at', ct, rfl, lt1, lt2⟩ := ht.val
  obtain ⟨au, cu, rfl, lu1, lu2⟩ := hu.val
  clear ht hu
  obtain ⟨w1, hw1⟩ : ∃ w1, (w.alloc (.cells #[.string ti, .int .i64 tr, .int .i64 tc, .bool ts, .slice at' tl.length ct] 47)).alloc (.cells #[.string ui, .int .i64 ur, .int .i64 uc, .bool us, .slice au ul.length cu] 47) = w1 := ⟨_, rfl⟩
  have b1 : Bl w w1 := by rw [← hw1]; exact bl_alloc (bl_alloc (bl_refl _) _) _
  have s1 : w1.heap.size = w.heap.size + 2 := by rw [← hw1]; simp
  have k0 : ∀ (j : Nat) (x : Value), (#[.string ti, .int .i64 tr, .int .i64 tc, .bool ts, .slice at' tl.length ct] : Array Value)[j]? = some x → w1.cell? ⟨w.heap.size, j, none⟩ = some x := by
    intro j x hx
    rw [← hw1, (bl_cell (bl_alloc (bl_refl _) _)).1 _ _ (by simp), World.cell?_alloc_at (hn := rfl)]
    exact hx
  have k1 : ∀ (j : Nat) (x : Value), (#[.string ui, .int .i64 ur, .int .i64 uc, .bool us, .slice au ul.length cu] : Array Value)[j]? = some x → w1.cell? ⟨w.heap.size + 1, j, none⟩ = some x := by
    intro j x hx
    rw [← hw1, World.cell?_alloc_at (hn := by simp)]
    exact hx
  have c02 := k0 2 _ rfl
  have c04 := k0 4 _ rfl
  have c12 := k1 2 _ rfl
  have c14 := k1 4 _ rfl
  have B1 := Lib.hid b1
  clear k0 k1 b1
  by_cases hcal : tc = uc
  · have qc : (tc != uc) = false := by rw [hcal]; simp
    by_cases hte : tl = []
    · have HR := Lib.hid (follow_e1 (a := ⟨tc, tl⟩) (b := ⟨uc, ul⟩) hcal hte)
      have q1 : ((tl.length : Int) == 0) = true := by rw [hte]; rfl
      clear hcal hte
      go_enter Try.func26, Try.ntmps26
      go_wp2
      go_ret
      exact ⟨ret_int (by rw [← H.out]; exact HR.out.symm), B1.out⟩
    · by_cases hue : ul = []
      · have HR := Lib.hid (follow_e2 (a := ⟨tc, tl⟩) (b := ⟨uc, ul⟩) hcal hue)
        have q2 : ((ul.length : Int) == 0) = true := by rw [hue]; rfl
        have hpt : 0 < tl.length := List.length_pos_iff.2 hte
        have q1 : ((tl.length : Int) == 0) = false := by rw [beq_eq_false_iff_ne]; omega
        clear hcal hte hue
        go_enter Try.func26, Try.ntmps26
        go_wp2
        go_ret
        exact ⟨ret_int (by rw [← H.out]; exact HR.out.symm), B1.out⟩
      · have hpt : 0 < tl.length := List.length_pos_iff.2 hte
        have hpu : 0 < ul.length := List.length_pos_iff.2 hue
        obtain ⟨n, hn⟩ : ∃ n, tl.length = n + 1 := ⟨tl.length - 1, by omega⟩
        obtain ⟨bt, ot, x, rfl, hbt, hx, hct⟩ := HT.out.get (k := n) (by omega) B1.out hB
        obtain ⟨bu, ou, y, rfl, hbu, hy, hcu⟩ := HU.out.get (k := 0) hpu B1.out hB
        have HR := Lib.hid (follow_xy (a := ⟨tc, tl⟩) (b := ⟨uc, ul⟩) hcal hn hx hy)
        have d0 : w1.cell? ⟨bt, ot + n * 5, none⟩ = some (.int .i64 x.stop) := hct 0 _ rfl
        have d1 := hct 1 _ rfl
        have d2 := hct 2 _ rfl
        have d3 := hct 3 _ rfl
        have d4 := hct 4 _ rfl
        have hcu' : ∀ j z, (callCells y)[j]? = some z → w1.cell? ⟨bu, ou + j, none⟩ = some z := fun j z hz => by have := hcu j z hz; rwa [Nat.zero_mul, Nat.add_zero] at this
        have e0 : w1.cell? ⟨bu, ou, none⟩ = some (.int .i64 y.stop) := hcu' 0 _ rfl
        have e1 := hcu' 1 _ rfl
        have e2 := hcu' 2 _ rfl
        have e3 := hcu' 3 _ rfl
        have e4 := hcu' 4 _ rfl
        have q1 : ((tl.length : Int) == 0) = false := by rw [beq_eq_false_iff_ne]; omega
        have q2 : ((ul.length : Int) == 0) = false := by rw [beq_eq_false_iff_ne]; omega
        have i1 : IntKind.i64.wrap ((tl.length : Int) - 1) = (n : Int) := by rw [IntWalk.i64_in _ (by omega)]; omega
        have i2 : (n : Int) < (tl.length : Int) := by omega
        clear hcal hte hue hn hx hy hct hcu hcu'
        go_enter Try.func26, Try.ntmps26
        go_wp2_with fail
        have hw0 : w.heap.size + 1 < w1.heap.size := by omega
        have hold : ∀ w' : World, Bl w1 w' → w'.cell? ⟨w.heap.size, 4, none⟩ = some (.slice (some ⟨bt, ot, none⟩) tl.length ct) ∧ w'.cell? ⟨w.heap.size + 1, 4, none⟩ = some (.slice (some ⟨bu, ou, none⟩) ul.length cu) ∧ w'.cell? ⟨bt, ot + n * 5, none⟩ = some (.int .i64 x.stop) ∧ w'.cell? ⟨bt, ot + n * 5 + 1, none⟩ = some (.int .i64 x.arrive) ∧ w'.cell? ⟨bt, ot + n * 5 + 2, none⟩ = some (.int .i64 x.depart) ∧ w'.cell? ⟨bt, ot + n * 5 + 3, none⟩ = some (.bool x.board) ∧ w'.cell? ⟨bt, ot + n * 5 + 4, none⟩ = some (.bool x.alight) ∧ w'.cell? ⟨bu, ou, none⟩ = some (.int .i64 y.stop) ∧ w'.cell? ⟨bu, ou + 1, none⟩ = some (.int .i64 y.arrive) ∧ w'.cell? ⟨bu, ou + 2, none⟩ = some (.int .i64 y.depart) ∧ w'.cell? ⟨bu, ou + 3, none⟩ = some (.bool y.board) ∧ w'.cell? ⟨bu, ou + 4, none⟩ = some (.bool y.alight) := fun w' hb => ⟨((bl_cell hb).1 _ _ (by omega)).trans c04, ((bl_cell hb).1 _ _ hw0).trans c14, ((bl_cell hb).1 _ _ hbt).trans d0, ((bl_cell hb).1 _ _ hbt).trans d1, ((bl_cell hb).1 _ _ hbt).trans d2, ((bl_cell hb).1 _ _ hbt).trans d3, ((bl_cell hb).1 _ _ hbt).trans d4, ((bl_cell hb).1 _ _ hbu).trans e0, ((bl_cell hb).1 _ _ hbu).trans e1, ((bl_cell hb).1 _ _ hbu).trans e2, ((bl_cell hb).1 _ _ hbu).trans e3, ((bl_cell hb).1 _ _ hbu).trans e4⟩
        clear hw1
        go_region_held3 (fun w' => w'.cell? ⟨w.heap.size, 4, none⟩ = some (.slice (some ⟨bt, ot, none⟩) tl.length ct) ∧ w'.cell? ⟨w.heap.size + 1, 4, none⟩ = some (.slice (some ⟨bu, ou, none⟩) ul.length cu) ∧ w'.cell? ⟨bt, ot + n * 5, none⟩ = some (.int .i64 x.stop) ∧ w'.cell? ⟨bt, ot + n * 5 + 1, none⟩ = some (.int .i64 x.arrive) ∧ w'.cell? ⟨bt, ot + n * 5 + 2, none⟩ = some (.int .i64 x.depart) ∧ w'.cell? ⟨bt, ot + n * 5 + 3, none⟩ = some (.bool x.board) ∧ w'.cell? ⟨bt, ot + n * 5 + 4, none⟩ = some (.bool x.alight) ∧ w'.cell? ⟨bu, ou, none⟩ = some (.int .i64 y.stop) ∧ w'.cell? ⟨bu, ou + 1, none⟩ = some (.int .i64 y.arrive) ∧ w'.cell? ⟨bu, ou + 2, none⟩ = some (.int .i64 y.depart) ∧ w'.cell? ⟨bu, ou + 3, none⟩ = some (.bool y.board) ∧ w'.cell? ⟨bu, ou + 4, none⟩ = some (.bool y.alight)) ((refine hold _ ?_; repeat (first | exact bl_refl _ | refine bl_drew ?_ | refine bl_alloc ?_ _ | refine bl_set ?_ (by simp) _))) (fail)
        all_goals
          clear hold c02 c04 c12 c14 d0 d1 d2 d3 d4 e0 e1 e2 e3 e4
          by_cases hs : x.stop = y.stop
          · have q3 : (x.stop != y.stop) = false := by rw [hs]; simp
            by_cases ht : y.depart < x.arrive
            · have q4 : decide (y.depart < x.arrive) = true := decide_eq_true ht
              have HR' := Lib.hid (HR.out.trans (by rw [if_neg (by simpa using hs), if_pos ht]))
              clear hs ht
              go_wp2
              go_ret
              exact ⟨ret_int (by rw [← H.out]; exact HR'.out.symm), by repeat (first | exact B1.out | refine bl_drew ?_ | refine bl_alloc ?_ _ | refine bl_set ?_ (by simp) _)⟩
            · have q4 : decide (y.depart < x.arrive) = false := decide_eq_false ht
              have HR' := Lib.hid (HR.out.trans (by rw [if_neg (by simpa using hs), if_neg ht]))
              clear hs ht
              go_wp2
              go_ret
              exact ⟨ret_int (by rw [← H.out]; exact HR'.out.symm), by repeat (first | exact B1.out | refine bl_drew ?_ | refine bl_alloc ?_ _ | refine bl_set ?_ (by simp) _)⟩
          · have q3 : (x.stop != y.stop) = true := by simpa using hs
            have HR' := Lib.hid (HR.out.trans (by rw [if_pos hs]))
            clear hs
            go_wp2
            go_ret
            exact ⟨ret_int (by rw [← H.out]; exact HR'.out.symm), by repeat (first | exact B1.out | refine bl_drew ?_ | refine bl_alloc ?_ _ | refine bl_set ?_ (by simp) _)⟩
  · have qc : (tc != uc) = true := by simpa using hcal
    have HR := Lib.hid (follow_cal (a := ⟨tc, tl⟩) (b := ⟨uc, ul⟩) hcal)
    clear hcal
    go_enter Try.func26, Try.ntmps26
    go_wp2
    go_ret
    exact ⟨ret_int (by rw [← H.out]; exact HR.out.symm), B1.out⟩
end Go.Proofs.Ytjdaikeljmccaaa
