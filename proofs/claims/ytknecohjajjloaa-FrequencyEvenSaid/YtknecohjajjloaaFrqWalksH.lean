/-
  THE CONTRACTS OF FREQUENCY, EIGHTH PART: plain, exampleHolds. Conditions: those of each contract.
-/
import Derived.Test.YtknecohjajjloaaFrqWalksG
import Derived.Test.YtknecohjajjloaaFrqIter
namespace Go.Proofs.Ytknecohjajjloaa
open Go.RowKit
open Frq

/-- A slice that the call has just built reads as its list. -/
theorem slIn_new {α : Type} {cells : α → List Value} {sz : Nat} (hsz : ∀ x, (cells x).length = sz) (xs : List α) (w : World) (C : Array Value) (T : TypeId) (n cap : Nat) (hn : xs.length = n) (hc : n ≤ cap) (hcap : cap ≤ maxLen) (hC : C.toList = xs.flatMap cells) :
    SlIn cells sz (w.alloc (.cells C T)).heap.size (w.alloc (.cells C T)) (.slice (some ⟨w.heap.size, 0, none⟩) n cap) xs := by
  refine ⟨_, cap, by rw [hn], by omega, hcap, fun _ => ⟨w.heap.size, 0, rfl, by simp, fun i x hx j u hu => ?_⟩⟩
  rw [World.cell?_alloc_at (hn := rfl)]
  have := flat_get hsz hx hu
  rw [← hC, Array.getElem?_toList] at this
  rw [show 0 + i * sz + j = i * sz + j by omega]
  exact this

/-- What every law knows of a trip that it is given. -/
structure TripRd (B : Nat) (w : World) (t : TripD) : Prop where
  calls : CallsIn B w t.v t.calls
  ok : ∀ c ∈ t.calls, okT c
structure TripsRd (B : Nat) (w : World) (v : Value) (ts : List TripD) : Prop where
  sl : SlIn tripCells 5 B w v ts
  ok : ∀ t ∈ ts, TripRd B w t
theorem TripRd.bl {B : Nat} {w w' : World} {t : TripD} (h : TripRd B w t) (hb : Bl w w') (hB : B ≤ w.heap.size) : TripRd B w' t := ⟨h.calls.below (hb.mono hB), h.ok⟩
theorem TripsRd.bl {B : Nat} {w w' : World} {v : Value} {ts : List TripD} (h : TripsRd B w v ts) (hb : Bl w w') (hB : B ≤ w.heap.size) : TripsRd B w' v ts :=
  ⟨h.sl.below (hb.mono hB), fun t ht => (h.ok t ht).bl hb hB⟩
def plainB (ts : List TripD) : Bool := decide (ts.length ≤ 20) && ts.all fun t => decide (t.calls.length ≤ 40)
theorem TripsRd.into {B : Nat} {w : World} {v : Value} {ts : List TripD} (h : TripsRd B w v ts) (hp : plainB ts = true) : TripsIn B w v ts := by
  refine ⟨h.sl, fun t ht => ⟨(h.ok t ht).calls, (h.ok t ht).ok, ?_⟩⟩
  unfold plainB at hp
  rw [Bool.and_eq_true, List.all_eq_true] at hp
  have := of_decide_eq_true (hp.2 t ht)
  omega
theorem all_no {α : Type} {p : α → Bool} {l : List α} {k : Nat} {x : α} (h : l[k]? = some x) (h1 : p x = false) : l.all p = false := by
  cases k2 : l.all p with
  | false => rfl
  | true =>
    rw [List.all_eq_true] at k2
    rw [k2 x (List.mem_of_getElem? h)] at h1
    simp at h1
theorem all_take {α : Type} {p : α → Bool} {l : List α} {k : Nat} {x : α} (h : l[k]? = some x) (h1 : (l.take k).all p = true) (h2 : p x = true) : (l.take (k + 1)).all p = true := by
  rw [take_snoc_at h, List.all_append, h1]
  simp [h2]

set_option maxHeartbeats 4000000 in
theorem plain_c (v : Value) (ts : List TripD) (r : Bool) (H : Hid (plainB ts = r)) (B : Nat) (w : World) (ha : TripsRd B w v ts) (hB : B ≤ w.heap.size) :
    Calls Try.prog 9 #[v] w fun e w' => e = .returned (.bool r) ∧ Bl w w' := by
  have HT := Lib.hid ha
  by_cases h20 : 20 < ts.length
  · obtain rfl : r = false := by rw [← H.out]; unfold plainB; rw [decide_eq_false (by omega)]; rfl
    obtain ⟨b1, o1, cap1, rfl, l1, m1, hb1, -⟩ := ha.sl.open (by omega)
    have hi : (20 : Int) < (ts.length : Int) := by omega
    clear H ha
    go_enter Try.func9, Try.ntmps9
    go_wp2
    go_ret
    exact ⟨rfl, bl_refl _⟩
  have hr : Hid (ts.all (fun t => decide (t.calls.length ≤ 40)) = r) := by
    show _ = _
    rw [← H.out]
    unfold plainB
    rw [decide_eq_true (by omega), Bool.true_and]
  by_cases h0 : 0 < ts.length
  · obtain ⟨b1, o1, cap1, rfl, l1, m1, hb1, hc1⟩ := ha.sl.open h0
    have H1 := Lib.hid hc1
    have hi : (ts.length : Int) ≤ 20 := by omega
    clear ha hc1 h20 H
    go_enter Try.func9, Try.ntmps9
    go_wp2
    go_loopw [3] (fun i wr => ∃ k : Nat, k ≤ ts.length ∧ i = .int .i64 k ∧ Hid ((ts.take k).all (fun t => decide (t.calls.length ≤ 40)) = true) ∧ Bl w wr) (fun i _ => ts.length - (intOf i).toNat)
    case atStart => exact ⟨0, Nat.zero_le _, rfl, rfl, bl_refl _⟩
    case round =>
      obtain ⟨k, hk, rfl, HA, hbl⟩ := hrel
      have hzw := hbl.size
      by_cases hlt : k < ts.length
      · obtain ⟨x, hx⟩ : ∃ x, ts[k]? = some x := ⟨_, List.getElem?_eq_getElem hlt⟩
        obtain ⟨a, cap, hv, q1, q2, -⟩ := (HT.out.ok x (List.mem_of_getElem? hx)).calls
        have d4 : wr.cell? ⟨b1, o1 + k * 5 + 4, none⟩ = some (.slice a x.calls.length cap) := by rw [(bl_cell hbl).1 _ _ (by omega)]; exact H1.out k x hx 4 _ (by rw [← hv]; rfl)
        have HX := Lib.hid hx
        clear hx
        by_cases h40 : 40 < x.calls.length
        · have HR := Lib.hid (show r = false by rw [← hr.out]; exact all_no HX.out (decide_eq_false (by omega)))
          have q40 : (40 : Int) < (x.calls.length : Int) := by omega
          go_wp2
          go_ret
          exact ⟨ret_bool HR.out.symm, hbl⟩
        · have HN := Lib.hid (all_take HX.out HA.out (decide_eq_true (show x.calls.length ≤ 40 by omega)))
          have q40 : (x.calls.length : Int) ≤ 40 := by omega
          go_wp2
          go_roundw
          case rel => exact ⟨k + 1, by omega, by go_num, HN, hbl⟩
          case measure => simp [intOf]; omega
      · have HR := Lib.hid (show r = true by
          have := HA.out
          rw [List.take_of_length_le (by omega)] at this
          rw [← hr.out]; exact this)
        go_wp2
        go_ret
        exact ⟨ret_bool HR.out.symm, hbl⟩
  · obtain ⟨a1, c1, rfl, m1, rfl⟩ := ha.sl.empty (by omega)
    obtain rfl : r = true := H.out.symm
    go_enter Try.func9, Try.ntmps9
    go_wp2_with fail
    refine wp_loop_rounds 1 ?_
    rw [rounds_succ]
    go_wp2
    go_ret
    exact ⟨rfl, bl_refl _⟩

/-! ### The examples -/
abbrev exCalls : List CallD := [⟨1, 100, 160, true, false⟩, ⟨2, 400, 400, false, true⟩]
abbrev exF : FreqD := ⟨0, 21600, 25200, 1200⟩
abbrev exL : List FreqD := [⟨0, 200, 300, 50⟩, ⟨0, 299, 301, 50⟩]
set_option maxRecDepth 100000 in
set_option maxHeartbeats 8000000 in
theorem example_c (w : World) : Calls Try.prog 11 #[] w fun e w' => e = .returned (.bool true) ∧ Bl w w' := by
  have HS := Lib.hid (show starts exF = [21600, 22800, 24000] by decide +kernel)
  have HC1 := Lib.hid (show callsS exCalls 1000 = ([⟨1, 940, 1000, true, false⟩, ⟨2, 1240, 1240, false, true⟩], 0) by decide +kernel)
  have HC2 := Lib.hid (show (callsS exCalls 59).2 = 10 by decide +kernel)
  have hok : Hid (∀ c ∈ exCalls, okT c) := by
    intro c hc
    simp only [exCalls, List.mem_cons, List.not_mem_nil, or_false] at hc
    rcases hc with rfl | rfl <;> (unfold okT isInt; simp)
  go_enter Try.func11, Try.ntmps11
  go_wp2_with fail
  refine (starts_c exF w).mono ?_
  rintro e w1 ⟨v1, rfl, i1, b1⟩
  rw [HS.out] at i1
  have I1 := Lib.hid i1
  have B1 := Lib.hid b1
  clear i1 b1
  go_wp2_with fail
  obtain ⟨wa, hwa⟩ : ∃ wa, w1.alloc (.cells #[.int .i64 1, .int .i64 100, .int .i64 160, .bool true, .bool false, .int .i64 2, .int .i64 400, .int .i64 400, .bool false, .bool true] 44) = wa := ⟨_, rfl⟩
  have ia : CallsIn wa.heap.size wa (.slice (some ⟨w1.heap.size, 0, none⟩) 2 2) exCalls := by
    rw [← hwa]; exact slIn_new callCells_len exCalls w1 _ _ 2 2 rfl (by omega) (by unfold maxLen; omega) rfl
  have sa : wa.heap.size = w1.heap.size + 1 := by rw [← hwa]; simp
  have ba : Bl w1 wa := by rw [← hwa]; exact bl_alloc (bl_refl _) _
  rw [hwa]
  obtain ⟨wb, hwb⟩ : ∃ wb, wa.alloc (.cells #[.string ⟨#[]⟩, .int .i64 0, .int .i64 0, .bool false, .slice (some ⟨w1.heap.size, 0, none⟩) 2 2] 33) = wb := ⟨_, rfl⟩
  have sb : wb.heap.size = w1.heap.size + 2 := by rw [← hwb]; simp; omega
  have bb : Bl wa wb := by rw [← hwb]; exact bl_alloc (bl_refl _) _
  have kb : ∀ j u, (tripCells ⟨⟨#[]⟩, 0, 0, false, .slice (some ⟨w1.heap.size, 0, none⟩) 2 2, exCalls⟩)[j]? = some u → wb.cell? ⟨w1.heap.size + 1, j, none⟩ = some u := by
    intro j u hu
    rw [← hwb, World.cell?_alloc_at (hn := sa.symm)]
    simpa [tripCells] using hu
  rw [hwb]
  have IA := Lib.hid ia
  have BA := Lib.hid ba
  have BB := Lib.hid bb
  have KB := Lib.hid kb
  have HLEN : Hid (exCalls.length ≤ 1000) := by show _ ≤ _; decide
  clear ia ba bb kb hwa hwb
  refine (calls_c ⟨#[]⟩ 0 0 false _ exCalls 1000 (by unfold isInt; omega) wa.heap.size wb (IA.out.below BB.out) BB.out.size hok.out HLEN.out).mono ?_
  rintro e w2 ⟨⟨v2, rfl, i2⟩, b2⟩
  rw [HC1.out] at i2 ⊢
  have I2 := Lib.hid i2
  have B2 := Lib.hid b2
  have s2 := b2.size
  clear i2 b2
  have t0 : w2.cell? ⟨w1.heap.size + 1, 0, none⟩ = some (.string ⟨#[]⟩) := ((bl_cell B2.out).1 _ _ (by omega)).trans (KB.out 0 _ rfl)
  have t1 : w2.cell? ⟨w1.heap.size + 1, 1, none⟩ = some (.int .i64 0) := ((bl_cell B2.out).1 _ _ (by omega)).trans (KB.out 1 _ rfl)
  have t2 : w2.cell? ⟨w1.heap.size + 1, 2, none⟩ = some (.int .i64 0) := ((bl_cell B2.out).1 _ _ (by omega)).trans (KB.out 2 _ rfl)
  have t3 : w2.cell? ⟨w1.heap.size + 1, 3, none⟩ = some (.bool false) := ((bl_cell B2.out).1 _ _ (by omega)).trans (KB.out 3 _ rfl)
  have t4 : w2.cell? ⟨w1.heap.size + 1, 4, none⟩ = some (.slice (some ⟨w1.heap.size, 0, none⟩) 2 2) := ((bl_cell B2.out).1 _ _ (by omega)).trans (KB.out 4 _ rfl)
  go_wp2_with fail
  refine (calls_c ⟨#[]⟩ 0 0 false _ exCalls 59 (by unfold isInt; omega) wa.heap.size w2 (IA.out.below (bl_next BB.out B2.out)) (by have := BB.out.size; omega) hok.out HLEN.out).mono ?_
  rintro e w3 ⟨⟨v3, rfl, -⟩, b3⟩
  rw [HC2.out]
  have B3 := Lib.hid b3
  have s3 := b3.size
  clear b3 t0 t1 t2 t3 t4
  have kc : ∀ j u, (tripCells ⟨⟨#[]⟩, 0, 0, false, .slice (some ⟨w1.heap.size, 0, none⟩) 2 2, exCalls⟩)[j]? = some u → (w3.alloc (.cells #[.int .i64 0, .int .i64 200, .int .i64 300, .int .i64 50, .int .i64 0, .int .i64 299, .int .i64 301, .int .i64 50] 39)).cell? ⟨w1.heap.size + 1, j, none⟩ = some u := fun j u hu =>
    ((bl_cell (bl_alloc (bl_next B2.out B3.out) _)).1 _ _ (by omega)).trans (KB.out j u hu)
  have t0 : (w3.alloc (.cells #[.int .i64 0, .int .i64 200, .int .i64 300, .int .i64 50, .int .i64 0, .int .i64 299, .int .i64 301, .int .i64 50] 39)).cell? ⟨w1.heap.size + 1, 0, none⟩ = some (.string ⟨#[]⟩) := kc 0 _ rfl
  have t1 : (w3.alloc (.cells #[.int .i64 0, .int .i64 200, .int .i64 300, .int .i64 50, .int .i64 0, .int .i64 299, .int .i64 301, .int .i64 50] 39)).cell? ⟨w1.heap.size + 1, 1, none⟩ = some (.int .i64 0) := kc 1 _ rfl
  have t2 : (w3.alloc (.cells #[.int .i64 0, .int .i64 200, .int .i64 300, .int .i64 50, .int .i64 0, .int .i64 299, .int .i64 301, .int .i64 50] 39)).cell? ⟨w1.heap.size + 1, 2, none⟩ = some (.int .i64 0) := kc 2 _ rfl
  have t3 : (w3.alloc (.cells #[.int .i64 0, .int .i64 200, .int .i64 300, .int .i64 50, .int .i64 0, .int .i64 299, .int .i64 301, .int .i64 50] 39)).cell? ⟨w1.heap.size + 1, 3, none⟩ = some (.bool false) := kc 3 _ rfl
  have t4 : (w3.alloc (.cells #[.int .i64 0, .int .i64 200, .int .i64 300, .int .i64 50, .int .i64 0, .int .i64 299, .int .i64 301, .int .i64 50] 39)).cell? ⟨w1.heap.size + 1, 4, none⟩ = some (.slice (some ⟨w1.heap.size, 0, none⟩) 2 2) := kc 4 _ rfl
  clear kc
  go_wp2_with fail
  clear t0 t1 t2 t3 t4
  obtain ⟨wc, hwc⟩ : ∃ wc, w3.alloc (.cells #[.int .i64 0, .int .i64 200, .int .i64 300, .int .i64 50, .int .i64 0, .int .i64 299, .int .i64 301, .int .i64 50] 39) = wc := ⟨_, rfl⟩
  have ic : FreqsIn wc.heap.size wc (.slice (some ⟨w3.heap.size, 0, none⟩) 2 2) exL := by
    rw [← hwc]; exact slIn_new freqCells_len exL w3 _ _ 2 2 rfl (by omega) (by unfold maxLen; omega) rfl
  have bc : Bl w3 wc := by rw [← hwc]; exact bl_alloc (bl_refl _) _
  have sc : wc.heap.size = w3.heap.size + 1 := by rw [← hwc]; simp
  rw [hwc]
  obtain ⟨wd, hwd⟩ : ∃ wd, wc.alloc (.cells #[.string ⟨#[]⟩, .int .i64 0, .int .i64 0, .bool false, .slice (some ⟨w1.heap.size, 0, none⟩) 2 2] 33) = wd := ⟨_, rfl⟩
  have bd : Bl wc wd := by rw [← hwd]; exact bl_alloc (bl_refl _) _
  have id : SlIn tripCells 5 wd.heap.size wd (.slice (some ⟨w3.heap.size + 1, 0, none⟩) 1 1) [⟨⟨#[]⟩, 0, 0, false, .slice (some ⟨w1.heap.size, 0, none⟩) 2 2, exCalls⟩] := by
    rw [← hwd, ← sc]; exact slIn_new tripCells_len _ wc _ _ 1 1 rfl (by omega) (by unfold maxLen; omega) rfl
  rw [hwd]
  have HSL := Lib.hid (show (fun v : Value => checkS exL [⟨⟨#[]⟩, 0, 0, false, v, exCalls⟩]) (.slice (some ⟨w1.heap.size, 0, none⟩) 2 2) = (1, 8) by kernel_rfl)
  have Bd := Lib.hid (bl_next bc bd)
  have IT : Hid (TripsIn wd.heap.size wd (.slice (some ⟨w3.heap.size + 1, 0, none⟩) 1 1) [⟨⟨#[]⟩, 0, 0, false, .slice (some ⟨w1.heap.size, 0, none⟩) 2 2, exCalls⟩]) := ⟨id, fun t ht => by
    rw [List.mem_singleton] at ht
    rw [ht]
    exact ⟨((IA.out.below (bl_next BB.out (bl_next B2.out (bl_next B3.out Bd.out)))).mono (by have := Bd.out.size; omega)), hok.out, HLEN.out⟩⟩
  refine (check_c _ exL _ _ (1, 8) HSL wd.heap.size wd ((ic.below bd).mono bd.size) IT.out (Nat.le_refl _)).mono ?_
  rintro e w4 ⟨rfl, b4⟩
  have B4 : Hid (Bl w1 w4) := bl_next BA.out (bl_next BB.out (bl_next B2.out (bl_next B3.out (bl_next Bd.out b4))))
  have I24 : Hid (CallsIn w4.heap.size w4 v2 [⟨1, 940, 1000, true, false⟩, ⟨2, 1240, 1240, false, true⟩]) := I2.out.bl (bl_next B3.out (bl_next Bd.out b4))
  clear ic bc sc hwc hwd bd id b4
  go_wp2_with fail
  refine (sameInts_c _ _ [21600, 22800, 24000] _ _ (I1.out.bl (bl_alloc B4.out _)) (slIn_new intCells_len [21600, 22800, 24000] w4 _ _ 3 3 rfl (by omega) (by unfold maxLen; omega) rfl) (Nat.le_refl _)).mono ?_
  rintro e w5 ⟨rfl, b5⟩
  have I25 : Hid (CallsIn w5.heap.size w5 v2 [⟨1, 940, 1000, true, false⟩, ⟨2, 1240, 1240, false, true⟩]) := I24.out.bl (bl_next (bl_alloc (bl_refl _) _) b5)
  have B5 : Hid (Bl w1 w5) := bl_next B4.out (bl_next (bl_alloc (bl_refl _) _) b5)
  clear b5
  go_wp2_with fail
  refine (sameCalls_c _ _ [⟨1, 940, 1000, true, false⟩, ⟨2, 1240, 1240, false, true⟩] _ _ (I25.out.bl (bl_alloc (bl_refl _) _)) (slIn_new callCells_len [⟨1, 940, 1000, true, false⟩, ⟨2, 1240, 1240, false, true⟩] w5 _ _ 2 2 rfl (by omega) (by unfold maxLen; omega) rfl) (Nat.le_refl _)).mono ?_
  rintro e w6 ⟨rfl, b6⟩
  have B6 : Hid (Bl w1 w6) := bl_next B5.out (bl_next (bl_alloc (bl_refl _) _) b6)
  clear b6
  go_wp2_with fail
  refine (rep_b _ [⟨3, 0, 0, 0⟩] 3 true rfl _ _ (slIn_new freqCells_len [⟨3, 0, 0, 0⟩] w6 _ _ 1 1 rfl (by omega) (by unfold maxLen; omega) rfl) (Nat.le_refl _)).mono ?_
  rintro e w7 ⟨rfl, b7⟩
  go_wp2
  go_ret
  exact ⟨rfl, bl_next B1.out (bl_next B6.out (bl_next (bl_alloc (bl_refl _) _) b7))⟩
end Go.Proofs.Ytknecohjajjloaa
