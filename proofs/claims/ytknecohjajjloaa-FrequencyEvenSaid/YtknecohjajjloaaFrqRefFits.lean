/-
  THE CONTRACTS OF FREQUENCY: fits of the reference. Conditions: those of each contract.
-/
import Derived.Test.YtknecohjajjloaaFrqWalksH
namespace Go.Proofs.Ytknecohjajjloaa
open Go.RowKit
open Frq

theorem starts_sound {f : FreqD} (h : sound f) : starts f = startsN f (cnt f).toNat := by unfold starts; rw [if_pos h]
theorem startsN_at (f : FreqD) {n k : Nat} (h : k < n) : (startsN f n)[k]? = some (f.frm + k * f.every) := by simp [startsN, h]
theorem starts_first {f : FreqD} (h : sound f) : (starts f)[0]? = some f.frm := by
  have := cnt_bd f h
  rw [starts_sound h, startsN_at f (by omega)]
  simp
theorem starts_last {f : FreqD} (h : sound f) : (starts f)[(starts f).length - 1]? = some (lastS f) := by
  have := cnt_bd f h
  rw [starts_sound h, startsN_len, startsN_at f (by omega)]
  unfold lastS
  rw [show (((cnt f).toNat - 1 : Nat) : Int) = cnt f - 1 by omega]
theorem starts_pos {f : FreqD} (h : sound f) : 0 < (starts f).length := by
  have := cnt_bd f h
  rw [starts_sound h, startsN_len]; omega
theorem err_10 {cs : List CallD} {x : CallD} (h : cs[0]? = some x) (s : Int) : ((callsS cs s).2 != 10) = ((callsS cs s).2 == 0) := by
  cases cs with
  | nil => simp at h
  | cons c t =>
    unfold callsS
    simp only
    split <;> rfl
theorem fitsB_ref (cs : List CallD) (f : FreqD) : fitsB cs f = ((callsS cs f.frm).2 != 10 && (callsS cs (lastS f)).2 != 10) := by
  cases cs with
  | nil => rfl
  | cons c t =>
    rw [err_10 (x := c) rfl, err_10 (x := c) rfl]
    rfl

set_option maxRecDepth 100000 in
set_option maxHeartbeats 4000000 in
theorem rfits_b (id : ByteArray) (rt cal : Int) (step : Bool) (v : Value) (cs : List CallD) (f : FreqD) (hf : sound f) (r : Bool) (H : Hid (fitsB cs f = r)) (B : Nat) (w : World) (hcs : CallsIn B w v cs) (hB : B ≤ w.heap.size) (hok : ∀ c ∈ cs, okT c) (hlen : cs.length ≤ 1000) :
    Calls Try.prog 29 #[.agg #[.string id, .int .i64 rt, .int .i64 cal, .bool step, v], .agg #[.int .i64 f.trip, .int .i64 f.frm, .int .i64 f.to, .int .i64 f.every]] w fun e w' => e = .returned (.bool r) ∧ Bl w w' := by
  have HC := Lib.hid hcs
  have HO := Lib.hid hok
  have HF := Lib.hid hf
  obtain ⟨va, cap, rfl, -, -, -⟩ := hcs
  have HP := Lib.hid (starts_pos hf)
  have HS0 := Lib.hid (starts_first hf)
  have HSL := Lib.hid (starts_last hf)
  have HLE := Lib.hid (starts_len f)
  clear hok hf
  go_enter Try.func29, Try.ntmps29
  go_wp2_with fail
  obtain ⟨w1, hw1⟩ : ∃ w1, (w.alloc (.cells #[.string id, .int .i64 rt, .int .i64 cal, .bool step, .slice va cs.length cap] 33)).alloc (.cells #[.int .i64 f.trip, .int .i64 f.frm, .int .i64 f.to, .int .i64 f.every] 39) = w1 := ⟨_, rfl⟩
  rw [hw1]
  have b1 : Bl w w1 := by rw [← hw1]; exact bl_alloc (bl_alloc (bl_refl _) _) _
  have s1 : w1.heap.size = w.heap.size + 2 := by rw [← hw1]; simp
  have kt : ∀ j u, (tripCells ⟨id, rt, cal, step, .slice va cs.length cap, cs⟩)[j]? = some u → w1.cell? ⟨w.heap.size, j, none⟩ = some u := by
    intro j u hu
    rw [← hw1, (bl_cell (bl_alloc (bl_refl _) _)).1 _ _ (by simp), World.cell?_alloc_at (hn := rfl)]
    simpa [tripCells] using hu
  have KT := Lib.hid kt
  have B1 := Lib.hid b1
  clear kt hw1 b1
  refine (rstarts_c f w1).mono ?_
  rintro e w2 ⟨v2, rfl, i2, b2⟩
  have hs2 := b2.size
  obtain ⟨bl, ol, capl, rfl, ll, ml, hbl, hcl⟩ := i2.open HP.out
  have H1 := Lib.hid (hcl 0 _ HS0.out 0 _ rfl)
  have H2 := Lib.hid (hcl _ _ HSL.out 0 _ rfl)
  have B2 := Lib.hid (bl_next B1.out b2)
  have B12 := Lib.hid b2
  have hpos := HP.out
  have hle := HLE.out
  clear i2 hcl b2
  generalize (starts f).length = n at *
  obtain ⟨m, rfl⟩ : ∃ m, n = m + 1 := ⟨n - 1, by omega⟩
  have kc : ∀ (w' : World), Bl w2 w' → ∀ j u, (tripCells ⟨id, rt, cal, step, .slice va cs.length cap, cs⟩)[j]? = some u → w'.cell? ⟨w.heap.size, j, none⟩ = some u := fun w' hb j u hu => ((bl_cell hb).1 _ _ (by omega)).trans (((bl_cell B12.out).1 _ _ (by omega)).trans (KT.out j u hu))
  have KC := Lib.hid kc
  clear kc
  have t0 := KC.out w2 (bl_refl _) 0 _ rfl
  have t1 := KC.out w2 (bl_refl _) 1 _ rfl
  have t2 := KC.out w2 (bl_refl _) 2 _ rfl
  have t3 := KC.out w2 (bl_refl _) 3 _ rfl
  have t4 := KC.out w2 (bl_refl _) 4 _ rfl
  have c0 : w2.cell? ⟨bl, ol, none⟩ = some (.int .i64 f.frm) := by have := H1.out; simpa using this
  have i0 : (0 : Int) < ((m + 1 : Nat) : Int) := by omega
  have hold : ∀ w' : World, Bl w2 w' → w'.cell? ⟨w.heap.size, 0, none⟩ = some (.string id) ∧ w'.cell? ⟨w.heap.size, 1, none⟩ = some (.int .i64 rt) ∧ w'.cell? ⟨w.heap.size, 2, none⟩ = some (.int .i64 cal) ∧ w'.cell? ⟨w.heap.size, 3, none⟩ = some (.bool step) ∧ w'.cell? ⟨w.heap.size, 4, none⟩ = some (.slice va cs.length cap) ∧ w'.cell? ⟨bl, ol, none⟩ = some (.int .i64 f.frm) := fun w' hb => ⟨((bl_cell hb).1 _ _ (by omega)).trans t0, ((bl_cell hb).1 _ _ (by omega)).trans t1, ((bl_cell hb).1 _ _ (by omega)).trans t2, ((bl_cell hb).1 _ _ (by omega)).trans t3, ((bl_cell hb).1 _ _ (by omega)).trans t4, ((bl_cell hb).1 _ _ (by omega)).trans c0⟩
  have HI1 : Hid (isInt f.frm) := by obtain ⟨h1, h2, h3, h4, h5⟩ := HF.out; constructor <;> omega
  have HI2 : Hid (isInt (lastS f)) := by
    obtain ⟨l0, l1, l2⟩ := last_bd f HF.out
    obtain ⟨h1, h2, h3, h4, h5⟩ := HF.out
    unfold lastS at *; constructor <;> omega
  go_wp2_with fail
  go_region_held3 (fun w' => w'.cell? ⟨w.heap.size, 0, none⟩ = some (.string id) ∧ w'.cell? ⟨w.heap.size, 1, none⟩ = some (.int .i64 rt) ∧ w'.cell? ⟨w.heap.size, 2, none⟩ = some (.int .i64 cal) ∧ w'.cell? ⟨w.heap.size, 3, none⟩ = some (.bool step) ∧ w'.cell? ⟨w.heap.size, 4, none⟩ = some (.slice va cs.length cap) ∧ w'.cell? ⟨bl, ol, none⟩ = some (.int .i64 f.frm)) (first | exact hold _ (bl_drew (bl_refl _)) | exact hold _ (bl_next (bl_drew (bl_refl _)) b3)) (first | (go_at_call 15; refine (rcalls_c id rt cal step _ cs f.frm B _ (HC.out.below ((bl_next B2.out (bl_drew (bl_refl _))).mono hB)) (by simp; omega) HO.out hlen).mono ?_; rintro e w3 ⟨⟨v3, rfl, -⟩, b3⟩))
  have B3 : Hid (Bl w2 w3) := bl_next (bl_drew (bl_refl _)) b3
  have s3 := B3.out.size
  clear hold t0 t1 t2 t3 t4 c0 b3
  have t0 := KC.out w3 B3.out 0 _ rfl
  have t1 := KC.out w3 B3.out 1 _ rfl
  have t2 := KC.out w3 B3.out 2 _ rfl
  have t3 := KC.out w3 B3.out 3 _ rfl
  have t4 := KC.out w3 B3.out 4 _ rfl
  have c0 : w3.cell? ⟨bl, ol + m, none⟩ = some (.int .i64 (lastS f)) := by rw [(bl_cell B3.out).1 _ _ hbl]; have := H2.out; simpa using this
  have wl : IntKind.i64.wrap (((m + 1 : Nat) : Int) - 1) = (m : Int) := by rw [IntWalk.i64_in _ (by omega)]; omega
  have wl0 : IntKind.i64.wrap (m : Int) = (m : Int) := IntWalk.i64_in _ (by omega)
  have wl1 : IntKind.i64.wrap ((m : Int) + 1 - 1) = (m : Int) := by rw [IntWalk.i64_in _ (by omega)]; omega
  have i1 : (m : Int) < (m : Int) + 1 := by omega
  have i3 : (0 : Int) ≤ (m : Int) := by omega
  have hold : ∀ w' : World, Bl w3 w' → w'.cell? ⟨w.heap.size, 0, none⟩ = some (.string id) ∧ w'.cell? ⟨w.heap.size, 1, none⟩ = some (.int .i64 rt) ∧ w'.cell? ⟨w.heap.size, 2, none⟩ = some (.int .i64 cal) ∧ w'.cell? ⟨w.heap.size, 3, none⟩ = some (.bool step) ∧ w'.cell? ⟨w.heap.size, 4, none⟩ = some (.slice va cs.length cap) ∧ w'.cell? ⟨bl, ol + m, none⟩ = some (.int .i64 (lastS f)) := fun w' hb => ⟨((bl_cell hb).1 _ _ (by omega)).trans t0, ((bl_cell hb).1 _ _ (by omega)).trans t1, ((bl_cell hb).1 _ _ (by omega)).trans t2, ((bl_cell hb).1 _ _ (by omega)).trans t3, ((bl_cell hb).1 _ _ (by omega)).trans t4, ((bl_cell hb).1 _ _ (by omega)).trans c0⟩
  go_wp2_with fail
  go_region_held3 (fun w' => w'.cell? ⟨w.heap.size, 0, none⟩ = some (.string id) ∧ w'.cell? ⟨w.heap.size, 1, none⟩ = some (.int .i64 rt) ∧ w'.cell? ⟨w.heap.size, 2, none⟩ = some (.int .i64 cal) ∧ w'.cell? ⟨w.heap.size, 3, none⟩ = some (.bool step) ∧ w'.cell? ⟨w.heap.size, 4, none⟩ = some (.slice va cs.length cap) ∧ w'.cell? ⟨bl, ol + m, none⟩ = some (.int .i64 (lastS f))) (first | exact hold _ (bl_drew (bl_refl _)) | exact hold _ (bl_next (bl_drew (bl_refl _)) b4)) (first | (go_at_call 15; refine (rcalls_c id rt cal step _ cs (lastS f) B _ (HC.out.below ((bl_next B2.out (bl_next B3.out (bl_drew (bl_refl _)))).mono hB)) (by simp; omega) HO.out hlen).mono ?_; rintro e w4 ⟨⟨v4, rfl, -⟩, b4⟩))
  have BF : Hid (Bl w w4) := bl_next (bl_next B2.out B3.out) (bl_next (bl_drew (bl_refl _)) b4)
  have HR : Hid (((callsS cs f.frm).2 != 10 && (callsS cs (lastS f)).2 != 10) = r) := by
    have := H.out
    rw [fitsB_ref] at this
    exact this
  obtain ⟨e1, he1⟩ : ∃ e1, (callsS cs f.frm).2 = e1 := ⟨_, rfl⟩
  obtain ⟨e2, he2⟩ : ∃ e2, (callsS cs (lastS f)).2 = e2 := ⟨_, rfl⟩
  rw [he1, he2] at HR
  rw [he1, he2]
  clear he1 he2 hold t0 t1 t2 t3 t4 c0
  rcases Bool.eq_false_or_eq_true (e1 != 10) with q1 | q1
  · rcases Bool.eq_false_or_eq_true (e2 != 10) with q2 | q2
    all_goals
      have HB : Hid (r = _) := HR.out.symm.trans (by rw [q1, q2])
      go_wp2
      go_ret
      exact ⟨ret_bool (by rw [HB.out]; rfl), BF.out⟩
  · have HB : Hid (r = _) := HR.out.symm.trans (by rw [q1])
    go_wp2
    go_ret
    exact ⟨ret_bool (by rw [HB.out]; rfl), BF.out⟩
end Go.Proofs.Ytknecohjajjloaa
