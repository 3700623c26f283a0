/-
  THE CONTRACTS OF FREQUENCY, SIXTH PART: fits. Conditions: those of each contract.
-/
import Derived.Test.YtknecohjajjloaaFrqWalksE
namespace Go.Proofs.Ytknecohjajjloaa
open Go.RowKit
open Frq

/-- A trip: its cells, and the list that its calls read as. -/
structure TripD where
  id : ByteArray
  rt : Int
  cal : Int
  step : Bool
  v : Value
  calls : List CallD
def tripCells (t : TripD) : List Value := [.string t.id, .int .i64 t.rt, .int .i64 t.cal, .bool t.step, t.v]
theorem tripCells_len (t : TripD) : (tripCells t).length = 5 := rfl
/-- The trip can be looked at by the walks. -/
structure TripOk (B : Nat) (w : World) (t : TripD) : Prop where
  calls : CallsIn B w t.v t.calls
  ok : ∀ c ∈ t.calls, okT c
  len : t.calls.length ≤ 1000
theorem TripOk.bl {B : Nat} {w w' : World} {t : TripD} (h : TripOk B w t) (hb : Bl w w') (hB : B ≤ w.heap.size) : TripOk B w' t := ⟨h.calls.below (hb.mono hB), h.ok, h.len⟩

def fitsB (cs : List CallD) (f : FreqD) : Bool := cs.isEmpty || ((callsS cs f.frm).2 == 0 && (callsS cs (lastS f)).2 == 0)
theorem callsS_err (cs : List CallD) (s : Int) : (callsS cs s).2 = 0 ∨ (callsS cs s).2 = 10 ∨ (callsS cs s).2 = 16 := by
  unfold callsS
  cases cs with
  | nil => exact .inr (.inr rfl)
  | cons c t =>
    simp only
    split
    · exact .inl rfl
    · exact .inr (.inl rfl)

set_option maxRecDepth 100000 in
set_option maxHeartbeats 4000000 in
theorem fits_b (id : ByteArray) (rt cal : Int) (step : Bool) (v : Value) (cs : List CallD) (f : FreqD) (hf : sound f) (r : Bool) (H : Hid (fitsB cs f = r)) (B : Nat) (w : World) (hcs : CallsIn B w v cs) (hB : B ≤ w.heap.size) (hok : ∀ c ∈ cs, okT c) (hlen : cs.length ≤ 1000) :
    Calls Try.prog 27 #[.agg #[.string id, .int .i64 rt, .int .i64 cal, .bool step, v], .agg #[.int .i64 f.trip, .int .i64 f.frm, .int .i64 f.to, .int .i64 f.every]] w fun e w' => e = .returned (.bool r) ∧ Bl w w' := by
  have HC := Lib.hid hcs
  have HO := Lib.hid hok
  have HF := Lib.hid hf
  clear hok
  by_cases hlen0 : 0 < cs.length
  · obtain ⟨b, o, cap, rfl, hl1, hl2, hbB, -⟩ := hcs.open hlen0
    clear hcs
    have q0 : ((cs.length : Int) == 0) = false := by rw [beq_eq_false_iff_ne]; omega
    obtain ⟨l0, l1, l2⟩ := last_bd f hf
    have HI1 : Hid (isInt f.frm) := by obtain ⟨h1, h2, h3, h4, h5⟩ := hf; constructor <;> omega
    have HI2 : Hid (isInt (lastS f)) := by obtain ⟨h1, h2, h3, h4, h5⟩ := hf; unfold lastS at *; constructor <;> omega
    clear l0 l1 l2 hf
    go_enter Try.func27, Try.ntmps27
    go_wp2_with fail
    obtain ⟨w1, hw1⟩ : ∃ w1, (w.alloc (.cells #[.string id, .int .i64 rt, .int .i64 cal, .bool step, .slice (some ⟨b, o, none⟩) cs.length cap] 33)).alloc (.cells #[.int .i64 f.trip, .int .i64 f.frm, .int .i64 f.to, .int .i64 f.every] 39) = w1 := ⟨_, rfl⟩
    rw [hw1]
    have b1 : Bl w w1 := by rw [← hw1]; exact bl_alloc (bl_alloc (bl_refl _) _) _
    have s1 : w1.heap.size = w.heap.size + 2 := by rw [← hw1]; simp
    have kt : ∀ j u, (tripCells ⟨id, rt, cal, step, .slice (some ⟨b, o, none⟩) cs.length cap, cs⟩)[j]? = some u → w1.cell? ⟨w.heap.size, j, none⟩ = some u := by
      intro j u hu
      rw [← hw1, (bl_cell (bl_alloc (bl_refl _) _)).1 _ _ (by simp), World.cell?_alloc_at (hn := rfl)]
      simpa [tripCells] using hu
    have kf : ∀ j u, (freqCells f)[j]? = some u → w1.cell? ⟨w.heap.size + 1, j, none⟩ = some u := by
      intro j u hu
      rw [← hw1, World.cell?_alloc_at (hn := by simp)]
      simpa [freqCells] using hu
    have KT := Lib.hid kt
    have KF := Lib.hid kf
    clear kt kf hw1
    refine (calls_c id rt cal step _ cs f.frm HI1.out B w1 (HC.out.below (b1.mono hB)) (by omega) HO.out hlen).mono ?_
    rintro e w2 ⟨⟨v1, rfl, -⟩, b2⟩
    have hs2 := b2.size
    have kt2 : ∀ j u, (tripCells ⟨id, rt, cal, step, .slice (some ⟨b, o, none⟩) cs.length cap, cs⟩)[j]? = some u → w2.cell? ⟨w.heap.size, j, none⟩ = some u := fun j u hu => ((bl_cell b2).1 _ _ (by omega)).trans (KT.out j u hu)
    have kf2 : ∀ j u, (freqCells f)[j]? = some u → w2.cell? ⟨w.heap.size + 1, j, none⟩ = some u := fun j u hu => ((bl_cell b2).1 _ _ (by omega)).trans (KF.out j u hu)
    have t0 := kt2 0 _ rfl
    have t1 := kt2 1 _ rfl
    have t2 := kt2 2 _ rfl
    have t3 := kt2 3 _ rfl
    have t4 := kt2 4 _ rfl
    have f0 := kf2 0 _ rfl
    have f1 := kf2 1 _ rfl
    have f2 := kf2 2 _ rfl
    have f3 := kf2 3 _ rfl
    have HC2 : Hid (CallsIn B w2 (.slice (some ⟨b, o, none⟩) cs.length cap) cs) := HC.out.below ((bl_next b1 b2).mono hB)
    have B2 := Lib.hid (bl_next b1 b2)
    have KT2 := Lib.hid kt2
    clear kt2 kf2 b1 b2
    have hold : ∀ w' : World, Bl w2 w' → Bl w2 w' ∧ CallsIn B w' (.slice (some ⟨b, o, none⟩) cs.length cap) cs ∧ w'.cell? ⟨w.heap.size, 0, none⟩ = some (.string id) ∧ w'.cell? ⟨w.heap.size, 1, none⟩ = some (.int .i64 rt) ∧ w'.cell? ⟨w.heap.size, 2, none⟩ = some (.int .i64 cal) ∧ w'.cell? ⟨w.heap.size, 3, none⟩ = some (.bool step) ∧ w'.cell? ⟨w.heap.size, 4, none⟩ = some (.slice (some ⟨b, o, none⟩) cs.length cap) ∧ w'.cell? ⟨w.heap.size + 1, 0, none⟩ = some (.int .i64 f.trip) ∧ w'.cell? ⟨w.heap.size + 1, 1, none⟩ = some (.int .i64 f.frm) ∧ w'.cell? ⟨w.heap.size + 1, 2, none⟩ = some (.int .i64 f.to) ∧ w'.cell? ⟨w.heap.size + 1, 3, none⟩ = some (.int .i64 f.every) := fun w' hb => ⟨hb, HC2.out.below (hb.mono (by omega)), ((bl_cell hb).1 _ _ (by omega)).trans t0, ((bl_cell hb).1 _ _ (by omega)).trans t1, ((bl_cell hb).1 _ _ (by omega)).trans t2, ((bl_cell hb).1 _ _ (by omega)).trans t3, ((bl_cell hb).1 _ _ (by omega)).trans t4, ((bl_cell hb).1 _ _ (by omega)).trans f0, ((bl_cell hb).1 _ _ (by omega)).trans f1, ((bl_cell hb).1 _ _ (by omega)).trans f2, ((bl_cell hb).1 _ _ (by omega)).trans f3⟩
    go_wp2_with fail
    go_region_held3 (fun w' => Bl w2 w' ∧ CallsIn B w' (.slice (some ⟨b, o, none⟩) cs.length cap) cs ∧ w'.cell? ⟨w.heap.size, 0, none⟩ = some (.string id) ∧ w'.cell? ⟨w.heap.size, 1, none⟩ = some (.int .i64 rt) ∧ w'.cell? ⟨w.heap.size, 2, none⟩ = some (.int .i64 cal) ∧ w'.cell? ⟨w.heap.size, 3, none⟩ = some (.bool step) ∧ w'.cell? ⟨w.heap.size, 4, none⟩ = some (.slice (some ⟨b, o, none⟩) cs.length cap) ∧ w'.cell? ⟨w.heap.size + 1, 0, none⟩ = some (.int .i64 f.trip) ∧ w'.cell? ⟨w.heap.size + 1, 1, none⟩ = some (.int .i64 f.frm) ∧ w'.cell? ⟨w.heap.size + 1, 2, none⟩ = some (.int .i64 f.to) ∧ w'.cell? ⟨w.heap.size + 1, 3, none⟩ = some (.int .i64 f.every)) (first | exact hold _ (bl_drew (bl_refl _)) | exact hold _ (bl_next (bl_drew (bl_refl _)) b3) | exact hold _ (bl_next (bl_next (bl_drew (bl_refl _)) b3) b4)) (first | (go_at_call 34; refine (last_c f HF _).mono ?_; rintro e w3 ⟨rfl, b3⟩) | (go_at_call 14; refine (calls_c id rt cal step _ cs (lastS f) HI2.out B _ (HC2.out.below ((bl_next (bl_drew (bl_refl _)) b3).mono (by omega))) (by have := b3.size; simp at this; omega) HO.out hlen).mono ?_; rintro e w4 ⟨⟨v3, rfl, -⟩, b4⟩))
    have BF : Hid (Bl w _) := bl_next (bl_next (bl_next B2.out (bl_drew (bl_refl _))) b3) b4
    have HR : Hid (((callsS cs f.frm).2 == 0 && (callsS cs (lastS f)).2 == 0) = r) := by
      have := H.out
      unfold fitsB at this
      rw [show cs.isEmpty = false by cases cs <;> simp at *] at this
      exact this
    obtain ⟨e1, he1⟩ : ∃ e1, (callsS cs f.frm).2 = e1 := ⟨_, rfl⟩
    obtain ⟨e2, he2⟩ : ∃ e2, (callsS cs (lastS f)).2 = e2 := ⟨_, rfl⟩
    rw [he1, he2] at HR
    rw [he1, he2]
    clear he1 he2 hold
    rcases Bool.eq_false_or_eq_true (e1 == 0) with q1 | q1
    · rcases Bool.eq_false_or_eq_true (e2 == 0) with q2 | q2
      all_goals
        have HB : Hid (r = _) := HR.out.symm.trans (by rw [q1, q2])
        go_wp2
        go_ret
        exact ⟨ret_bool (by rw [HB.out]; rfl), BF.out⟩
    · have HB : Hid (r = _) := HR.out.symm.trans (by rw [q1])
      go_wp2
      go_ret
      exact ⟨ret_bool (by rw [HB.out]; rfl), BF.out⟩
  · obtain ⟨a, cap, rfl, hcap, rfl⟩ := hcs.empty (by omega)
    have HB : Hid (r = true) := H.out.symm
    clear HC
    go_enter Try.func27, Try.ntmps27
    go_wp2_with fail
    go_ret
    exact ⟨ret_bool HB.out.symm, bl_alloc (bl_alloc (bl_refl _) _) _⟩
end Go.Proofs.Ytknecohjajjloaa
