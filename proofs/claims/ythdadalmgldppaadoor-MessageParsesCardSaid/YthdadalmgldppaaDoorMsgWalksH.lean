/-
  THE CONTRACTS OF MESSAGE, EIGHTH PART: Check of the program. Conditions: those of each contract.
-/
import Derived.Test.YthdadalmgldppaaDoorMsgWalksG
namespace Go.Proofs.YthdadalmgldppaaDoor
open Go.RowKit
open Msg

theorem checkKind_c (m : MsgD) (v : Value) (B : Nat) (w : World) (hv : CallsIn B w v m.calls) (hB : B ≤ w.heap.size) :
    Calls Tryd.prog 26 #[msgV m v, usesV m.kind] w fun e w' => e = .returned (.int .i64 (kindErr m)) ∧ Bl w w' := by
  have go : ∀ a b c d, uCall m.kind = a → uSecs m.kind = b → uRoute m.kind = c → uCalls m.kind = d →
      usesV m.kind = .agg #[.bool a, .bool b, .bool c, .bool c, .bool d] := fun a b c d h1 h2 h3 h4 => by rw [← h1, ← h2, ← h3, ← h4]
  by_cases k1 : m.kind = 1
  · have h1 : uCall m.kind = true := by rw [k1]; rfl
    have h2 : uSecs m.kind = true := by rw [k1]; rfl
    have h3 : uRoute m.kind = false := by rw [k1]; rfl
    have h4 : uCalls m.kind = false := by rw [k1]; rfl
    rw [go _ _ _ _ h1 h2 h3 h4]
    exact kind_delay m v h1 h2 h3 h4 B w hv
  by_cases k3 : m.kind = 3
  · have h1 : uCall m.kind = true := by rw [k3]; rfl
    have h2 : uSecs m.kind = false := by rw [k3]; rfl
    have h3 : uRoute m.kind = false := by rw [k3]; rfl
    have h4 : uCalls m.kind = false := by rw [k3]; rfl
    rw [go _ _ _ _ h1 h2 h3 h4]
    exact kind_skip m v h1 h2 h3 h4 B w hv
  by_cases k4 : m.kind = 4
  · have h1 : uCall m.kind = false := by rw [k4]; rfl
    have h2 : uSecs m.kind = false := by rw [k4]; rfl
    have h3 : uRoute m.kind = false := by rw [k4]; rfl
    have h4 : uCalls m.kind = true := by rw [k4]; rfl
    rw [go _ _ _ _ h1 h2 h3 h4]
    exact kind_reroute m v h1 h2 h3 h4 B w hv hB
  by_cases k5 : m.kind = 5
  · have h1 : uCall m.kind = false := by rw [k5]; rfl
    have h2 : uSecs m.kind = false := by rw [k5]; rfl
    have h3 : uRoute m.kind = true := by rw [k5]; rfl
    have h4 : uCalls m.kind = true := by rw [k5]; rfl
    rw [go _ _ _ _ h1 h2 h3 h4]
    exact kind_add m v h1 h2 h3 h4 B w hv hB
  have h1 : uCall m.kind = false := by simp [uCall, k1, k3]
  have h2 : uSecs m.kind = false := by simp [uSecs, k1]
  have h3 : uRoute m.kind = false := by simp [uRoute, k5]
  have h4 : uCalls m.kind = false := by simp [uCalls, k4, k5]
  rw [go _ _ _ _ h1 h2 h3 h4]
  exact kind_none m v h1 h2 h3 h4 B w hv

/-! ### a message in a block -/
def msgCells (m : MsgD) (v : Value) : Array Value := #[.int .i64 m.src, .int .i64 m.seq, .int .i64 m.iss, .int .i64 m.exp, .int .i64 m.kind, str m.trip, .int .i64 m.day, .int .i64 m.inst, .int .i64 m.call, .int .i64 m.secs, .int .i64 m.route, .bool m.step, v]
/-- A message's cells from an offset on. -/
def MsgAt (g o : Nat) (m : MsgD) (v : Value) (w : World) : Prop := ∀ (j : Nat) (u : Value), (msgCells m v)[j]? = some u → w.cell? ⟨g, o + j, none⟩ = some u
theorem MsgAt.next {g o : Nat} {m : MsgD} {v : Value} {w w' : World} (h : MsgAt g o m v w) (hb : Bl w w') (hg : g < w.heap.size) : MsgAt g o m v w' := fun j u hu => by
  rw [(bl_cell hb).1 _ _ hg]
  exact h j u hu
theorem msgAt_new (m : MsgD) (v : Value) (w : World) : MsgAt w.heap.size 0 m v (w.alloc (.cells (msgCells m v) 24)) := fun j u hu => by
  rw [Nat.zero_add, World.cell?_alloc_at (hn := rfl)]
  exact hu
theorem valid_day (d : Int) : Da.dvalid d = !outside d 0 36524 := by
  unfold Da.dvalid outside
  rw [Bool.eq_iff_iff]
  simp
set_option maxRecDepth 20000 in
set_option maxHeartbeats 8000000 in
theorem check_c (m : MsgD) (v : Value) (r : Int) (H : Hid (checkM m = r)) (ht : m.trip.length ≤ 9223372036854775807) (B : Nat) (w : World) (hv : CallsIn B w v m.calls) (hB : B ≤ w.heap.size) :
    Calls Tryd.prog 10 #[msgV m v] w fun e w' => e = .returned (.int .i64 r) ∧ Bl w w' := by
  have hid := fun w => ident_c ⟨m.trip.toArray⟩ (by show m.trip.toArray.size ≤ _; rw [List.size_toArray]; unfold maxLen; omega) (nameB m.trip) rfl w
  have hday := fun w => Da.dValid_b m.day (!outside m.day 0 36524) (valid_day _) w
  go_enter Tryd.func10, Tryd.ntmps10
  go_wp2_with (first
    | (go_at_call 23; refine (within_c _ _ _ _).mono ?_; rintro e w' ⟨rfl, rfl⟩)
    | (go_at_call 24; refine (hid _).mono ?_; rintro e w' ⟨rfl, rfl⟩)
    | (go_at_call 25; refine (hday _).mono ?_; rintro e w' ⟨rfl, rfl⟩))
  any_goals
    go_ret
    refine ⟨ret_int ?_, bl_alloc (bl_refl _) _⟩
    rw [← H.out]
    unfold checkM
    simp [*]
    try repeat' split
    all_goals first
      | rfl
      | omega
      | (simp_all; done)
  have hm := msgAt_new m v w
  have hbl : Bl w (w.alloc (.cells (msgCells m v) 24)) := bl_alloc (bl_refl _) _
  have hsz : w.heap.size < (w.alloc (.cells (msgCells m v) 24)).heap.size := by simp
  change Code.wp _ _ _ _ (w.alloc (.cells (msgCells m v) 24))
  generalize w.alloc (.cells (msgCells m v) 24) = w1 at hm hbl hsz
  have hk : checkM m = kindErr m := by
    unfold checkM
    simp [*]
    try repeat' split
    all_goals first
      | rfl
      | omega
      | (simp_all; done)
  have hold : ∀ w', Bl w1 w' → (w'.cell? ⟨w.heap.size, 0, none⟩ = some (.int .i64 m.src) ∧ w'.cell? ⟨w.heap.size, 1, none⟩ = some (.int .i64 m.seq) ∧ w'.cell? ⟨w.heap.size, 2, none⟩ = some (.int .i64 m.iss) ∧ w'.cell? ⟨w.heap.size, 3, none⟩ = some (.int .i64 m.exp) ∧ w'.cell? ⟨w.heap.size, 4, none⟩ = some (.int .i64 m.kind) ∧ w'.cell? ⟨w.heap.size, 5, none⟩ = some (str m.trip) ∧ w'.cell? ⟨w.heap.size, 6, none⟩ = some (.int .i64 m.day) ∧ w'.cell? ⟨w.heap.size, 7, none⟩ = some (.int .i64 m.inst) ∧ w'.cell? ⟨w.heap.size, 8, none⟩ = some (.int .i64 m.call) ∧ w'.cell? ⟨w.heap.size, 9, none⟩ = some (.int .i64 m.secs) ∧ w'.cell? ⟨w.heap.size, 10, none⟩ = some (.int .i64 m.route) ∧ w'.cell? ⟨w.heap.size, 11, none⟩ = some (.bool m.step) ∧ w'.cell? ⟨w.heap.size, 12, none⟩ = some v) := fun w' hb => by
    have h := hm.next hb hsz
    unfold MsgAt at h
    simp only [Nat.zero_add] at h
    exact ⟨h 0 _ rfl, h 1 _ rfl, h 2 _ rfl, h 3 _ rfl, h 4 _ rfl, h 5 _ rfl, h 6 _ rfl, h 7 _ rfl, h 8 _ rfl, h 9 _ rfl, h 10 _ rfl, h 11 _ rfl, h 12 _ rfl⟩
  have HV := Lib.hid hv
  first
  | go_region_held3 (fun w' => w'.cell? ⟨w.heap.size, 0, none⟩ = some (.int .i64 m.src) ∧ w'.cell? ⟨w.heap.size, 1, none⟩ = some (.int .i64 m.seq) ∧ w'.cell? ⟨w.heap.size, 2, none⟩ = some (.int .i64 m.iss) ∧ w'.cell? ⟨w.heap.size, 3, none⟩ = some (.int .i64 m.exp) ∧ w'.cell? ⟨w.heap.size, 4, none⟩ = some (.int .i64 m.kind) ∧ w'.cell? ⟨w.heap.size, 5, none⟩ = some (str m.trip) ∧ w'.cell? ⟨w.heap.size, 6, none⟩ = some (.int .i64 m.day) ∧ w'.cell? ⟨w.heap.size, 7, none⟩ = some (.int .i64 m.inst) ∧ w'.cell? ⟨w.heap.size, 8, none⟩ = some (.int .i64 m.call) ∧ w'.cell? ⟨w.heap.size, 9, none⟩ = some (.int .i64 m.secs) ∧ w'.cell? ⟨w.heap.size, 10, none⟩ = some (.int .i64 m.route) ∧ w'.cell? ⟨w.heap.size, 11, none⟩ = some (.bool m.step) ∧ w'.cell? ⟨w.heap.size, 12, none⟩ = some v)
      (first | exact hold _ (bl_drew (bl_refl _)) | exact hold _ (bl_next (bl_drew (bl_refl _)) b3) | exact hold _ (bl_next (bl_next (bl_drew (bl_refl _)) b3) b4))
      (first
        | (go_at_call 27; refine (used_c m.kind _).mono ?_; rintro e w3 ⟨rfl, b3⟩)
        | (go_at_call 26; refine (checkKind_c m v B _ (HV.out.below ((bl_next hbl (bl_next (bl_drew (bl_refl _)) b3)).mono hB)) (by have := b3.size; simp at this; omega)).mono ?_; rintro e w4 ⟨rfl, b4⟩))
  | fail
  all_goals
    go_wp2
    go_ret
    exact ⟨ret_int (by rw [← H.out, hk]), bl_next hbl (bl_next (bl_next (bl_drew (bl_refl _)) b3) b4)⟩
end Go.Proofs.YthdadalmgldppaaDoor
