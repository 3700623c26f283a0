/-
  THE CONTRACTS OF DATE, THIRD PART: FromCivil and Civil, and the reference's. Conditions: those of each contract.
-/
import Derived.Test.YthdadalmgldppaaDoorDaDatWalksB
import Derived.Test.YthdadalmgldppaaDoorDatPlain2
namespace Go.Proofs.YthdadalmgldppaaDoor.Da
open Go.RowKit
open Num Clk Dat

theorem fc_cases (y m d : Int) : ((2000 ≤ y ∧ y ≤ 2099) ∧ (1 ≤ m ∧ m ≤ 12) ∧ (1 ≤ d ∧ d ≤ mlen y m)) ∨
    ((days y m = (0, false) ∨ ∃ n, days y m = (n, true) ∧ (d < 1 ∨ (1 ≤ d ∧ n < d))) ∧ fromCivil y m d = (0, false)) := by
  rcases days_cases y m with ⟨hy, hm, k⟩ | ⟨hc, k⟩
  · by_cases hd : 1 ≤ d ∧ d ≤ mlen y m
    · exact .inl ⟨hy, hm, hd⟩
    · exact .inr ⟨.inr ⟨_, k, by omega⟩, by unfold fromCivil; rw [if_neg (fun h => hd h.2.2)]⟩
  · refine .inr ⟨.inl k, ?_⟩
    unfold fromCivil
    rw [if_neg]
    rintro ⟨hy, hm, _⟩
    unfold days at k
    rw [if_pos ⟨hy, hm⟩] at k
    simp at k
theorem days_yes {y m : Int} (hy : 2000 ≤ y ∧ y ≤ 2099) (hm : 1 ≤ m ∧ m ≤ 12) : days y m = (mlen y m, true) := by
  unfold days
  rw [if_pos ⟨hy, hm⟩]
theorem fc_yes {y m d : Int} (hy : 2000 ≤ y ∧ y ≤ 2099) (hm : 1 ≤ m ∧ m ≤ 12) (hd : 1 ≤ d ∧ d ≤ mlen y m) : fromCivil y m d = (cum (12 * (y - 2000) + m - 1).toNat + d - 1, true) := by
  unfold fromCivil
  rw [if_pos ⟨hy, hm, hd⟩]

set_option maxRecDepth 20000 in
set_option maxHeartbeats 2000000 in
theorem rFrom_yes (y m d r : Int) (hy : 2000 ≤ y ∧ y ≤ 2099) (hm : 1 ≤ m ∧ m ≤ 12) (hd : 1 ≤ d ∧ d ≤ mlen y m) (HR : Hid (r = cum (12 * (y - 2000) + m - 1).toNat + d - 1)) (w : World) :
    Calls Tryd.prog 73 #[.int .i64 y, .int .i64 m, .int .i64 d] w fun e w' => e = .returned (.tuple #[.int .i64 r, .bool true]) ∧ w = w' := by
  obtain ⟨y0, y1⟩ := hy
  obtain ⟨m0, m1⟩ := hm
  obtain ⟨d0, d1⟩ := hd
  have HD : Hid (days y m = (mlen y m, true)) := days_yes ⟨y0, y1⟩ ⟨m0, m1⟩
  have hl := mlen_bd y m
  obtain ⟨n, hn⟩ : ∃ n, mlen y m = n := ⟨_, rfl⟩
  rw [hn] at d1 HD hl
  clear hn
  obtain ⟨l0, l1⟩ := hl
  go_enter Tryd.func73, Tryd.ntmps73
  go_wp2_with (go_at_call 95; refine (rDays_c _ _ _ _ HD _).mono ?_; rintro e w1 ⟨rfl, rfl⟩)
  go_loop [10, 11] (fun s i => ∃ k : Nat, (k : Int) ≤ 12 * (y - 2000) + m - 1 ∧ i = .int .i64 k ∧ s = .int .i64 (cum k)) (fun _ i => (12 * (y - 2000) + m - 1 - intOf i).toNat)
  case atStart => exact ⟨0, by simp; omega, rfl, rfl⟩
  case round =>
    obtain ⟨k, hk, rfl, rfl⟩ := hrel
    have hc := cum_bd k (by omega)
    obtain ⟨c0, c1⟩ := hc
    by_cases hlt : (k : Int) < 12 * (y - 2000) + m - 1
    · have HK : Hid (days (2000 + (k : Int) / 12) (1 + (k : Int) % 12) = (mlen (2000 + (k : Int) / 12) (1 + (k : Int) % 12), true)) := days_at k (by omega)
      have HC := Lib.hid (cum_succ k)
      have hb := mlen_bd (2000 + (k : Int) / 12) (1 + (k : Int) % 12)
      generalize mlen (2000 + (k : Int) / 12) (1 + (k : Int) % 12) = x at HK HC hb
      obtain ⟨b0, b1⟩ := hb
      go_wp2_with (go_at_call 95; refine (rDays_c _ _ _ _ HK _).mono ?_; rintro e w1 ⟨rfl, rfl⟩)
      go_round
      case rel => exact ⟨k + 1, by omega, by go_num, by rw [HC.out]⟩
      case measure => simp [intOf]; omega
    · have HE := Lib.hid (show cum k + d - 1 = r by rw [HR.out, show (12 * (y - 2000) + m - 1).toNat = k by omega])
      go_wp2
      go_ret2
      exact ⟨ret2_int HE.out, rfl⟩

set_option maxRecDepth 20000 in
set_option maxHeartbeats 2000000 in
theorem rFrom_c (y m d n : Int) (ok : Bool) (H : Hid (fromCivil y m d = (n, ok))) (w : World) :
    Calls Tryd.prog 73 #[.int .i64 y, .int .i64 m, .int .i64 d] w fun e w' => e = .returned (.tuple #[.int .i64 n, .bool ok]) ∧ w = w' := by
  rcases fc_cases y m d with ⟨hy, hm, hd⟩ | ⟨hc, k⟩
  · obtain ⟨rfl, rfl⟩ := Prod.mk.inj ((fc_yes hy hm hd).symm.trans H.out)
    exact rFrom_yes y m d _ hy hm hd rfl w
  · obtain ⟨rfl, rfl⟩ := Prod.mk.inj (k.symm.trans H.out)
    clear k H
    rcases hc with hc | ⟨n, hc, hd | ⟨hd, hd'⟩⟩
    all_goals
      have HD := Lib.hid hc
      clear hc
      go_enter Tryd.func73, Tryd.ntmps73
      go_wp2_with (go_at_call 95; refine (rDays_c _ _ _ _ HD _).mono ?_; rintro e w1 ⟨rfl, rfl⟩)
      go_ret2
      exact ⟨rfl, rfl⟩

/-- The first elements of an array, for the walk to take. -/
theorem slice12 (b : Nat) (h : Int) (h0 : 0 ≤ h) (h1 : h ≤ 12) (W : World) :
    (Instr.sliceAt 104 (.pointer (some ⟨b, 0, none⟩)) none (some (.int .i64 h)) none).run Tryd.prog W = .ok (.slice (some ⟨b, 0, none⟩) h.toNat 12) W := by
  have e : Tryd.prog.arrayLen 104 = 12 := by kernel_rfl
  rw [run_sliceAt_array_h W 104 _ (by kernel_rfl) .i64 h h0 (by rw [e]; exact h1)]
  have s : (sizeOf (Tryd.prog.elem 104)).run Tryd.prog W = .ok 1 W := by kernel_rfl
  rw [s, e]
  simp [Result.andThen, slicedAt, Addr.add]

set_option maxRecDepth 20000 in
set_option maxHeartbeats 2000000 in
theorem from_yes (y m d r : Int) (hy : 2000 ≤ y ∧ y ≤ 2099) (hm : 1 ≤ m ∧ m ≤ 12) (hd : 1 ≤ d ∧ d ≤ mlen y m) (HR : Hid (r = cum (12 * (y - 2000) + m - 1).toNat + d - 1)) (w : World) :
    Calls Tryd.prog 91 #[.int .i64 y, .int .i64 m, .int .i64 d] w fun e w' => e = .returned (.tuple #[.int .i64 r, .bool true]) ∧ Bl w w' := by
  obtain ⟨y0, y1⟩ := hy
  obtain ⟨m0, m1⟩ := hm
  obtain ⟨d0, d1⟩ := hd
  have HD : Hid (days y m = (mlen y m, true)) := days_yes ⟨y0, y1⟩ ⟨m0, m1⟩
  have hl := mlen_bd y m
  obtain ⟨n, hn⟩ : ∃ n, mlen y m = n := ⟨_, rfl⟩
  rw [hn] at d1 HD hl
  clear hn
  obtain ⟨l0, l1⟩ := hl
  obtain ⟨f, hf⟩ : ∃ f, f = mlen y 2 := ⟨_, rfl⟩
  obtain ⟨b, hb, hbf⟩ : ∃ b, leapB y = b ∧ ((b = true ∧ f = 29) ∨ (b = false ∧ f = 28)) := by
    rcases leap_days y (inR_yes y0 y1) with ⟨a, e⟩ | ⟨a, e⟩
    · exact ⟨true, a, .inl ⟨rfl, by rw [hf, e]⟩⟩
    · exact ⟨false, a, .inr ⟨rfl, by rw [hf, e]⟩⟩
  have HL := Lib.hid hb
  have HF := Lib.hid hf
  have HBF := Lib.hid hbf
  clear hb hf hbf
  have hsl := fun b W => slice12 b (m - 1) (by omega) (by omega) W
  go_enter Tryd.func91, Tryd.ntmps91
  go_wp2_with fail
  refine (days_c _ _ _ _ HD _).mono ?_
  rintro e w1 ⟨rfl, b1⟩
  go_wp2_with fail
  refine (lengths_b _ _ _ HL HBF.out _).mono ?_
  rintro e w2 ⟨rfl, b2⟩
  go_wp2_with fail
  have hcell : ∀ k : Nat, k < 12 → (w2.alloc (.cells (lens f) 104)).cell? ⟨w2.heap.size, k, none⟩ = some (.int .i64 (mlen y (1 + (k : Int)))) := by
    intro k hk
    rw [World.cell?_alloc_at (hn := rfl)]
    exact lens_get y f HF.out k hk
  have HCell := Lib.hid hcell
  clear hcell
  go_loop [11, 49] (fun s i => ∃ k : Nat, (k : Int) ≤ m - 1 ∧ i = .int .i64 k ∧ s = .int .i64 (365 * (y - 2000) + (y - 2000 + 3) / 4 + d - 1 + cj (lpI y) k)) (fun _ i => (12 - intOf i).toNat)
  case atStart => exact ⟨0, by simp; omega, rfl, by simp [cj]⟩
  case round =>
    obtain ⟨k, hk, rfl, rfl⟩ := hrel
    have hc := cj_bd y k (by omega)
    obtain ⟨c0, c1⟩ := hc
    by_cases hlt : (k : Int) < ((m - 1).toNat : Int)
    · have hcx := HCell.out k (by omega)
      have HC := Lib.hid (cj_succ y k (by omega))
      have hb := mlen_bd y (1 + (k : Int))
      generalize mlen y (1 + (k : Int)) = x at hcx HC hb
      obtain ⟨b0, b1⟩ := hb
      go_wp2
      go_round
      case rel => exact ⟨k + 1, by omega, by go_num, by rw [HC.out]; go_num⟩
      case measure => simp [intOf]; omega
    · have HE := Lib.hid (show 365 * (y - 2000) + (y - 2000 + 3) / 4 + d - 1 + cj (lpI y) k = r by rw [HR.out, from_sum ⟨y0, y1⟩ ⟨m0, m1⟩ k (by omega)])
      go_wp2
      go_ret2
      exact ⟨ret2_int HE.out, bl_alloc (bl_next b1 b2) _⟩

set_option maxRecDepth 20000 in
set_option maxHeartbeats 2000000 in
theorem from_c (y m d n : Int) (ok : Bool) (H : Hid (fromCivil y m d = (n, ok))) (w : World) :
    Calls Tryd.prog 91 #[.int .i64 y, .int .i64 m, .int .i64 d] w fun e w' => e = .returned (.tuple #[.int .i64 n, .bool ok]) ∧ Bl w w' := by
  rcases fc_cases y m d with ⟨hy, hm, hd⟩ | ⟨hc, k⟩
  · obtain ⟨rfl, rfl⟩ := Prod.mk.inj ((fc_yes hy hm hd).symm.trans H.out)
    exact from_yes y m d _ hy hm hd rfl w
  · obtain ⟨rfl, rfl⟩ := Prod.mk.inj (k.symm.trans H.out)
    clear k H
    rcases hc with hc | ⟨n, hc, hd | ⟨hd, hd'⟩⟩
    all_goals
      have HD := Lib.hid hc
      clear hc
      go_enter Tryd.func91, Tryd.ntmps91
      go_wp2_with (go_at_call 107; refine (days_c _ _ _ _ HD _).mono ?_; rintro e w1 ⟨rfl, b1⟩)
      go_ret2
      exact ⟨rfl, b1⟩
end Go.Proofs.YthdadalmgldppaaDoor.Da
