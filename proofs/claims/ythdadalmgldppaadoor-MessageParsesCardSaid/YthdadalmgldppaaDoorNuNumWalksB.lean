/-
  THE CONTRACTS OF NUMBER, SECOND PART: plain, value, digit, digits. Conditions: those of each contract.
-/
import Derived.Test.YthdadalmgldppaaDoorNuNumWalksA
namespace Go.Proofs.YthdadalmgldppaaDoor.Nu
open Go.RowKit
open Num

/-! ### number.plain -/
theorem below_iter {B : Nat} {w0 w : World} (h : Below B w0 w) (hB : B ≤ w.heap.size) (s : ByteArray) (pos : Nat) : Below B w0 (w.iter s pos) := h.alloc hB _

theorem toList_nil {s : ByteArray} (h : s.size = 0) : s.toList = [] := by
  rw [ByteArray.toList_eq]
  exact List.length_eq_zero_iff.1 (by simpa using h)
theorem toList_ne {s : ByteArray} (h : ¬ s.size = 0) : ¬ s.toList = [] := by
  rw [ByteArray.toList_eq]
  intro e
  exact h (by simpa using congrArg List.length e)
theorem toList_ne' {s : ByteArray} (h : ¬ s.size = 0) : s.toList.isEmpty = false := by
  have := toList_ne h
  simpa using this

set_option maxRecDepth 20000 in
set_option maxHeartbeats 400000 in
theorem plain_c (s : ByteArray) (w : World) :
    Calls Tryd.prog 104 #[.string s] w fun e w' => e = .returned (.bool (canon s.data.toList)) ∧ Below w.heap.size w w' := by
  obtain ⟨p, hp, hd, hn⟩ := first_non s
  have hcan := Lib.hid (canon_parts s)
  go_enter Tryd.func104, Tryd.ntmps104
  go_wp2
  go_loopw [4] (fun _ w' => ∃ pos : Nat, pos ≤ p ∧ w' = w.iter s pos) (fun _ w' => s.size - w'.iterPos w.heap.size)
  case atStart => exact ⟨0, Nat.zero_le _, rfl⟩
  case round =>
    obtain ⟨pos, hpos, rfl⟩ := hrel
    by_cases h1 : pos < p
    · have hps : pos < s.size := by omega
      have hdg := isDig_bounds (hd pos hps h1)
      have hnx : ∀ ty, (Instr.next (.pointer (some ⟨w.heap.size, 0, none⟩)) true ty).run Tryd.prog (w.iter s pos) = _ := fun ty => run_next_ascii w s pos ty hps (by omega)
      go_wp2
      go_roundw
      case rel => exact ⟨pos + 1, by omega, rfl⟩
      case measure => simp; omega
    · obtain rfl : pos = p := by omega
      by_cases h2 : pos < s.size
      · have hnd := not_dig (hn h2)
        have hf : canon s.data.toList = false := by
          rw [hcan.out]
          have : allDig s.data.toList = false := by
            rw [Bool.eq_false_iff, Ne, allDig_iff]
            intro h
            have := h pos h2
            rw [hn h2] at this
            simp at this
          simp [this]
        have HF := Lib.hid hf
        clear hf hcan
        by_cases h3 : (s[pos]'h2).toNat < 128
        · have hnx : ∀ ty, (Instr.next (.pointer (some ⟨w.heap.size, 0, none⟩)) true ty).run Tryd.prog (w.iter s pos) = _ := fun ty => run_next_ascii w s pos ty h2 h3
          rcases hnd with hnd | hnd
          all_goals
            go_wp2
            go_ret
            exact ⟨ret_bool HF.out.symm, below_iter (Below.refl _ _) (Nat.le_refl _) _ _⟩
        · have hnx : ∀ ty, (Instr.next (.pointer (some ⟨w.heap.size, 0, none⟩)) true ty).run Tryd.prog (w.iter s pos) = _ := fun ty => run_next_any w s pos ty h2
          have hh := decode_high s pos h2 (by omega)
          obtain ⟨r, hr⟩ : ∃ r, r = (Utf8.decode s pos).1 := ⟨_, rfl⟩
          go_wp2
          all_goals
            go_ret
            exact ⟨ret_bool HF.out.symm, below_iter (Below.refl _ _) (Nat.le_refl _) _ _⟩
      · have hnx : ∀ ty, (Instr.next (.pointer (some ⟨w.heap.size, 0, none⟩)) true ty).run Tryd.prog (w.iter s pos) = _ := fun ty => run_next_end w s pos ty h2
        have had : allDig s.data.toList = true := by
          rw [allDig_iff]
          intro k hk
          exact hd k hk (by omega)
        by_cases h0 : s.size = 0
        · have hs : s.toList = [] := toList_nil h0
          have HF := Lib.hid (show canon s.data.toList = false by rw [hcan.out]; simp [h0])
          clear hcan hd hn
          go_wp2
          go_ret
          exact ⟨ret_bool HF.out.symm, below_iter (Below.refl _ _) (Nat.le_refl _) _ _⟩
        · have HF := Lib.hid (show canon s.data.toList = (decide ((s[0]'(by omega)).toNat ≠ 48) || decide (s.size = 1)) by rw [hcan.out, had, dif_pos (by omega)]; simp [h0])
          have hne := toList_ne h0
          have hne' := toList_ne' h0
          have hps : 0 < s.size := by omega
          clear hcan hd hn
          by_cases h4 : ((s[0]'hps).toNat : Int) = 48
          · have h6 : (s[0]'hps).toNat = 48 := by omega
            by_cases h5 : (s.size : Int) = 1
            · have h7 : s.size = 1 := by omega
              go_wp2
              go_ret
              exact ⟨ret_bool (by rw [HF.out]; simp [h6, h7]), below_iter (Below.refl _ _) (Nat.le_refl _) _ _⟩
            · have h7 : ¬ s.size = 1 := by omega
              go_wp2
              go_ret
              exact ⟨ret_bool (by rw [HF.out]; simp [h6, h7, h5]), below_iter (Below.refl _ _) (Nat.le_refl _) _ _⟩
          · have h6 : ¬ (s[0]'hps).toNat = 48 := by omega
            go_wp2
            go_ret
            exact ⟨ret_bool (by rw [HF.out]; simp [h6]), below_iter (Below.refl _ _) (Nat.le_refl _) _ _⟩

/-! ### number.value -/
theorem val_step (s : ByteArray) (k : Nat) (h : k < s.size) : val (s.data.toList.take (k + 1)) = 10 * val (s.data.toList.take k) + ((s[k]'h).toNat - 48) := by
  have hk : k < s.data.toList.length := by simpa using h
  rw [List.take_succ_eq_append_getElem hk, val_snoc, bytes_get s k h]

set_option maxRecDepth 20000 in
theorem value_ok (s : ByteArray) (lim : Nat) (hl : lim ≤ 9223372036854775808) (hd : allDig s.data.toList = true) (hs : s.size ≤ maxLen) (hv : val s.data.toList ≤ lim) (w : World) :
    Calls Tryd.prog 105 #[.string s, .int .u64 lim] w fun e w' => e = .returned (.tuple #[.int .u64 (val s.data.toList), .bool true]) ∧ w = w' := by
  unfold maxLen at hs
  rw [allDig_iff] at hd
  have HD := Lib.hid hd
  clear hd
  go_enter Tryd.func105, Tryd.ntmps105
  go_wp2
  go_loop [6, 11] (fun m i => ∃ k v : Nat, k ≤ s.size ∧ i = .int .i64 k ∧ m = .int .u64 v ∧ v ≤ lim ∧ Hid (val (s.data.toList.take k) = v)) (fun _ i => s.size - (intOf i).toNat)
  case atStart => exact ⟨0, 0, by omega, rfl, rfl, by omega, rfl⟩
  case round =>
    obtain ⟨k, v, hk, rfl, rfl, hvl, HV⟩ := hrel
    by_cases hlt : k < s.size
    · have hb := isDig_bounds (HD.out k hlt)
      have hst := val_step s k hlt
      have hle := val_take_le s.data.toList (k + 1)
      rw [hst, HV.out] at hle
      have HS := Lib.hid hst
      have hno : ¬ ((lim : Int) - (((s[k]'hlt).toNat : Int) - 48)) / 10 < (v : Int) := by omega
      have hnw : 10 * (v : Int) + (((s[k]'hlt).toNat : Int) - 48) ≤ 9223372036854775808 := by omega
      clear hst
      go_wp2
      go_round
      case rel => exact ⟨k + 1, 10 * v + ((s[k]'hlt).toNat - 48), by omega, by go_num, by go_num, by omega, by rw [← HV.out]; exact HS.out⟩
      case measure => simp [intOf]; omega
    · have HE := Lib.hid (show v = val s.data.toList by rw [← HV.out, List.take_of_length_le (by simp; omega)])
      go_wp2
      go_ret2
      exact ⟨by rw [← HE.out]; rfl, rfl⟩

set_option maxRecDepth 20000 in
theorem value_no (s : ByteArray) (lim : Nat) (h9 : 9 ≤ lim) (hl : lim ≤ 9223372036854775808) (hd : allDig s.data.toList = true) (hs : s.size ≤ maxLen) (hv : lim < val s.data.toList) (w : World) :
    Calls Tryd.prog 105 #[.string s, .int .u64 lim] w fun e w' => e = .returned (.tuple #[.int .u64 0, .bool false]) ∧ w = w' := by
  unfold maxLen at hs
  rw [allDig_iff] at hd
  have HD := Lib.hid hd
  clear hd
  go_enter Tryd.func105, Tryd.ntmps105
  go_wp2
  go_loop [6, 11] (fun m i => ∃ k v : Nat, k ≤ s.size ∧ i = .int .i64 k ∧ m = .int .u64 v ∧ v ≤ lim ∧ Hid (val (s.data.toList.take k) = v)) (fun _ i => s.size - (intOf i).toNat)
  case atStart => exact ⟨0, 0, by omega, rfl, rfl, by omega, rfl⟩
  case round =>
    obtain ⟨k, v, hk, rfl, rfl, hvl, HV⟩ := hrel
    by_cases hlt : k < s.size
    · have hb := isDig_bounds (HD.out k hlt)
      have HS := Lib.hid (val_step s k hlt)
      by_cases hover : 10 * (v : Int) + (((s[k]'hlt).toNat : Int) - 48) ≤ lim
      · have hno : ¬ ((lim : Int) - (((s[k]'hlt).toNat : Int) - 48)) / 10 < (v : Int) := by omega
        go_wp2
        go_round
        case rel => exact ⟨k + 1, 10 * v + ((s[k]'hlt).toNat - 48), by omega, by go_num, by go_num, by omega, by rw [← HV.out]; exact HS.out⟩
        case measure => simp [intOf]; omega
      · have hno : ((lim : Int) - (((s[k]'hlt).toNat : Int) - 48)) / 10 < (v : Int) := by omega
        go_wp2
        go_ret2
        exact ⟨rfl, rfl⟩
    · exfalso
      have : v = val s.data.toList := by rw [← HV.out, List.take_of_length_le (by simp; omega)]
      omega

/-! ### the reference's digit and digits -/
theorem digit_text (n : Int) (h0 : 0 ≤ n) (h1 : n ≤ 9) : (ByteArray.mk #[48, 49, 50, 51, 52, 53, 54, 55, 56, 57]).extract n.toNat (n + 1).toNat = ⟨#[UInt8.ofNat (48 + n.toNat)]⟩ := by
  obtain ⟨m, rfl⟩ := Int.eq_ofNat_of_zero_le h0
  match m, h1 with
  | 0, _ | 1, _ | 2, _ | 3, _ | 4, _ | 5, _ | 6, _ | 7, _ | 8, _ | 9, _ => rfl
  | k + 10, h => omega
set_option maxRecDepth 20000 in
theorem digit_c (n : Int) (h0 : 0 ≤ n) (h1 : n ≤ 9) (w : World) :
    Calls Tryd.prog 85 #[.int .i64 n] w fun e w' => e = .returned (.string ⟨#[UInt8.ofNat (48 + n.toNat)]⟩) ∧ w = w' := by
  have ht := Lib.hid (digit_text n h0 h1)
  go_enter Tryd.func85, Tryd.ntmps85
  go_wp2
  go_ret
  exact ⟨by rw [← ht.out]; rfl, rfl⟩

set_option maxRecDepth 20000 in
theorem digits_c (s : ByteArray) (hs : s.size ≤ maxLen) (w : World) :
    Calls Tryd.prog 94 #[.string s] w fun e w' => e = .returned (.bool (canon s.data.toList)) ∧ w = w' := by
  unfold maxLen at hs
  have hcan := Lib.hid (canon_parts s)
  by_cases h0 : s.size = 0
  · have hs : s.toList = [] := toList_nil h0
    have HF := Lib.hid (show canon s.data.toList = false by rw [hcan.out]; simp [h0])
    clear hcan
    go_enter Tryd.func94, Tryd.ntmps94
    go_wp2
    go_ret
    exact ⟨ret_bool HF.out.symm, rfl⟩
  have hne := toList_ne h0
  have hne' := toList_ne' h0
  have hps : 0 < s.size := by omega
  by_cases hz : ((s[0]'hps).toNat : Int) = 48 ∧ 1 < (s.size : Int)
  · obtain ⟨h4, h5⟩ := hz
    have h6 : (s[0]'hps).toNat = 48 := by omega
    have HF := Lib.hid (show canon s.data.toList = false by rw [hcan.out, dif_pos hps, h6]; simp; omega)
    clear hcan
    go_enter Tryd.func94, Tryd.ntmps94
    go_wp2
    go_ret
    exact ⟨ret_bool HF.out.symm, rfl⟩
  have HF := Lib.hid (show canon s.data.toList = allDig s.data.toList by
    rw [hcan.out, dif_pos hps]
    by_cases h4 : (s[0]'hps).toNat = 48
    · have : s.size = 1 := by omega
      simp [this]
    · simp [h0, h4])
  clear hcan
  obtain ⟨p, hp, hd, hn⟩ := first_non s
  have HD := Lib.hid hd
  have HN := Lib.hid hn
  clear hd hn
  have hz' : (((s[0]'hps).toNat : Int) = 48 ∧ ¬ 1 < (s.size : Int)) ∨ ¬ ((s[0]'hps).toNat : Int) = 48 := by
    by_cases h4 : ((s[0]'hps).toNat : Int) = 48
    · exact .inl ⟨h4, fun h => hz ⟨h4, h⟩⟩
    · exact .inr h4
  clear hz
  rcases hz' with ⟨h4, h5⟩ | h4
  all_goals
    go_enter Tryd.func94, Tryd.ntmps94
    go_wp2
    go_loop [3] (fun i => ∃ k : Nat, k ≤ p ∧ i = .int .i64 k) (fun i => s.size - (intOf i).toNat)
    case atStart => exact ⟨0, by omega, rfl⟩
    case round =>
      obtain ⟨k, hk, rfl⟩ := hrel
      by_cases h1 : k < p
      · have hb := isDig_bounds (HD.out k (by omega) h1)
        go_wp2
        go_round
        case rel => exact ⟨k + 1, by omega, by go_num⟩
        case measure => simp [intOf]; omega
      · obtain rfl : k = p := by omega
        by_cases h2 : k < s.size
        · have hnd := not_dig (HN.out h2)
          have HA := Lib.hid (show allDig s.data.toList = false by
            rw [Bool.eq_false_iff, Ne, allDig_iff]
            intro h
            have := h k h2
            rw [HN.out h2] at this
            simp at this)
          rcases hnd with hnd | hnd
          all_goals
            go_wp2
            go_ret
            exact ⟨ret_bool (by rw [HF.out, HA.out]), rfl⟩
        · have HA := Lib.hid (show allDig s.data.toList = true by
            rw [allDig_iff]
            intro j hj
            exact HD.out j hj (by omega))
          go_wp2
          go_ret
          exact ⟨ret_bool (by rw [HF.out, HA.out]), rfl⟩

end Go.Proofs.YthdadalmgldppaaDoor.Nu
