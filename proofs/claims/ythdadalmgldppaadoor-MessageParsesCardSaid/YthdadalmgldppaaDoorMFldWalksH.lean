/-
  THE CONTRACTS OF FIELD, EIGHTH PART: where a field ends, in the program and in the reference. Conditions: those of each contract.
-/
import Derived.Test.YthdadalmgldppaaDoorMFldWalksG
import Derived.Test.YthdadalmgldppaaDoorFldPlain2
namespace Go.Proofs.YthdadalmgldppaaDoor
open Go.RowKit
open Fld

/-! ### the plain side -/
theorem ix_scanC : ∀ l : List UInt8, Lib.indexByte l 44 = if scanC l < l.length then (scanC l : Int) else -1
  | [] => rfl
  | c :: r => by
    have ih := ix_scanC r
    have hle := scanC_le r
    by_cases h : c = 44
    · subst h
      unfold scanC Lib.indexByte
      simp
    · have hn : ¬ (c.toNat == 44) = true := by
        intro e
        exact h (UInt8.toNat.inj (by simpa using e))
      have hn' : ¬ (c == 44) = true := by simpa using h
      have e1 : scanC (c :: r) = 1 + scanC r := by
        rw [scanC]
        rw [if_neg hn]
      have e2 : Lib.indexByte (c :: r) 44 = if Lib.indexByte r 44 == -1 then -1 else Lib.indexByte r 44 + 1 := by
        rw [Lib.indexByte]
        rw [if_neg hn']
      rw [e1, e2, ih, List.length_cons]
      by_cases h2 : scanC r < r.length
      · rw [if_pos h2, if_pos (show 1 + scanC r < r.length + 1 by omega), if_neg (by rw [beq_iff_eq]; omega)]
        omega
      · rw [if_neg h2, if_neg (show ¬ 1 + scanC r < r.length + 1 by omega), if_pos (by decide)]
theorem drop_cons (s : ByteArray) (k : Nat) (h : k < s.size) : s.data.toList.drop k = (s[k]'h) :: s.data.toList.drop (k + 1) := by
  rw [List.drop_eq_getElem_cons (by simpa using h), bytes_get s k h]
theorem drop_end (s : ByteArray) (k : Nat) (h : s.size ≤ k) : s.data.toList.drop k = [] := List.drop_eq_nil_of_le (by rw [Array.length_toList]; exact h)
theorem len_bytes (s : ByteArray) : s.data.toList.length = s.size := by simp
/-- Where a field that begins with a quote ends, seen from the byte with the index i. -/
def restQ (s : ByteArray) (i : Nat) : Nat := min (i + scanQ (s.data.toList.drop i)) s.size
theorem restQ_quote (s : ByteArray) (i : Nat) (h : i < s.size) (h34 : (s[i]'h).toNat = 34) : restQ s i = i + 1 := by
  unfold restQ
  rw [drop_cons s i h, scanQ.eq_def]
  simp only
  rw [if_pos (by simp [h34])]
  omega
theorem restQ_esc (s : ByteArray) (i : Nat) (h : i < s.size) (h92 : (s[i]'h).toNat = 92) : restQ s i = restQ s (i + 2) := by
  unfold restQ
  rw [drop_cons s i h]
  by_cases h2 : i + 1 < s.size
  · rw [drop_cons s (i + 1) h2]
    have : (s[i]'h) = 92 := UInt8.toNat.inj (by simpa using h92)
    rw [this, scanQ_esc]
    rw [show i + 1 + 1 = i + 2 by omega]
    congr 1
    omega
  · rw [drop_end s (i + 1) (by omega), drop_end s (i + 2) (by omega), scanQ.eq_def]
    simp only
    rw [if_neg (by simp [h92]), if_pos (by simp [h92])]
    simp only [scanQ]
    omega
theorem restQ_other (s : ByteArray) (i : Nat) (h : i < s.size) (h34 : ¬ (s[i]'h).toNat = 34) (h92 : ¬ (s[i]'h).toNat = 92) : restQ s i = restQ s (i + 1) := by
  unfold restQ
  rw [drop_cons s i h, scanQ_skip _ _ (by simpa using h34) (by simpa using h92)]
  congr 1
  omega
theorem restQ_end (s : ByteArray) (i : Nat) (h : s.size ≤ i) : restQ s i = s.size := by
  unfold restQ
  rw [drop_end s i h]
  simp only [scanQ]
  omega
theorem ext_q (s : ByteArray) (i : Nat) (h : i < s.size) (h34 : (s[i]'h).toNat = 34) : i + extS (s.data.toList.drop i) = restQ s (i + 1) := by
  unfold restQ
  rw [drop_cons s i h]
  unfold extS
  simp only
  rw [if_pos (by simp [h34])]
  have := scanQ_le (s.data.toList.drop (i + 1))
  rw [List.length_drop, len_bytes] at this
  omega
theorem ext_c (s : ByteArray) (i : Nat) (h : i < s.size → ¬ (s[i]?.getD 0).toNat = 34) : extS (s.data.toList.drop i) = scanC (s.data.toList.drop i) := by
  by_cases hi : i < s.size
  · rw [drop_cons s i hi]
    have h34 := h hi
    rw [getElem?_pos s i hi] at h34
    unfold extS
    simp only
    rw [if_neg (by simpa using h34)]
  · rw [drop_end s i (by omega)]
    rfl

/-! ### the walks -/
theorem ext_c0 (s : ByteArray) (k : Nat) (h : k < s.size) (h34 : ¬ (s[k]'h).toNat = 34) : extS (s.data.toList.drop k) = scanC (s.data.toList.drop k) := by
  rw [drop_cons s k h]
  unfold extS
  simp only
  rw [if_neg (by simpa using h34)]
theorem ext_end (s : ByteArray) (k : Nat) (h : s.size ≤ k) : extS (s.data.toList.drop k) = scanC (s.data.toList.drop k) := by rw [drop_end s k h]; rfl
theorem scanC_stop (s : ByteArray) (j : Nat) (h : j < s.size) (h44 : (s[j]'h).toNat = 44) : scanC (s.data.toList.drop j) = 0 := by
  rw [drop_cons s j h, scanC]
  rw [if_pos (by simp [h44])]
theorem scanC_next (s : ByteArray) (j : Nat) (h : j < s.size) (h44 : ¬ (s[j]'h).toNat = 44) : scanC (s.data.toList.drop j) = 1 + scanC (s.data.toList.drop (j + 1)) := by
  rw [drop_cons s j h, scanC]
  rw [if_neg (by simpa using h44)]
set_option maxRecDepth 20000 in
set_option maxHeartbeats 1000000 in
theorem extent_c (s : ByteArray) (hs : s.size ≤ 34359738368) (k : Nat) (hk : k ≤ s.size) (r : Nat) (H : Hid (k + extS (s.data.toList.drop k) = r)) (w : World) :
    Calls Tryd.prog 63 #[.string s, .int .i64 k] w fun e w' => e = .returned (.int .i64 r) ∧ w = w' := by
  by_cases hq : ∃ h : k < s.size, (s[k]'h).toNat = 34
  · obtain ⟨hlt, h34⟩ := hq
    have HR := Lib.hid (show restQ s (k + 1) = r by rw [← ext_q s k hlt h34]; exact H.out)
    have h34' : ((s[k]'hlt).toNat : Int) = 34 := by omega
    clear H h34
    go_enter Tryd.func63, Tryd.ntmps63
    go_wp2
    go_step3
    go_wp2
    go_step3
    go_wp2
    go_loop [6] (fun i => ∃ j : Nat, j ≤ s.size + 1 ∧ i = .int .i64 j ∧ Hid (restQ s j = r)) (fun i => s.size + 1 - (intOf i).toNat)
    case atStart => exact ⟨k + 1, by omega, by go_num, HR⟩
    case round =>
      obtain ⟨j, hj, rfl, HJ⟩ := hrel
      by_cases hl : j < s.size
      · by_cases j34 : ((s[j]'hl).toNat : Int) = 34
        · have HF : r = j + 1 := by rw [← HJ.out]; exact restQ_quote s j hl (by omega)
          have hmin : min ((j : Int) + 1) (s.size : Int) = (j : Int) + 1 := by omega
          go_wp2
          go_ret
          exact ⟨ret_int (by omega), rfl⟩
        · by_cases j92 : ((s[j]'hl).toNat : Int) = 92
          · have HS := Lib.hid (show restQ s (j + 2) = r by rw [← restQ_esc s j hl (by omega)]; exact HJ.out)
            go_wp2
            go_round
            case rel => exact ⟨j + 2, by omega, by go_num, HS⟩
            case measure => simp [intOf]; omega
          · have f1 : (((s[j]'hl).toNat : Int) == 34) = false := by rw [beq_eq_false_iff_ne]; exact j34
            have f2 : (((s[j]'hl).toNat : Int) == 92) = false := by rw [beq_eq_false_iff_ne]; exact j92
            have HS := Lib.hid (show restQ s (j + 1) = r by rw [← restQ_other s j hl (by omega) (by omega)]; exact HJ.out)
            go_wp2
            go_round
            case rel => exact ⟨j + 1, by omega, by go_num, HS⟩
            case measure => simp [intOf]; omega
      · have HF : r = s.size := by rw [← HJ.out]; exact restQ_end s j (by omega)
        have hmin : min (j : Int) (s.size : Int) = (s.size : Int) := by omega
        go_wp2
        go_ret
        exact ⟨ret_int (by omega), rfl⟩
  · have he : extS (s.data.toList.drop k) = scanC (s.data.toList.drop k) := by
      rcases Nat.lt_or_ge k s.size with h | h
      · exact ext_c0 s k h fun e => hq ⟨h, e⟩
      · exact ext_end s k h
    have hix := Tryd.strings_IndexByte (s.extract k s.size) 44 w
    have hle := scanC_le (s.data.toList.drop k)
    have hln : (s.data.toList.drop k).length = s.size - k := by rw [List.length_drop, len_bytes]
    rw [ext_tail, show ((44 : Int).toNat.toUInt8) = 44 from rfl, ix_scanC, hln] at hix
    rw [hln] at hle
    have hr : k + scanC (s.data.toList.drop k) = r := by rw [← he]; exact H.out
    clear H he hln
    generalize scanC (s.data.toList.drop k) = n at hix hle hr
    rcases Nat.lt_or_ge k s.size with hlt | hge
    · have h34 : ¬ ((s[k]'hlt).toNat : Int) = 34 := fun e => hq ⟨hlt, by omega⟩
      have f1 : (((s[k]'hlt).toNat : Int) != 34) = true := by rw [bne_iff_ne]; exact h34
      clear hq
      by_cases hn : n < s.size - k
      · rw [if_pos hn] at hix
        go_enter Tryd.func63, Tryd.ntmps63
        go_wp2
        go_step3
        go_wp2_with (go_at_call 87; refine hix.mono ?_)
        rintro e w' ⟨rfl, rfl⟩
        go_wp2
        rw [Exit.noGoto_ret]
        go_ret
        exact ⟨ret_int (by omega), rfl⟩
      · rw [if_neg hn] at hix
        go_enter Tryd.func63, Tryd.ntmps63
        go_wp2
        go_step3
        go_wp2_with (go_at_call 87; refine hix.mono ?_)
        rintro e w' ⟨rfl, rfl⟩
        go_wp2
        rw [Exit.noGoto_ret]
        go_ret
        exact ⟨ret_int (by omega), rfl⟩
    · obtain rfl : k = s.size := by omega
      clear hq hix
      have hix := Tryd.strings_IndexByte ByteArray.empty 44 w
      rw [show Lib.indexByte ByteArray.empty.data.toList ((44 : Int).toNat.toUInt8) = -1 from rfl] at hix
      go_enter Tryd.func63, Tryd.ntmps63
      go_wp2
      go_step3
      go_wp2_with (go_at_call 87; refine hix.mono ?_)
      rintro e w' ⟨rfl, rfl⟩
      go_wp2
      rw [Exit.noGoto_ret]
      go_ret
      exact ⟨ret_int (by omega), rfl⟩
set_option maxRecDepth 20000 in
theorem rend_c (s : ByteArray) (hs : s.size ≤ 34359738368) (k : Nat) (hk : k ≤ s.size) (r : Nat) (H : Hid (k + extS (s.data.toList.drop k) = r)) (w : World) :
    Calls Tryd.prog 69 #[.string s, .int .i64 k] w fun e w' => e = .returned (.int .i64 r) ∧ w = w' := by
  by_cases hq : ∃ h : k < s.size, (s[k]'h).toNat = 34
  · obtain ⟨hlt, h34⟩ := hq
    have HR := Lib.hid (show restQ s (k + 1) = r by rw [← ext_q s k hlt h34]; exact H.out)
    have h34' : ((s[k]'hlt).toNat : Int) = 34 := by omega
    clear H h34
    go_enter Tryd.func69, Tryd.ntmps69
    go_wp2
    go_loop [1] (fun i => ∃ j : Nat, j ≤ s.size + 1 ∧ i = .int .i64 j ∧ Hid (restQ s j = r)) (fun i => s.size + 1 - (intOf i).toNat)
    case atStart => exact ⟨k + 1, by omega, by go_num, HR⟩
    case round =>
      obtain ⟨j, hj, rfl, HJ⟩ := hrel
      by_cases hl : j < s.size
      · by_cases j34 : ((s[j]'hl).toNat : Int) = 34
        · have HF : r = j + 1 := by rw [← HJ.out]; exact restQ_quote s j hl (by omega)
          have hmin : min ((j : Int) + 1) (s.size : Int) = (j : Int) + 1 := by omega
          go_wp2
          go_ret
          exact ⟨ret_int (by omega), rfl⟩
        · have f1 : (((s[j]'hl).toNat : Int) != 34) = true := by rw [bne_iff_ne]; exact j34
          by_cases j92 : ((s[j]'hl).toNat : Int) = 92
          · have HS := Lib.hid (show restQ s (j + 2) = r by rw [← restQ_esc s j hl (by omega)]; exact HJ.out)
            go_wp2
            go_round
            case rel => exact ⟨j + 2, by omega, by go_num, HS⟩
            case measure => simp [intOf]; omega
          · have f2 : (((s[j]'hl).toNat : Int) == 92) = false := by rw [beq_eq_false_iff_ne]; exact j92
            have HS := Lib.hid (show restQ s (j + 1) = r by rw [← restQ_other s j hl (by omega) (by omega)]; exact HJ.out)
            go_wp2
            go_round
            case rel => exact ⟨j + 1, by omega, by go_num, HS⟩
            case measure => simp [intOf]; omega
      · have HF : r = s.size := by rw [← HJ.out]; exact restQ_end s j (by omega)
        have hmin : min ((j : Int) + 1) (s.size : Int) = (s.size : Int) := by omega
        go_wp2
        go_ret
        exact ⟨ret_int (by omega), rfl⟩
  · have he : extS (s.data.toList.drop k) = scanC (s.data.toList.drop k) := by
      rcases Nat.lt_or_ge k s.size with h | h
      · exact ext_c0 s k h fun e => hq ⟨h, e⟩
      · exact ext_end s k h
    have HR := Lib.hid (show k + scanC (s.data.toList.drop k) = r by rw [← he]; exact H.out)
    clear H he
    by_cases hlt : k < s.size
    · have h34 : ¬ ((s[k]'hlt).toNat : Int) = 34 := fun e => hq ⟨hlt, by omega⟩
      have f1 : (((s[k]'hlt).toNat : Int) == 34) = false := by rw [beq_eq_false_iff_ne]; exact h34
      clear hq
      go_enter Tryd.func69, Tryd.ntmps69
      go_wp2
      go_loop [1] (fun i => ∃ j : Nat, j ≤ s.size ∧ i = .int .i64 j ∧ Hid (j + scanC (s.data.toList.drop j) = r)) (fun i => s.size - (intOf i).toNat)
      case atStart => exact ⟨k, by omega, by go_num, HR⟩
      case round =>
        obtain ⟨j, hj, rfl, HJ⟩ := hrel
        by_cases hl : j < s.size
        · by_cases j44 : ((s[j]'hl).toNat : Int) = 44
          · have HF : r = j := by rw [← HJ.out, scanC_stop s j hl (by omega)]; rfl
            go_wp2
            go_ret
            exact ⟨ret_int (by omega), rfl⟩
          · have f1 : (((s[j]'hl).toNat : Int) != 44) = true := by rw [bne_iff_ne]; exact j44
            have HS := Lib.hid (show j + 1 + scanC (s.data.toList.drop (j + 1)) = r by rw [← HJ.out, scanC_next s j hl (by omega)]; omega)
            go_wp2
            go_round
            case rel => exact ⟨j + 1, by omega, by go_num, HS⟩
            case measure => simp [intOf]; omega
        · have HF : r = j := by rw [← HJ.out, drop_end s j (by omega)]; rfl
          go_wp2
          go_ret
          exact ⟨ret_int (by omega), rfl⟩
    · obtain rfl : k = s.size := by omega
      have HF : r = s.size := by rw [← HR.out, drop_end s _ (Nat.le_refl _)]; rfl
      clear hq HR
      go_enter Tryd.func69, Tryd.ntmps69
      go_wp2
      go_loop [1] (fun i => i = .int .i64 s.size) (fun _ => 0)
      case atStart => rfl
      case round =>
        obtain rfl := hrel
        go_wp2
        go_ret
        exact ⟨ret_int (by omega), rfl⟩
end Go.Proofs.YthdadalmgldppaaDoor
