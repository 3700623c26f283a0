/-
  THE CONTRACTS OF FIELD, FOURTH PART: the digits' values; escape and one. Conditions: those of each contract.
-/
import Derived.Test.YthdadalmgldppaaDoorMFldWalksC
import Derived.Lib.MinMax
namespace Go.Proofs.YthdadalmgldppaaDoor
open Go.RowKit
open Fld

theorem hexd_digV {b : UInt8} (h : digV b < 16) : hexd (digV b) = b := by
  refine UInt8.toNat.inj ?_
  rw [hexd_val h]
  unfold digV at h ⊢
  split at h
  · rename_i h1
    rw [if_pos h1]
    split <;> omega
  · rename_i h1
    split at h
    · rename_i h2
      rw [if_neg h1, if_pos h2]
      split <;> omega
    · omega
theorem digV_le (b : UInt8) : digV b ≤ 16 := by
  unfold digV
  split
  · omega
  · split <;> omega
def digStr : List UInt8 := [48, 49, 50, 51, 52, 53, 54, 55, 56, 57, 97, 98, 99, 100, 101, 102]
theorem ix_fin : ∀ n : Fin 256, Lib.indexByte digStr (UInt8.ofNat n.val) = if digV (UInt8.ofNat n.val) < 16 then (digV (UInt8.ofNat n.val) : Int) else -1 := by decide +kernel
theorem ix_dig (b : UInt8) : Lib.indexByte digStr b = if digV b < 16 then (digV b : Int) else -1 := by
  have := ix_fin ⟨b.toNat, b.toNat_lt⟩
  rw [show UInt8.ofNat (⟨b.toNat, b.toNat_lt⟩ : Fin 256).val = b from UInt8.ofNat_toNat] at this
  exact this
set_option maxRecDepth 20000 in
set_option maxHeartbeats 1000000 in
theorem nibble_c (b : UInt8) (w : World) :
    Calls Tryd.prog 114 #[.int .u8 b.toNat] w fun e w' => e = .returned (.int .u8 (digV b)) ∧ w = w' := by
  have hix := Tryd.strings_IndexByte ⟨#[48, 49, 50, 51, 52, 53, 54, 55, 56, 57, 97, 98, 99, 100, 101, 102]⟩ (b.toNat : Int) w
  rw [show ((b.toNat : Int).toNat.toUInt8) = b from UInt8.ofNat_toNat] at hix
  rw [show (⟨#[48, 49, 50, 51, 52, 53, 54, 55, 56, 57, 97, 98, 99, 100, 101, 102]⟩ : ByteArray).data.toList = digStr from rfl, ix_dig b] at hix
  by_cases h : digV b < 16
  · rw [if_pos h] at hix
    obtain ⟨v, hv⟩ : ∃ v, digV b = v := ⟨_, rfl⟩
    rw [hv] at hix h ⊢
    go_enter Tryd.func114, Tryd.ntmps114
    go_wp2_with (go_at_call 87; refine hix.mono ?_)
    rintro e w' ⟨rfl, rfl⟩
    go_wp2
    go_ret
    exact ⟨ret_int (by omega), rfl⟩
  · have h16 : digV b = 16 := by have := digV_le b; omega
    rw [if_neg h] at hix
    rw [h16]
    go_enter Tryd.func114, Tryd.ntmps114
    go_wp2_with (go_at_call 87; refine hix.mono ?_)
    rintro e w' ⟨rfl, rfl⟩
    go_wp2
    go_ret
    exact ⟨ret_int (by decide), rfl⟩
set_option maxRecDepth 20000 in
theorem rdigit_c (b : UInt8) (w : World) :
    Calls Tryd.prog 108 #[.int .u8 b.toNat] w fun e w' => e = .returned (.int .u8 (digV b)) ∧ w = w' := by
  go_enter Tryd.func108, Tryd.ntmps108
  go_wp2
  go_loop [3] (fun i => ∃ k : Nat, k ≤ 16 ∧ i = .int .u8 k ∧ Hid (∀ m, m < k → hexd m ≠ b)) (fun i => 16 - (intOf i).toNat)
  case atStart => exact ⟨0, by omega, rfl, fun m hm => absurd hm (by omega)⟩
  case round =>
    obtain ⟨k, hk, rfl, HK⟩ := hrel
    by_cases hlt : k < 16
    · by_cases hh : ((hexd k).toNat : Int) = (b.toNat : Int)
      · have HV := Lib.hid (show digV b = k by rw [← UInt8.toNat.inj (Int.ofNat.inj hh), digV_hexd hlt])
        go_wp2_with (go_at_call 82; refine (rhex_c k hlt _).mono ?_)
        go_ret
        exact ⟨ret_int (by rw [HV.out]), rfl⟩
      · go_wp2_with (go_at_call 82; refine (rhex_c k hlt _).mono ?_)
        go_round
        case rel => exact ⟨k + 1, by omega, by go_num, fun m hm => by
          by_cases e : m = k
          · subst e; intro h; rw [h] at hh; exact hh rfl
          · exact HK.out m (by omega)⟩
        case measure => simp [intOf]; omega
    · have HV := Lib.hid (show digV b = 16 by
        have := digV_le b
        rcases Nat.lt_or_ge (digV b) 16 with h | h
        · exact absurd (hexd_digV h) (HK.out _ (by omega))
        · omega)
      go_wp2
      go_ret
      exact ⟨ret_int (by rw [HV.out]; rfl), rfl⟩

/-! ### escape and one -/
theorem one_short {s : ByteArray} (h0 : s.size = 1) (h : (s[0]'(by omega)).toNat = 92) : oneS s.data.toList = none := by
  have hl : s.data.toList.length = 1 := by simpa using h0
  match hm : s.data.toList, hl with
  | [a], _ =>
    have e0 := bytes_get? s 0 (by omega)
    rw [hm] at e0
    have e0 : a = s[0]'(by omega) := by simpa using e0
    simp [oneS, e0, h]
theorem one_two {s : ByteArray} (h2 : 2 ≤ s.size) (h : (s[0]'(by omega)).toNat = 92) (hq : (s[1]'(by omega)).toNat = 34 ∨ (s[1]'(by omega)).toNat = 92) : oneS s.data.toList = some (s[1]'(by omega), 2) := by
  have hl : 2 ≤ s.data.toList.length := by simpa using h2
  match hm : s.data.toList, hl with
  | a :: b :: r, _ =>
    have e0 := bytes_get? s 0 (by omega)
    have e1 := bytes_get? s 1 (by omega)
    rw [hm] at e0 e1
    have e0 : a = s[0]'(by omega) := by simpa using e0
    have e1 : b = s[1]'(by omega) := by simpa using e1
    rw [e0, e1]
    simp [oneS, h, hq]
theorem one_other {s : ByteArray} (h2 : 2 ≤ s.size) (h : (s[0]'(by omega)).toNat = 92) (h34 : ¬ (s[1]'(by omega)).toNat = 34) (h92 : ¬ (s[1]'(by omega)).toNat = 92) (hx : ¬ (s[1]'(by omega)).toNat = 120 ∨ s.size < 4) : oneS s.data.toList = none := by
  have hl : 2 ≤ s.data.toList.length := by simpa using h2
  have hsz : s.data.toList.length = s.size := by simp
  match hm : s.data.toList, hl with
  | a :: b :: r, _ =>
    have e0 := bytes_get? s 0 (by omega)
    have e1 := bytes_get? s 1 (by omega)
    rw [hm] at e0 e1 hsz
    have e0 : a = s[0]'(by omega) := by simpa using e0
    have e1 : b = s[1]'(by omega) := by simpa using e1
    rw [e0, e1]
    rcases hx with hx | hx
    · simp [oneS, h, h34, h92, hx]
    · match r, hsz with
      | [], _ => simp [oneS, h, h34, h92]
      | [x], _ => simp [oneS, h, h34, h92]
      | x :: y :: t, hsz => simp at hsz; omega
theorem one_hex {s : ByteArray} (h4 : 4 ≤ s.size) (h : (s[0]'(by omega)).toNat = 92) (hx : (s[1]'(by omega)).toNat = 120) :
    oneS s.data.toList = if digV (s[2]'(by omega)) < 16 ∧ digV (s[3]'(by omega)) < 16 then some (UInt8.ofNat (16 * digV (s[2]'(by omega)) + digV (s[3]'(by omega))), 4) else none := by
  have hl : 4 ≤ s.data.toList.length := by simpa using h4
  match hm : s.data.toList, hl with
  | a :: b :: c :: d :: r, _ =>
    have e0 := bytes_get? s 0 (by omega)
    have e1 := bytes_get? s 1 (by omega)
    have e2 := bytes_get? s 2 (by omega)
    have e3 := bytes_get? s 3 (by omega)
    rw [hm] at e0 e1 e2 e3
    have e0 : a = s[0]'(by omega) := by simpa using e0
    have e1 : b = s[1]'(by omega) := by simpa using e1
    have e2 : c = s[2]'(by omega) := by simpa using e2
    have e3 : d = s[3]'(by omega) := by simpa using e3
    rw [e0, e1, e2, e3]
    simp [oneS, h, hx]
theorem one_plain {s : ByteArray} (h1 : 0 < s.size) (h : ¬ (s[0]'h1).toNat = 92) : oneS s.data.toList = some (s[0]'h1, 1) := by
  have hl : 1 ≤ s.data.toList.length := by rw [Array.length_toList]; exact h1
  match hm : s.data.toList, hl with
  | a :: r, _ =>
    have e0 := bytes_get? s 0 (by omega)
    rw [hm] at e0
    have e0 : a = s[0]'(by omega) := by simpa using e0
    rw [e0]
    simp [oneS, h]
end Go.Proofs.YthdadalmgldppaaDoor
