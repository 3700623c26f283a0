/-
  THE CONTRACTS OF DATE, SIXTH PART: FormatMoment, number, value, shaped. Conditions: those of each contract.
-/
import Derived.Test.YthdadalmgldppaaDoorDaDatWalksE
import Derived.Deep.QuietTactic
import Derived.BigQuiet
namespace Go.Proofs.YthdadalmgldppaaDoor.Da
open Go.RowKit
open Num Clk Dat

/-! ### FormatMoment -/
theorem mfmt_cases (a : Int) : (0 ≤ a ∧ a < 3155760000 ∧ mfmt a = (mtext a, 0)) ∨ (¬ (0 ≤ a ∧ a < 3155760000) ∧ mfmt a = ([], 11)) := by
  unfold mfmt
  by_cases h : 0 ≤ a ∧ a < 3155760000
  · exact .inl ⟨h.1, h.2, if_pos h⟩
  · exact .inr ⟨h, if_neg h⟩
theorem mtext_cat {a : Int} {l b c : List UInt8} (h : mtext a = l) (hb : dtext (a / 86400) = b) (hc : clockText (a % 86400).toNat = c) : (⟨b.toArray⟩ ++ ⟨#[84]⟩ ++ ⟨c.toArray⟩ : ByteArray) = ⟨l.toArray⟩ := by
  subst h
  subst hb
  subst hc
  apply ByteArray.ext
  unfold mtext
  simp
theorem dtext_len (d : Int) : (dtext d).length = 10 := rfl
theorem clockText_len (t : Nat) : (clockText t).length = 8 := rfl
theorem val_bd {l : List UInt8} (h : allDig l = true) (k : Nat) (hk : l.length ≤ k) : val l < 10 ^ k := by
  induction k generalizing l with
  | zero =>
    obtain rfl : l = [] := List.length_eq_zero_iff.1 (by omega)
    simp [val]
  | succ k ih =>
    rcases snoc_cases l with rfl | ⟨m, c, rfl⟩
    · rw [val_nil]; exact Nat.pow_pos (by decide)
    · rw [allDig_snoc, Bool.and_eq_true] at h
      have := ih h.1 (by simp at hk; omega)
      have hc := (isDig_iff c).1 h.2
      rw [val_snoc, Nat.pow_succ]
      omega
theorem ret_ib {k : IntKind} {n x : Int} {b y : Bool} (h1 : n = x) (h2 : b = y) : Ending.returned (.tuple #[.int k x, .bool y]) = .returned (.tuple #[.int k n, .bool b]) := by rw [h1, h2]
def numS (l : List UInt8) : Int × Bool := if allDig l = true then ((val l : Int), true) else (0, false)
theorem take_snoc' (s : ByteArray) (k : Nat) (h : k < s.size) : s.data.toList.take (k + 1) = s.data.toList.take k ++ [s[k]] := by
  rw [List.take_succ_eq_append_getElem (by simpa using h)]; rfl
theorem not_allDig (s : ByteArray) (k : Nat) (h : k < s.size) (hc : isDig s[k] = false) : allDig s.data.toList = false := by
  have := take_snoc' s k h
  have e : s.data.toList = s.data.toList.take (k + 1) ++ s.data.toList.drop (k + 1) := (List.take_append_drop _ _).symm
  rw [e, this]
  simp [allDig, hc]
theorem dig_or {c : UInt8} : (isDig c = true ∧ 48 ≤ (c.toNat : Int) ∧ (c.toNat : Int) ≤ 57) ∨ (isDig c = false ∧ ((c.toNat : Int) < 48 ∨ (48 ≤ (c.toNat : Int) ∧ 57 < (c.toNat : Int)))) := by
  cases h : isDig c with
  | true => exact .inl ⟨rfl, by have := (isDig_iff c).1 h; omega⟩
  | false =>
    refine .inr ⟨rfl, ?_⟩
    have : ¬ (48 ≤ c.toNat ∧ c.toNat ≤ 57) := fun k => by rw [(isDig_iff c).2 k] at h; simp at h
    omega
set_option maxRecDepth 20000 in
set_option maxHeartbeats 2000000 in
theorem number_c (s : ByteArray) (n : Int) (b : Bool) (H : Hid (numS s.data.toList = (n, b))) (hs : s.size ≤ 4) (w : World) :
    Calls Tryd.prog 106 #[.string s] w fun e w' => e = .returned (.tuple #[.int .i64 n, .bool b]) ∧ w = w' := by
  go_enter Tryd.func106, Tryd.ntmps106
  go_wp2
  go_loop [4, 5] (fun x i => ∃ k : Nat, k ≤ s.size ∧ i = .int .i64 k ∧ x = .int .i64 (val (s.data.toList.take k)) ∧ allDig (s.data.toList.take k) = true) (fun _ i => s.size - (intOf i).toNat)
  case atStart => exact ⟨0, Nat.zero_le _, rfl, rfl, rfl⟩
  case round =>
    obtain ⟨k, hk, rfl, rfl, hd⟩ := hrel
    have HD := Lib.hid hd
    clear hd
    by_cases hlt : k < s.size
    · have hv := val_bd HD.out 3 (by rw [List.length_take]; omega)
      have e7 := fun W => idx_c s (k : Int) k rfl hlt W
      have HV := Lib.hid (take_snoc' s k hlt)
      have HN := Lib.hid (fun hc => not_allDig s k hlt hc)
      obtain ⟨c, hc⟩ : ∃ c, s[k] = c := ⟨_, rfl⟩
      rw [hc] at e7 HV HN
      have hcs := Lib.hid hc
      clear hc
      obtain ⟨v, hv'⟩ : ∃ v, val (s.data.toList.take k) = v := ⟨_, rfl⟩
      rw [hv'] at hv ⊢
      have HVV := Lib.hid hv'
      clear hv'
      rcases dig_or (c := c) with ⟨hdc, c0, c1⟩ | ⟨hdc, c0 | ⟨c0, c1⟩⟩
      · have HDC := Lib.hid hdc
        clear hdc
        have hv3 : (v : Int) ≤ 1000 := by omega
        have E1 := IntWalk.u8_in ((c.toNat : Int) - 48) (by omega)
        go_wp2
        go_round
        case rel => exact ⟨k + 1, by omega, by go_num, by rw [HV.out, val_snoc, HVV.out]; exact congrArg _ (by omega), by rw [HV.out, allDig_snoc, HD.out, HDC.out]; rfl⟩
        case measure => simp [intOf]; omega
      all_goals
        have HB : Hid (n = 0 ∧ b = false) := by
          have := H.out
          unfold numS at this
          rw [HN.out hdc] at this
          simp at this
          exact ⟨this.1.symm, this.2⟩
        clear hdc
        go_wp2
        go_ret2
        exact ⟨ret_ib HB.out.1 HB.out.2, rfl⟩
    · have HB : Hid (n = val (s.data.toList.take k) ∧ b = true) := by
        have := H.out
        have he := HD.out
        rw [List.take_of_length_le (by simp; omega)] at he ⊢
        unfold numS at this
        rw [if_pos he] at this
        exact ⟨((Prod.mk.inj this).1).symm, ((Prod.mk.inj this).2).symm⟩
      go_wp2
      go_ret2
      exact ⟨ret_ib HB.out.1 HB.out.2, rfl⟩

set_option maxRecDepth 20000 in
set_option maxHeartbeats 2000000 in
theorem value_c (s : ByteArray) (n : Int) (H : Hid (numS s.data.toList = (n, true))) (hs : s.size ≤ 4) (w : World) :
    Calls Tryd.prog 74 #[.string s] w fun e w' => e = .returned (.int .i64 n) ∧ w = w' := by
  have hall : Hid (allDig s.data.toList = true) := by
    have := H.out
    unfold numS at this
    split at this
    · assumption
    · simp at this
  have hn : Hid (n = val s.data.toList) := by
    have := H.out
    unfold numS at this
    rw [if_pos hall.out] at this
    exact ((Prod.mk.inj this).1).symm
  go_enter Tryd.func74, Tryd.ntmps74
  go_wp2
  go_loop [3, 4] (fun x i => ∃ k : Nat, k ≤ s.size ∧ i = .int .i64 k ∧ x = .int .i64 (val (s.data.toList.take k)) ∧ allDig (s.data.toList.take k) = true) (fun _ i => s.size - (intOf i).toNat)
  case atStart => exact ⟨0, Nat.zero_le _, rfl, rfl, rfl⟩
  case round =>
    obtain ⟨k, hk, rfl, rfl, hd⟩ := hrel
    have HD := Lib.hid hd
    clear hd
    by_cases hlt : k < s.size
    · have hv := val_bd HD.out 3 (by rw [List.length_take]; omega)
      have e7 := fun W => idx_c s (k : Int) k rfl hlt W
      have HV := Lib.hid (take_snoc' s k hlt)
      have HN := Lib.hid (fun hc => not_allDig s k hlt hc)
      obtain ⟨c, hc⟩ : ∃ c, s[k] = c := ⟨_, rfl⟩
      rw [hc] at e7 HV HN
      have hcs := Lib.hid hc
      clear hc
      obtain ⟨v, hv'⟩ : ∃ v, val (s.data.toList.take k) = v := ⟨_, rfl⟩
      rw [hv'] at hv ⊢
      have HVV := Lib.hid hv'
      clear hv'
      rcases dig_or (c := c) with ⟨hdc, c0, c1⟩ | ⟨hdc, _⟩
      · have HDC := Lib.hid hdc
        clear hdc
        have hv3 : (v : Int) ≤ 1000 := by omega
        have hk4 : (k : Int) < 4 := by omega
        have E1 := IntWalk.u8_in ((c.toNat : Int) - 48) (by omega)
        go_wp2
        go_round
        case rel => exact ⟨k + 1, by omega, by go_num, by rw [HV.out, val_snoc, HVV.out]; exact congrArg _ (by omega), by rw [HV.out, allDig_snoc, HD.out, HDC.out]; rfl⟩
        case measure => simp [intOf]; omega
      · have := HN.out hdc
        rw [hall.out] at this
        simp at this
    · have HB : Hid (val (s.data.toList.take k) = n) := by
        show _ = _
        rw [List.take_of_length_le (by simp; omega), hn.out]
      go_wp2
      go_ret
      exact ⟨ret_int HB.out, rfl⟩
end Go.Proofs.YthdadalmgldppaaDoor.Da
