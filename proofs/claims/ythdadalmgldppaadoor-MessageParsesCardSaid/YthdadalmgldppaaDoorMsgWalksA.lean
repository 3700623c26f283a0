/-
  THE CONTRACTS OF MESSAGE, FIRST PART: identifiers, in the program and in the reference. Conditions: those of each contract.
-/
import Derived.Test.YthdadalmgldppaaDoorMFldWalksI
import Derived.Test.YthdadalmgldppaaDoorMsgPlain3
namespace Go.Proofs.YthdadalmgldppaaDoor
open Go.RowKit
open Msg

/-! ### identifiers -/
theorem nameCh_cases (b : UInt8) : (nameCh b = true ∧ ((97 ≤ (b.toNat : Int) ∧ (b.toNat : Int) ≤ 122) ∨ (65 ≤ (b.toNat : Int) ∧ (b.toNat : Int) ≤ 90) ∨ (48 ≤ (b.toNat : Int) ∧ (b.toNat : Int) ≤ 57) ∨ (b.toNat : Int) = 45 ∨ (b.toNat : Int) = 95 ∨ (b.toNat : Int) = 46)) ∨
    (nameCh b = false ∧ ((b.toNat : Int) < 45 ∨ (b.toNat : Int) = 47 ∨ (57 < (b.toNat : Int) ∧ (b.toNat : Int) < 65) ∨ (90 < (b.toNat : Int) ∧ (b.toNat : Int) < 95) ∨ (b.toNat : Int) = 96 ∨ 122 < (b.toNat : Int))) := by
  unfold nameCh
  by_cases h1 : 97 ≤ (b.toNat : Int) ∧ (b.toNat : Int) ≤ 122
  · left; refine ⟨?_, .inl h1⟩; rw [decide_eq_true (by omega), decide_eq_true (by omega)]; rfl
  by_cases h2 : 65 ≤ (b.toNat : Int) ∧ (b.toNat : Int) ≤ 90
  · left; refine ⟨?_, .inr (.inl h2)⟩; simp; omega
  by_cases h3 : 48 ≤ (b.toNat : Int) ∧ (b.toNat : Int) ≤ 57
  · left; refine ⟨?_, .inr (.inr (.inl h3))⟩; simp; omega
  by_cases h4 : (b.toNat : Int) = 45
  · left; refine ⟨?_, .inr (.inr (.inr (.inl h4)))⟩; simp; omega
  by_cases h5 : (b.toNat : Int) = 95
  · left; refine ⟨?_, .inr (.inr (.inr (.inr (.inl h5))))⟩; simp; omega
  by_cases h6 : (b.toNat : Int) = 46
  · left; refine ⟨?_, .inr (.inr (.inr (.inr (.inr h6))))⟩; simp; omega
  · right
    refine ⟨?_, by omega⟩
    rw [Bool.eq_false_iff]
    simp
    omega
theorem all_upto {s : ByteArray} (h : ∀ k (h : k < s.size), nameCh (s[k]'h) = true) : s.data.toList.all nameCh = true := by
  rw [List.all_eq_true]
  intro b hb
  obtain ⟨k, hk⟩ := List.getElem?_of_mem hb
  have hlt : k < s.size := by have := (List.getElem?_eq_some_iff.1 hk).1; rw [len_bytes] at this; exact this
  rw [bytes_get? s k hlt] at hk
  rw [← Option.some.inj hk]
  exact h k hlt
theorem all_bad {s : ByteArray} {k : Nat} (hk : k < s.size) (h : nameCh (s[k]'hk) = false) : s.data.toList.all nameCh = false := by
  rw [Bool.eq_false_iff]
  intro hc
  have := List.all_eq_true.1 hc _ (List.mem_of_getElem? (bytes_get? s k hk))
  rw [h] at this
  cases this
set_option maxHeartbeats 1000000 in
theorem ident_c (s : ByteArray) (hs : s.size ≤ maxLen) (b : Bool) (H : Hid (nameB s.data.toList = b)) (w : World) :
    Calls Tryd.prog 24 #[.string s] w fun e w' => e = .returned (.bool b) ∧ w = w' := by
  unfold maxLen at hs
  have hn := len_bytes s
  go_enter Tryd.func24, Tryd.ntmps24
  go_wp2
  go_loop [3] (fun i => ∃ k : Nat, k ≤ s.size ∧ i = .int .i64 k ∧ Hid (∀ j (h : j < s.size), j < k → nameCh (s[j]'h) = true)) (fun i => s.size - (intOf i).toNat)
  case atStart => exact ⟨0, Nat.zero_le _, rfl, fun j h hj => absurd hj (by omega)⟩
  case round =>
    obtain ⟨k, hk, rfl, HK⟩ := hrel
    by_cases hlt : k < s.size
    · rcases nameCh_cases (s[k]'hlt) with ⟨h1, hc⟩ | ⟨h1, hc⟩
      · have HN := Lib.hid (show ∀ j (h : j < s.size), j < k + 1 → nameCh (s[j]'h) = true from fun j h hj => by
          by_cases e : j = k
          · subst e; exact h1
          · exact HK.out j h (by omega))
        clear h1
        rcases hc with h | h | h | h | h | h
        all_goals
          go_wp2
          go_round
          case rel => exact ⟨k + 1, by omega, by go_num, HN⟩
          case measure => simp [intOf]; omega
      · have HF := Lib.hid (show b = false by rw [← H.out]; unfold nameB; rw [all_bad hlt h1]; rfl)
        clear h1
        rcases hc with h | h | h | h | h | h
        all_goals
          go_wp2
          go_ret
          exact ⟨ret_bool HF.out.symm, rfl⟩
    · have HF := Lib.hid (show b = (decide (1 ≤ s.size) && decide (s.size ≤ 32)) by
        rw [← H.out]; unfold nameB; rw [all_upto (fun j h => HK.out j h (by omega)), hn]; rfl)
      go_wp2
      all_goals
        go_ret
        refine ⟨ret_bool ?_, rfl⟩
        rw [HF.out]
        rw [Bool.eq_iff_iff]
        simp
        omega
set_option maxHeartbeats 1000000 in
theorem rname_c (s : ByteArray) (hs : s.size ≤ maxLen) (b : Bool) (H : Hid (nameB s.data.toList = b)) (w : World) :
    Calls Tryd.prog 28 #[.string s] w fun e w' => e = .returned (.bool b) ∧ w = w' := by
  unfold maxLen at hs
  have hn := len_bytes s
  by_cases hlen : ¬ (1 ≤ s.size ∧ s.size ≤ 32)
  · have HF := Lib.hid (show b = false by
      rw [← H.out]; unfold nameB; rw [hn, Bool.and_eq_false_iff]; right; rw [Bool.and_eq_false_iff, decide_eq_false_iff_not, decide_eq_false_iff_not]; omega)
    rcases Nat.lt_or_ge s.size 1 with h | h
    · go_enter Tryd.func28, Tryd.ntmps28
      go_wp2
      go_ret
      exact ⟨ret_bool HF.out.symm, rfl⟩
    · have h2 : 32 < s.size := by omega
      go_enter Tryd.func28, Tryd.ntmps28
      go_wp2
      go_ret
      exact ⟨ret_bool HF.out.symm, rfl⟩
  have hl1 : 1 ≤ s.size := by omega
  have hl2 : s.size ≤ 32 := by omega
  go_enter Tryd.func28, Tryd.ntmps28
  go_wp2
  go_loop [3] (fun i => ∃ k : Nat, k ≤ s.size ∧ i = .int .i64 k ∧ Hid (∀ j (h : j < s.size), j < k → nameCh (s[j]'h) = true)) (fun i => s.size - (intOf i).toNat)
  case atStart => exact ⟨0, Nat.zero_le _, rfl, fun j h hj => absurd hj (by omega)⟩
  case round =>
    obtain ⟨k, hk, rfl, HK⟩ := hrel
    by_cases hlt : k < s.size
    · rcases nameCh_cases (s[k]'hlt) with ⟨h1, hc⟩ | ⟨h1, hc⟩
      · have HN := Lib.hid (show ∀ j (h : j < s.size), j < k + 1 → nameCh (s[j]'h) = true from fun j h hj => by
          by_cases e : j = k
          · subst e; exact h1
          · exact HK.out j h (by omega))
        clear h1
        rcases hc with h | h | h | h | h | h
        all_goals
          go_wp2
          go_round
          case rel => exact ⟨k + 1, by omega, by go_num, HN⟩
          case measure => simp [intOf]; omega
      · have HF := Lib.hid (show b = false by rw [← H.out]; unfold nameB; rw [all_bad hlt h1]; rfl)
        clear h1
        have q1 : (((s[k]'hlt).toNat : Int) == 45) = false := by rw [beq_eq_false_iff_ne]; omega
        have q2 : (((s[k]'hlt).toNat : Int) == 95) = false := by rw [beq_eq_false_iff_ne]; omega
        have q3 : (((s[k]'hlt).toNat : Int) == 46) = false := by rw [beq_eq_false_iff_ne]; omega
        rcases hc with h | h | h | h | h | h
        all_goals
          go_wp2
          all_goals (try (rename_i hx; exfalso; simp at hx; omega))
          go_ret
          exact ⟨ret_bool HF.out.symm, rfl⟩
    · have HF := Lib.hid (show b = true by
        rw [← H.out]; unfold nameB; rw [all_upto (fun j h => HK.out j h (by omega)), hn, decide_eq_true hl1, decide_eq_true hl2]; rfl)
      go_wp2
      go_ret
      exact ⟨ret_bool HF.out.symm, rfl⟩
end Go.Proofs.YthdadalmgldppaaDoor
