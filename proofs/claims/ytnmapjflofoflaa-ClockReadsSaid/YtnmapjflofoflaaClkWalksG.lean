/-
  THE CONTRACTS OF CLOCK, SEVENTH PART: leading, following; the reference's plain, value, below60. Conditions: those of each contract.
-/
import Derived.Test.YtnmapjflofoflaaClkWalksD
import Derived.Test.YtnmapjflofoflaaClkDur
namespace Go.Proofs.Ytnmapjflofoflaa
open Go.RowKit
open Num Clk

theorem size_nil {s : ByteArray} (h : s.size = 0) : s.data.toList = [] := List.length_eq_zero_iff.1 (by simpa using h)
theorem toList_nil {s : ByteArray} (h : s.size = 0) : s.toList = [] := by
  rw [ByteArray.toList_eq]
  exact size_nil h
theorem toList_ne {s : ByteArray} (h : ¬ s.size = 0) : ¬ s.toList = [] := by
  rw [ByteArray.toList_eq]
  intro e
  exact h (by simpa using congrArg List.length e)
theorem toList_ne' {s : ByteArray} (h : ¬ s.size = 0) : s.toList.isEmpty = false := by
  have := toList_ne h
  simpa using this
theorem allDig_iff (s : ByteArray) : allDig s.data.toList = true ↔ ∀ k (h : k < s.size), isDig (s[k]'h) = true := by
  simp only [allDig, List.all_eq_true]
  constructor
  · intro h k hk
    have := h (s.data.toList[k]'(by simpa using hk)) (List.getElem_mem _)
    rwa [bytes_get s k hk] at this
  · intro h c hc
    obtain ⟨k, hk, rfl⟩ := List.getElem_of_mem hc
    have hk' : k < s.size := by simpa using hk
    rw [bytes_get s k hk']
    exact h k hk'
theorem canon_parts (s : ByteArray) : canon s.data.toList = (allDig s.data.toList && !decide (s.size = 0) && (if h : 0 < s.size then decide ((s[0]'h).toNat ≠ 48) || decide (s.size = 1) else true)) := by
  by_cases h : 0 < s.size
  · have h' : 0 < s.data.toList.length := by simpa using h
    cases hl : s.data.toList with
    | nil => rw [hl] at h'; simp at h'
    | cons a t =>
      have ha : s[0]'h = a := by rw [← bytes_get s 0 h]; simp [hl]
      have hsz : s.size = t.length + 1 := by
        have : s.data.toList.length = s.size := by simp
        rw [hl] at this
        simpa using this.symm
      have h48 : (a = 48) ↔ a.toNat = 48 := ⟨fun e => by rw [e]; rfl, fun e => UInt8.toNat.inj (by simpa using e)⟩
      simp only [canon, ha, hsz]
      by_cases h1 : a = 48
      · cases t <;> simp [h1]
      · have h2 : ¬ a.toNat = 48 := fun e => h1 (h48.2 e)
        simp [h1, h2]
  · have h0 : s.size = 0 := by omega
    simp [canon, size_nil h0, h0]
theorem val_step (s : ByteArray) (k : Nat) (h : k < s.size) : val (s.data.toList.take (k + 1)) = 10 * val (s.data.toList.take k) + ((s[k]'h).toNat - 48) := by
  have hk : k < s.data.toList.length := by simpa using h
  rw [List.take_succ_eq_append_getElem hk, val_snoc, bytes_get s k h]

/-- What a text is with respect to 'canon'. -/
inductive Canon (s : ByteArray) : Bool → Prop
  | empty (h : s.size = 0) : Canon s false
  | zero (h : 0 < s.size) (h0 : ((s[0]'h).toNat : Int) = 48) (h1 : 1 < (s.size : Int)) : Canon s false
  | bad (h : 0 < s.size) (h0 : ((s[0]'h).toNat : Int) = 48 → ¬ 1 < (s.size : Int)) (p : Nat) (hp : p < s.size) (hd : Hid (∀ k (h : k < s.size), k < p → isDig (s[k]'h) = true)) (hn : Hid (isDig (s[p]'hp) = false)) : Canon s false
  | good (h : 0 < s.size) (h0 : ((s[0]'h).toNat : Int) = 48 → ¬ 1 < (s.size : Int)) (hd : Hid (∀ k (h : k < s.size), isDig (s[k]'h) = true)) : Canon s true
theorem canon_way (s : ByteArray) : Canon s (canon s.data.toList) := by
  rw [canon_parts]
  by_cases h0 : s.size = 0
  · have : decide (s.size = 0) = true := decide_eq_true h0
    rw [this, Bool.not_true, Bool.and_false, Bool.false_and]
    exact .empty h0
  have hps : 0 < s.size := by omega
  rw [dif_pos hps]
  by_cases hz : ((s[0]'hps).toNat : Int) = 48 ∧ 1 < (s.size : Int)
  · have e1 : decide ((s[0]'hps).toNat ≠ 48) = false := decide_eq_false (by omega)
    have e2 : decide (s.size = 1) = false := decide_eq_false (by omega)
    rw [e1, e2, Bool.or_false, Bool.and_false]
    exact .zero hps hz.1 hz.2
  have hz' : ((s[0]'hps).toNat : Int) = 48 → ¬ 1 < (s.size : Int) := fun a b => hz ⟨a, b⟩
  have e1 : (decide ((s[0]'hps).toNat ≠ 48) || decide (s.size = 1)) = true := by
    by_cases k : (s[0]'hps).toNat = 48
    · have := hz' (by omega)
      simp
      right
      omega
    · simp [k]
  have e2 : decide (s.size = 0) = false := decide_eq_false h0
  rw [e1, e2, Bool.not_false, Bool.and_true, Bool.and_true]
  obtain ⟨p, hp, hd, hn⟩ := first_bad (fun _ c => isDig c) s
  by_cases hlt : p < s.size
  · have : allDig s.data.toList = false := by
      rw [Bool.eq_false_iff, Ne, allDig_iff]
      intro k
      have := k p hlt
      rw [hn hlt] at this
      simp at this
    rw [this]
    exact .bad hps hz' p hlt hd (hn hlt)
  · have hall : ∀ k (h : k < s.size), isDig (s[k]'h) = true := fun k hk => hd k hk (by omega)
    rw [(allDig_iff s).2 hall]
    exact .good hps hz' hall

set_option maxHeartbeats 2000000 in
theorem leading_c (s : ByteArray) (n : Int) (ok : Bool) (H : Hid (leadS s.data.toList = (n, ok))) (hs : s.size ≤ maxLen) (w : World) :
    Calls Try.prog 36 #[.string s] w fun e w' => e = .returned (.tuple #[.int .i64 n, .bool ok]) ∧ Bl w w' := by
  unfold maxLen at hs
  have hw := canon_way s
  have H' := H.out
  unfold leadS at H'
  generalize hc : canon s.data.toList = c at *
  cases hw with
  | empty h =>
    rw [if_neg (by simp), Prod.mk.injEq] at H'
    obtain ⟨rfl, rfl⟩ := H'
    have hne := toList_nil h
    clear H hc
    go_enter Try.func36, Try.ntmps36
    go_wp2
    go_ret2
    exact ⟨rfl, bl_refl _⟩
  | zero h h0 h1 =>
    rw [if_neg (by simp), Prod.mk.injEq] at H'
    obtain ⟨rfl, rfl⟩ := H'
    have hne := toList_ne (s := s) (by omega)
    have hne' := toList_ne' (s := s) (by omega)
    clear H hc
    go_enter Try.func36, Try.ntmps36
    go_wp2
    go_ret2
    exact ⟨rfl, bl_refl _⟩
  | bad h h0 p hp hd hn =>
    rw [if_neg (by simp), Prod.mk.injEq] at H'
    obtain ⟨rfl, rfl⟩ := H'
    have hne := toList_ne (s := s) (by omega)
    have hne' := toList_ne' (s := s) (by omega)
    clear H hc
    have hz : (((s[0]'h).toNat : Int) = 48 ∧ ¬ 1 < (s.size : Int)) ∨ (¬ ((s[0]'h).toNat : Int) = 48 ∧ ¬ 1 < (s.size : Int)) ∨ (¬ ((s[0]'h).toNat : Int) = 48 ∧ 1 < (s.size : Int)) := by
      by_cases k : ((s[0]'h).toNat : Int) = 48
      · exact .inl ⟨k, h0 k⟩
      · omega
    clear h0
    rcases hz with ⟨k1, k2⟩ | ⟨k1, k2⟩ | ⟨k1, k2⟩
    all_goals
      have kb' : (((s[0]'h).toNat : Int) == 48) = decide (((s[0]'h).toNat : Int) = 48) := by rw [Bool.eq_iff_iff]; simp
      simp only [k1, decide_true, decide_false] at kb'
      go_enter Try.func36, Try.ntmps36
      go_wp2
      go_loopw [4] (fun n w' => ∃ pos m : Nat, pos ≤ p ∧ n = .int .i64 m ∧ m ≤ 1000000 ∧ Hid (m = min 1000000 (val (s.data.toList.take pos))) ∧ w' = w.iter s pos) (fun _ w' => s.size - w'.iterPos w.heap.size)
      case atStart => exact ⟨0, 0, Nat.zero_le _, rfl, by omega, rfl, rfl⟩
      case round =>
        obtain ⟨pos, m, hpos, rfl, hm, HM, rfl⟩ := hrel
        by_cases h1 : pos < p
        · have hps : pos < s.size := by omega
          have hdg := dig_bd (hd.out pos hps h1)
          have hnx : ∀ ty, (Instr.next (.pointer (some ⟨w.heap.size, 0, none⟩)) true ty).run Try.prog (w.iter s pos) = _ := fun ty => run_next_ascii w s pos ty hps (by omega)
          have HS := Lib.hid (val_step s pos hps)
          go_wp2
          all_goals
            go_roundw
            case rel => exact ⟨pos + 1, min 1000000 (10 * m + ((s[pos]'hps).toNat - 48)), by omega, by apply congrArg (Value.int IntKind.i64); omega, by omega, by have := HM.out; show _ = _; rw [HS.out]; omega, rfl⟩
            case measure => first | (simp; done) | (simp; omega)
        · obtain rfl : pos = p := by omega
          have hnd := not_dig hn.out
          by_cases h3 : (s[pos]'hp).toNat < 128
          · have hnx : ∀ ty, (Instr.next (.pointer (some ⟨w.heap.size, 0, none⟩)) true ty).run Try.prog (w.iter s pos) = _ := fun ty => run_next_ascii w s pos ty hp h3
            rcases hnd with hnd | hnd
            all_goals
              go_wp2
              go_ret2
              exact ⟨rfl, bl_iter (bl_refl _) _ _⟩
          · have hnx : ∀ ty, (Instr.next (.pointer (some ⟨w.heap.size, 0, none⟩)) true ty).run Try.prog (w.iter s pos) = _ := fun ty => run_next_any w s pos ty hp
            have hh := decode_high s pos hp (by omega)
            go_wp2
            all_goals
              go_ret2
              exact ⟨rfl, bl_iter (bl_refl _) _ _⟩
  | good h h0 hd =>
    rw [if_pos rfl, Prod.mk.injEq] at H'
    obtain ⟨rfl, rfl⟩ := H'
    have hne := toList_ne (s := s) (by omega)
    have hne' := toList_ne' (s := s) (by omega)
    clear H hc
    have hz : (((s[0]'h).toNat : Int) = 48 ∧ ¬ 1 < (s.size : Int)) ∨ (¬ ((s[0]'h).toNat : Int) = 48 ∧ ¬ 1 < (s.size : Int)) ∨ (¬ ((s[0]'h).toNat : Int) = 48 ∧ 1 < (s.size : Int)) := by
      by_cases k : ((s[0]'h).toNat : Int) = 48
      · exact .inl ⟨k, h0 k⟩
      · omega
    clear h0
    rcases hz with ⟨k1, k2⟩ | ⟨k1, k2⟩ | ⟨k1, k2⟩
    all_goals
      have kb' : (((s[0]'h).toNat : Int) == 48) = decide (((s[0]'h).toNat : Int) = 48) := by rw [Bool.eq_iff_iff]; simp
      simp only [k1, decide_true, decide_false] at kb'
      go_enter Try.func36, Try.ntmps36
      go_wp2
      go_loopw [4] (fun n w' => ∃ pos m : Nat, pos ≤ s.size ∧ n = .int .i64 m ∧ m ≤ 1000000 ∧ Hid (m = min 1000000 (val (s.data.toList.take pos))) ∧ w' = w.iter s pos) (fun _ w' => s.size - w'.iterPos w.heap.size)
      case atStart => exact ⟨0, 0, Nat.zero_le _, rfl, by omega, rfl, rfl⟩
      case round =>
        obtain ⟨pos, m, hpos, rfl, hm, HM, rfl⟩ := hrel
        by_cases h1 : pos < s.size
        · have hps : pos < s.size := by omega
          have hdg := dig_bd (hd.out pos hps)
          have hnx : ∀ ty, (Instr.next (.pointer (some ⟨w.heap.size, 0, none⟩)) true ty).run Try.prog (w.iter s pos) = _ := fun ty => run_next_ascii w s pos ty hps (by omega)
          have HS := Lib.hid (val_step s pos hps)
          go_wp2
          all_goals
            go_roundw
            case rel => exact ⟨pos + 1, min 1000000 (10 * m + ((s[pos]'hps).toNat - 48)), by omega, by apply congrArg (Value.int IntKind.i64); omega, by omega, by have := HM.out; show _ = _; rw [HS.out]; omega, rfl⟩
            case measure => first | (simp; done) | (simp; omega)
        · have hnx : ∀ ty, (Instr.next (.pointer (some ⟨w.heap.size, 0, none⟩)) true ty).run Try.prog (w.iter s pos) = _ := fun ty => run_next_end w s pos ty h1
          have HE := Lib.hid (show (m : Int) = ((min 1000000 (val s.data.toList) : Nat) : Int) by rw [HM.out, List.take_of_length_le (by simp; omega)])
          go_wp2
          go_ret2
          exact ⟨ret2_int (by rw [HE.out]), bl_iter (bl_refl _) _ _⟩
end Go.Proofs.Ytnmapjflofoflaa
