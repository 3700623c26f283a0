/-
  THE CONTRACTS OF CLOCK, THIRD PART: shaped, pair, Parse. Conditions: those of each contract.
-/
import Derived.Test.YtnmapjflofoflaaClkWalksB
import Derived.Deep.QuietTactic
import Derived.BigQuiet
import Derived.Lib.IndexBytes
namespace Go.Proofs.Ytnmapjflofoflaa
open Go.RowKit
open Num Clk

theorem bytes_get (s : ByteArray) (k : Nat) (h : k < s.size) : s.data.toList[k]'(by simpa using h) = s[k]'h := by simp; rfl
theorem not_dig {c : UInt8} (h : isDig c = false) : (c.toNat : Int) < 48 ∨ 57 < (c.toNat : Int) := by
  have : ¬ (48 ≤ c.toNat ∧ c.toNat ≤ 57) := by rw [← isDig_iff, h]; simp
  omega

/-- The first place at which a text breaks a rule. -/
theorem first_bad (q : Nat → UInt8 → Bool) (s : ByteArray) : ∃ p : Nat, p ≤ s.size ∧ (∀ k (h : k < s.size), k < p → q k (s[k]'h) = true) ∧ ∀ h : p < s.size, q p (s[p]'h) = false := by
  suffices H : ∀ n, n ≤ s.size → (∀ k (h : k < s.size), k < s.size - n → q k (s[k]'h) = true) → ∃ p : Nat, p ≤ s.size ∧ (∀ k (h : k < s.size), k < p → q k (s[k]'h) = true) ∧ ∀ h : p < s.size, q p (s[p]'h) = false from
    H s.size (Nat.le_refl _) (fun k h hk => by omega)
  intro n
  induction n with
  | zero => intro _ h; exact ⟨s.size, Nat.le_refl _, fun k hk _ => h k hk (by omega), fun h => absurd h (by omega)⟩
  | succ n ih =>
    intro hn h
    by_cases hd : q (s.size - (n + 1)) (s[s.size - (n + 1)]'(by omega)) = true
    · refine ih (by omega) fun k hk hlt => ?_
      by_cases e : k = s.size - (n + 1)
      · subst e; exact hd
      · exact h k hk (by omega)
    · exact ⟨s.size - (n + 1), by omega, h, fun _ => by simpa using hd⟩

/-- The rule of a time's text at place i. -/
def okAt (i : Nat) (c : UInt8) : Bool := if i = 2 ∨ i = 5 then c == 58 else isDig c
def Shape (s : ByteArray) : Prop := s.size = 8 ∧ ∀ i (h : i < s.size), okAt i (s[i]'h) = true
theorem okAt_dot {i : Nat} {c : UInt8} (h : okAt i c = true) (hi : i = 2 ∨ i = 5) : (c.toNat : Int) = 58 := by
  unfold okAt at h
  rw [if_pos hi] at h
  have : c = 58 := by simpa using h
  rw [this]
  rfl
theorem okAt_dig {i : Nat} {c : UInt8} (h : okAt i c = true) (hi : ¬ (i = 2 ∨ i = 5)) : isDig c = true := by
  unfold okAt at h
  rwa [if_neg hi] at h
theorem badAt_dot {i : Nat} {c : UInt8} (h : okAt i c = false) (hi : i = 2 ∨ i = 5) : ¬ (c.toNat : Int) = 58 := by
  unfold okAt at h
  rw [if_pos hi] at h
  intro k
  have : c = 58 := UInt8.toNat.inj (by simpa using (by omega : c.toNat = 58))
  rw [this] at h
  simp at h
theorem badAt_dig {i : Nat} {c : UInt8} (h : okAt i c = false) (hi : ¬ (i = 2 ∨ i = 5)) : isDig c = false := by
  unfold okAt at h
  rwa [if_neg hi] at h

theorem three (pos : Nat) : (((pos : Int) == 2) = true ∧ (pos = 2 ∨ pos = 5)) ∨ (((pos : Int) == 2) = false ∧ ((pos : Int) == 5) = true ∧ (pos = 2 ∨ pos = 5)) ∨ (((pos : Int) == 2) = false ∧ ((pos : Int) == 5) = false ∧ ¬ (pos = 2 ∨ pos = 5)) := by
  by_cases h2 : pos = 2
  · subst h2
    exact .inl ⟨rfl, .inl rfl⟩
  · by_cases h5 : pos = 5
    · subst h5
      exact .inr (.inl ⟨rfl, rfl, .inr rfl⟩)
    · exact .inr (.inr ⟨by simp; omega, by simp; omega, by omega⟩)

set_option maxHeartbeats 2000000 in
theorem shaped_b (s : ByteArray) (b : Bool) (H : Hid ((Shape s ∧ b = true) ∨ (¬ Shape s ∧ b = false))) (w : World) :
    Calls Try.prog 29 #[.string s] w fun e w' => e = .returned (.bool b) ∧ Bl w w' := by
  by_cases h8 : (s.size : Int) = 8
  · obtain ⟨p, hp, hd, hn⟩ := first_bad okAt s
    have HD := Lib.hid hd
    have HN := Lib.hid hn
    clear hd hn
    have hs1 : 8 ≤ s.size := by omega
    have hs2 : s.size ≤ 8 := by omega
    go_enter Try.func29, Try.ntmps29
    go_wp2
    go_loopw [3, 4] (fun _ _ w' => ∃ pos : Nat, pos ≤ p ∧ w' = w.iter s pos) (fun _ _ w' => s.size - w'.iterPos w.heap.size)
    case atStart => exact ⟨0, Nat.zero_le _, rfl⟩
    case round =>
      obtain ⟨pos, hpos, rfl⟩ := hrel
      by_cases h1 : pos < p
      · have hps : pos < s.size := by omega
        have hok := HD.out pos hps h1
        rcases three pos with ⟨h2, hi⟩ | ⟨h2, h3, hi⟩ | ⟨h2, h3, hi⟩
        · have hb := okAt_dot hok hi
          clear hi
          have hnx : ∀ ty, (Instr.next (.pointer (some ⟨w.heap.size, 0, none⟩)) true ty).run Try.prog (w.iter s pos) = _ := fun ty => run_next_ascii w s pos ty hps (by omega)
          clear hok
          go_wp2
          go_roundw
          case rel => exact ⟨pos + 1, by omega, rfl⟩
          case measure => simp; omega
        · have hb := okAt_dot hok hi
          clear hi
          have hnx : ∀ ty, (Instr.next (.pointer (some ⟨w.heap.size, 0, none⟩)) true ty).run Try.prog (w.iter s pos) = _ := fun ty => run_next_ascii w s pos ty hps (by omega)
          clear hok
          go_wp2
          go_roundw
          case rel => exact ⟨pos + 1, by omega, rfl⟩
          case measure => simp; omega
        · have hb := dig_bd (okAt_dig hok hi)
          clear hi
          have hnx : ∀ ty, (Instr.next (.pointer (some ⟨w.heap.size, 0, none⟩)) true ty).run Try.prog (w.iter s pos) = _ := fun ty => run_next_ascii w s pos ty hps (by omega)
          clear hok
          go_wp2
          go_roundw
          case rel => exact ⟨pos + 1, by omega, rfl⟩
          case measure => simp; omega
      · obtain rfl : pos = p := by omega
        by_cases h2 : pos < s.size
        · have hbad := HN.out h2
          have HB : Hid (b = false) := by
            rcases H.out with ⟨hS, _⟩ | ⟨_, hb⟩
            · have := hS.2 pos h2
              rw [hbad] at this
              simp at this
            · exact hb
          rcases (show (((pos : Int) == 2) = true ∧ ¬ ((s[pos]'h2).toNat : Int) = 58) ∨ (((pos : Int) == 2) = false ∧ ((pos : Int) == 5) = true ∧ ¬ ((s[pos]'h2).toNat : Int) = 58) ∨ (((pos : Int) == 2) = false ∧ ((pos : Int) == 5) = false ∧ (((s[pos]'h2).toNat : Int) < 48 ∨ 57 < ((s[pos]'h2).toNat : Int))) by
            rcases three pos with ⟨g2, hi⟩ | ⟨g2, g3, hi⟩ | ⟨g2, g3, hi⟩
            · exact .inl ⟨g2, badAt_dot hbad hi⟩
            · exact .inr (.inl ⟨g2, g3, badAt_dot hbad hi⟩)
            · exact .inr (.inr ⟨g2, g3, not_dig (badAt_dig hbad hi)⟩)) with ⟨g2, g4⟩ | ⟨g2, g3, g4⟩ | ⟨g2, g3, g4 | g4⟩
          all_goals
            clear hbad
            by_cases h5 : (s[pos]'h2).toNat < 128
            · have hnx : ∀ ty, (Instr.next (.pointer (some ⟨w.heap.size, 0, none⟩)) true ty).run Try.prog (w.iter s pos) = _ := fun ty => run_next_ascii w s pos ty h2 h5
              go_wp2
              go_ret
              exact ⟨ret_bool HB.out.symm, bl_iter (bl_refl _) _ _⟩
            · have hnx : ∀ ty, (Instr.next (.pointer (some ⟨w.heap.size, 0, none⟩)) true ty).run Try.prog (w.iter s pos) = _ := fun ty => run_next_any w s pos ty h2
              have hh := decode_high s pos h2 (by omega)
              go_wp2
              all_goals
                go_ret
                exact ⟨ret_bool HB.out.symm, bl_iter (bl_refl _) _ _⟩
        · have hnx : ∀ ty, (Instr.next (.pointer (some ⟨w.heap.size, 0, none⟩)) true ty).run Try.prog (w.iter s pos) = _ := fun ty => run_next_end w s pos ty h2
          have HB : Hid (b = true) := by
            rcases H.out with ⟨_, hb⟩ | ⟨hS, _⟩
            · exact hb
            · exact absurd ⟨by omega, fun i hi => HD.out i hi (by omega)⟩ hS
          go_wp2
          go_ret
          exact ⟨ret_bool HB.out.symm, bl_iter (bl_refl _) _ _⟩
  · have HB : Hid (b = false) := by
      rcases H.out with ⟨hS, _⟩ | ⟨_, hb⟩
      · exact absurd (by rw [hS.1]; rfl) h8
      · exact hb
    go_enter Try.func29, Try.ntmps29
    go_wp2
    go_ret
    exact ⟨ret_bool HB.out.symm, bl_refl _⟩

end Go.Proofs.Ytnmapjflofoflaa
