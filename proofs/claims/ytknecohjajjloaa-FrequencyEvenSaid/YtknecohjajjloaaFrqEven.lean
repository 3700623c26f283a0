/-
  WHAT FREQUENCYEVEN NEEDS, IN PLAIN LEAN: the starts of a sound frequency, the times of a valid trip. Conditions: those of each lemma.
-/
import Derived.Test.YtknecohjajjloaaFrqAcc
import Derived.Test.YtknecohjajjloaaFrqValid
namespace Go.Proofs.Ytknecohjajjloaa
open Frq

theorem valid_step {cs : List CallD} (h : validT cs = true) {k : Nat} {x : CallD} (hx : cs[k]? = some x) : x.arrive ≤ x.depart ∧ ∀ j y, k = j + 1 → cs[j]? = some y → y.depart ≤ x.arrive := by
  unfold validT at h
  simp only [Bool.and_eq_true] at h
  have h4 := h.2.2.2
  rw [List.all_eq_true] at h4
  have hk : k < cs.length := (List.getElem?_eq_some_iff.1 hx).1
  have h5 := h4 k (List.mem_range.2 hk)
  refine ⟨?_, fun j y hj hy => ?_⟩
  · unfold stepB at h5
    rw [hx] at h5
    simp only [Bool.and_eq_true, decide_eq_true_eq] at h5
    exact h5.1
  · subst hj
    rw [stepB_s hx hy] at h5
    simp only [Bool.and_eq_true, decide_eq_true_eq] at h5
    exact h5.2
theorem valid_mono {cs : List CallD} (h : validT cs = true) {i : Nat} {x : CallD} (hx : cs[i]? = some x) : ∀ (d : Nat) (y : CallD), cs[i + d]? = some y → x.arrive ≤ y.arrive ∧ x.depart ≤ y.depart
  | 0, y, hy => by
    rw [Nat.add_zero, hx] at hy
    cases hy
    exact ⟨Int.le_refl _, Int.le_refl _⟩
  | d + 1, y, hy => by
    have hlt : i + (d + 1) < cs.length := (List.getElem?_eq_some_iff.1 hy).1
    obtain ⟨z, hz⟩ : ∃ z, cs[i + d]? = some z := ⟨_, List.getElem?_eq_getElem (by omega)⟩
    have h1 := valid_mono h hx d z hz
    have h2 := (valid_step h hy).2 (i + d) z rfl hz
    have h3 := (valid_step h hy).1
    have h4 := (valid_step h hz).1
    omega
theorem valid_times {cs : List CallD} (h : validT cs = true) {k : Nat} {x : CallD} (hx : cs[k]? = some x) : 0 ≤ x.arrive ∧ x.arrive ≤ x.depart ∧ x.depart ≤ 172800 := by
  have hk : k < cs.length := (List.getElem?_eq_some_iff.1 hx).1
  obtain ⟨x0, hx0⟩ : ∃ x0, cs[0]? = some x0 := ⟨_, List.getElem?_eq_getElem (by omega)⟩
  obtain ⟨xl, hxl⟩ : ∃ xl, cs[cs.length - 1]? = some xl := ⟨_, List.getElem?_eq_getElem (by omega)⟩
  have h1 := (valid_mono h hx0 k x (by rw [Nat.zero_add]; exact hx)).1
  have h2 := (valid_mono h hx (cs.length - 1 - k) xl (by rw [show k + (cs.length - 1 - k) = cs.length - 1 by omega]; exact hxl)).2
  have h3 := (valid_step h hx).1
  unfold validT at h
  rw [hx0, hxl] at h
  simp only [Bool.and_eq_true, decide_eq_true_eq] at h
  omega
theorem starts_unsound {f : FreqD} (h : soundB f = false) : starts f = [] := by
  unfold starts
  rw [if_neg (of_decide_eq_false h)]
theorem starts_at {f : FreqD} (h : sound f) {k : Nat} (hk : k < (starts f).length) : (starts f)[k]? = some (f.frm + k * f.every) := by
  rw [starts_sound h] at hk ⊢
  rw [startsN_len] at hk
  exact startsN_at f hk
theorem lastS_bd {f : FreqD} (h : sound f) : lastS f < f.to ∧ f.to - f.every ≤ lastS f := by
  have hc := cnt_bd f h
  have h1 := (cnt_lt f h (cnt f - 1).toNat).2 (by omega)
  have h2 : ¬ f.frm + (cnt f).toNat * f.every < f.to := fun k => by have := (cnt_lt f h (cnt f).toNat).1 k; omega
  rw [show (((cnt f - 1).toNat : Nat) : Int) = cnt f - 1 by omega] at h1
  rw [show (((cnt f).toNat : Nat) : Int) = (cnt f - 1) + 1 by omega, Int.add_mul, Int.one_mul] at h2
  unfold lastS
  omega
/-- What a started trip has, where it can be started. -/
theorem callsS_map {c : CallD} {cs : List CallD} {s : Int} (h : (callsS (c :: cs) s).2 = 0) : (callsS (c :: cs) s).1 = (c :: cs).map (shiftC c.depart s) := by
  rw [callsS_yes (x0 := c) rfl (callsS_zero.1 h)]
theorem callsS_bad {c : CallD} {cs : List CallD} {s : Int} (h : (callsS (c :: cs) s).2 ≠ 0) : callsS (c :: cs) s = ([], 10) := by
  simp only [callsS] at h ⊢
  split
  · rename_i k; rw [if_pos k] at h; exact absurd rfl h
  · rfl
end Go.Proofs.Ytknecohjajjloaa
