/-
  fold SORTS. Conditions: none.
-/
import Derived.Test.YtknecohjajjloaaFrqRefInst
namespace Go.Proofs.Ytknecohjajjloaa
open Frq

theorem ins_perm (L : List Int) (t : Int) : (ins L t).Perm (t :: L) := by
  unfold ins rowK
  refine List.perm_middle.trans ?_
  rw [List.take_append_drop]
theorem fold_perm_acc : ∀ (l acc : List Int), (l.foldl ins acc).Perm (acc ++ l)
  | [], acc => by simp
  | x :: l, acc => by
    rw [List.foldl_cons]
    refine (fold_perm_acc l (ins acc x)).trans ?_
    refine ((ins_perm acc x).append_right l).trans ?_
    rw [List.cons_append]
    exact List.perm_middle.symm
theorem fold_perm (l : List Int) : (fold l).Perm l := by
  have := fold_perm_acc l []
  rw [List.nil_append] at this
  exact this
/-- Where the insertion stops: all to the right are greater, the one to the left is not. -/
theorem goK_spec (L : List Int) (t : Int) : ∀ k, k ≤ L.length → (∀ i x, goK L t k ≤ i → i < k → L[i]? = some x → t < x) ∧ (∀ x, L[goK L t k - 1]? = some x → 0 < goK L t k → x ≤ t)
  | 0, _ => ⟨fun i x h1 h2 => by omega, fun x _ h => absurd h (by show ¬ 0 < 0; omega)⟩
  | k + 1, hk => by
    obtain ⟨y, hy⟩ : ∃ y, L[k]? = some y := ⟨_, List.getElem?_eq_getElem (by omega)⟩
    by_cases h : t < y
    · rw [goK_gt hy h]
      obtain ⟨h1, h2⟩ := goK_spec L t k (by omega)
      refine ⟨fun i x hi1 hi2 hx => ?_, h2⟩
      by_cases hik : i = k
      · subst hik
        rw [hy] at hx
        cases hx
        exact h
      · exact h1 i x hi1 (by omega) hx
    · rw [goK_le hy (by omega)]
      refine ⟨fun i x h1 h2 => by omega, fun x hx _ => ?_⟩
      rw [show k + 1 - 1 = k by omega, hy] at hx
      cases hx
      omega
theorem ins_sorted {L : List Int} {t : Int} (h : L.Pairwise (· ≤ ·)) : (ins L t).Pairwise (· ≤ ·) := by
  obtain ⟨s1, s2⟩ := goK_spec L t L.length (Nat.le_refl _)
  have hb := goK_bd L t L.length
  unfold ins rowK
  generalize goK L t L.length = k at s1 s2 hb
  rw [List.pairwise_append, List.pairwise_cons]
  have ht : ∀ a ∈ L.take k, a ≤ t := by
    intro a ha
    obtain ⟨i, hi⟩ := List.getElem?_of_mem ha
    have hil : i < (L.take k).length := (List.getElem?_eq_some_iff.1 hi).1
    rw [List.length_take] at hil
    rw [List.getElem?_take_of_lt (by omega)] at hi
    obtain ⟨z, hz⟩ : ∃ z, L[k - 1]? = some z := ⟨_, List.getElem?_eq_getElem (by omega)⟩
    have hzt := s2 z hz (by omega)
    by_cases hik : i = k - 1
    · rw [hik, hz] at hi; cases hi; exact hzt
    · obtain ⟨h1, e1⟩ := List.getElem?_eq_some_iff.1 hi
      obtain ⟨h2, e2⟩ := List.getElem?_eq_some_iff.1 hz
      have := List.pairwise_iff_getElem.1 h i (k - 1) h1 h2 (by omega)
      rw [e1, e2] at this
      omega
  have hd : ∀ b ∈ L.drop k, t ≤ b := by
    intro b hb'
    obtain ⟨i, hi⟩ := List.getElem?_of_mem hb'
    rw [List.getElem?_drop] at hi
    have := (List.getElem?_eq_some_iff.1 hi).1
    exact Int.le_of_lt (s1 (k + i) b (by omega) this hi)
  refine ⟨h.sublist (List.take_sublist ..), ⟨hd, h.sublist (List.drop_sublist ..)⟩, fun a ha b hb' => ?_⟩
  rcases List.mem_cons.1 hb' with rfl | hb'
  · exact ht a ha
  · exact Int.le_trans (ht a ha) (hd b hb')
theorem fold_sorted_acc : ∀ (l acc : List Int), acc.Pairwise (· ≤ ·) → (l.foldl ins acc).Pairwise (· ≤ ·)
  | [], _, h => h
  | x :: l, acc, h => fold_sorted_acc l (ins acc x) (ins_sorted h)
theorem fold_sorted (l : List Int) : (fold l).Pairwise (· ≤ ·) := fold_sorted_acc l [] List.Pairwise.nil
theorem fold_strict {l : List Int} (h : l.Nodup) : (fold l).Pairwise (· < ·) := by
  have h1 := fold_sorted l
  have h2 : (fold l).Nodup := (fold_perm l).nodup_iff.2 h
  exact (h1.and h2).imp fun hab => by omega
end Go.Proofs.Ytknecohjajjloaa
