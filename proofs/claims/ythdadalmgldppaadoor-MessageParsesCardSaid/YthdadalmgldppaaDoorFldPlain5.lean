/-
  THE PLAIN MATHEMATICS OF FIELDS, FIFTH PART: how long the results are. Conditions: those of each lemma.
-/
import Derived.Test.YthdadalmgldppaaDoorFldPlain3
namespace Go.Proofs.YthdadalmgldppaaDoor.Fld

theorem decN_len' : ∀ (f : Nat) (s o : List UInt8), decN f s = some o → o.length ≤ s.length
  | 0, [], o, h => by cases h; exact Nat.le_refl _
  | f + 1, [], o, h => by cases h; exact Nat.le_refl _
  | 0, _ :: _, o, h => by cases h
  | f + 1, c :: r, o, h => by
    simp only [decN] at h
    split at h
    · cases h
    · rename_i b k hk
      obtain ⟨h1, h2⟩ := oneS_pos hk
      obtain ⟨o', ho', rfl⟩ := Option.map_eq_some_iff.1 h
      have := decN_len' f _ o' ho'
      rw [List.length_drop] at this
      rw [List.length_cons]
      omega
theorem unq_len {s o : List UInt8} (h : unquoteS s = some o) : o.length ≤ s.length := by
  unfold unquoteS at h
  split at h
  · cases h; exact Nat.le_refl _
  · split at h
    · cases h
    · split at h
      · cases h
      · rename_i o' hd
        split at h
        · cases h
          have := decN_len' _ _ _ hd
          rw [List.length_dropLast, List.length_drop] at this
          omega
        · cases h
theorem splitF_len : ∀ (n : Nat) (s : List UInt8), ∀ f ∈ (splitF n s).1, f.length ≤ s.length
  | 0, s, f, h => by simp [splitF] at h
  | n + 1, s, f, h => by
    simp only [splitF] at h
    split at h
    · simp at h
    · rename_i g hg
      have hgl := unq_len hg
      rw [List.length_take] at hgl
      split at h
      · rw [List.mem_singleton] at h
        subst h
        omega
      · rename_i c r hd
        have hdl := congrArg List.length hd
        rw [List.length_drop, List.length_cons] at hdl
        split at h
        · split at h
          · rcases List.mem_cons.1 h with rfl | h
            · omega
            · have := splitF_len n r f h
              omega
          · have := splitF_len n r f h
            omega
        · simp at h
theorem splitS_len {s : List UInt8} {l : List (List UInt8)} {e : Int} (h : splitS s = (l, e)) : ∀ f ∈ l, f.length ≤ s.length := by
  unfold splitS at h
  split at h
  · rw [Prod.mk.injEq] at h; rw [← h.1]; simp
  · split at h
    · rw [Prod.mk.injEq] at h; rw [← h.1]; simp
    · have := splitF_len 64 s
      rw [h] at this
      exact this
theorem splitF_err : ∀ (n : Nat) (s : List UInt8) (l : List (List UInt8)) (e : Int), splitF n s = (l, e) → e ≠ 0 → l = []
  | 0, s, l, e, h, _ => by
    have h' : (([], 5) : List (List UInt8) × Int) = (l, e) := h
    rw [Prod.mk.injEq] at h'
    exact h'.1.symm
  | n + 1, s, l, e, h, he => by
    simp only [splitF] at h
    split at h
    · rw [Prod.mk.injEq] at h; exact h.1.symm
    · split at h
      · rw [Prod.mk.injEq] at h; exact absurd h.2.symm he
      · split at h
        · split at h
          · rw [Prod.mk.injEq] at h; exact absurd h.2.symm he
          · exact splitF_err n _ l e h he
        · rw [Prod.mk.injEq] at h; exact h.1.symm
theorem splitS_err {s : List UInt8} {l : List (List UInt8)} {e : Int} (h : splitS s = (l, e)) (he : e ≠ 0) : l = [] := by
  unfold splitS at h
  split at h
  · rw [Prod.mk.injEq] at h; exact h.1.symm
  · split at h
    · rw [Prod.mk.injEq] at h; exact h.1.symm
    · exact splitF_err 64 s l e h he
theorem joinR_len {l : List (List UInt8)} {o : List UInt8} {e : Int} (h : joinR l = (o, e)) : o.length ≤ 65536 := by
  unfold joinR at h
  split at h
  · rw [Prod.mk.injEq] at h; rw [← h.1]; exact Nat.zero_le _
  · split at h
    · rw [Prod.mk.injEq] at h; rw [← h.1]; exact Nat.zero_le _
    · rw [Prod.mk.injEq] at h; rw [← h.1]; omega
theorem textS_len {l : List (List UInt8)} {o : List UInt8} {e : Int} (h : textS l = (o, e)) : o.length ≤ 65536 := by
  unfold textS at h
  split at h
  · rw [Prod.mk.injEq] at h; rw [← h.1]; exact Nat.zero_le _
  · split at h
    · rw [Prod.mk.injEq] at h; rw [← h.1]; exact Nat.zero_le _
    · rw [Prod.mk.injEq] at h; rw [← h.1]; omega
theorem textL_bound : ∀ (l : List (List UInt8)), (∀ x ∈ l, x.length ≤ 4096) → (textL l).length ≤ l.length * 4097
  | [], _ => Nat.zero_le _
  | x :: l, h => by
    have e : textL (x :: l) = (x ++ [10]) ++ textL l := by simp [textL]
    have h1 := h x (List.mem_cons_self ..)
    have h2 := textL_bound l fun y hy => h y (List.mem_cons_of_mem _ hy)
    rw [e, List.length_append, List.length_append, List.length_singleton, List.length_cons]
    omega
/-- One string alone. -/
theorem split_one (s : List UInt8) (h : (quoteS s).length ≤ 65536) : splitS (quoteS s) = ([s], 0) := by
  refine split_join (l := [s]) ?_
  unfold joinR
  rw [if_neg (by simp), if_neg (show ¬ 65536 < (joinS [s]).length from by show ¬ 65536 < (quoteS s).length; omega)]
  rfl
end Go.Proofs.YthdadalmgldppaaDoor.Fld
