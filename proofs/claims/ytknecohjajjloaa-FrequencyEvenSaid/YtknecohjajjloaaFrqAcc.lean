/-
  WHAT FOLLOWS WHERE Check ACCEPTS. Conditions: those of each lemma.
-/
import Derived.Test.YtknecohjajjloaaFrqSort
import Derived.Test.YtknecohjajjloaaFrqRefCheck
namespace Go.Proofs.Ytknecohjajjloaa
open Frq

/-- Where Check accepts, every frequency is without error. -/
theorem chk_ok {ts : List TripD} : ∀ (rest pre : List FreqD), (∀ f ∈ rest, True) → (chk ts pre rest).2 = 0 → ∀ (k : Nat) (f : FreqD), rest[k]? = some f → errAt ts (pre ++ rest.take k) f = 0
  | [], _, _, _, k, f, hk => by simp at hk
  | g :: rest, pre, _, h, k, f, hk => by
    unfold chk at h
    split at h
    · rename_i h0
      cases k with
      | zero =>
        simp only [List.getElem?_cons_zero, Option.some.injEq] at hk
        subst hk
        rw [List.take_zero, List.append_nil]
        exact h0
      | succ k =>
        rw [List.getElem?_cons_succ] at hk
        have := chk_ok rest (pre ++ [g]) (fun _ _ => trivial) h k f hk
        rw [List.append_assoc] at this
        exact this
    · rename_i h0
      exact absurd h h0
theorem check_ok {ts : List TripD} {l : List FreqD} (h : (checkS l ts).2 = 0) {k : Nat} {f : FreqD} (hk : l[k]? = some f) : errAt ts (l.take k) f = 0 := by
  unfold checkS at h
  split at h
  · simp at h
  · have := chk_ok l [] (fun _ _ => trivial) h k f hk
    rw [List.nil_append] at this
    exact this
theorem starts_in_range {f : FreqD} (h : sound f) {t : Int} (ht : t ∈ starts f) : f.frm ≤ t ∧ t < f.to := by
  rw [starts_sound h] at ht
  unfold startsN at ht
  rw [List.mem_map] at ht
  obtain ⟨k, hk, rfl⟩ := ht
  rw [List.mem_range] at hk
  have h1 := (cnt_lt f h k).2 (by omega)
  obtain ⟨a, b, c, d, e⟩ := h
  have := Int.mul_nonneg (a := (k : Int)) (b := f.every) (by omega) (by omega)
  omega
theorem starts_nodup {f : FreqD} (h : sound f) : (starts f).Nodup := by
  rw [starts_sound h]
  unfold startsN
  refine List.Pairwise.map _ (fun a b hab he => hab ?_) List.nodup_range
  have he' : f.frm + (a : Int) * f.every = f.frm + (b : Int) * f.every := he
  have h2 : (a : Int) * f.every = (b : Int) * f.every := by omega
  have h3 : f.every ≠ 0 := by have := h.2.2.2.1; omega
  have := Int.eq_of_mul_eq_mul_right h3 h2
  omega
theorem errAt_meet {ts : List TripD} {pre : List FreqD} {f : FreqD} (h : errAt ts pre f = 0) : pre.any (meetB f) = false ∧ cnt f + sumOf f pre ≤ 256 := by
  unfold errAt at h
  split at h
  · simp at h
  · split at h
    · split at h
      · simp at h
      · split at h
        · simp at h
        · rename_i h1 h2
          exact ⟨by simpa using h2, by omega⟩
    · simp at h
/-- The instances of a trip are all different, and as many as Check has counted. -/
theorem allS_nodup {ts : List TripD} {l : List FreqD} (h : (checkS l ts).2 = 0) (trip : Int) : ∀ k, k ≤ l.length → (allS (l.take k) trip).Nodup ∧ (∀ t ∈ allS (l.take k) trip, ∃ i g, i < k ∧ l[i]? = some g ∧ g.trip = trip ∧ t ∈ starts g)
  | 0, _ => by simp [allS]
  | k + 1, hk => by
    obtain ⟨ih1, ih2⟩ := allS_nodup h trip k (by omega)
    obtain ⟨x, hx⟩ : ∃ x, l[k]? = some x := ⟨_, List.getElem?_eq_getElem (by omega)⟩
    have hok := check_ok h hx
    have hs := errAt_sound hok
    obtain ⟨hm, -⟩ := errAt_meet hok
    rw [take_snoc_at hx]
    by_cases he : x.trip = trip
    · rw [allS_hit _ _ _ (by rw [beq_iff_eq]; exact he)]
      refine ⟨List.nodup_append.2 ⟨ih1, starts_nodup hs, fun a ha b hb e => ?_⟩, fun t ht => ?_⟩
      · obtain ⟨i, g, hi, hg, hgt, hag⟩ := ih2 a ha
        have hgs := errAt_sound (check_ok h hg)
        obtain ⟨g1, g2⟩ := starts_in_range hgs hag
        obtain ⟨x1, x2⟩ := starts_in_range hs hb
        have hmem : g ∈ l.take k := List.mem_iff_getElem?.2 ⟨i, by rw [List.getElem?_take_of_lt hi]; exact hg⟩
        have hmg : meetB x g = true := by
          unfold meetB overlap
          rw [show (g.trip == x.trip) = true by rw [beq_iff_eq, hgt, he], decide_eq_true (show g.frm < x.to by omega), decide_eq_true (show x.frm < g.to by omega)]
          rfl
        rw [List.any_eq_true.2 ⟨g, hmem, hmg⟩] at hm
        cases hm
      · rcases List.mem_append.1 ht with ht | ht
        · obtain ⟨i, g, hi, r⟩ := ih2 t ht
          exact ⟨i, g, by omega, r⟩
        · exact ⟨k, x, by omega, hx, he, ht⟩
    · rw [allS_miss _ _ _ (by rw [beq_eq_false_iff_ne]; exact he)]
      refine ⟨ih1, fun t ht => ?_⟩
      obtain ⟨i, g, hi, r⟩ := ih2 t ht
      exact ⟨i, g, by omega, r⟩
theorem callsS_zero {c : CallD} {t : List CallD} {s : Int} : (callsS (c :: t) s).2 = 0 ↔ (c :: t).all (okC c.depart s) = true := by
  simp only [callsS]
  split
  · rename_i h; exact ⟨fun _ => h, fun _ => rfl⟩
  · rename_i h; exact ⟨fun h' => absurd h' (by decide), fun h' => absurd h' h⟩
/-- Where two starts are without error, so is each between them. -/
theorem callsS_mid {cs : List CallD} {a s b : Int} (ha : (callsS cs a).2 = 0) (hb : (callsS cs b).2 = 0) (h1 : a ≤ s) (h2 : s ≤ b) : (callsS cs s).2 = 0 ∧ (callsS cs s).1.length = cs.length := by
  cases cs with
  | nil => exact absurd (show (16 : Int) = 0 from ha) (by decide)
  | cons c t =>
    have hall : (c :: t).all (okC c.depart s) = true := by
      rw [callsS_zero, List.all_eq_true] at ha hb
      rw [List.all_eq_true]
      intro x hx
      have xa := ha x hx
      have xb := hb x hx
      simp only [okC, near, Bool.and_eq_true, decide_eq_true_eq] at xa xb ⊢
      omega
    exact ⟨callsS_zero.2 hall, by rw [callsS_yes (x0 := c) rfl hall]; simp⟩
theorem starts_le_last {f : FreqD} (h : sound f) {t : Int} (ht : t ∈ starts f) : t ≤ lastS f := by
  rw [starts_sound h] at ht
  unfold startsN at ht
  rw [List.mem_map] at ht
  obtain ⟨k, hk, rfl⟩ := ht
  rw [List.mem_range] at hk
  unfold lastS
  have := Int.mul_le_mul_of_nonneg_right (a := (k : Int)) (b := cnt f - 1) (c := f.every) (by omega) (by have := h.2.2.2.1; omega)
  omega
/-- Where Check accepts, each instance of a trip with calls can be started. -/
theorem inst_ok {ts : List TripD} {l : List FreqD} (h : (checkS l ts).2 = 0) {trip : Nat} {t : TripD} (ht : ts[trip]? = some t) (hne : t.calls ≠ []) {s : Int} (hs : s ∈ allS l trip) : (callsS t.calls s).2 = 0 ∧ (callsS t.calls s).1.length = t.calls.length := by
  obtain ⟨-, h2⟩ := allS_nodup h trip l.length (Nat.le_refl _)
  rw [List.take_length] at h2
  obtain ⟨i, g, -, hg, hgt, hsg⟩ := h2 s hs
  have hok := check_ok h hg
  have hsd := errAt_sound hok
  have hfit : fitsB t.calls g = true := by
    unfold errAt at hok
    split at hok
    · simp at hok
    · split at hok
      · rename_i hh
        rw [Bool.and_eq_true] at hh
        have := hh.2
        unfold fitAt at this
        rw [hgt, Int.toNat_natCast, ht] at this
        exact this
      · simp at hok
  unfold fitsB at hfit
  rw [show t.calls.isEmpty = false by cases hc : t.calls with | nil => exact absurd hc hne | cons => rfl, Bool.false_or, Bool.and_eq_true, beq_iff_eq, beq_iff_eq] at hfit
  exact callsS_mid hfit.1 hfit.2 (starts_in_range hsd hsg).1 (starts_le_last hsd hsg)
theorem allS_sum (x : FreqD) (l : List FreqD) (h : ∀ g ∈ l, sound g) : ((allS l x.trip).length : Int) = sumOf x l := by
  induction l with
  | nil => simp [allS, sumOf]
  | cons g l ih =>
    have ih' := ih fun g' hg' => h g' (List.mem_cons_of_mem _ hg')
    have hg := h g (List.mem_cons_self ..)
    have hc := cnt_bd g hg
    have e : sumOf x (g :: l) = oneOf x g + sumOf x l := by simp [sumOf]
    rw [e, ← ih']
    unfold allS oneOf
    rw [List.filter_cons]
    split
    · rw [List.flatMap_cons, List.length_append, starts_sound hg, startsN_len]
      omega
    · omega
theorem allS_256 {ts : List TripD} {l : List FreqD} (h : (checkS l ts).2 = 0) (trip : Int) : ∀ k, k ≤ l.length → (allS (l.take k) trip).length ≤ 256
  | 0, _ => by simp [allS]
  | k + 1, hk => by
    have ih := allS_256 h trip k (by omega)
    obtain ⟨x, hx⟩ : ∃ x, l[k]? = some x := ⟨_, List.getElem?_eq_getElem (by omega)⟩
    have hok := check_ok h hx
    have hs := errAt_sound hok
    obtain ⟨-, hm⟩ := errAt_meet hok
    rw [take_snoc_at hx]
    by_cases he : x.trip = trip
    · rw [allS_hit _ _ _ (by rw [beq_iff_eq]; exact he), List.length_append, starts_sound hs, startsN_len]
      have h1 := allS_sum x (l.take k) (fun g hg => by
        obtain ⟨i, hi⟩ := List.getElem?_of_mem hg
        have hil : i < (l.take k).length := (List.getElem?_eq_some_iff.1 hi).1
        rw [List.length_take] at hil
        rw [List.getElem?_take_of_lt (by omega)] at hi
        exact errAt_sound (check_ok h hi))
      rw [he] at h1
      have := cnt_bd x hs
      omega
    · rw [allS_miss _ _ _ (by rw [beq_eq_false_iff_ne]; exact he)]
      exact ih
theorem allS_most {ts : List TripD} {l : List FreqD} (h : (checkS l ts).2 = 0) (trip : Int) : (allS l trip).length ≤ 256 := by
  have := allS_256 h trip l.length (Nat.le_refl _)
  rw [List.take_length] at this
  exact this
theorem allS_rep {ts : List TripD} {l : List FreqD} (h : (checkS l ts).2 = 0) (trip : Int) : decide (0 < (allS l trip).length) = repB l trip := by
  rw [Bool.eq_iff_iff, decide_eq_true_iff]
  unfold repB
  rw [List.any_eq_true]
  constructor
  · intro hp
    obtain ⟨t, ht⟩ := List.exists_mem_of_length_pos hp
    have := (allS_nodup h trip l.length (Nat.le_refl _)).2
    rw [List.take_length] at this
    obtain ⟨i, g, -, hg, hgt, -⟩ := this t ht
    exact ⟨g, List.mem_of_getElem? hg, by rw [beq_iff_eq]; exact hgt⟩
  · rintro ⟨g, hg, hgt⟩
    obtain ⟨i, hi⟩ := List.getElem?_of_mem hg
    have hs := errAt_sound (check_ok h hi)
    have hpos := starts_pos hs
    have hmem : (starts g)[0]'hpos ∈ allS l trip := by
      unfold allS
      rw [List.mem_flatMap]
      exact ⟨g, List.mem_filter.2 ⟨hg, hgt⟩, List.getElem_mem ..⟩
    exact List.length_pos_of_mem hmem
end Go.Proofs.Ytknecohjajjloaa
