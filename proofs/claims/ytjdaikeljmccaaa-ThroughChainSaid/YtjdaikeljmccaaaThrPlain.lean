/-
  THE PLAIN MATHEMATICS OF THROUGH SERVICES: the next trip, the chain of trips; no program in sight. Conditions: none.
-/
namespace Go.Proofs.Ytjdaikeljmccaaa.Thr

structure ThrD where
  frm : Int
  to : Int

def nextS (l : List ThrD) (t : Int) : Option ThrD := l.find? fun x => x.frm == t
def nextN (l : List ThrD) (t : Int) : Int := match nextS l t with
  | some x => x.to
  | none => 0
def nextB (l : List ThrD) (t : Int) : Bool := (nextS l t).isSome
theorem next_none {l : List ThrD} {t : Int} (h : nextS l t = none) : nextN l t = 0 ∧ nextB l t = false := by unfold nextN nextB; rw [h]; exact ⟨rfl, rfl⟩
theorem next_some {l : List ThrD} {t : Int} {x : ThrD} (h : nextS l t = some x) : nextN l t = x.to ∧ nextB l t = true := by unfold nextN nextB; rw [h]; exact ⟨rfl, rfl⟩

def lastI (out : List Int) : Int := out.getLastD 0
theorem lastI_snoc (out : List Int) (n : Int) : lastI (out ++ [n]) = n := by simp [lastI]
theorem lastI_at {out : List Int} {k : Nat} (h : out.length = k + 1) : out[k]? = some (lastI out) := by
  unfold lastI
  cases out with
  | nil => simp at h
  | cons x r =>
    have : k = (x :: r).length - 1 := by omega
    rw [this, ← List.getLast?_eq_getElem?]
    rfl
/-- The trip after the last one, if it is not yet there. -/
def stepC (l : List ThrD) (out : List Int) : Option Int := match nextS l (lastI out) with
  | none => none
  | some x => if out.contains x.to then none else some x.to
theorem stepC_none {l : List ThrD} {out : List Int} (h : nextS l (lastI out) = none) : stepC l out = none := by unfold stepC; rw [h]
theorem stepC_used {l : List ThrD} {out : List Int} {x : ThrD} (h : nextS l (lastI out) = some x) (hc : out.contains x.to = true) : stepC l out = none := by unfold stepC; rw [h]; simp only [hc, if_true]
theorem stepC_go {l : List ThrD} {out : List Int} {x : ThrD} (h : nextS l (lastI out) = some x) (hc : out.contains x.to = false) : stepC l out = some x.to := by unfold stepC; rw [h]; simp only [hc]; rfl
def chainN (l : List ThrD) : Nat → List Int → List Int
  | 0, out => out
  | f + 1, out => match stepC l out with
    | none => out
    | some n => chainN l f (out ++ [n])
def chainS (l : List ThrD) (trip : Int) : List Int := chainN l l.length [trip]
theorem chainN_stop {l : List ThrD} {out : List Int} (h : stepC l out = none) : ∀ f, chainN l f out = out
  | 0 => rfl
  | f + 1 => by simp only [chainN, h]
theorem chainN_go {l : List ThrD} {out : List Int} {n : Int} {f : Nat} (h : stepC l out = some n) : chainN l (f + 1) out = chainN l f (out ++ [n]) := by simp only [chainN, h]
theorem stepC_mem {l : List ThrD} {out : List Int} {n : Int} (h : stepC l out = some n) : n ∉ out ∧ ∃ x, nextS l (lastI out) = some x ∧ x.to = n ∧ x ∈ l := by
  unfold stepC at h
  split at h
  · cases h
  · rename_i x hx
    split at h
    · cases h
    · rename_i hc
      cases h
      exact ⟨fun hm => hc (by simpa using hm), x, hx, rfl, List.mem_of_find?_eq_some hx⟩

/-! ### as many different elements as there are places -/
theorem nodup_le {a : List Int} : ∀ {b : List Int}, a.Nodup → (∀ x ∈ a, x ∈ b) → a.length ≤ b.length := by
  induction a with
  | nil => intro b _ _; exact Nat.zero_le _
  | cons y a ih =>
    intro b hn hs
    have hy : y ∈ b := hs y (List.mem_cons_self ..)
    have h1 := ih (b := b.erase y) (List.nodup_cons.1 hn).2 fun x hx => by
      have hxy : x ≠ y := fun e => (List.nodup_cons.1 hn).1 (e ▸ hx)
      exact (List.mem_erase_of_ne hxy).2 (hs x (List.mem_cons_of_mem _ hx))
    rw [List.length_erase_of_mem hy] at h1
    have := List.length_pos_of_mem hy
    rw [List.length_cons]
    omega
theorem nodup_full {a b : List Int} (hn : a.Nodup) (hs : ∀ x ∈ a, x ∈ b) (hl : b.length ≤ a.length) {x : Int} (hx : x ∈ b) : x ∈ a := by
  apply Classical.byContradiction
  intro hxa
  have := nodup_le (a := x :: a) (b := b) (List.nodup_cons.2 ⟨hxa, hn⟩) (fun y hy => by
    rcases List.mem_cons.1 hy with rfl | hy
    · exact hx
    · exact hs y hy)
  rw [List.length_cons] at this
  omega

/-! ### what a chain in the making is -/
structure Making (l : List ThrD) (trip : Int) (out : List Int) : Prop where
  head : out[0]? = some trip
  nodup : out.Nodup
  rest : ∀ n ∈ out.tail, n ∈ l.map ThrD.to
  link : ∀ (j : Nat) (a b : Int), out[j]? = some a → out[j + 1]? = some b → ∃ x, nextS l a = some x ∧ x.to = b
theorem making_one (l : List ThrD) (trip : Int) : Making l trip [trip] where
  head := rfl
  nodup := by simp
  rest := by simp
  link := by intro j a b _ h; simp at h
theorem Making.pos {l : List ThrD} {trip : Int} {out : List Int} (h : Making l trip out) : 0 < out.length := (List.getElem?_eq_some_iff.1 h.head).1
theorem Making.step {l : List ThrD} {trip : Int} {out : List Int} (h : Making l trip out) {n : Int} (hs : stepC l out = some n) : Making l trip (out ++ [n]) := by
  obtain ⟨hno, x, hx, hxt, hxl⟩ := stepC_mem hs
  have hp := h.pos
  obtain ⟨m, hm⟩ : ∃ m, out.length = m + 1 := ⟨out.length - 1, by omega⟩
  refine ⟨?_, ?_, ?_, ?_⟩
  · rw [List.getElem?_append_left hp]; exact h.head
  · rw [List.nodup_append]
    exact ⟨h.nodup, by simp, fun a ha b hb e => hno (by rw [List.mem_singleton] at hb; rw [← hb, ← e]; exact ha)⟩
  · intro y hy
    rw [List.tail_append_of_ne_nil (by intro e; rw [e] at hp; simp at hp)] at hy
    rcases List.mem_append.1 hy with hy | hy
    · exact h.rest y hy
    · rw [List.mem_singleton] at hy
      rw [hy, ← hxt]
      exact List.mem_map_of_mem hxl
  · intro j a b ha hb
    by_cases hj : j + 1 < out.length
    · rw [List.getElem?_append_left (by omega)] at ha
      rw [List.getElem?_append_left hj] at hb
      exact h.link j a b ha hb
    · have hjl : j + 1 < (out ++ [n]).length := (List.getElem?_eq_some_iff.1 hb).1
      rw [List.length_append, List.length_singleton] at hjl
      have hjm : j = m := by omega
      subst hjm
      rw [List.getElem?_append_left (by omega), lastI_at hm] at ha
      rw [List.getElem?_append_right (by omega), hm, Nat.sub_self] at hb
      simp at ha hb
      subst ha hb
      exact ⟨x, hx, hxt⟩
theorem Making.len {l : List ThrD} {trip : Int} {out : List Int} (h : Making l trip out) : out.length ≤ l.length + 1 := by
  have h1 := nodup_le (a := out.tail) (b := l.map ThrD.to) (h.nodup.sublist (List.tail_sublist _)) h.rest
  rw [List.length_tail, List.length_map] at h1
  omega
/-- A chain with as many trips as there can be is at its end. -/
theorem Making.full {l : List ThrD} {trip : Int} {out : List Int} (h : Making l trip out) (hl : out.length = l.length + 1) : stepC l out = none := by
  cases hs : stepC l out with
  | none => rfl
  | some n =>
    have := (h.step hs).len
    rw [List.length_append, List.length_singleton] at this
    omega
theorem making_chain {l : List ThrD} {trip : Int} : ∀ (f : Nat) (out : List Int), Making l trip out → Making l trip (chainN l f out)
  | 0, out, h => h
  | f + 1, out, h => by
    cases hs : stepC l out with
    | none => rw [chainN_stop hs]; exact h
    | some n => rw [chainN_go hs]; exact making_chain f _ (h.step hs)
theorem chain_end {l : List ThrD} {trip : Int} : ∀ (f : Nat) (out : List Int), Making l trip out → l.length + 1 ≤ out.length + f → stepC l (chainN l f out) = none
  | 0, out, h, hf => h.full (by have := h.len; omega)
  | f + 1, out, h, hf => by
    cases hs : stepC l out with
    | none => rw [chainN_stop hs]; exact hs
    | some n =>
      rw [chainN_go hs]
      exact chain_end f _ (h.step hs) (by rw [List.length_append, List.length_singleton]; omega)
theorem chainS_making (l : List ThrD) (trip : Int) : Making l trip (chainS l trip) := making_chain _ _ (making_one l trip)
theorem chainS_end (l : List ThrD) (trip : Int) : stepC l (chainS l trip) = none := chain_end _ _ (making_one l trip) (by simp; omega)

/-! ### chains that come to an end -/
inductive EndsN (l : List ThrD) : Nat → Int → Prop
  | stop {t : Int} : nextS l t = none → EndsN l 0 t
  | step {k : Nat} {t : Int} {x : ThrD} : nextS l t = some x → EndsN l k x.to → EndsN l (k + 1) t
theorem EndsN.one {l : List ThrD} {k : Nat} {t : Int} (h : EndsN l k t) : ∀ {k' : Nat}, EndsN l k' t → k = k' := by
  induction h with
  | stop h0 =>
    intro k' h'
    cases h' with
    | stop => rfl
    | step h1 _ => rw [h0] at h1; cases h1
  | step h0 _ ih =>
    intro k' h'
    cases h' with
    | stop h1 => rw [h0] at h1; cases h1
    | step h1 h2 =>
      rw [h0] at h1
      cases h1
      rw [ih h2]
/-- In a chain in the making each trip comes one step nearer to the end. -/
theorem Making.ends {l : List ThrD} {trip : Int} {out : List Int} (h : Making l trip out) {r : Nat} (hr : EndsN l r trip) : ∀ (j : Nat) (a : Int), out[j]? = some a → ∃ s, EndsN l s a ∧ s + j = r
  | 0, a, ha => by
    rw [h.head] at ha
    cases ha
    exact ⟨r, hr, rfl⟩
  | j + 1, b, hb => by
    have hj : j + 1 < out.length := (List.getElem?_eq_some_iff.1 hb).1
    obtain ⟨a, ha⟩ : ∃ a, out[j]? = some a := ⟨_, List.getElem?_eq_getElem (by omega)⟩
    obtain ⟨s, hs, hsr⟩ := h.ends hr j a ha
    obtain ⟨x, hx, rfl⟩ := h.link j a b ha hb
    cases hs with
    | stop h0 => rw [h0] at hx; cases hx
    | step h1 h2 =>
      rw [h1] at hx
      cases hx
      exact ⟨_, h2, by omega⟩
/-- Where the steps come to an end, the chain's last trip has no next one. -/
theorem chain_last {l : List ThrD} {trip : Int} {r : Nat} (hr : EndsN l r trip) : nextS l (lastI (chainS l trip)) = none := by
  have hm := chainS_making l trip
  have he := chainS_end l trip
  have hp := hm.pos
  obtain ⟨m, hml⟩ : ∃ m, (chainS l trip).length = m + 1 := ⟨(chainS l trip).length - 1, by omega⟩
  cases hn : nextS l (lastI (chainS l trip)) with
  | none => rfl
  | some x =>
    exfalso
    cases hc : (chainS l trip).contains x.to with
    | false => rw [stepC_go hn hc] at he; cases he
    | true =>
      have hx : x.to ∈ chainS l trip := by simpa using hc
      obtain ⟨j, hj⟩ := List.getElem?_of_mem hx
      obtain ⟨s, hs, hsr⟩ := hm.ends hr j x.to hj
      obtain ⟨s', hs', hsr'⟩ := hm.ends hr m _ (lastI_at hml)
      have hjl : j < (chainS l trip).length := (List.getElem?_eq_some_iff.1 hj).1
      cases hs' with
      | stop h0 => rw [h0] at hn; cases hn
      | step h1 h2 =>
        rw [h1] at hn
        cases hn
        have := hs.one h2
        omega
/-- Every chain comes to an end. -/
def AllEnd (l : List ThrD) : Prop := ∀ t, ∃ r, EndsN l r t
theorem allEnd_nil : AllEnd [] := fun _ => ⟨0, .stop rfl⟩
theorem next_snoc {l : List ThrD} {x : ThrD} {t : Int} (h : t ≠ x.frm) : nextS (l ++ [x]) t = nextS l t := by
  unfold nextS
  rw [List.find?_append]
  have : List.find? (fun y => y.frm == t) [x] = none := by
    simp only [List.find?_singleton]
    rw [if_neg]
    rw [beq_iff_eq]
    exact fun e => h e.symm
  rw [this]
  cases List.find? (fun y => y.frm == t) l <;> rfl
theorem next_snoc_at {l : List ThrD} {x : ThrD} (h : nextS l x.frm = none) : nextS (l ++ [x]) x.frm = some x := by
  unfold nextS at h ⊢
  rw [List.find?_append, h]
  simp
/-- One more service leaves all chains with an end, where its trip is not continued yet and does not come after its own next one. -/
theorem allEnd_snoc {l : List ThrD} {x : ThrD} (ha : AllEnd l) (hf : nextS l x.frm = none) (hl : x.frm ∉ chainS l x.to) : AllEnd (l ++ [x]) := by
  have hb : ∃ r, EndsN (l ++ [x]) r x.to := by
    obtain ⟨r, hr⟩ := ha x.to
    have hm := chainS_making l x.to
    have hlast := chain_last hr
    have hp := hm.pos
    obtain ⟨m, hml⟩ : ∃ m, (chainS l x.to).length = m + 1 := ⟨(chainS l x.to).length - 1, by omega⟩
    have key : ∀ (d j : Nat) (a : Int), j + d = m → (chainS l x.to)[j]? = some a → EndsN (l ++ [x]) d a := by
      intro d
      induction d with
      | zero =>
        intro j a hj hja
        obtain rfl : j = m := by omega
        rw [lastI_at hml] at hja
        cases hja
        refine .stop ?_
        rw [next_snoc (fun e => hl (by rw [← e]; exact List.mem_of_getElem? (lastI_at hml)))]
        exact hlast
      | succ d ih =>
        intro j a hj hja
        obtain ⟨b, hjb⟩ : ∃ b, (chainS l x.to)[j + 1]? = some b := ⟨_, List.getElem?_eq_getElem (by omega)⟩
        obtain ⟨y, hy, rfl⟩ := hm.link j a b hja hjb
        refine .step (x := y) ?_ (ih (j + 1) _ (by omega) hjb)
        rw [next_snoc (fun e => hl (by rw [← e]; exact List.mem_of_getElem? hja))]
        exact hy
    exact ⟨m, key m 0 x.to (by omega) hm.head⟩
  intro t
  obtain ⟨r, hr⟩ := ha t
  induction hr with
  | @stop t h0 =>
    by_cases ht : t = x.frm
    · obtain ⟨s, hs⟩ := hb
      rw [ht]
      exact ⟨s + 1, .step (next_snoc_at hf) hs⟩
    · exact ⟨0, .stop (by rw [next_snoc ht]; exact h0)⟩
  | @step k t y h1 h2 ih =>
    obtain ⟨s, hs⟩ := ih
    have ht : t ≠ x.frm := fun e => by rw [e, hf] at h1; cases h1
    exact ⟨s + 1, .step (x := y) (by rw [next_snoc ht]; exact h1) hs⟩
end Go.Proofs.Ytjdaikeljmccaaa.Thr
