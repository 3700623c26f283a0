/-
  THE PLAIN MATHEMATICS OF MESSAGES, THIRD PART: the two round trips. Conditions: those of each lemma.
-/
import Derived.Test.YthdadalmgldppaaDoorMsgPlain2
namespace Go.Proofs.YthdadalmgldppaaDoor.Msg
open Num Clk Dat Fld

/-- The integers of a message are ints. -/
structure OkM (m : MsgD) : Prop where
  src : isI m.src
  seq : isI m.seq
  iss : isI m.iss
  exp : isI m.exp
  kind : isI m.kind
  day : isI m.day
  inst : isI m.inst
  call : isI m.call
  secs : isI m.secs
  route : isI m.route
  calls : ∀ c ∈ m.calls, okCall c

/-! ### what Check says -/
theorem outside_no {n lo hi : Int} (h : ¬ outside n lo hi = true) : lo ≤ n ∧ n ≤ hi := by
  unfold outside at h
  simp only [Bool.or_eq_true, decide_eq_true_eq, not_or] at h
  omega
structure Good (m : MsgD) : Prop where
  kind : 1 ≤ m.kind ∧ m.kind ≤ 6
  trip : m.trip.length ≤ 32
  day : 0 ≤ m.day ∧ m.day ≤ 36524
  call : uCall m.kind = false → m.call = 0
  secs : uSecs m.kind = false → m.secs = 0
  route : uRoute m.kind = false → m.route = 0
  step : uRoute m.kind = false → m.step = false
  calls : uCalls m.kind = false → m.calls = []
  many : m.calls.length ≤ 32
theorem kindErr_ok {m : MsgD} (h : kindErr m = 0) : (uCall m.kind = false → m.call = 0) ∧ (uSecs m.kind = false → m.secs = 0) ∧ (uRoute m.kind = false → m.route = 0) ∧ (uRoute m.kind = false → m.step = false) ∧ (uCalls m.kind = false → m.calls = []) ∧ (uCalls m.kind = true → callsErr 64 0 3155932800 m.calls = 0) := by
  unfold kindErr at h
  split at h
  · exact absurd h (by decide)
  · split at h
    · rename_i h2
      simp only [Bool.and_eq_true, Bool.not_eq_true', beq_eq_false_iff_ne] at h2
      exact absurd h h2.2
    · rename_i h2
      split at h
      · exact absurd h (by decide)
      · rename_i h3
        simp only [Bool.or_eq_true, Bool.and_eq_true, Bool.not_eq_true', beq_eq_false_iff_ne, not_or, not_and, Decidable.not_not, Bool.not_eq_true] at h2 h3
        obtain ⟨g1, g2, g3, g4, g5⟩ := h3
        refine ⟨g1, g2, g3, g4, fun hc => ?_, fun hc => h2 hc⟩
        have := g5 hc
        simpa using this
theorem check_good {m : MsgD} (h : checkM m = 0) : Good m := by
  unfold checkM at h
  split at h
  · exact absurd h (by decide)
  · split at h
    · exact absurd h (by decide)
    · split at h
      · exact absurd h (by decide)
      · split at h
        · exact absurd h (by decide)
        · rename_i hk
          split at h
          · exact absurd h (by decide)
          · rename_i hn
            split at h
            · exact absurd h (by decide)
            · rename_i hd
              split at h
              · exact absurd h (by decide)
              · obtain ⟨g1, g2, g3, g4, g5, g6⟩ := kindErr_ok h
                refine ⟨outside_no hk, ?_, outside_no hd, g1, g2, g3, g4, g5, ?_⟩
                · have hn' : nameB m.trip = true := by simpa using hn
                  unfold nameB at hn'
                  simp only [Bool.and_eq_true, decide_eq_true_eq] at hn'
                  exact hn'.2.2
                · cases hc : uCalls m.kind with
                  | false => rw [g5 hc]; exact Nat.zero_le _
                  | true =>
                    have := g6 hc
                    unfold callsErr at this
                    split at this
                    · exact absurd this (by decide)
                    · omega

/-! ### the fields of a message -/
theorem kinds {k : Int} (h : 1 ≤ k ∧ k ≤ 6) : k = 1 ∨ k = 2 ∨ k = 3 ∨ k = 4 ∨ k = 5 ∨ k = 6 := by omega
theorem word_len (k : Int) : (wordS k).length ≤ 7 := by
  unfold wordS
  repeat' split
  all_goals decide
theorem kind_word {k : Int} (h : 1 ≤ k ∧ k ≤ 6) : kindOf (wordS k) = k := by
  rcases kinds h with rfl | rfl | rfl | rfl | rfl | rfl <;> decide
theorem word_kind {w : List UInt8} (h : kindOf w ≠ 0) : wordS (kindOf w) = w ∧ 1 ≤ kindOf w ∧ kindOf w ≤ 6 := by
  unfold kindOf at h ⊢
  repeat' split
  all_goals first
    | (rename_i e; rw [e]; exact ⟨rfl, by decide, by decide⟩)
    | skip
  all_goals first
    | (subst_vars; exact ⟨rfl, by decide, by decide⟩)
    | (exfalso; simp_all)
theorem mid_len (m : MsgD) : (midS m).length ≤ 2 := by
  unfold midS
  cases h1 : uCall m.kind <;> cases h2 : uSecs m.kind <;> cases h3 : uRoute m.kind <;> simp
  all_goals
    unfold uCall uRoute uSecs at *
    simp at h1 h2 h3
    omega
theorem text_len {c : CallD} (h : okCall c) : (callText c).length ≤ 69 := by
  have h1 := itoa_len h.1.1 h.1.2
  have h2 := itoa_len h.2.1.1 h.2.1.2
  have h3 := itoa_len h.2.2.1 h.2.2.2
  have h4 : (permS c).length ≤ 6 := by
    unfold permS
    repeat' split
    all_goals decide
  unfold callText
  simp only [List.length_append, List.length_cons]
  omega
theorem two_len (n : Nat) : (two n).length = 2 := by simp [two]
theorem dtext_len (d : Int) : (dtext d).length = 10 := by
  unfold dtext
  simp only [List.length_append, List.length_cons, two_len]
theorem field_len {m : MsgD} (hg : Good m) (ho : OkM m) : ∀ x ∈ fieldsM m, x.length ≤ 69 := by
  have i : ∀ {n : Int}, isI n → (itoa n).length ≤ 69 := fun h => Nat.le_trans (itoa_len h.1 h.2) (by decide)
  intro x hx
  unfold fieldsM at hx
  rcases List.mem_append.1 hx with hx | hx
  · simp only [List.mem_cons, List.not_mem_nil, or_false] at hx
    rcases hx with rfl | rfl | rfl | rfl | rfl | rfl | rfl | rfl
    · exact i ho.src
    · exact i ho.seq
    · exact i ho.iss
    · exact i ho.exp
    · exact Nat.le_trans (word_len _) (by decide)
    · have := hg.trip; omega
    · rw [dtext_len]; decide
    · exact i ho.inst
  · rcases List.mem_append.1 hx with hx | hx
    · unfold midS at hx
      rcases List.mem_append.1 hx with hx | hx
      · split at hx
        · rw [List.mem_singleton] at hx; rw [hx]; exact i ho.call
        · cases hx
      · rcases List.mem_append.1 hx with hx | hx
        · split at hx
          · rw [List.mem_singleton] at hx; rw [hx]; exact i ho.secs
          · cases hx
        · split at hx
          · simp only [List.mem_cons, List.not_mem_nil, or_false] at hx
            rcases hx with rfl | rfl
            · exact i ho.route
            · split <;> decide
          · cases hx
    · obtain ⟨c, hc, rfl⟩ := List.mem_map.1 hx
      exact text_len (ho.calls c hc)
theorem fields_count (m : MsgD) : (fieldsM m).length = 8 + (midS m).length + m.calls.length := by
  unfold fieldsM
  simp only [List.length_append, List.length_cons, List.length_nil, List.length_map]
  omega
theorem join_fields {m : MsgD} (hg : Good m) (ho : OkM m) : joinR (fieldsM m) = (joinS (fieldsM m), 0) := by
  have h1 := fields_count m
  have h2 := mid_len m
  have h3 := hg.many
  have h4 := joinS_len (fieldsM m) 69 (field_len hg ho)
  have h5 : (fieldsM m).length * (4 * 69 + 3) ≤ 42 * (4 * 69 + 3) := Nat.mul_le_mul_right _ (by omega)
  unfold joinR
  rw [if_neg (by omega), if_neg (by omega)]
theorem format_ok {m : MsgD} (h : checkM m = 0) (ho : OkM m) : formatM m = (joinS (fieldsM m), 0) := by
  unfold formatM
  rw [if_pos h]
  exact join_fields (check_good h) ho

/-! ### a line reads as its message -/
theorem itoa_read {n : Int} (h : isI n) : parse (itoa n) = (n, 0) := parse_itoa n h.1 h.2
theorem dayR_text {d : Int} (h : 0 ≤ d ∧ d ≤ 36524) : dayR (dtext d) = (d, 0) := by
  have h1 := dtext_df d h.1 h.2
  have h2 := from_civil d h.1 h.2
  unfold dayR
  rw [if_pos (shaped10_of h1)]
  obtain ⟨a, b, c, e, f, g, h', k, hl, -, -, -, e1, e2, e3⟩ := h1
  rw [hl]
  simp only
  rw [← e1, ← e2, ← e3, h2]
theorem text_dayR {l : List UInt8} (h : (dayR l).2 = 0) : dtext (dayR l).1 = l := by
  have := dayR_day l
  rw [h] at this
  exact (text_day this).2
theorem calls_read : ∀ (cs : List CallD), (∀ c ∈ cs, okCall c) → (cs.map callText).map (fun s => (readCall s).1) = cs
  | [], _ => rfl
  | c :: r, h => by
    rw [List.map_cons, List.map_cons, calls_read r (fun x hx => h x (List.mem_cons_of_mem _ hx)), readCall_text c (h c (List.mem_cons_self ..))]
theorem calls_noerr : ∀ (cs : List CallD), (∀ c ∈ cs, okCall c) → firstE (callsE (cs.map callText)) = 0
  | [], _ => rfl
  | c :: r, h => by
    have e : callsE ((c :: r).map callText) = (readCall (callText c)).2 ++ callsE (r.map callText) := by simp [callsE]
    rw [e, firstE_app, readCall_text c (h c (List.mem_cons_self ..)), calls_noerr r fun x hx => h x (List.mem_cons_of_mem _ hx)]
    rfl
theorem yes_no (b : Bool) : ((if b then wYes else wNo) == wYes) = b ∧ ((if b then wYes else wNo) = wYes ∨ (if b then wYes else wNo) = wNo) := by
  cases b
  · exact ⟨by decide, .inr rfl⟩
  · exact ⟨by decide, .inl rfl⟩
theorem take_fields {m : MsgD} (h : checkM m = 0) (ho : OkM m) : takeM m.kind (fieldsM m) = (m, 0) := by
  have hg := check_good h
  have key : readM m.kind (fieldsM m) = m ∧ firstE (readE m.kind (fieldsM m)) = 0 := by
    obtain ⟨src, seq, iss, exp, kind, trip, day, inst, call, secs, route, step, calls⟩ := m
    have hcr := calls_read calls ho.calls
    have hce := calls_noerr calls ho.calls
    have r1 := itoa_read ho.src
    have r2 := itoa_read ho.seq
    have r3 := itoa_read ho.iss
    have r4 := itoa_read ho.exp
    have r5 := itoa_read ho.inst
    have r6 := itoa_read ho.call
    have r7 := itoa_read ho.secs
    have r8 := itoa_read ho.route
    have r9 := dayR_text hg.day
    have gc := hg.call
    have gs := hg.secs
    have gr := hg.route
    have gt := hg.step
    have gl := hg.calls
    have hy := yes_no step
    simp only at r1 r2 r3 r4 r5 r6 r7 r8 r9 gc gs gr gt gl hcr hce hy
    unfold readM readE headE midE fieldsM midS restN at'
    simp only
    rcases kinds hg.kind with hk | hk | hk | hk | hk | hk
    all_goals
      simp only at hk
      subst hk
      simp [uCall, uSecs, uRoute, uCalls] at gc gs gr gt gl
      simp [uCall, uSecs, uRoute, uCalls, firstE, *]
    all_goals (intro a _ b; rw [a] at b; cases b)
  unfold takeM
  rw [firstE_app, key.2, if_pos rfl, key.1]
  simp [firstE, h]
theorem fields_at (m : MsgD) : at' (fieldsM m) 4 = wordS m.kind := rfl
theorem shaped_fields {m : MsgD} (hg : Good m) : shapedN m.kind (fieldsM m).length = true := by
  have hc := hg.calls
  rw [fields_count]
  unfold midS
  rcases kinds hg.kind with hk | hk | hk | hk | hk | hk
  all_goals
    rw [hk] at hc ⊢
    simp [uCalls] at hc
    simp [uCall, uSecs, uRoute, shapedN, hc]
  all_goals omega
/-- The line of a message is read as the message. -/
theorem parse_format {m : MsgD} (h : checkM m = 0) (ho : OkM m) : parseM (joinS (fieldsM m)) = (m, 0) := by
  have hg := check_good h
  have hs := split_join (join_fields hg ho)
  have hk := hg.kind
  unfold parseM
  rw [hs]
  simp only
  rw [if_neg (by simp), if_neg, fields_at, kind_word hk, take_fields h ho]
  rw [fields_at, kind_word hk, shaped_fields hg, fields_count]
  simp
  omega
theorem firstE_zero : ∀ {l : List Int}, firstE l = 0 → ∀ e ∈ l, e = 0
  | [], _, e, he => by cases he
  | x :: r, h, e, he => by
    unfold firstE at h
    by_cases hx : x = 0
    · rw [if_pos hx] at h
      rcases List.mem_cons.1 he with rfl | he
      · exact hx
      · exact firstE_zero h e he
    · rw [if_neg hx] at h
      exact absurd h hx
theorem callsE_zero {l : List (List UInt8)} (h : ∀ e ∈ callsE l, e = 0) : (l.map fun s => (readCall s).1).map callText = l := by
  induction l with
  | nil => rfl
  | cons s r ih =>
    have e : callsE (s :: r) = (readCall s).2 ++ callsE r := by simp [callsE]
    rw [e] at h
    rw [List.map_cons, List.map_cons, ih fun e he => h e (List.mem_append_right _ he), text_readCall fun e he => h e (List.mem_append_left _ he)]
theorem parse_back {l : List UInt8} (h : (parse l).2 = 0) : itoa (parse l).1 = l := itoa_parse (Prod.ext rfl h : parse l = ((parse l).1, 0))
theorem len8 {l : List (List UInt8)} (h : 8 ≤ l.length) : ∃ a b c d e f g i r, l = a :: b :: c :: d :: e :: f :: g :: i :: r := by
  match l, h with
  | a :: b :: c :: d :: e :: f :: g :: i :: r, _ => exact ⟨_, _, _, _, _, _, _, _, _, rfl⟩
/-- The fields that were read are the message's fields. -/
theorem fields_take {k : Int} {l : List (List UInt8)} (hk : kindOf (at' l 4) = k) (hk0 : k ≠ 0) (h8 : 8 ≤ l.length) (hs : shapedN k l.length = true) (hE : ∀ e ∈ readE k l, e = 0) : fieldsM (readM k l) = l := by
  have hw := word_kind (w := at' l 4) (by rw [hk]; exact hk0)
  rw [hk] at hw
  obtain ⟨a, b, c, d, e, f, g, i, r, rfl⟩ := len8 h8
  have e1 := hE (parse a).2 (by simp [readE, headE, at'])
  have e2 := hE (parse b).2 (by simp [readE, headE, at'])
  have e3 := hE (parse c).2 (by simp [readE, headE, at'])
  have e4 := hE (parse d).2 (by simp [readE, headE, at'])
  have e5 := hE (dayR g).2 (by simp [readE, headE, at'])
  have e6 := hE (parse i).2 (by simp [readE, headE, at'])
  have p1 := parse_back e1
  have p2 := parse_back e2
  have p3 := parse_back e3
  have p4 := parse_back e4
  have p5 := text_dayR e5
  have p6 := parse_back e6
  have hwe : wordS k = e := hw.1
  rcases kinds hw.2 with rfl | rfl | rfl | rfl | rfl | rfl
  · have hr : r.length = 2 := by simpa [shapedN] using hs
    match r, hr with
    | [x, y], _ =>
      have q1 := parse_back (hE (parse x).2 (by simp [readE, midE, uCall, at']))
      have q2 := parse_back (hE (parse y).2 (by simp [readE, midE, uSecs, at']))
      simp [fieldsM, midS, readM, uCall, uSecs, uRoute, uCalls, at', p1, p2, p3, p4, p5, p6, q1, q2, hwe]
  · have hr : r = [] := by
      have : r.length = 0 := by simpa [shapedN] using hs
      exact List.length_eq_zero_iff.1 this
    subst hr
    simp [fieldsM, midS, readM, uCall, uSecs, uRoute, uCalls, at', p1, p2, p3, p4, p5, p6, hwe]
  · have hr : r.length = 1 := by simpa [shapedN] using hs
    match r, hr with
    | [x], _ =>
      have q1 := parse_back (hE (parse x).2 (by simp [readE, midE, uCall, at']))
      simp [fieldsM, midS, readM, uCall, uSecs, uRoute, uCalls, at', p1, p2, p3, p4, p5, p6, q1, hwe]
  · have q := callsE_zero (l := r) fun e he => hE e (by simp [readE, uCalls, restN, he])
    simp only [fieldsM, midS, readM]
    simp [uCall, uSecs, uRoute, uCalls, restN, at', p1, p2, p3, p4, p5, p6, hwe]
    rw [List.map_map] at q
    exact q
  · have hr : 2 ≤ r.length := by simpa [shapedN] using hs
    match r, hr with
    | x :: y :: r', _ =>
      have q1 := parse_back (hE (parse x).2 (by simp [readE, midE, uRoute, at']))
      have q2 := hE (if y = wYes ∨ y = wNo then 0 else 3) (by simp [readE, midE, uRoute, at'])
      have q := callsE_zero (l := r') fun e he => hE e (by simp [readE, uCalls, restN, he])
      have q3 : (if (y == wYes) = true then wYes else wNo) = y := by
        by_cases hy : y = wYes
        · rw [hy]; rfl
        · by_cases hn : y = wNo
          · rw [hn]; rfl
          · rw [if_neg (by simp [hy, hn])] at q2
            exact absurd q2 (by decide)
      rw [List.map_map] at q
      simp only [fieldsM, midS, readM]
      simp [uCall, uSecs, uRoute, uCalls, restN, at', p1, p2, p3, p4, p5, p6, hwe, q1]
      refine ⟨by simpa using q3, q⟩
  · have hr : r = [] := by
      have : r.length = 0 := by simpa [shapedN] using hs
      exact List.length_eq_zero_iff.1 this
    subst hr
    simp [fieldsM, midS, readM, uCall, uSecs, uRoute, uCalls, at', p1, p2, p3, p4, p5, p6, hwe]
/-- A line that is read as a message is this message's line. -/
theorem format_parse {line : List UInt8} {m : MsgD} (h : parseM line = (m, 0)) : formatM m = (line, 0) ∧ checkM m = 0 := by
  unfold parseM at h
  split at h
  · rename_i h1
    rw [Prod.mk.injEq] at h
    exact absurd h.2 h1
  · rename_i h1
    split at h
    · rw [Prod.mk.injEq] at h; exact absurd h.2 (by decide)
    · rename_i h2
      obtain ⟨l, e, hl⟩ : ∃ l e, splitS line = (l, e) := ⟨_, _, rfl⟩
      rw [hl] at h h1 h2
      simp only [Decidable.not_not] at h h1 h2
      subst h1
      have hj := join_split hl
      obtain ⟨k, hk⟩ : ∃ k, kindOf (at' l 4) = k := ⟨_, rfl⟩
      rw [hk] at h h2
      simp only [not_or, Bool.not_eq_false] at h2
      unfold takeM at h
      simp only at h
      split at h
      · rename_i h3
        rw [Prod.mk.injEq] at h
        rw [firstE_app] at h3
        split at h3
        · rename_i h4
          have hc : checkM (readM k l) = 0 := by
            unfold firstE at h3
            split at h3
            · assumption
            · exact absurd h3 (by assumption)
          rw [← h.1]
          refine ⟨?_, hc⟩
          unfold formatM
          rw [if_pos hc, fields_take hk h2.2.1 (by omega) h2.2.2 (firstE_zero h4), hj]
        · rename_i h4
          exact absurd h3 h4
      · rename_i h3
        rw [Prod.mk.injEq] at h
        exact absurd h.2 h3
theorem parse_err {line : List UInt8} {m : MsgD} {e : Int} (h : parseM line = (m, e)) (he : e ≠ 0) : m = zeroM := by
  unfold parseM at h
  split at h
  · rw [Prod.mk.injEq] at h; exact h.1.symm
  · split at h
    · rw [Prod.mk.injEq] at h; exact h.1.symm
    · unfold takeM at h
      simp only at h
      split at h
      · rw [Prod.mk.injEq] at h; exact absurd h.2.symm he
      · rw [Prod.mk.injEq] at h; exact h.1.symm
theorem parse_isI (l : List UInt8) : isI (parse l).1 := parse_bounds (Prod.ext rfl rfl : parse l = ((parse l).1, (parse l).2))
theorem readCall_ok (s : List UInt8) : okCall (readCall s).1 := by
  unfold readCall
  split
  · exact ⟨parse_isI _, parse_isI _, parse_isI _⟩
  · exact ⟨⟨by decide, by decide⟩, ⟨by decide, by decide⟩, by decide, by decide⟩
theorem read_ok (k : Int) (hk : isI k) (l : List (List UInt8)) : OkM (readM k l) := by
  have z : isI 0 := ⟨by decide, by decide⟩
  refine ⟨parse_isI _, parse_isI _, parse_isI _, parse_isI _, hk, ?_, parse_isI _, ?_, ?_, ?_, ?_⟩
  · have := (day_bd (dayR_day (at' l 6))).1
    exact ⟨by show _ ≤ (dayR (at' l 6)).1; omega, by show (dayR (at' l 6)).1 ≤ _; omega⟩
  · show isI (if uCall k then _ else 0)
    split
    · exact parse_isI _
    · exact z
  · show isI (if uSecs k then _ else 0)
    split
    · exact parse_isI _
    · exact z
  · show isI (if uRoute k then _ else 0)
    split
    · exact parse_isI _
    · exact z
  · intro c hc
    have hc : c ∈ (if uCalls k then (l.drop (restN k)).map fun s => (readCall s).1 else []) := hc
    split at hc
    · obtain ⟨s, -, rfl⟩ := List.mem_map.1 hc
      exact readCall_ok s
    · cases hc
theorem zero_ok : OkM zeroM := by
  have z : isI 0 := ⟨by decide, by decide⟩
  exact ⟨z, z, z, z, z, z, z, z, z, z, fun c hc => by cases hc⟩
theorem parse_ok {line : List UInt8} {m : MsgD} {e : Int} (h : parseM line = (m, e)) : OkM m := by
  unfold parseM at h
  split at h
  · rw [Prod.mk.injEq] at h; rw [← h.1]; exact zero_ok
  · split at h
    · rw [Prod.mk.injEq] at h; rw [← h.1]; exact zero_ok
    · rename_i h2
      simp only [not_or] at h2
      have hk := (word_kind h2.2.1).2
      unfold takeM at h
      simp only at h
      split at h
      · rw [Prod.mk.injEq] at h
        rw [← h.1]
        exact read_ok _ ⟨by omega, by omega⟩ _
      · rw [Prod.mk.injEq] at h; rw [← h.1]; exact zero_ok
end Go.Proofs.YthdadalmgldppaaDoor.Msg
