/-
  THE CONTRACTS OF FIELD, SEVENTH PART: Unquote, of the program and of the reference. Conditions: those of each contract.
-/
import Derived.Test.YthdadalmgldppaaDoorMFldWalksF
namespace Go.Proofs.YthdadalmgldppaaDoor
open Go.RowKit
open Fld

theorem decN_len : ∀ (f : Nat) (s o : List UInt8), decN f s = some o → o.length ≤ s.length
  | 0, [], o, h => by cases h; exact Nat.le_refl _
  | f + 1, [], o, h => by cases h; exact Nat.le_refl _
  | 0, _ :: _, o, h => by cases h
  | f + 1, c :: r, o, h => by
    simp only [decN] at h
    split at h
    · cases h
    · rename_i b k hk
      obtain ⟨h1, h2⟩ := oneS_pos hk
      obtain ⟨o', ho', rfl⟩ := Option.map_eq_some_iff.1 h
      have := decN_len f _ o' ho'
      rw [List.length_drop] at this
      rw [List.length_cons]
      omega
theorem decS_len {s o : List UInt8} (h : decS s = some o) : o.length ≤ s.length := decN_len _ _ _ h
/-- What Unquote answers. -/
def unqR (r : Option (List UInt8)) : List UInt8 × Int := match r with
  | some o => (o, 0)
  | none => ([], 3)
theorem str_eq {q : List UInt8} {s : ByteArray} : (⟨q.toArray⟩ : ByteArray) = s ↔ q = s.data.toList := by
  constructor
  · intro h; rw [← h]
  · intro h; rw [h]
theorem str_self (s : ByteArray) : str s.data.toList = .string s := rfl
theorem unq_plain {l : List UInt8} (h : plainS l = true) : unquoteS l = some l := by unfold unquoteS; rw [if_pos h]
theorem head_is (s : ByteArray) (h : 0 < s.size) : s.data.toList.head? = some (s[0]'h) := by rw [List.head?_eq_getElem?]; exact bytes_get? s 0 h
theorem last_is (s : ByteArray) (h : 0 < s.size) : s.data.toList.getLast? = some (s[s.size - 1]'(by omega)) := by
  rw [List.getLast?_eq_getElem?, show s.data.toList.length = s.size by simp]
  exact bytes_get? s _ (by omega)
theorem some34 (b : UInt8) : ((some b : Option UInt8) == some 34) = (b.toNat == 34) := by
  by_cases e : b = 34
  · subst e; rfl
  · have : ¬ b.toNat = 34 := fun k => e (UInt8.toNat.inj (by simpa using k))
    rw [show (b.toNat == 34) = false by simpa using this]
    simpa using e
theorem unq_bad {s : ByteArray} (h : plainS s.data.toList = false) (hb : s.size < 2 ∨ (∃ h0 : 0 < s.size, ¬ (s[0]'h0).toNat = 34 ∨ ¬ (s[s.size - 1]'(by omega)).toNat = 34)) : unquoteS s.data.toList = none := by
  unfold unquoteS
  rw [if_neg (by rw [h]; decide), if_pos]
  rw [show s.data.toList.length = s.size by simp]
  rcases hb with hb | ⟨h0, hb⟩
  · simp [hb]
  · rw [head_is s h0, last_is s h0, some34, some34]
    rcases hb with hb | hb <;> simp [hb]
theorem unq_in {s : ByteArray} (h : plainS s.data.toList = false) (h2 : 2 ≤ s.size) (h3 : (s[0]'(by omega)).toNat = 34) (h4 : (s[s.size - 1]'(by omega)).toNat = 34) :
    unquoteS s.data.toList = match decS (s.extract 1 (s.size - 1)).data.toList with
      | none => none
      | some o => if quoteS o = s.data.toList then some o else none := by
  have hl : s.data.toList.length = s.size := by simp
  unfold unquoteS
  rw [if_neg (by rw [h]; decide), if_neg, ext_list, List.dropLast_eq_take, List.length_drop, hl]
  · rfl
  · rw [hl, head_is s (by omega), last_is s (by omega), some34, some34, h3, h4]
    simp
    omega
set_option maxRecDepth 20000 in
set_option maxHeartbeats 1000000 in
theorem unquote_c (s : ByteArray) (hs : s.size ≤ 34359738368) (o : List UInt8) (e : Int) (H : Hid (unqR (unquoteS s.data.toList) = (o, e))) (w : World) :
    Calls Tryd.prog 64 #[.string s] w fun r w' => r = .returned (.tuple #[str o, .int .i64 e]) ∧ Bl w w' := by
  obtain ⟨p, hp⟩ : ∃ p, plainS s.data.toList = p := ⟨_, rfl⟩
  have HP := Lib.hid hp
  clear hp
  go_enter Tryd.func64, Tryd.ntmps64
  go_wp2_with (go_at_call 79; refine (plain_c s (by unfold maxLen; omega) _).mono ?_)
  rintro r w1 ⟨rfl, b1⟩
  rw [HP.out]
  cases p with
  | true =>
    have HF := Lib.hid (show (s.data.toList, (0 : Int)) = (o, e) by rw [← H.out, unq_plain HP.out]; rfl)
    obtain ⟨e1, e2⟩ := Prod.mk.inj HF.out
    clear H HF
    subst e1 e2
    go_wp2
    go_ret2
    exact ⟨rfl, b1⟩
  | false =>
    by_cases h2 : 2 ≤ s.size
    · by_cases h3 : ((s[0]'(by omega)).toNat : Int) = 34
      · by_cases h4 : ((s[s.size - 1]'(by omega)).toNat : Int) = 34
        · have HU := Lib.hid (unq_in HP.out h2 (by omega) (by omega))
          obtain ⟨o1, ok1, hd⟩ : ∃ o1 ok1, decR (decS (s.extract 1 (s.size - 1)).data.toList) = (o1, ok1) := ⟨_, _, rfl⟩
          have HD := Lib.hid hd
          have hdc := decode_c (s.extract 1 (s.size - 1)) (by rw [ext_size _ _ _ (by omega) (by omega)]; omega) o1 ok1 HD
          clear hd
          have HL := Lib.hid (fun (h : ok1 = true) => show o1.length ≤ s.size by
            have hx : decR (decS (s.extract 1 (s.size - 1)).data.toList) = (o1, ok1) := HD.out
            cases hy : decS (s.extract 1 (s.size - 1)).data.toList with
            | none => rw [hy] at hx; rw [h] at hx; cases hx
            | some z =>
              rw [hy] at hx
              obtain ⟨rfl, -⟩ := Prod.mk.inj hx
              have := decS_len hy
              have h1 : (s.extract 1 (s.size - 1)).data.toList.length = (s.extract 1 (s.size - 1)).size := by simp
              rw [h1, ext_size _ _ _ (by omega) (by omega)] at this
              omega)
          go_wp2_with (go_at_call 88; refine (hdc _).mono ?_)
          rintro r w2 ⟨rfl, b2⟩
          clear hdc
          cases ok1 with
          | false =>
            have HF := Lib.hid (show (([] : List UInt8), (3 : Int)) = (o, e) by
              have hx := HD.out
              rw [← H.out, HU.out]
              cases hy : decS (s.extract 1 (s.size - 1)).data.toList with
              | none => rfl
              | some z => rw [hy] at hx; cases hx)
            obtain ⟨e1, e2⟩ := Prod.mk.inj HF.out
            clear H HF
            subst e1 e2
            go_wp2
            go_ret2
            exact ⟨rfl, bl_next b1 b2⟩
          | true =>
            have HO := Lib.hid (show decS (s.extract 1 (s.size - 1)).data.toList = some o1 by
              have hx := HD.out
              cases hy : decS (s.extract 1 (s.size - 1)).data.toList with
              | none => rw [hy] at hx; cases hx
              | some z => rw [hy] at hx; rw [(Prod.mk.inj hx).1])
            have hol : o1.length ≤ s.size := HL.out rfl
            obtain ⟨q, hq⟩ : ∃ q, quoteS o1 = q := ⟨_, rfl⟩
            have HQ := Lib.hid hq
            clear hq HL HD
            have hqc := quote_c ⟨o1.toArray⟩ q HQ (by show o1.toArray.size ≤ _; rw [List.size_toArray]; omega)
            by_cases hqs : (⟨q.toArray⟩ : ByteArray) = s
            · have hbq : (q == s.toList) = true := by rw [beq_iff_eq, ByteArray.toList_eq]; exact str_eq.1 hqs
              have HF := Lib.hid (show (o1, (0 : Int)) = (o, e) by
                rw [← H.out, HU.out, HO.out]
                symm
                show unqR (if quoteS o1 = s.data.toList then some o1 else none) = _
                rw [if_pos (HQ.out.trans (str_eq.1 hqs))]
                rfl)
              obtain ⟨e1, e2⟩ := Prod.mk.inj HF.out
              clear H HF
              subst e1 e2
              go_wp2_with (go_at_call 56; refine (hqc _).mono ?_)
              rintro r w3 ⟨rfl, b3⟩
              go_wp2
              go_ret2
              exact ⟨rfl, bl_next (bl_next b1 b2) b3⟩
            · have hbq : (q == s.toList) = false := by rw [beq_eq_false_iff_ne, ByteArray.toList_eq]; exact fun hc => hqs (str_eq.2 hc)
              have HF := Lib.hid (show (([] : List UInt8), (3 : Int)) = (o, e) by
                rw [← H.out, HU.out, HO.out]
                symm
                show unqR (if quoteS o1 = s.data.toList then some o1 else none) = _
                rw [if_neg (fun hc => hqs (str_eq.2 (HQ.out.symm.trans hc)))]
                rfl)
              obtain ⟨e1, e2⟩ := Prod.mk.inj HF.out
              clear H HF
              subst e1 e2
              go_wp2_with (go_at_call 56; refine (hqc _).mono ?_)
              rintro r w3 ⟨rfl, b3⟩
              go_wp2
              go_ret2
              exact ⟨rfl, bl_next (bl_next b1 b2) b3⟩
        · have f4 : (((s[s.size - 1]'(by omega)).toNat : Int) != 34) = true := by rw [bne_iff_ne]; exact h4
          have HU := Lib.hid (unq_bad HP.out (.inr ⟨by omega, .inr (by omega)⟩))
          have HF := Lib.hid (show (([] : List UInt8), (3 : Int)) = (o, e) by rw [← H.out, HU.out]; rfl)
          obtain ⟨e1, e2⟩ := Prod.mk.inj HF.out
          clear H HF HU
          subst e1 e2
          go_wp2
          go_ret2
          exact ⟨rfl, b1⟩
      · have f3 : (((s[0]'(by omega)).toNat : Int) != 34) = true := by rw [bne_iff_ne]; exact h3
        have HU := Lib.hid (unq_bad HP.out (.inr ⟨by omega, .inl (by omega)⟩))
        have HF := Lib.hid (show (([] : List UInt8), (3 : Int)) = (o, e) by rw [← H.out, HU.out]; rfl)
        obtain ⟨e1, e2⟩ := Prod.mk.inj HF.out
        clear H HF HU
        subst e1 e2
        go_wp2
        go_ret2
        exact ⟨rfl, b1⟩
    · have HU := Lib.hid (unq_bad HP.out (.inl (by omega)))
      have HF := Lib.hid (show (([] : List UInt8), (3 : Int)) = (o, e) by rw [← H.out, HU.out]; rfl)
      obtain ⟨e1, e2⟩ := Prod.mk.inj HF.out
      clear H HF HU
      subst e1 e2
      go_wp2
      go_ret2
      exact ⟨rfl, b1⟩
theorem ext_mid (s : ByteArray) (k n : Nat) : (s.extract k n).data.toList = (s.extract 1 n).data.toList.drop (k - 1) ∨ k = 0 := by
  by_cases h : k = 0
  · exact .inr h
  · left
    rw [ext_list, ext_list, List.drop_take, List.drop_drop, show 1 + (k - 1) = k by omega, show n - 1 - (k - 1) = n - k by omega]
theorem ext_mid1 (s : ByteArray) (k n : Nat) (h : 1 ≤ k) : (s.extract k n).data.toList = (s.extract 1 n).data.toList.drop (k - 1) := by
  rcases ext_mid s k n with h1 | h1
  · exact h1
  · omega
theorem u8_cast (b : UInt8) : ((b.toNat : Nat) : Int) = b.toNat := rfl
set_option maxRecDepth 20000 in
set_option maxHeartbeats 4000000 in
theorem runquote_c (s : ByteArray) (hs : s.size ≤ 34359738368) (o : List UInt8) (e : Int) (H : Hid (unqR (unquoteS s.data.toList) = (o, e))) (w : World) :
    Calls Tryd.prog 70 #[.string s] w fun r w' => r = .returned (.tuple #[str o, .int .i64 e]) ∧ Bl w w' := by
  obtain ⟨i0, hi, hz0, hz1, hz2⟩ := info_parts info_byte
  obtain ⟨p, hp⟩ : ∃ p, plainS s.data.toList = p := ⟨_, rfl⟩
  have HP := Lib.hid hp
  clear hp
  go_enter Tryd.func70, Tryd.ntmps70
  go_wp2_with (go_at_call 80; refine (rplain_c s (by unfold maxLen; omega) _).mono ?_)
  rintro r w1 ⟨rfl, rfl⟩
  rw [HP.out]
  cases p with
  | true =>
    have HF := Lib.hid (show (s.data.toList, (0 : Int)) = (o, e) by rw [← H.out, unq_plain HP.out]; rfl)
    obtain ⟨e1, e2⟩ := Prod.mk.inj HF.out
    clear H HF
    subst e1 e2
    go_wp2
    go_ret2
    exact ⟨rfl, bl_refl _⟩
  | false =>
    by_cases h2 : 2 ≤ s.size
    · by_cases h3 : ((s[0]'(by omega)).toNat : Int) = 34
      · by_cases h4 : ((s[s.size - 1]'(by omega)).toNat : Int) = 34
        · have HU := Lib.hid (unq_in HP.out h2 (by omega) (by omega))
          have hil : (s.extract 1 (s.size - 1)).data.toList.length = s.size - 2 := by
            rw [Array.length_toList]
            exact (ext_size s 1 (s.size - 1) (by omega) (by omega)).trans (by omega)
          obtain ⟨l, hl⟩ : ∃ l, (s.extract 1 (s.size - 1)).data.toList = l := ⟨_, rfl⟩
          rw [hl] at HU hil
          have HL := Lib.hid hl
          clear hl
          go_wp2
          go_loopw [5, 6] (fun vo i wr => ∃ (k : Nat) (out : List UInt8), 1 ≤ k ∧ k ≤ s.size - 1 ∧ out.length + 1 ≤ k ∧ i = .int .i64 k ∧ Hid (OwnB w.heap.size vo out wr) ∧ Hid (decS l = (decS (l.drop (k - 1))).map (out ++ ·)) ∧ Hid (Bl w wr)) (fun _ i _ => s.size - (intOf i).toNat)
          case atStart => exact ⟨1, [], Nat.le_refl _, by omega, Nat.le_refl _, rfl, ownB_nil _ _, by show _ = _; simp, bl_refl _⟩
          case round =>
            obtain ⟨k, out, hk1, hk, hol, rfl, HO, HD, HB⟩ := hrel
            by_cases hlt : k < s.size - 1
            · have hz : 0 < (s.extract k (s.size - 1)).size := by rw [ext_size _ _ _ (by omega) (by omega)]; omega
              have hm : (s.extract k (s.size - 1)).size ≤ maxLen := by rw [ext_size _ _ _ (by omega) (by omega)]; unfold maxLen; omega
              obtain ⟨c, n, hcn⟩ : ∃ c n, (oneS (l.drop (k - 1))).getD (0, 0) = (c, n) := ⟨_, _, rfl⟩
              have HC := Lib.hid hcn
              have HX := Lib.hid (show (oneS (s.extract k (s.size - 1)).data.toList).getD (0, 0) = (c, n) by rw [ext_mid1 s k _ hk1, HL.out]; exact hcn)
              have he := one_c (s.extract k (s.size - 1)) hm hz c n HX
              clear hcn
              have hlen : (l.drop (k - 1)).length = s.size - 1 - k := by rw [List.length_drop, hil]; omega
              go_wp2_with (go_at_call 93; refine (he _).mono ?_)
              rintro r w1 ⟨rfl, b1⟩
              have B1 : Hid (Bl w w1) := bl_next HB.out b1
              have O1 := Lib.hid (ownB_bl HO.out b1)
              clear b1 he
              by_cases hn : n = 0
              · subst hn
                have HN := Lib.hid (show (([] : List UInt8), (3 : Int)) = (o, e) by
                  rw [← H.out, HU.out, HD.out, decS_bad (fun h => by rw [h] at hlen; simp at hlen; omega) (pair_none HC.out)]
                  rfl)
                obtain ⟨e1, e2⟩ := Prod.mk.inj HN.out
                clear H HN
                subst e1 e2
                go_wp2
                go_ret2
                exact ⟨rfl, B1.out⟩
              · have ho := pair_some HC.out hn
                have hp := oneS_pos ho
                have HS := Lib.hid (dec_step ho HD.out)
                have hnz : ((n : Nat) : Int) ≠ 0 := by omega
                rw [hlen] at hp
                clear ho hlen
                go_wp2_with (at_builtin; refine wpList_append_own _ rfl _ _ 80 rfl w.heap.size 5 i0 (.int .u8 0) 1 1 Tryd.underlying80 hi hz0 hz1 hz2 rfl (by decide) _ _ _ rfl (ownB_alloc O1.out _) ⟨w1.heap.size, 0, none⟩ 1 1 [.int .u8 c.toNat] rfl rfl ?c1 ?c2 ?c3 ?c4 ?c5 ?_)
                case c1 => exact cells_of_lit _ (fun j u h => by simpa using h)
                case c2 => simp [Value.oneCell']
                case c3 => unfold maxLen; omega
                case c4 => omega
                case c5 => have := B1.out.size; simp; omega
                intro v3 w3 hown3 hgrow3 _
                have O3 := Lib.hid (ownB_app (m := [c]) hown3)
                have B3 : Hid (Bl w w3) := (B1.out.alloc B1.out.size _).grown hgrow3 (by have := B1.out.size; simp; omega) (fun k hk => (World.ownsRow.lt O1.out k hk).1)
                clear hown3 hgrow3
                go_wp2
                go_roundw
                case rel => exact ⟨k + n, out ++ [c], by omega, by omega, by simp; omega, by go_num, O3, by have := HS.out; rw [show k + n - 1 = k - 1 + n by omega]; exact this, B3⟩
                case measure => simp [intOf]; omega
            · obtain rfl : k = s.size - 1 := by omega
              have HO2 := Lib.hid (show decS l = some out by
                rw [HD.out, List.drop_eq_nil_of_le (by rw [hil]; omega), decS_nil]
                simp)
              have hcv := ownB_conv HO.out
              obtain ⟨q, hq⟩ : ∃ q, quoteS out = q := ⟨_, rfl⟩
              have HQ := Lib.hid hq
              clear hq
              have hqc := rquote_c ⟨out.toArray⟩ q HQ (by show out.toArray.size ≤ _; rw [List.size_toArray]; omega)
              by_cases hqs : (⟨q.toArray⟩ : ByteArray) = s
              · have hbq : (q == s.toList) = true := by rw [beq_iff_eq, ByteArray.toList_eq]; exact str_eq.1 hqs
                have HF := Lib.hid (show (out, (0 : Int)) = (o, e) by
                  rw [← H.out, HU.out, HO2.out]
                  symm
                  show unqR (if quoteS out = s.data.toList then some out else none) = _
                  rw [if_pos (HQ.out.trans (str_eq.1 hqs))]
                  rfl)
                obtain ⟨e1, e2⟩ := Prod.mk.inj HF.out
                clear H HF
                subst e1 e2
                go_wp2_with (go_at_call 58; refine (hqc _).mono ?_)
                rintro r w3 ⟨rfl, b3⟩
                have hcv3 := ownB_conv (ownB_bl HO.out b3)
                go_wp2
                go_ret2
                exact ⟨rfl, bl_next HB.out b3⟩
              · have hbq : (q == s.toList) = false := by rw [beq_eq_false_iff_ne, ByteArray.toList_eq]; exact fun hc => hqs (str_eq.2 hc)
                have HF := Lib.hid (show (([] : List UInt8), (3 : Int)) = (o, e) by
                  rw [← H.out, HU.out, HO2.out]
                  symm
                  show unqR (if quoteS out = s.data.toList then some out else none) = _
                  rw [if_neg (fun hc => hqs (str_eq.2 (HQ.out.symm.trans hc)))]
                  rfl)
                obtain ⟨e1, e2⟩ := Prod.mk.inj HF.out
                clear H HF
                subst e1 e2
                go_wp2_with (go_at_call 58; refine (hqc _).mono ?_)
                rintro r w3 ⟨rfl, b3⟩
                go_wp2
                go_ret2
                exact ⟨rfl, bl_next HB.out b3⟩
        · have f4 : (((s[s.size - 1]'(by omega)).toNat : Int) != 34) = true := by rw [bne_iff_ne]; exact h4
          have HU := Lib.hid (unq_bad HP.out (.inr ⟨by omega, .inr (by omega)⟩))
          have HF := Lib.hid (show (([] : List UInt8), (3 : Int)) = (o, e) by rw [← H.out, HU.out]; rfl)
          obtain ⟨e1, e2⟩ := Prod.mk.inj HF.out
          clear H HF HU
          subst e1 e2
          go_wp2
          go_ret2
          exact ⟨rfl, bl_refl _⟩
      · have f3 : (((s[0]'(by omega)).toNat : Int) != 34) = true := by rw [bne_iff_ne]; exact h3
        have HU := Lib.hid (unq_bad HP.out (.inr ⟨by omega, .inl (by omega)⟩))
        have HF := Lib.hid (show (([] : List UInt8), (3 : Int)) = (o, e) by rw [← H.out, HU.out]; rfl)
        obtain ⟨e1, e2⟩ := Prod.mk.inj HF.out
        clear H HF HU
        subst e1 e2
        go_wp2
        go_ret2
        exact ⟨rfl, bl_refl _⟩
    · have HU := Lib.hid (unq_bad HP.out (.inl (by omega)))
      have HF := Lib.hid (show (([] : List UInt8), (3 : Int)) = (o, e) by rw [← H.out, HU.out]; rfl)
      obtain ⟨e1, e2⟩ := Prod.mk.inj HF.out
      clear H HF HU
      subst e1 e2
      go_wp2
      go_ret2
      exact ⟨rfl, bl_refl _⟩
end Go.Proofs.YthdadalmgldppaaDoor
