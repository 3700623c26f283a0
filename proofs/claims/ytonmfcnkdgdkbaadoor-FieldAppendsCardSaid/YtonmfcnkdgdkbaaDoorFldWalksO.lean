/-
  THE CONTRACTS OF FIELD, FIFTEENTH PART: the reference's Text. Conditions: those of each contract.
-/
import Derived.Test.YtonmfcnkdgdkbaaDoorFldWalksN
namespace Go.Proofs.YtonmfcnkdgdkbaaDoor
open Go.RowKit
open Fld

theorem text_sum {ls : List (List UInt8)} (h : noLf ls = true) {o : List UInt8} (ho : textL ls = o) : textS ls = if 65536 < o.length then ([], 5) else (o, 0) := by
  unfold textS
  rw [if_neg (by rw [h]; decide), ho]
theorem no_lf_of {x : List UInt8} (h : ∀ m, m < x.length → x[m]? ≠ some 10) : x.contains 10 = false := by
  rw [Bool.eq_false_iff]
  intro hc
  obtain ⟨i, hi⟩ := List.getElem?_of_mem (List.contains_iff_mem.1 hc)
  exact h i (List.getElem?_eq_some_iff.1 hi).1 hi
set_option maxHeartbeats 4000000 in
theorem rtext_c (v : Value) (l : List (List UInt8)) (o : List UInt8) (e : Int) (H : Hid (textS l = (o, e))) (HL : Hid ((textL l).length ≤ 34359738368)) (B : Nat) (w : World) (hv : StrsIn B w v l) (hB : B ≤ w.heap.size) :
    Calls Tryd.prog 26 #[v] w fun r w' => r = .returned (.tuple #[str o, .int .i64 e]) ∧ Bl w w' := by
  obtain ⟨i0, hi, hz0, hz1, hz2⟩ := info_parts info_byte
  by_cases h0 : 0 < l.length
  · obtain ⟨b1, o1, cap1, rfl, l1, m1, hb1, hc1⟩ := hv.open h0
    have H1 := Lib.hid hc1
    clear hv hc1
    go_enter Tryd.func26, Tryd.ntmps26
    go_wp2
    go_loopw [4, 5] (fun vo i wr => ∃ (k : Nat), k ≤ l.length ∧ i = .int .i64 k ∧ Hid (OwnB w.heap.size vo (textL (l.take k)) wr) ∧ Hid (noLf (l.take k) = true) ∧ Hid (Bl w wr)) (fun _ i _ => l.length - (intOf i).toNat)
    case atStart => exact ⟨0, Nat.zero_le _, rfl, ownB_nil _ _, by show _ = _; rfl, bl_refl _⟩
    case round =>
      obtain ⟨k, hk, rfl, HO, HN, HB⟩ := hrel
      by_cases hlt : k < l.length
      · obtain ⟨x, hx⟩ : ∃ x, l[k]? = some x := ⟨_, List.getElem?_eq_getElem hlt⟩
        obtain ⟨s, rfl⟩ : ∃ s : ByteArray, s.data.toList = x := ⟨⟨x.toArray⟩, rfl⟩
        have hsx := len_bytes s
        have HX := Lib.hid hx
        have i1 : (k : Int) < (l.length : Int) := by omega
        have hlen : (textL (l.take (k + 1))).length = (textL (l.take k)).length + s.size + 1 := by rw [textL_next hx, List.length_append, List.length_append]; exact congrArg (· + 1) (congrArg (_ + ·) hsx)
        have hle : (textL (l.take (k + 1))).length ≤ 34359738368 := Nat.le_trans (textL_take_le l (k + 1)) HL.out
        have hcx : ∀ w', Bl w w' → w'.cell? ⟨b1, o1 + k, none⟩ = some (.string s) := fun w' hb => by rw [(bl_cell hb).1 _ _ (by omega)]; have := H1.out k _ HX.out 0 _ rfl; simpa using this
        have HC := Lib.hid hcx
        clear hx hcx
        have c1 := HC.out wr HB.out
        go_wp2
        go_loop [6] (fun i => ∃ m : Nat, m ≤ s.size ∧ i = .int .i64 m ∧ Hid (∀ j, j < m → s.data.toList[j]? ≠ some 10)) (fun i => s.size - (intOf i).toNat)
        case atStart => exact ⟨0, Nat.zero_le _, rfl, fun j hj => absurd hj (by omega)⟩
        case round =>
          obtain ⟨m, hm, rfl, HM⟩ := hrel
          by_cases hlm : m < s.size
          · have hb := bytes_get? s m hlm
            by_cases h10 : ((s[m]'hlm).toNat : Int) = 10
            · have HF := Lib.hid (text_lf (List.mem_of_getElem? HX.out) (List.contains_iff_mem.2 (List.mem_of_getElem? (by rw [hb, (some10 _).2 (by omega)]))))
              obtain ⟨e1, e2⟩ := Prod.mk.inj (HF.out.symm.trans H.out)
              clear HF H hb
              subst e1 e2
              go_wp2
              go_ret2
              exact ⟨rfl, HB.out⟩
            · have f1 : (((s[m]'hlm).toNat : Int) == 10) = false := by rw [beq_eq_false_iff_ne]; exact h10
              have HM' := Lib.hid (show ∀ j, j < m + 1 → s.data.toList[j]? ≠ some 10 from fun j hj => by
                by_cases e : j = m
                · rw [e, hb]; intro hc; exact h10 (by have := (some10 _).1 hc; omega)
                · exact HM.out j (by omega))
              clear hb
              go_wp2
              go_round
              case rel => exact ⟨m + 1, by omega, by go_num, HM'⟩
              case measure => simp [intOf]; omega
          · have HN' := Lib.hid (noLf_next HX.out HN.out (no_lf_of fun j hj => HM.out j (by omega)))
            have HT := Lib.hid (textL_next HX.out)
            go_wp2_with (at_builtin; refine Lib.wpList_append_own_string _ rfl _ _ 40 9 rfl w.heap.size 5 i0 Tryd.underlying40 Tryd.underlying9 hi hz0 hz1 hz2 _ _ _ rfl HO.out s rfl ?d3 ?d4 ?d5 ?_)
            case d3 => unfold maxLen; omega
            case d4 => omega
            case d5 => exact HB.out.size
            intro v4 w4 hown4 hgrow4 _
            have O4 := Lib.hid (ownB_str (q := s.data.toList) hown4 (by rw [hsx]))
            have B4 : Hid (Bl w w4) := HB.out.grown hgrow4 HB.out.size (fun k hk => (World.ownsRow.lt HO.out k hk).1)
            clear hown4 hgrow4
            have hlx : (textL (l.take k) ++ s.data.toList).length = (textL (l.take k)).length + s.size := by rw [List.length_append, hsx]
            go_wp2_with (at_builtin; refine wpList_append_own _ rfl _ _ 40 rfl w.heap.size 5 i0 (.int .u8 0) 1 1 Tryd.underlying40 hi hz0 hz1 hz2 rfl (by decide) _ _ _ rfl (ownB_alloc O4.out _) ⟨w4.heap.size, 0, none⟩ 1 1 [.int .u8 10] rfl rfl ?c1 ?c2 ?c3 ?c4 ?c5 ?_)
            case c1 => exact cells_of_lit _ (fun j u h => by simpa using h)
            case c2 => simp [Value.oneCell']
            case c3 => unfold maxLen; omega
            case c4 => omega
            case c5 => have := B4.out.size; simp; omega
            intro v5 w5 hown5 hgrow5 _
            have O5 := Lib.hid (ownB_app' (m := [10]) hown5 (by rw [hlx]; rfl))
            rw [← HT.out] at O5
            have B5 : Hid (Bl w w5) := (B4.out.alloc B4.out.size _).grown hgrow5 (by have := B4.out.size; simp; omega) (fun k hk => (World.ownsRow.lt O4.out k hk).1)
            clear hown5 hgrow5
            go_wp2
            go_roundw
            case rel => exact ⟨k + 1, by omega, by go_num, O5, HN', B5⟩
            case measure => simp [intOf]; omega
      · have HA := Lib.hid (show noLf l = true by have := HN.out; rw [List.take_of_length_le (by omega)] at this; exact this)
        rw [List.take_of_length_le (show l.length ≤ k by omega)] at HO
        obtain ⟨t, ht⟩ : ∃ t, textL l = t := ⟨_, rfl⟩
        rw [ht] at HO
        have htl : t.length ≤ 34359738368 := by rw [← ht]; exact HL.out
        have HE := Lib.hid (text_sum HA.out ht)
        clear ht
        obtain ⟨a3, c3, rfl⟩ := own_form HO.out
        by_cases hover : 65536 < t.length
        · have HF := Lib.hid (show (([] : List UInt8), (5 : Int)) = (o, e) by rw [← H.out, HE.out, if_pos hover])
          obtain ⟨e1, e2⟩ := Prod.mk.inj HF.out
          clear H HF HE
          subst e1 e2
          go_wp2
          go_ret2
          exact ⟨rfl, HB.out⟩
        · have HF := Lib.hid (show (t, (0 : Int)) = (o, e) by rw [← H.out, HE.out, if_neg hover])
          obtain ⟨e1, e2⟩ := Prod.mk.inj HF.out
          clear H HF HE
          subst e1 e2
          have hcv := ownB_conv HO.out
          go_wp2
          go_ret2
          exact ⟨rfl, HB.out⟩
  · obtain ⟨a1, c1, rfl, m1, rfl⟩ := hv.empty (by omega)
    have HF := Lib.hid (show (([] : List UInt8), (0 : Int)) = (o, e) by rw [← H.out]; rfl)
    obtain ⟨e1, e2⟩ := Prod.mk.inj HF.out
    clear H HF hv
    subst e1 e2
    have hcv := ownB_conv (ownB_nil w.heap.size w)
    go_enter Tryd.func26, Tryd.ntmps26
    go_wp2_with fail
    refine wp_loop_rounds 1 ?_
    rw [rounds_succ]
    go_wp2
    go_ret2
    exact ⟨rfl, bl_refl _⟩
end Go.Proofs.YtonmfcnkdgdkbaaDoor
