/-
  THE CONTRACTS OF FIELD, TENTH PART: the reference's Split; Same. Conditions: those of each contract.
-/
import Derived.Test.YthdadalmgldppaaDoorMFldWalksI
namespace Go.Proofs.YthdadalmgldppaaDoor
open Go.RowKit
open Fld

set_option maxRecDepth 20000 in
set_option maxHeartbeats 4000000 in
theorem rsplit_c (s : ByteArray) (hs : s.size ≤ 34359738368) (l : List (List UInt8)) (e : Int) (H : Hid (splitS s.data.toList = (l, e))) (w : World) :
    Calls Tryd.prog 42 #[.string s] w fun r w' => ∃ v, r = .returned (.tuple #[v, .int .i64 e]) ∧ OwnS w.heap.size v l w' ∧ Bl w w' := by
  obtain ⟨i0, hi, hz0, hz1, hz2⟩ := info_parts info_str
  by_cases hbig : 65536 < s.size
  · have HF := Lib.hid (show (([] : List (List UInt8)), (5 : Int)) = (l, e) by rw [← H.out]; unfold splitS; rw [if_pos (by rw [len_bytes]; exact hbig)])
    obtain ⟨e1, e2⟩ := Prod.mk.inj HF.out
    clear H HF
    subst e1 e2
    go_enter Tryd.func42, Tryd.ntmps42
    go_wp2
    go_ret2
    exact ⟨_, rfl, ownS_nil _ _, bl_refl _⟩
  by_cases h0 : s.size = 0
  · have hs : s.toList = [] := toList_nil h0
    have hn := len_bytes s
    have HF := Lib.hid (show (([] : List (List UInt8)), (0 : Int)) = (l, e) by
      rw [← H.out]; unfold splitS; rw [if_neg (by rw [hn]; omega), if_pos (List.length_eq_zero_iff.1 (hn.trans h0))])
    obtain ⟨e1, e2⟩ := Prod.mk.inj HF.out
    clear H HF
    subst e1 e2
    go_enter Tryd.func42, Tryd.ntmps42
    go_wp2
    go_ret2
    exact ⟨_, rfl, ownS_nil _ _, bl_refl _⟩
  have hne := toList_ne h0
  have hne' := toList_ne' h0
  have hn := len_bytes s
  have HS := Lib.hid (show pre [] (splitF (64 - 0) (s.data.toList.drop 0)) = (l, e) by
    rw [pre_nil, ← H.out]; unfold splitS; rw [if_neg (by rw [hn]; omega), if_neg (fun h => by rw [h] at hn; simp at hn; omega)]; rfl)
  clear H
  go_enter Tryd.func42, Tryd.ntmps42
  go_wp2
  go_loopw [4, 5, 6] (fun vo i nn wr => ∃ (k : Nat) (out : List (List UInt8)), k ≤ s.size ∧ out.length ≤ 64 ∧ i = .int .i64 k ∧ nn = .int .i64 out.length ∧ Hid (OwnS w.heap.size vo out wr) ∧ Hid (pre out (splitF (64 - out.length) (s.data.toList.drop k)) = (l, e)) ∧ Hid (Bl w wr)) (fun _ i _ _ => s.size + 1 - (intOf i).toNat)
  case atStart => exact ⟨0, [], Nat.zero_le _, by decide, rfl, rfl, ownS_nil _ _, HS, bl_refl _⟩
  case round =>
    obtain ⟨k, out, hk, hol', rfl, rfl, HO, HD, HB⟩ := hrel
    by_cases hol : ¬ out.length < 64
    · have h64 : out.length = 64 := by omega
      have HF := Lib.hid (show (([] : List (List UInt8)), (5 : Int)) = (l, e) by rw [← HD.out, h64]; rfl)
      obtain ⟨e1, e2⟩ := Prod.mk.inj HF.out
      clear HF HD
      subst e1 e2
      go_wp2
      go_ret2
      exact ⟨_, rfl, ownS_nil _ _, HB.out⟩
    replace hol : out.length < 64 := Decidable.not_not.1 hol
    obtain ⟨r, hr⟩ : ∃ r, k + extS (s.data.toList.drop k) = r := ⟨_, rfl⟩
    have hxl := extS_le (s.data.toList.drop k)
    rw [List.length_drop, hn] at hxl
    have hrs : r ≤ s.size := by omega
    have hkr : k ≤ r := by omega
    have HR := Lib.hid hr
    have hex := rend_c s hs k hk r HR
    have HT := Lib.hid (show (s.extract k r).data.toList = (s.data.toList.drop k).take (extS (s.data.toList.drop k)) by rw [ext_list, ← hr, Nat.add_sub_cancel_left])
    have HE := Lib.hid (show (s.data.toList.drop k).drop (extS (s.data.toList.drop k)) = s.data.toList.drop r by rw [List.drop_drop, hr])
    have h64 : 64 - out.length = (63 - out.length) + 1 := by omega
    rw [h64] at HD
    clear hr hxl
    obtain ⟨u, hu⟩ : ∃ u, unquoteS (s.extract k r).data.toList = u := ⟨_, rfl⟩
    have HU := Lib.hid (show unquoteS ((s.data.toList.drop k).take (extS (s.data.toList.drop k))) = u by rw [← HT.out]; exact hu)
    have hsz : (s.extract k r).size ≤ 34359738368 := by rw [ext_size _ _ _ hrs hkr]; omega
    cases u with
    | none =>
      have hun := runquote_c (s.extract k r) hsz [] 3 (by show _ = _; rw [hu]; rfl)
      have HF := Lib.hid (show (([] : List (List UInt8)), (3 : Int)) = (l, e) by rw [← HD.out, splitF_bad HU.out]; rfl)
      obtain ⟨e1, e2⟩ := Prod.mk.inj HF.out
      clear HF hu HD
      subst e1 e2
      go_wp2_with (go_at_call 69; refine (hex _).mono ?_)
      rintro x w1 ⟨rfl, rfl⟩
      go_wp2_with (go_at_call 70; refine (hun _).mono ?_)
      rintro x w2 ⟨rfl, b2⟩
      go_wp2
      go_ret2
      exact ⟨_, rfl, ownS_nil _ _, bl_next HB.out b2⟩
    | some f =>
      have hun := runquote_c (s.extract k r) hsz f 0 (by show _ = _; rw [hu]; rfl)
      clear hu
      by_cases hend : r < s.size
      · have HC := Lib.hid (drop_cons s r hend)
        by_cases h44 : ((s[r]'hend).toNat : Int) = 44
        · have HM := Lib.hid (show pre (out ++ [f]) (splitF (63 - out.length) (s.data.toList.drop (r + 1))) = (l, e) by
            rw [← HD.out, splitF_more HU.out (HE.out.trans HC.out) (by omega), pre_pre])
          clear HD
          go_wp2_with (go_at_call 69; refine (hex _).mono ?_)
          rintro x w1 ⟨rfl, rfl⟩
          go_wp2_with (go_at_call 70; refine (hun _).mono ?_)
          rintro x w2 ⟨rfl, b2⟩
          have B2 : Hid (Bl w w2) := bl_next HB.out b2
          have O2 := Lib.hid (ownS_bl HO.out b2)
          clear b2 hun hex
          go_wp2_with (at_builtin; refine wpList_append_own _ rfl _ _ 48 rfl w.heap.size 9 i0 (.string ByteArray.empty) 1 16 Tryd.underlying48 hi hz0 hz1 hz2 rfl (by decide) _ _ _ rfl (ownS_alloc O2.out _) ⟨w2.heap.size, 0, none⟩ 1 1 [str f] rfl rfl ?c1 ?c2 ?c3 ?c4 ?c5 ?_)
          case c1 => exact cells_of_lit _ (fun j u h => by simpa using h)
          case c2 => simp [Value.oneCell']
          case c3 => unfold maxLen; omega
          case c4 => omega
          case c5 => have := B2.out.size; simp; omega
          intro v3 w3 hown3 hgrow3 _
          have O3 := Lib.hid (ownS_app (m := [f]) hown3)
          have B3 : Hid (Bl w w3) := (B2.out.alloc B2.out.size _).grown hgrow3 (by have := B2.out.size; simp; omega) (fun k hk => (World.ownsRow.lt O2.out k hk).1)
          clear hown3 hgrow3
          have hl3 : (out ++ [f]).length = out.length + 1 := by simp
          go_wp2
          go_roundw
          case rel => exact ⟨r + 1, out ++ [f], by omega, by omega, by go_num, by rw [hl3]; go_num, O3, by rw [hl3, show 64 - (out.length + 1) = 63 - out.length by omega]; exact HM, B3⟩
          case measure => simp [intOf]; omega
        · have f1 : (((s[r]'hend).toNat : Int) != 44) = true := by rw [bne_iff_ne]; exact h44
          have HF := Lib.hid (show (([] : List (List UInt8)), (3 : Int)) = (l, e) by
            rw [← HD.out, splitF_other HU.out (HE.out.trans HC.out) (by omega)]; rfl)
          obtain ⟨e1, e2⟩ := Prod.mk.inj HF.out
          clear HF HD
          subst e1 e2
          go_wp2_with (go_at_call 69; refine (hex _).mono ?_)
          rintro x w1 ⟨rfl, rfl⟩
          go_wp2_with (go_at_call 70; refine (hun _).mono ?_)
          rintro x w2 ⟨rfl, b2⟩
          have B2 : Hid (Bl w w2) := bl_next HB.out b2
          have O2 := Lib.hid (ownS_bl HO.out b2)
          clear b2 hun hex
          go_wp2_with (at_builtin; refine wpList_append_own _ rfl _ _ 48 rfl w.heap.size 9 i0 (.string ByteArray.empty) 1 16 Tryd.underlying48 hi hz0 hz1 hz2 rfl (by decide) _ _ _ rfl (ownS_alloc O2.out _) ⟨w2.heap.size, 0, none⟩ 1 1 [str f] rfl rfl ?c1 ?c2 ?c3 ?c4 ?c5 ?_)
          case c1 => exact cells_of_lit _ (fun j u h => by simpa using h)
          case c2 => simp [Value.oneCell']
          case c3 => unfold maxLen; omega
          case c4 => omega
          case c5 => have := B2.out.size; simp; omega
          intro v3 w3 hown3 hgrow3 _
          have O3 := Lib.hid (ownS_app (m := [f]) hown3)
          have B3 : Hid (Bl w w3) := (B2.out.alloc B2.out.size _).grown hgrow3 (by have := B2.out.size; simp; omega) (fun k hk => (World.ownsRow.lt O2.out k hk).1)
          clear hown3 hgrow3
          go_wp2
          go_ret2
          exact ⟨_, rfl, ownS_nil _ _, B3.out⟩
      · obtain rfl : r = s.size := by omega
        have HF := Lib.hid (show (out ++ [f], (0 : Int)) = (l, e) by
          rw [← HD.out, splitF_last HU.out (HE.out.trans (drop_end s _ (Nat.le_refl _)))]; rfl)
        obtain ⟨e1, e2⟩ := Prod.mk.inj HF.out
        clear HF HD
        subst e1 e2
        go_wp2_with (go_at_call 69; refine (hex _).mono ?_)
        rintro x w1 ⟨rfl, rfl⟩
        go_wp2_with (go_at_call 70; refine (hun _).mono ?_)
        rintro x w2 ⟨rfl, b2⟩
        have B2 : Hid (Bl w w2) := bl_next HB.out b2
        have O2 := Lib.hid (ownS_bl HO.out b2)
        clear b2 hun hex
        go_wp2_with (at_builtin; refine wpList_append_own _ rfl _ _ 48 rfl w.heap.size 9 i0 (.string ByteArray.empty) 1 16 Tryd.underlying48 hi hz0 hz1 hz2 rfl (by decide) _ _ _ rfl (ownS_alloc O2.out _) ⟨w2.heap.size, 0, none⟩ 1 1 [str f] rfl rfl ?c1 ?c2 ?c3 ?c4 ?c5 ?_)
        case c1 => exact cells_of_lit _ (fun j u h => by simpa using h)
        case c2 => simp [Value.oneCell']
        case c3 => unfold maxLen; omega
        case c4 => omega
        case c5 => have := B2.out.size; simp; omega
        intro v3 w3 hown3 hgrow3 _
        have O3 := Lib.hid (ownS_app (m := [f]) hown3)
        have B3 : Hid (Bl w w3) := (B2.out.alloc B2.out.size _).grown hgrow3 (by have := B2.out.size; simp; omega) (fun k hk => (World.ownsRow.lt O2.out k hk).1)
        clear hown3 hgrow3
        go_wp2
        go_ret2
        exact ⟨_, rfl, O3.out, B3.out⟩

/-! ### Same -/
end Go.Proofs.YthdadalmgldppaaDoor