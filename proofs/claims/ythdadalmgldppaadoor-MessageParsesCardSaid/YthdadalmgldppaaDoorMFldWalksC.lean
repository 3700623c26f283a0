/-
  THE CONTRACTS OF FIELD, THIRD PART: the reference's Quote. Conditions: those of each contract.
-/
import Derived.Test.YthdadalmgldppaaDoorMFldWalksB
import Derived.StillTailTactics
namespace Go.Proofs.YthdadalmgldppaaDoor
open Go.RowKit
open Fld

theorem ownB_app' {B : Nat} {v' : Value} {l m : List UInt8} {w : World} {n : Nat} (h : w.ownsRow B 5 1 v' n (Lib.byteCells l ++ Lib.byteCells m)) (hn : n = l.length + m.length) : OwnB B v' (l ++ m) w := by
  subst hn
  exact ownB_app h
theorem rhexg_c (z : Int) (h : 0 ≤ z ∧ z < 16) (w : World) :
    Calls Tryd.prog 82 #[.int .u8 z] w fun e w' => e = .returned (.int .u8 (hexd z.toNat).toNat) ∧ w = w' := by
  have := rhex_c z.toNat (by omega) w
  rw [show ((z.toNat : Nat) : Int) = z by omega] at this
  exact this
set_option maxRecDepth 10000 in
set_option maxHeartbeats 4000000 in
theorem rquote_c (s : ByteArray) (q : List UInt8) (H : Hid (quoteS s.data.toList = q)) (hs : s.size ≤ 34359738368) (w : World) :
    Calls Tryd.prog 58 #[.string s] w fun e w' => e = .returned (str q) ∧ Bl w w' := by
  obtain ⟨i0, hi, hz0, hz1, hz2⟩ := info_parts info_byte
  obtain ⟨p, hp⟩ : ∃ p, plainS s.data.toList = p := ⟨_, rfl⟩
  have HP := Lib.hid hp
  clear hp
  go_enter Tryd.func58, Tryd.ntmps58
  go_wp2_with (go_at_call 80; refine (rplain_c s (by unfold maxLen; omega) _).mono ?_)
  rintro e w1 ⟨rfl, rfl⟩
  rw [HP.out]
  cases p with
  | true =>
    have HF := Lib.hid ((quote_plain HP.out).symm.trans H.out)
    go_wp2
    go_ret
    exact ⟨by rw [← HF.out]; rfl, bl_refl _⟩
  | false =>
    have HF := Lib.hid ((quote_not HP.out).symm.trans H.out)
    go_wp2_with fail
    have b2 : Bl w (w.alloc (.cells #[.int .u8 34] 5)) := bl_alloc (bl_refl _) _
    have o2 : OwnB w.heap.size (.slice (some ⟨w.heap.size, 0, none⟩) 1 1) [34] (w.alloc (.cells #[.int .u8 34] 5)) := ownB_new _ _ (Nat.le_refl _) _ _ rfl 1 rfl (by omega)
    generalize hw2 : w.alloc (.cells #[.int .u8 34] 5) = w2 at b2 o2
    have B2 := Lib.hid b2
    have O2 := Lib.hid o2
    clear b2 o2 hw2
    go_loopw [3, 4] (fun vo i wr => ∃ k : Nat, k ≤ s.size ∧ i = .int .i64 k ∧ Hid (OwnB w.heap.size vo (34 :: inner (s.data.toList.take k)) wr) ∧ Hid (Bl w wr)) (fun _ i _ => s.size - (intOf i).toNat)
    case atStart => exact ⟨0, Nat.zero_le _, rfl, O2, B2⟩
    case round =>
      obtain ⟨k, hk, rfl, HO, HB⟩ := hrel
      by_cases hlt : k < s.size
      · have HT := Lib.hid (inner_take hlt)
        have HL := inner_take_len s k hk
        obtain ⟨c, hc⟩ : ∃ c, ctl (s[k]'hlt) = c := ⟨_, rfl⟩
        have HC := Lib.hid hc
        clear hc
        go_wp2_with (go_at_call 81; refine (rcontrol_c (s[k]'hlt) _).mono ?_)
        rintro e w3 ⟨rfl, rfl⟩
        rw [HC.out]
        cases c with
        | true =>
          have hbl : (s[k]'hlt).toNat < 256 := u8_lt _
          have hcc := (ctl_int _).2 HC.out
          have HE := Lib.hid (escB_x (b := s[k]'hlt) (by omega) (by omega) HC.out)
          clear hcc
          obtain ⟨z1, hz1'⟩ : ∃ z : Int, ((s[k]'hlt).toNat : Int) / 16 = z := ⟨_, rfl⟩
          obtain ⟨z2, hz2'⟩ : ∃ z : Int, ((s[k]'hlt).toNat : Int) % 16 = z := ⟨_, rfl⟩
          have g1 : 0 ≤ z1 ∧ z1 < 16 := by omega
          have g2 : 0 ≤ z2 ∧ z2 < 16 := by omega
          rw [show (s[k]'hlt).toNat / 16 = z1.toNat by omega, show (s[k]'hlt).toNat % 16 = z2.toNat by omega] at HE
          have e2 : IntKind.u8.wrap z2 = z2 := IntWalk.u8_in _ (by omega)
          have e1 : IntKind.u8.wrap (((s[k]'hlt).toNat : Int) / 16) = z1 := by rw [hz1']; exact IntWalk.u8_in _ (by omega)
          have e3 : (((s[k]'hlt).toNat : Int).tmod 16) = z2 := by rw [← hz2']; exact IntWalk.rem_in _ _ (by omega)
          clear hz1' hz2'
          go_wp2_with fail
          go_region_held3 (fun _ => True) (trivial)
            ((first
              | (go_at_call 82; refine (rhexg_c _ (by first | exact g1 | exact g2) _).mono ?_; rintro e w' ⟨rfl, rfl⟩)
              | (refine step_append_lies _ (by rfl) _ _ _ (by rfl) w.heap.size 5 i0 _ 1 1 Tryd.underlying80 hi hz0 hz1 hz2 rfl (by omega) u3 _ _ (by rfl) ((ownB_alloc HO.out _).drew)
                  ⟨wr.heap.size, 0, none⟩ 4 4 [.int .u8 92, .int .u8 120, .int .u8 (hexd z1.toNat).toNat, .int .u8 (hexd z2.toNat).toNat] (by rfl) (by rfl) (World.news_of_block (cs := #[.int .u8 92, .int .u8 120, .int .u8 (hexd z1.toNat).toNat, .int .u8 (hexd z2.toNat).toNat]) (t := 5) (fr := (0, 0)) (heap_alloc_new wr _)) (by simp [Value.oneCell'])
                  (by omega) (by unfold maxLen; rw [List.length_cons]; omega) (by rw [List.length_cons]; omega) (by have := HB.out.size; simp; omega) (wr.heap.size + 1) (by simp) ?_; intro gg cap w3 hown3 hgrow3 hat hlt3)
              | fail))
          all_goals
            have O3 := Lib.hid (ownB_app (m := [92, 120, hexd z1.toNat, hexd z2.toNat]) hown3)
            have B3 : Hid (Bl w w3) := (Below.drew (HB.out.alloc HB.out.size _)).grown hgrow3 (by have := HB.out.size; simp; omega) (fun k hk => (World.ownsRow.lt HO.out k hk).1)
            clear hown3 hgrow3 hat hlt3
            go_wp2
            go_roundw
            case rel => exact ⟨k + 1, by omega, by go_num, by have := O3.out; rw [HT.out, HE.out]; exact this, B3⟩
            case measure => simp [intOf]; omega
        | false =>
          by_cases hq : ((s[k]'hlt).toNat : Int) = 34
          · have HE := Lib.hid (show escB (s[k]'hlt) = [92, 34] by rw [escB_q (by omega), u8_eq (s[k]'hlt) 34 (by omega)]; rfl)
            go_wp2_with (at_builtin; refine wpList_append_own _ rfl _ _ 80 rfl w.heap.size 5 i0 (.int .u8 0) 1 1 Tryd.underlying80 hi hz0 hz1 hz2 rfl (by decide) _ _ _ rfl (ownB_alloc HO.out _) ⟨wr.heap.size, 0, none⟩ 1 1 [.int .u8 92] rfl rfl ?c1 ?c2 ?c3 ?c4 ?c5 ?_)
            case c1 => exact cells_of_lit _ (fun j u h => by simpa using h)
            case c2 => simp [Value.oneCell']
            case c3 => unfold maxLen; rw [List.length_cons]; omega
            case c4 => rw [List.length_cons]; omega
            case c5 => have := HB.out.size; simp; omega
            intro v3 w3 hown3 hgrow3 _
            have O3 := Lib.hid (ownB_app (m := [92]) hown3)
            have B3 : Hid (Bl w w3) := (HB.out.alloc HB.out.size _).grown hgrow3 (by have := HB.out.size; simp; omega) (fun k hk => (World.ownsRow.lt HO.out k hk).1)
            clear hown3 hgrow3
            go_wp2_with (at_builtin; refine wpList_append_own _ rfl _ _ 80 rfl w.heap.size 5 i0 (.int .u8 0) 1 1 Tryd.underlying80 hi hz0 hz1 hz2 rfl (by decide) _ _ _ rfl (ownB_alloc O3.out _) ⟨w3.heap.size, 0, none⟩ 1 1 [.int .u8 34] rfl rfl ?c1 ?c2 ?c3 ?c4 ?c5 ?_)
            case c1 => exact cells_of_lit _ (fun j u h => by simpa using h)
            case c2 => simp [Value.oneCell']
            case c3 => unfold maxLen; rw [List.length_append, List.length_cons]; simp only [List.length_cons, List.length_nil]; omega
            case c4 => rw [List.length_append, List.length_cons]; simp only [List.length_cons, List.length_nil]; omega
            case c5 => have := B3.out.size; simp; omega
            intro v4 w4 hown4 hgrow4 _
            have O4 := Lib.hid (ownB_app' (m := [34]) hown4 (by simp))
            have B4 : Hid (Bl w w4) := (B3.out.alloc B3.out.size _).grown hgrow4 (by have := B3.out.size; simp; omega) (fun k hk => (World.ownsRow.lt O3.out k hk).1)
            clear hown4 hgrow4
            go_wp2
            go_roundw
            case rel => exact ⟨k + 1, by omega, by go_num, by have := O4.out; rw [HT.out, HE.out]; show OwnB _ _ _ _; simpa using this, B4⟩
            case measure => simp [intOf]; omega
          by_cases hq2 : ((s[k]'hlt).toNat : Int) = 92
          · have HE := Lib.hid (show escB (s[k]'hlt) = [92, 92] by rw [escB_q (by omega), u8_eq (s[k]'hlt) 92 (by omega)]; rfl)
            go_wp2_with (at_builtin; refine wpList_append_own _ rfl _ _ 80 rfl w.heap.size 5 i0 (.int .u8 0) 1 1 Tryd.underlying80 hi hz0 hz1 hz2 rfl (by decide) _ _ _ rfl (ownB_alloc HO.out _) ⟨wr.heap.size, 0, none⟩ 1 1 [.int .u8 92] rfl rfl ?c1 ?c2 ?c3 ?c4 ?c5 ?_)
            case c1 => exact cells_of_lit _ (fun j u h => by simpa using h)
            case c2 => simp [Value.oneCell']
            case c3 => unfold maxLen; rw [List.length_cons]; omega
            case c4 => rw [List.length_cons]; omega
            case c5 => have := HB.out.size; simp; omega
            intro v3 w3 hown3 hgrow3 _
            have O3 := Lib.hid (ownB_app (m := [92]) hown3)
            have B3 : Hid (Bl w w3) := (HB.out.alloc HB.out.size _).grown hgrow3 (by have := HB.out.size; simp; omega) (fun k hk => (World.ownsRow.lt HO.out k hk).1)
            clear hown3 hgrow3
            go_wp2_with (at_builtin; refine wpList_append_own _ rfl _ _ 80 rfl w.heap.size 5 i0 (.int .u8 0) 1 1 Tryd.underlying80 hi hz0 hz1 hz2 rfl (by decide) _ _ _ rfl (ownB_alloc O3.out _) ⟨w3.heap.size, 0, none⟩ 1 1 [.int .u8 92] rfl rfl ?c1 ?c2 ?c3 ?c4 ?c5 ?_)
            case c1 => exact cells_of_lit _ (fun j u h => by simpa using h)
            case c2 => simp [Value.oneCell']
            case c3 => unfold maxLen; rw [List.length_append, List.length_cons]; simp only [List.length_cons, List.length_nil]; omega
            case c4 => rw [List.length_append, List.length_cons]; simp only [List.length_cons, List.length_nil]; omega
            case c5 => have := B3.out.size; simp; omega
            intro v4 w4 hown4 hgrow4 _
            have O4 := Lib.hid (ownB_app' (m := [92]) hown4 (by simp))
            have B4 : Hid (Bl w w4) := (B3.out.alloc B3.out.size _).grown hgrow4 (by have := B3.out.size; simp; omega) (fun k hk => (World.ownsRow.lt O3.out k hk).1)
            clear hown4 hgrow4
            go_wp2
            go_roundw
            case rel => exact ⟨k + 1, by omega, by go_num, by have := O4.out; rw [HT.out, HE.out]; show OwnB _ _ _ _; simpa using this, B4⟩
            case measure => simp [intOf]; omega
          have f1 : (((s[k]'hlt).toNat : Int) == 34) = false := by rw [beq_eq_false_iff_ne]; exact hq
          have f2 : (((s[k]'hlt).toNat : Int) == 92) = false := by rw [beq_eq_false_iff_ne]; exact hq2
          have HE := Lib.hid (escB_o (b := s[k]'hlt) (by omega) (by omega) HC.out)
          clear hq hq2
          go_wp2_with (at_builtin; refine wpList_append_own _ rfl _ _ 80 rfl w.heap.size 5 i0 (.int .u8 0) 1 1 Tryd.underlying80 hi hz0 hz1 hz2 rfl (by decide) _ _ _ rfl (ownB_alloc HO.out _) ⟨wr.heap.size, 0, none⟩ 1 1 [.int .u8 (s[k]'hlt).toNat] rfl rfl ?c1 ?c2 ?c3 ?c4 ?c5 ?_)
          case c1 => exact cells_of_lit _ (fun j u h => by simpa using h)
          case c2 => simp [Value.oneCell']
          case c3 => unfold maxLen; rw [List.length_cons]; omega
          case c4 => rw [List.length_cons]; omega
          case c5 => have := HB.out.size; simp; omega
          intro v3 w3 hown3 hgrow3 _
          have O3 := Lib.hid (ownB_app (m := [s[k]'hlt]) hown3)
          have B3 : Hid (Bl w w3) := (HB.out.alloc HB.out.size _).grown hgrow3 (by have := HB.out.size; simp; omega) (fun k hk => (World.ownsRow.lt HO.out k hk).1)
          clear hown3 hgrow3
          go_wp2
          go_roundw
          case rel => exact ⟨k + 1, by omega, by go_num, by have := O3.out; rw [HT.out, HE.out]; exact this, B3⟩
          case measure => simp [intOf]; omega
      · obtain rfl : k = s.size := by omega
        have hall : s.data.toList.take s.size = s.data.toList := List.take_of_length_le (by simp)
        rw [hall] at HO
        have HQ := Lib.hid (show (34 :: inner s.data.toList) ++ [34] = q from HF.out)
        have HL := inner_len s.data.toList
        have hsl : s.data.toList.length = s.size := by simp
        clear hall
        go_wp2_with (at_builtin; refine wpList_append_own _ rfl _ _ 80 rfl w.heap.size 5 i0 (.int .u8 0) 1 1 Tryd.underlying80 hi hz0 hz1 hz2 rfl (by decide) _ _ _ rfl (ownB_alloc HO.out _) ⟨wr.heap.size, 0, none⟩ 1 1 [.int .u8 34] rfl rfl ?c1 ?c2 ?c3 ?c4 ?c5 ?_)
        case c1 => exact cells_of_lit _ (fun j u h => by simpa using h)
        case c2 => simp [Value.oneCell']
        case c3 => unfold maxLen; rw [List.length_cons]; omega
        case c4 => rw [List.length_cons]; omega
        case c5 => have := HB.out.size; simp; omega
        intro v3 w3 hown3 hgrow3 _
        have O3 := Lib.hid (ownB_app (m := [34]) hown3)
        have B3 : Hid (Bl w w3) := (HB.out.alloc HB.out.size _).grown hgrow3 (by have := HB.out.size; simp; omega) (fun k hk => (World.ownsRow.lt HO.out k hk).1)
        clear hown3 hgrow3
        rw [HQ.out] at O3
        have hcv := ownB_conv O3.out
        go_wp2
        go_ret
        exact ⟨rfl, B3.out⟩
end Go.Proofs.YthdadalmgldppaaDoor
