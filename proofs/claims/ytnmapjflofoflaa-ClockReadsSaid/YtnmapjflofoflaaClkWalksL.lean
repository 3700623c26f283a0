/-
  THE CONTRACT OF THE REFERENCE'S ParseDuration. Conditions: those of each contract.
-/
import Derived.Test.YtnmapjflofoflaaClkWalksK
namespace Go.Proofs.Ytnmapjflofoflaa
open Go.RowKit
open Num Clk

theorem rdur_late (s t : ByteArray) (v sn sec r e : Int) (L : Late s t v sn sec) (h : rdur2 t.data.toList sec = (r, e)) (w : World) :
    Calls Try.prog 25 #[.string s] w fun ee w' => ee = .returned (.tuple #[.int .i64 r, .int .i64 e]) ∧ Bl w w' := by
  unfold rdur2 at h
  by_cases hc : canon t.data.toList = true ∧ 0 < valR t.data.toList ∧ valR t.data.toList < 60
  · rw [if_pos hc] at h
    obtain ⟨rfl, rfl⟩ := Prod.mk.inj h
    exact late_a s t v sn sec _ L hc.1 rfl hc.2.1 hc.2.2 w
  · rw [if_neg hc] at h
    refine late_b s t v sn sec (valR t.data.toList) r e L ?_ h w
    cases hb : canon t.data.toList with
    | false => exact .inl hb
    | true =>
      by_cases h0 : valR t.data.toList ≤ 0
      · exact .inr (.inl ⟨hb, rfl, h0⟩)
      · exact .inr (.inr ⟨hb, rfl, by omega, by
          rcases Int.lt_or_le (valR t.data.toList) 60 with k | k
          · exact absurd ⟨hb, by omega, k⟩ hc
          · exact k⟩)

set_option maxRecDepth 100000 in
set_option maxHeartbeats 8000000 in
theorem rdur_c (s : ByteArray) (r e : Int) (H : Hid (rdur s.data.toList = (r, e))) (hs : s.size ≤ 4096) (w : World) :
    Calls Try.prog 25 #[.string s] w fun ee w' => ee = .returned (.tuple #[.int .i64 r, .int .i64 e]) ∧ Bl w w' := by
  have hlen : s.data.toList.length = s.size := by simp
  have HL := Lib.hid hlen
  clear hlen
  by_cases h2 : s.size < 2
  · have h := H.out
    unfold rdur at h
    rw [if_neg (by have := HL.out; omega)] at h
    obtain ⟨rfl, rfl⟩ := Prod.mk.inj h
    clear h H
    have q : (s.size : Int) < 2 := by omega
    go_enter Try.func25, Try.ntmps25
    go_wp2
    go_ret2
    exact ⟨rfl, bl_refl _⟩
  have hi2 : (2 : Int) ≤ s.size := by omega
  have hp : s.size - 1 < s.size := by omega
  have hg := get_list s (s.size - 1) hp
  by_cases h115 : s[s.size - 1]'hp = UInt8.ofNat 115
  case neg =>
    have h := H.out
    unfold rdur at h
    rw [HL.out, if_neg (by rw [hg]; exact fun k => h115 k.2)] at h
    obtain ⟨rfl, rfl⟩ := Prod.mk.inj h
    rw [u8_is (by decide)] at h115
    have q : (((s[s.size - 1]'hp).toNat : Int) != 115) = true := by rw [bne_iff_ne]; exact h115
    clear h H h115 hg
    go_enter Try.func25, Try.ntmps25
    go_wp2
    go_ret2
    exact ⟨rfl, bl_refl _⟩
  have H1 : Hid ((if canon (s.data.toList.take (s.size - 1)) = true ∧ valR (s.data.toList.take (s.size - 1)) < 60 then (valR (s.data.toList.take (s.size - 1)), 0)
    else if 5 ≤ s.size ∧ s.data.toList.getD (s.size - 4) 0 = 109 ∧ (follS ((s.data.toList.take (s.size - 1)).drop (s.size - 3))).2 = true then
      rdur2 (s.data.toList.take (s.size - 4)) (valR ((s.data.toList.take (s.size - 1)).drop (s.size - 3)))
    else (0, 3)) = (r, e)) := by
    have h := H.out
    unfold rdur at h
    rw [HL.out, if_pos (by rw [hg]; exact ⟨by omega, h115⟩)] at h
    exact h
  rw [u8_is (by decide)] at h115
  have q : (((s[s.size - 1]'hp).toNat : Int) != 115) = false := by rw [bne_eq_false_iff_eq]; exact h115
  clear H h115 hg
  have hu : (s.extract 0 (s.size - 1)).data.toList = s.data.toList.take (s.size - 1) := ext_take0 _ _
  have hus : (s.extract 0 (s.size - 1)).size ≤ maxLen := by unfold maxLen; simp; omega
  have HU := Lib.hid hu
  clear hu
  by_cases hcan : canon (s.data.toList.take (s.size - 1)) = true ∧ valR (s.data.toList.take (s.size - 1)) < 60
  · have h := H1.out
    rw [if_pos hcan] at h
    obtain ⟨rfl, rfl⟩ := Prod.mk.inj h
    obtain ⟨hc1, hc2⟩ := hcan
    have HC := Lib.hid (show canon (s.extract 0 (s.size - 1)).data.toList = true by rw [HU.out]; exact hc1)
    have hd : allDig (s.extract 0 (s.size - 1)).data.toList = true := canon_dig HC.out
    have HV : Hid (valR (s.extract 0 (s.size - 1)).data.toList = valR (s.data.toList.take (s.size - 1))) := by show _ = _; rw [HU.out]
    generalize valR (s.data.toList.take (s.size - 1)) = v at *
    clear h H1 hc1
    go_enter Try.func25, Try.ntmps25
    go_wp2_with fail
    refine (plain_c _ true HC hus _).mono ?_
    rintro ee w1 ⟨rfl, rfl⟩
    go_wp2_with fail
    refine (val_c _ v hd HV hus _).mono ?_
    rintro ee w1 ⟨rfl, rfl⟩
    go_wp2_with fail
    refine (val_c _ v hd HV hus _).mono ?_
    rintro ee w1 ⟨rfl, rfl⟩
    go_wp2
    go_ret2
    exact ⟨rfl, bl_refl _⟩
  have hw : Hid (canon (s.extract 0 (s.size - 1)).data.toList = false) ∨ Hid (canon (s.extract 0 (s.size - 1)).data.toList = true) ∧ Hid (valR (s.extract 0 (s.size - 1)).data.toList = valR (s.data.toList.take (s.size - 1))) ∧ (60 : Int) ≤ valR (s.data.toList.take (s.size - 1)) := by
    rw [HU.out]
    cases hcb : canon (s.data.toList.take (s.size - 1)) with
    | false => exact .inl rfl
    | true => exact .inr ⟨rfl, rfl, by rcases Int.lt_or_le (valR (s.data.toList.take (s.size - 1))) 60 with k | k; exact absurd ⟨hcb, k⟩ hcan; exact k⟩
  have H2 : Hid ((if 5 ≤ s.size ∧ s.data.toList.getD (s.size - 4) 0 = 109 ∧ (follS ((s.data.toList.take (s.size - 1)).drop (s.size - 3))).2 = true then
      rdur2 (s.data.toList.take (s.size - 4)) (valR ((s.data.toList.take (s.size - 1)).drop (s.size - 3)))
    else (0, 3)) = (r, e)) := by
    have h := H1.out
    rw [if_neg hcan] at h
    exact h
  clear H1 hcan HU
  generalize valR (s.data.toList.take (s.size - 1)) = v at *
  by_cases h5 : s.size < 5
  · have h := H2.out
    rw [if_neg (by omega)] at h
    obtain ⟨rfl, rfl⟩ := Prod.mk.inj h
    clear h H2
    have q5 : (s.size : Int) < 5 := by omega
    go_enter Try.func25, Try.ntmps25
    go_upto_region 4 with fail
    go_cut [32] (fun s32 wx => s32 = .bool false ∧ Bl w wx)
    case first =>
      rcases hw with HC | ⟨HC, HV, h60⟩
      · go_wp2_with fail
        refine (plain_c _ false HC hus _).mono ?_
        rintro ee w1 ⟨rfl, rfl⟩
        go_wp2
        go_meet
        case rel => exact ⟨rfl, bl_refl _⟩
      · go_wp2_with fail
        refine (plain_c _ true HC hus _).mono ?_
        rintro ee w1 ⟨rfl, rfl⟩
        go_wp2_with fail
        refine (val_c _ _ (canon_dig HC.out) HV hus _).mono ?_
        rintro ee w1 ⟨rfl, rfl⟩
        have q60 : decide (v < 60) = false := decide_eq_false (by omega)
        go_wp2
        go_meet
        case rel => exact ⟨rfl, bl_refl _⟩
    case rest =>
      obtain ⟨rfl, hb1⟩ := hcut
      go_wp2
      go_ret2
      exact ⟨rfl, hb1⟩
  have hi5 : (5 : Int) ≤ s.size := by omega
  have hp4 : s.size - 4 < s.size := by omega
  have hg4 := get_list s (s.size - 4) hp4
  by_cases h109 : s[s.size - 4]'hp4 = UInt8.ofNat 109
  case neg =>
    have h := H2.out
    rw [if_neg (by rw [hg4]; exact fun k => h109 k.2.1)] at h
    obtain ⟨rfl, rfl⟩ := Prod.mk.inj h
    rw [u8_is (by decide)] at h109
    have q4 : (((s[s.size - 4]'hp4).toNat : Int) != 109) = true := by rw [bne_iff_ne]; exact h109
    clear h H2 h109 hg4
    go_enter Try.func25, Try.ntmps25
    go_upto_region 4 with fail
    go_cut [32] (fun s32 wx => s32 = .bool false ∧ Bl w wx)
    case first =>
      rcases hw with HC | ⟨HC, HV, h60⟩
      · go_wp2_with fail
        refine (plain_c _ false HC hus _).mono ?_
        rintro ee w1 ⟨rfl, rfl⟩
        go_wp2
        go_meet
        case rel => exact ⟨rfl, bl_refl _⟩
      · go_wp2_with fail
        refine (plain_c _ true HC hus _).mono ?_
        rintro ee w1 ⟨rfl, rfl⟩
        go_wp2_with fail
        refine (val_c _ _ (canon_dig HC.out) HV hus _).mono ?_
        rintro ee w1 ⟨rfl, rfl⟩
        have q60 : decide (v < 60) = false := decide_eq_false (by omega)
        go_wp2
        go_meet
        case rel => exact ⟨rfl, bl_refl _⟩
    case rest =>
      obtain ⟨rfl, hb1⟩ := hcut
      go_wp2
      go_ret2
      exact ⟨rfl, hb1⟩
  obtain ⟨sn, sok, hfo⟩ : ∃ n ok, follS ((s.data.toList.take (s.size - 1)).drop (s.size - 3)) = (n, ok) := ⟨_, _, rfl⟩
  have HF : Hid (follS (s.extract (s.size - 3) (s.size - 1)).data.toList = (sn, sok)) := by show _ = _; rw [ext_take]; exact hfo
  have H3 : Hid ((if sok = true then rdur2 (s.data.toList.take (s.size - 4)) (valR ((s.data.toList.take (s.size - 1)).drop (s.size - 3))) else (0, 3)) = (r, e)) := by
    have h := H2.out
    rw [hfo, hg4] at h
    cases sok with
    | true => rw [if_pos ⟨by omega, h109, rfl⟩] at h; exact h
    | false => rw [if_neg (by simp)] at h; exact h
  rw [u8_is (by decide)] at h109
  have q4 : (((s[s.size - 4]'hp4).toNat : Int) != 109) = false := by rw [bne_eq_false_iff_eq]; exact h109
  clear H2 h109 hg4
  cases sok with
  | false =>
    have h := H3.out
    rw [if_neg (by simp)] at h
    obtain ⟨rfl, rfl⟩ := Prod.mk.inj h
    clear h H3 hfo
    go_enter Try.func25, Try.ntmps25
    go_upto_region 4 with fail
    go_cut [32] (fun s32 wx => s32 = .bool false ∧ Bl w wx)
    case first =>
      rcases hw with HC | ⟨HC, HV, h60⟩
      · go_wp2_with fail
        refine (plain_c _ false HC hus _).mono ?_
        rintro ee w1 ⟨rfl, rfl⟩
        go_wp2
        go_meet
        case rel => exact ⟨rfl, bl_refl _⟩
      · go_wp2_with fail
        refine (plain_c _ true HC hus _).mono ?_
        rintro ee w1 ⟨rfl, rfl⟩
        go_wp2_with fail
        refine (val_c _ _ (canon_dig HC.out) HV hus _).mono ?_
        rintro ee w1 ⟨rfl, rfl⟩
        have q60 : decide (v < 60) = false := decide_eq_false (by omega)
        go_wp2
        go_meet
        case rel => exact ⟨rfl, bl_refl _⟩
    case rest =>
      obtain ⟨rfl, hb1⟩ := hcut
      go_wp2_with fail
      refine (below60_c _ sn false HF _).mono ?_
      rintro ee w1 ⟨rfl, rfl⟩
      go_wp2
      go_ret2
      exact ⟨rfl, hb1⟩
  | true =>
    have h := H3.out
    rw [if_pos rfl, ← ext_take, ← ext_take0] at h
    obtain ⟨k, _, k60, hk⟩ := foll_back HF.out
    have HD : Hid (allDig (s.extract (s.size - 3) (s.size - 1)).data.toList = true) := by show _ = _; rw [hk]; exact two_dig k (by omega)
    refine rdur_late s (s.extract 0 (s.size - 4)) v sn _ r e ⟨hs, hi5, rfl, by simp; omega, hp, hp4, q, q4, hus, hw, HF, HD, rfl, by unfold maxLen; simp; omega, valR_bd _ HD.out⟩ h w
end Go.Proofs.Ytnmapjflofoflaa
