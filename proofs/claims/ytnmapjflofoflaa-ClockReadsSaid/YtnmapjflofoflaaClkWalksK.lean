/-
  WHAT THE REFERENCE'S ParseDuration COMPUTES, AND ITS WALK'S LATER HALF. Conditions: those of each contract.
-/
import Derived.Test.YtnmapjflofoflaaClkWalksH
import Derived.Test.YtnmapjflofoflaaClkDurLaws
import Derived.Deep.DeepCutAuto
namespace Go.Proofs.Ytnmapjflofoflaa
open Go.RowKit
open Num Clk

/-- The value of a text of digits as the reference reckons it. -/
def valR (l : List UInt8) : Int := if l.length ≤ 6 then (val l : Int) else 1000000
theorem fold_lt (l : List UInt8) (h : allDig l = true) : ∀ m : Nat, l.foldl (fun m c => 10 * m + (c.toNat - 48)) m + 1 ≤ (m + 1) * 10 ^ l.length := by
  induction l with
  | nil => intro m; simp
  | cons c l ih =>
    intro m
    have hc : isDig c = true ∧ allDig l = true := by simpa [allDig] using h
    have h9 := (isDig_iff c).1 hc.1
    have k := ih hc.2 (10 * m + (c.toNat - 48))
    have k2 : (10 * m + (c.toNat - 48) + 1) * 10 ^ l.length ≤ (10 * (m + 1)) * 10 ^ l.length := Nat.mul_le_mul_right _ (by omega)
    rw [List.foldl_cons, List.length_cons, Nat.pow_succ, show (m + 1) * (10 ^ l.length * 10) = (10 * (m + 1)) * 10 ^ l.length by rw [Nat.mul_comm (10 ^ l.length) 10, ← Nat.mul_assoc, Nat.mul_comm (m + 1) 10]]
    omega
theorem val_lt (l : List UInt8) (h : allDig l = true) : val l + 1 ≤ 10 ^ l.length := by
  have := fold_lt l h 0
  unfold val
  omega
theorem valR_bd (l : List UInt8) (h : allDig l = true) : 0 ≤ valR l ∧ valR l ≤ 1000000 := by
  unfold valR
  split
  · rename_i h6
    have := val_lt l h
    have k : 10 ^ l.length ≤ 10 ^ 6 := Nat.pow_le_pow_right (by decide) h6
    omega
  · exact ⟨by decide, by decide⟩
def rdur2 (l : List UInt8) (sec : Int) : Int × Int :=
  if canon l = true ∧ 0 < valR l ∧ valR l < 60 then (60 * valR l + sec, 0)
  else if 4 ≤ l.length ∧ l.getD (l.length - 3) 0 = 104 ∧ (follS (l.drop (l.length - 2))).2 = true ∧ canon (l.take (l.length - 3)) = true ∧ ¬ valR (l.take (l.length - 3)) = 0 then
    (if 3600 * valR (l.take (l.length - 3)) + 60 * valR (l.drop (l.length - 2)) + sec ≤ 359999 then (3600 * valR (l.take (l.length - 3)) + 60 * valR (l.drop (l.length - 2)) + sec, 0) else (0, 2))
  else (0, 3)
/-- What the reference's ParseDuration computes. -/
def rdur (l : List UInt8) : Int × Int :=
  if 2 ≤ l.length ∧ l.getD (l.length - 1) 0 = 115 then
    (if canon (l.take (l.length - 1)) = true ∧ valR (l.take (l.length - 1)) < 60 then (valR (l.take (l.length - 1)), 0)
    else if 5 ≤ l.length ∧ l.getD (l.length - 4) 0 = 109 ∧ (follS ((l.take (l.length - 1)).drop (l.length - 3))).2 = true then
      rdur2 (l.take (l.length - 4)) (valR ((l.take (l.length - 1)).drop (l.length - 3)))
    else (0, 3))
  else (0, 3)

theorem val_c (s : ByteArray) (v : Int) (hd : allDig s.data.toList = true) (H : Hid (valR s.data.toList = v)) (hs : s.size ≤ maxLen) (w : World) :
    Calls Try.prog 39 #[.string s] w fun e w' => e = .returned (.int .i64 v) ∧ w = w' :=
  (value_c s hd hs w).mono fun _ _ ⟨he, hw⟩ => ⟨by rw [he, ← H.out]; unfold valR; rw [show s.data.toList.length = s.size by simp], hw⟩
theorem ext_take (s : ByteArray) (i j : Nat) : (s.extract i j).data.toList = (s.data.toList.take j).drop i := by
  rw [ByteArray.data_extract, Array.toList_extract, List.extract_eq_take_drop, List.drop_take]
theorem ext_take0 (s : ByteArray) (j : Nat) : (s.extract 0 j).data.toList = s.data.toList.take j := by rw [ext_take]; rfl
theorem get_list (s : ByteArray) (i : Nat) (h : i < s.size) : s.data.toList.getD i 0 = s[i]'h := by
  rw [← bytes_get s i h]
  simp [List.getD, h]

theorem u8_is {x : UInt8} {n : Nat} (hn : n < 256) : x = UInt8.ofNat n ↔ (x.toNat : Int) = n := by
  constructor
  · rintro rfl
    rw [UInt8.toNat_ofNat']; omega
  · intro k
    apply UInt8.toNat.inj
    rw [UInt8.toNat_ofNat']
    omega

/-- What both halves of the later walk start from. -/
structure Late (s t : ByteArray) (v sn sec : Int) : Prop where
  hs : s.size ≤ 4096
  hi5 : (5 : Int) ≤ s.size
  ht : s.extract 0 (s.size - 4) = t
  hts : t.size + 4 = s.size
  hp : s.size - 1 < s.size
  hp4 : s.size - 4 < s.size
  q : (((s[s.size - 1]'hp).toNat : Int) != 115) = false
  q4 : (((s[s.size - 4]'hp4).toNat : Int) != 109) = false
  hus : (s.extract 0 (s.size - 1)).size ≤ maxLen
  hw : Hid (canon (s.extract 0 (s.size - 1)).data.toList = false) ∨ Hid (canon (s.extract 0 (s.size - 1)).data.toList = true) ∧ Hid (valR (s.extract 0 (s.size - 1)).data.toList = v) ∧ (60 : Int) ≤ v
  HF : Hid (follS (s.extract (s.size - 3) (s.size - 1)).data.toList = (sn, true))
  HD : Hid (allDig (s.extract (s.size - 3) (s.size - 1)).data.toList = true)
  HS : Hid (valR (s.extract (s.size - 3) (s.size - 1)).data.toList = sec)
  hss : (s.extract (s.size - 3) (s.size - 1)).size ≤ maxLen
  hsec : 0 ≤ sec ∧ sec ≤ 1000000

set_option maxRecDepth 100000 in
set_option maxHeartbeats 4000000 in
theorem late_a (s t : ByteArray) (v sn sec vt : Int) (L : Late s t v sn sec) (HCt : Hid (canon t.data.toList = true)) (HVt : Hid (valR t.data.toList = vt)) (h0 : 0 < vt) (h6 : vt < 60) (w : World) :
    Calls Try.prog 25 #[.string s] w fun ee w' => ee = .returned (.tuple #[.int .i64 (60 * vt + sec), .int .i64 0]) ∧ Bl w w' := by
  obtain ⟨hs, hi5, ht, hts, hp, hp4, q, q4, hus, hw, HF, HD, HS, hss, hsec⟩ := L
  have q2 : decide ((s.size : Int) < 2) = false := decide_eq_false (by omega)
  have q5 : decide ((s.size : Int) < 5) = false := decide_eq_false (by omega)
  have i1 := (IntWalk.i64_in ((s.size : Int) - 1) (by omega))
  have i3 := (IntWalk.i64_in ((s.size : Int) - 3) (by omega))
  have i4 := (IntWalk.i64_in ((s.size : Int) - 4) (by omega))
  go_enter Try.func25, Try.ntmps25
  go_upto_region 4 with fail
  go_cut [32] (fun s32 wx => s32 = .bool false ∧ Bl w wx)
  case first =>
    rcases hw with HC | ⟨HC, HV, h60⟩
    · go_wp2_with fail
      refine (plain_c _ false HC hus _).mono ?_
      rintro ee w1 ⟨rfl, rfl⟩
      go_wp2
      go_meet
      case rel => exact ⟨rfl, bl_refl _⟩
    · go_wp2_with fail
      refine (plain_c _ true HC hus _).mono ?_
      rintro ee w1 ⟨rfl, rfl⟩
      go_wp2_with fail
      refine (val_c _ _ (canon_dig HC.out) HV hus _).mono ?_
      rintro ee w1 ⟨rfl, rfl⟩
      have q60 : decide (v < 60) = false := decide_eq_false (by omega)
      go_wp2
      go_meet
      case rel => exact ⟨rfl, bl_refl _⟩
  case rest =>
    obtain ⟨rfl, hb1⟩ := hcut
    go_wp2_with fail
    refine (below60_c _ sn true HF _).mono ?_
    rintro ee w1 ⟨rfl, rfl⟩
    go_wp2_with fail
    go_quiet ((first
      | (go_at_call 39; with_reducible exact Calls.quiet_of_same ((val_c _ _ HD.out HS hss _).mono fun _ _ ⟨he, hw⟩ => ⟨he, hw.symm⟩))))
    rw [ht]
    have htm : t.size ≤ maxLen := by unfold maxLen; omega
    have e1 := (IntWalk.i64_in (60 * vt) (by omega))
    have e2 := (IntWalk.i64_in (60 * vt + sec) (by omega))
    have HDt := Lib.hid (canon_dig HCt.out)
    go_wp2_with fail
    refine (plain_c _ true HCt htm _).mono ?_
    rintro ee w1 ⟨rfl, rfl⟩
    go_wp2_with fail
    refine (val_c _ vt HDt.out HVt htm _).mono ?_
    rintro ee w1 ⟨rfl, rfl⟩
    go_wp2_with fail
    refine (val_c _ vt HDt.out HVt htm _).mono ?_
    rintro ee w1 ⟨rfl, rfl⟩
    go_wp2_with fail
    refine (val_c _ vt HDt.out HVt htm _).mono ?_
    rintro ee w1 ⟨rfl, rfl⟩
    go_wp2
    go_ret2
    exact ⟨rfl, bl_drewN hb1 _⟩

/-- The rest is no number between 0 and 60. -/
def Rest (t : ByteArray) (vt : Int) : Prop :=
  Hid (canon t.data.toList = false) ∨ Hid (canon t.data.toList = true) ∧ Hid (valR t.data.toList = vt) ∧ vt ≤ 0 ∨ Hid (canon t.data.toList = true) ∧ Hid (valR t.data.toList = vt) ∧ (0 : Int) < vt ∧ (60 : Int) ≤ vt

set_option maxRecDepth 100000 in
set_option maxHeartbeats 8000000 in
theorem late_b (s t : ByteArray) (v sn sec vt r e : Int) (L : Late s t v sn sec) (hx : Rest t vt) (H : Hid ((if 4 ≤ t.data.toList.length ∧ t.data.toList.getD (t.data.toList.length - 3) 0 = 104 ∧ (follS (t.data.toList.drop (t.data.toList.length - 2))).2 = true ∧ canon (t.data.toList.take (t.data.toList.length - 3)) = true ∧ ¬ valR (t.data.toList.take (t.data.toList.length - 3)) = 0 then
    (if 3600 * valR (t.data.toList.take (t.data.toList.length - 3)) + 60 * valR (t.data.toList.drop (t.data.toList.length - 2)) + sec ≤ 359999 then (3600 * valR (t.data.toList.take (t.data.toList.length - 3)) + 60 * valR (t.data.toList.drop (t.data.toList.length - 2)) + sec, 0) else (0, 2))
  else (0, 3)) = (r, e))) (w : World) :
    Calls Try.prog 25 #[.string s] w fun ee w' => ee = .returned (.tuple #[.int .i64 r, .int .i64 e]) ∧ Bl w w' := by
  obtain ⟨hs, hi5, ht, hts, hp, hp4, q, q4, hus, hw, HF, HD, HS, hss, hsec⟩ := L
  have q2 : decide ((s.size : Int) < 2) = false := decide_eq_false (by omega)
  have q5 : decide ((s.size : Int) < 5) = false := decide_eq_false (by omega)
  have i1 := (IntWalk.i64_in ((s.size : Int) - 1) (by omega))
  have i3 := (IntWalk.i64_in ((s.size : Int) - 3) (by omega))
  have i4 := (IntWalk.i64_in ((s.size : Int) - 4) (by omega))
  have htm : t.size ≤ maxLen := by unfold maxLen; omega
  go_enter Try.func25, Try.ntmps25
  go_upto_region 4 with fail
  go_cut [32] (fun s32 wx => s32 = .bool false ∧ Bl w wx)
  case first =>
    rcases hw with HC | ⟨HC, HV, h60⟩
    · go_wp2_with fail
      refine (plain_c _ false HC hus _).mono ?_
      rintro ee w1 ⟨rfl, rfl⟩
      go_wp2
      go_meet
      case rel => exact ⟨rfl, bl_refl _⟩
    · go_wp2_with fail
      refine (plain_c _ true HC hus _).mono ?_
      rintro ee w1 ⟨rfl, rfl⟩
      go_wp2_with fail
      refine (val_c _ _ (canon_dig HC.out) HV hus _).mono ?_
      rintro ee w1 ⟨rfl, rfl⟩
      have q60 : decide (v < 60) = false := decide_eq_false (by omega)
      go_wp2
      go_meet
      case rel => exact ⟨rfl, bl_refl _⟩
  case rest =>
    obtain ⟨rfl, hb1⟩ := hcut
    go_wp2_with fail
    refine (below60_c _ sn true HF _).mono ?_
    rintro ee w1 ⟨rfl, rfl⟩
    go_wp2_with fail
    go_quiet ((first
      | (go_at_call 39; with_reducible exact Calls.quiet_of_same ((val_c _ _ HD.out HS hss _).mono fun _ _ ⟨he, hw⟩ => ⟨he, hw.symm⟩))))
    rw [ht]
    go_upto_region 9 with fail
    go_cut [79] (fun s79 wx => s79 = .bool false ∧ Bl w wx)
    case first =>
      rcases hx with HCt | ⟨HCt, HVt, h0⟩ | ⟨HCt, HVt, h0, h6⟩
      · go_wp2_with fail
        refine (plain_c _ false HCt htm _).mono ?_
        rintro ee w1 ⟨rfl, rfl⟩
        go_wp2
        go_meet
        case rel => exact ⟨rfl, bl_drewN hb1 _⟩
      · go_wp2_with fail
        refine (plain_c _ true HCt htm _).mono ?_
        rintro ee w1 ⟨rfl, rfl⟩
        go_wp2_with fail
        refine (val_c _ vt (canon_dig HCt.out) HVt htm _).mono ?_
        rintro ee w1 ⟨rfl, rfl⟩
        go_wp2
        go_meet
        case rel => exact ⟨rfl, bl_drewN hb1 _⟩
      · go_wp2_with fail
        refine (plain_c _ true HCt htm _).mono ?_
        rintro ee w1 ⟨rfl, rfl⟩
        go_wp2_with fail
        refine (val_c _ vt (canon_dig HCt.out) HVt htm _).mono ?_
        rintro ee w1 ⟨rfl, rfl⟩
        go_wp2_with fail
        refine (val_c _ vt (canon_dig HCt.out) HVt htm _).mono ?_
        rintro ee w1 ⟨rfl, rfl⟩
        have q60 : decide (vt < 60) = false := decide_eq_false (by omega)
        go_wp2
        go_meet
        case rel => exact ⟨rfl, bl_drewN hb1 _⟩
    case rest =>
      obtain ⟨rfl, hb2⟩ := hcut
      have h := H.out
      have hl : t.data.toList.length = t.size := by simp
      rw [hl] at h
      by_cases h4 : t.size < 4
      · rw [if_neg (by omega)] at h
        obtain ⟨rfl, rfl⟩ := Prod.mk.inj h
        have q6 : (t.size : Int) < 4 := by omega
        clear h H hl
        go_wp2
        go_ret2
        exact ⟨rfl, hb2⟩
      have hi4 : (4 : Int) ≤ t.size := by omega
      have p3 : t.size - 3 < t.size := by omega
      have hg := get_list t (t.size - 3) p3
      have q6 : decide ((t.size : Int) < 4) = false := decide_eq_false (by omega)
      have j3 := (IntWalk.i64_in ((t.size : Int) - 3) (by omega))
      have j2 := (IntWalk.i64_in ((t.size : Int) - 2) (by omega))
      by_cases h104 : t[t.size - 3]'p3 = UInt8.ofNat 104
      case neg =>
        rw [hg, if_neg (fun k => h104 k.2.1)] at h
        obtain ⟨rfl, rfl⟩ := Prod.mk.inj h
        rw [u8_is (by decide)] at h104
        have q7 : (((t[t.size - 3]'p3).toNat : Int) != 104) = true := by rw [bne_iff_ne]; exact h104
        clear h H h104 hg hl
        go_wp2
        go_ret2
        exact ⟨rfl, hb2⟩
      obtain ⟨fn, fok, hfo⟩ : ∃ n ok, follS (t.data.toList.drop (t.size - 2)) = (n, ok) := ⟨_, _, rfl⟩
      have hdr : (t.extract (t.size - 2) t.size).data.toList = t.data.toList.drop (t.size - 2) := by rw [ext_take, List.take_of_length_le (by rw [hl]; exact Nat.le_refl _)]
      have htk : (t.extract 0 (t.size - 3)).data.toList = t.data.toList.take (t.size - 3) := ext_take0 _ _
      have HG : Hid (follS (t.extract (t.size - 2) t.size).data.toList = (fn, fok)) := by show _ = _; rw [hdr]; exact hfo
      have hcs : (t.extract 0 (t.size - 3)).size ≤ maxLen := by unfold maxLen; simp; omega
      have hds : (t.extract (t.size - 2) t.size).size ≤ maxLen := by unfold maxLen; simp; omega
      have e104 := h104
      rw [u8_is (by decide)] at h104
      have q7 : (((t[t.size - 3]'p3).toNat : Int) != 104) = false := by rw [bne_eq_false_iff_eq]; exact h104
      clear h104
      cases fok with
      | false =>
        rw [if_neg (by rw [hfo]; simp)] at h
        obtain ⟨rfl, rfl⟩ := Prod.mk.inj h
        clear h H e104 hg hl hfo hdr htk
        go_wp2_with fail
        refine (below60_c _ fn false HG _).mono ?_
        rintro ee w1 ⟨rfl, rfl⟩
        go_wp2
        go_ret2
        exact ⟨rfl, hb2⟩
      | true =>
        cases hcn : canon (t.data.toList.take (t.size - 3)) with
        | false =>
          rw [if_neg (by rw [hcn]; simp)] at h
          obtain ⟨rfl, rfl⟩ := Prod.mk.inj h
          have HK : Hid (canon (t.extract 0 (t.size - 3)).data.toList = false) := by show _ = _; rw [htk]; exact hcn
          clear h H e104 hg hl hfo hdr htk hcn
          go_wp2_with fail
          refine (below60_c _ fn true HG _).mono ?_
          rintro ee w1 ⟨rfl, rfl⟩
          go_wp2_with fail
          refine (plain_c _ false HK hcs _).mono ?_
          rintro ee w1 ⟨rfl, rfl⟩
          go_wp2
          go_ret2
          exact ⟨rfl, hb2⟩
        | true =>
          have HK : Hid (canon (t.extract 0 (t.size - 3)).data.toList = true) := by show _ = _; rw [htk]; exact hcn
          obtain ⟨hv, hhv⟩ : ∃ x, valR (t.data.toList.take (t.size - 3)) = x := ⟨_, rfl⟩
          have HV2 : Hid (valR (t.extract 0 (t.size - 3)).data.toList = hv) := by show _ = _; rw [htk]; exact hhv
          have hvb := valR_bd _ (canon_dig hcn)
          rw [hhv] at h hvb
          obtain ⟨hv0, hv1⟩ := hvb
          by_cases hz : hv = 0
          · subst hz
            rw [if_neg (by simp)] at h
            obtain ⟨rfl, rfl⟩ := Prod.mk.inj h
            clear h H e104 hg hl hfo hdr htk hcn hhv
            go_wp2_with fail
            refine (below60_c _ fn true HG _).mono ?_
            rintro ee w1 ⟨rfl, rfl⟩
            go_wp2_with fail
            refine (plain_c _ true HK hcs _).mono ?_
            rintro ee w1 ⟨rfl, rfl⟩
            go_wp2_with fail
            refine (val_c _ 0 (canon_dig HK.out) HV2 hcs _).mono ?_
            rintro ee w1 ⟨rfl, rfl⟩
            go_wp2
            go_ret2
            exact ⟨rfl, hb2⟩
          · rw [if_pos ⟨by omega, by rw [hg]; exact e104, by rw [hfo], hcn, hz⟩] at h
            obtain ⟨k, _, k60, hk⟩ := foll_back hfo
            have hmd : allDig (t.data.toList.drop (t.size - 2)) = true := by rw [hk]; exact two_dig k (by omega)
            have HMD : Hid (allDig (t.extract (t.size - 2) t.size).data.toList = true) := by show _ = _; rw [hdr]; exact hmd
            obtain ⟨mv, hmv⟩ : ∃ x, valR (t.data.toList.drop (t.size - 2)) = x := ⟨_, rfl⟩
            have HM2 : Hid (valR (t.extract (t.size - 2) t.size).data.toList = mv) := by show _ = _; rw [hdr]; exact hmv
            have hmb := valR_bd _ hmd
            rw [hmv] at h hmb
            obtain ⟨mv0, mv1⟩ := hmb
            obtain ⟨sec0, sec1⟩ := hsec
            have qz : (hv == 0) = false := by rw [beq_eq_false_iff_ne]; exact hz
            have E1 := (IntWalk.i64_in (3600 * hv) (by omega))
            have E2 := (IntWalk.i64_in (60 * mv) (by omega))
            have E3 := (IntWalk.i64_in (3600 * hv + 60 * mv) (by omega))
            have E4 := (IntWalk.i64_in (3600 * hv + 60 * mv + sec) (by omega))
            have i3 : ((t.size : Int) - 3) ≤ t.size := by omega
            have i3' : 0 ≤ ((t.size : Int) - 3) := by omega
            have i2 : ((t.size : Int) - 2) ≤ t.size := by omega
            have i2' : 0 ≤ ((t.size : Int) - 2) := by omega
            clear H e104 hg hl hfo hdr htk hcn hhv hmv hmd hk k60 hz
            go_wp2_with fail
            refine (below60_c _ fn true HG _).mono ?_
            rintro ee w1 ⟨rfl, rfl⟩
            go_wp2_with fail
            refine (plain_c _ true HK hcs _).mono ?_
            rintro ee w1 ⟨rfl, rfl⟩
            go_wp2_with fail
            refine (val_c _ hv (canon_dig HK.out) HV2 hcs _).mono ?_
            rintro ee w1 ⟨rfl, rfl⟩
            go_wp2_with fail
            go_quiet ((first
              | (go_at_call 39; with_reducible exact Calls.quiet_of_same ((val_c _ _ (canon_dig HK.out) HV2 hcs _).mono fun _ _ ⟨he, hw⟩ => ⟨he, hw.symm⟩))
              | (go_at_call 39; with_reducible exact Calls.quiet_of_same ((val_c _ _ HMD.out HM2 hds _).mono fun _ _ ⟨he, hw⟩ => ⟨he, hw.symm⟩))))
            by_cases htot : 3600 * hv + 60 * mv + sec ≤ 359999
            · rw [if_pos htot] at h
              obtain ⟨rfl, rfl⟩ := Prod.mk.inj h
              have q9 : decide (359999 < 3600 * hv + 60 * mv + sec) = false := decide_eq_false (by omega)
              clear h htot
              go_wp2
              go_ret2
              exact ⟨rfl, bl_drewN hb2 _⟩
            · rw [if_neg htot] at h
              obtain ⟨rfl, rfl⟩ := Prod.mk.inj h
              have q9 : decide (359999 < 3600 * hv + 60 * mv + sec) = true := decide_eq_true (by omega)
              clear h htot
              go_wp2
              go_ret2
              exact ⟨rfl, bl_drewN hb2 _⟩
end Go.Proofs.Ytnmapjflofoflaa
