/-
  THE CONTRACTS OF FIELD, THIRTEENTH PART: Lines, of the program and of the reference. Conditions: those of each contract.
-/
import Derived.Test.YtonmfcnkdgdkbaaDoorFldWalksL
import Derived.Test.YtonmfcnkdgdkbaaDoorFldPlain4
namespace Go.Proofs.YtonmfcnkdgdkbaaDoor
open Go.RowKit
open Fld

theorem suffix_lf {t : List UInt8} (h : t.getLast? = some 10) : Lib.hasSuffix t [10] = true ∧ Lib.trimSuffix t [10] = t.dropLast := by
  obtain ⟨f, rfl⟩ : ∃ f, t = f ++ [10] := by
    obtain ⟨ys, hy⟩ := List.getLast?_eq_some_iff.1 h
    exact ⟨ys, hy⟩
  have h1 : Lib.hasSuffix (f ++ [10]) [10] = true := by
    unfold Lib.hasSuffix
    rw [List.isSuffixOf_iff_suffix]
    exact List.suffix_append ..
  refine ⟨h1, ?_⟩
  unfold Lib.trimSuffix
  rw [if_pos h1]
  simp
theorem suffix_no {t : List UInt8} (h : ¬ t.getLast? = some 10) : Lib.hasSuffix t [10] = false := by
  rw [Bool.eq_false_iff]
  intro h1
  unfold Lib.hasSuffix at h1
  rw [List.isSuffixOf_iff_suffix] at h1
  obtain ⟨f, rfl⟩ := h1
  exact h (by simp)
/-- What the library's Split lays, read as a list. -/
theorem split_laid (w : World) (s : ByteArray) (f : List UInt8) (hf : s.data.toList = f) (hs : s.size ≤ 34359738368) : StrsIn (w.alloc (.cells ((Lib.splitB ⟨#[10]⟩ 0 (Lib.countB s ⟨#[10]⟩) s).map Value.string).toArray 9)).heap.size
    (w.alloc (.cells ((Lib.splitB ⟨#[10]⟩ 0 (Lib.countB s ⟨#[10]⟩) s).map Value.string).toArray 9)) (.slice (some ⟨w.heap.size, 0, none⟩) (Lib.countB s ⟨#[10]⟩ + 1) (Lib.countB s ⟨#[10]⟩ + 1)) (splitL 10 f) := by
  subst hf
  have hd := Lib.splitB_data ⟨#[10]⟩ 0 (Lib.countB s ⟨#[10]⟩) s
  have hk : (Lib.splitB ⟨#[10]⟩ 0 (Lib.countB s ⟨#[10]⟩) s).map (·.data.toList) = splitL 10 s.data.toList := by
    rw [hd]
    exact splitK_L 10 s.data.toList
  have hn := Lib.splitB_all ⟨#[10]⟩ (by decide) 0 _ s rfl
  have hc := Lib.countB_le ⟨#[10]⟩ (by decide) _ s (Nat.le_refl _)
  generalize Lib.splitB ⟨#[10]⟩ 0 (Lib.countB s ⟨#[10]⟩) s = ps at hk hn
  generalize Lib.countB s ⟨#[10]⟩ = n at hn hc
  have hl : (splitL 10 s.data.toList).length = n + 1 := by rw [← hk, List.length_map, hn]
  have hl' := hl
  rw [hl] at hl'
  refine ⟨some ⟨w.heap.size, 0, none⟩, n + 1, by rw [hl], by omega, by unfold maxLen; omega, fun _ => ⟨w.heap.size, 0, rfl, by simp, fun i x hx j u hu => ?_⟩⟩
  match j, hu with
  | 0, hu =>
    cases hu
    rw [← hk, List.getElem?_map] at hx
    obtain ⟨p, hp, rfl⟩ := Option.map_eq_some_iff.1 hx
    rw [show 0 + i * 1 + 0 = i by omega, World.cell?_alloc_at (hn := rfl)]
    simp [hp]
  | j + 1, hu => simp at hu
theorem cell0_bl {w w' : World} {m : Int} (hm : w.cell? ⟨0, 0, none⟩ = some (.int .i64 m)) (hb : Bl w w') : w'.cell? ⟨0, 0, none⟩ = some (.int .i64 m) := by
  rw [(bl_cell hb).1 0 0 (World.block_lt_of_cell? w _ hm)]
  exact hm
set_option maxHeartbeats 1000000 in
theorem lines_c (s : ByteArray) (hs : s.size ≤ 4294967280) (m : Int) (l : List (List UInt8)) (e : Int) (H : Hid (linesS s.data.toList = (l, e))) (w : World) (hm : w.cell? ⟨0, 0, none⟩ = some (.int .i64 m)) :
    Calls Tryd.prog 23 #[.string s] w fun r w' => ∃ v, r = .returned (.tuple #[v, .int .i64 e]) ∧ StrsIn w'.heap.size w' v l ∧ Bl w w' := by
  have hn := len_bytes s
  by_cases hbig : 65536 < s.size
  · have HF := Lib.hid (show (([] : List (List UInt8)), (5 : Int)) = (l, e) by rw [← H.out]; unfold linesS; rw [if_pos (by rw [hn]; exact hbig)])
    obtain ⟨e1, e2⟩ := Prod.mk.inj HF.out
    clear H HF
    subst e1 e2
    go_enter Tryd.func23, Tryd.ntmps23
    go_wp2
    go_ret2
    exact ⟨_, rfl, slIn_nil, bl_refl _⟩
  by_cases h0 : s.size = 0
  · have hs : s.toList = [] := toList_nil h0
    have HF := Lib.hid (show (([] : List (List UInt8)), (0 : Int)) = (l, e) by
      rw [← H.out]; unfold linesS; rw [if_neg (by rw [hn]; omega), if_pos (List.length_eq_zero_iff.1 (hn.trans h0))])
    obtain ⟨e1, e2⟩ := Prod.mk.inj HF.out
    clear H HF
    subst e1 e2
    go_enter Tryd.func23, Tryd.ntmps23
    go_wp2
    go_ret2
    exact ⟨_, rfl, slIn_nil, bl_refl _⟩
  have hne := toList_ne h0
  have hne' := toList_ne' h0
  have hnl : ¬ s.data.toList = [] := fun h => by rw [h] at hn; simp at hn; omega
  have hcut := Tryd.strings_CutSuffix s ⟨#[10]⟩ w (by omega)
  by_cases hlf : s.data.toList.getLast? = some 10
  · obtain ⟨c1, c2⟩ := suffix_lf hlf
    have HF := Lib.hid (show (splitL 10 s.data.toList.dropLast, (0 : Int)) = (l, e) by
      rw [← H.out]; unfold linesS; rw [if_neg (by rw [hn]; omega), if_neg hnl, if_pos hlf])
    obtain ⟨e1, e2⟩ := Prod.mk.inj HF.out
    rw [show (⟨#[10]⟩ : ByteArray).data.toList = [10] from rfl, c1, c2] at hcut
    obtain ⟨f, hf⟩ : ∃ f : ByteArray, f = ⟨s.data.toList.dropLast.toArray⟩ := ⟨_, rfl⟩
    have hfl : f.data.toList = s.data.toList.dropLast := by rw [hf]
    have hfs : f.size ≤ s.size := by
      have := len_bytes f
      rw [hfl, List.length_dropLast] at this
      omega
    rw [← hf] at hcut
    have HS := Lib.hid (split_laid w f _ hfl (by omega))
    have hsp := Tryd.strings_Split f ⟨#[10]⟩ m w (by omega) hm (by decide)
    have hB : Bl w (w.alloc (.cells ((Lib.splitB ⟨#[10]⟩ 0 (Lib.countB f ⟨#[10]⟩) f).map Value.string).toArray 9)) := bl_alloc (bl_refl _) _
    rw [e1] at HS
    have E2 := Lib.hid e2
    generalize (w.alloc (.cells ((Lib.splitB ⟨#[10]⟩ 0 (Lib.countB f ⟨#[10]⟩) f).map Value.string).toArray 9)) = wz at HS hsp hB
    generalize Lib.countB f ⟨#[10]⟩ + 1 = n at HS hsp
    clear H HF e1 e2 hf hfl hlf c1 c2
    go_enter Tryd.func23, Tryd.ntmps23
    go_wp2_with (go_at_call 36; refine hcut.mono ?_)
    rintro r w' ⟨rfl, rfl⟩
    go_wp2_with (go_at_call 37; refine hsp.mono ?_)
    rintro r w' ⟨rfl, rfl⟩
    go_wp2
    go_ret2
    exact ⟨_, by rw [← E2.out]; rfl, HS.out, hB⟩
  · have c1 := suffix_no hlf
    have HF := Lib.hid (show (([] : List (List UInt8)), (4 : Int)) = (l, e) by
      rw [← H.out]; unfold linesS; rw [if_neg (by rw [hn]; omega), if_neg hnl, if_neg hlf])
    obtain ⟨e1, e2⟩ := Prod.mk.inj HF.out
    rw [show (⟨#[10]⟩ : ByteArray).data.toList = [10] from rfl, c1] at hcut
    generalize (Lib.trimSuffix s.data.toList [10]).toArray = z at hcut
    clear H HF hlf c1
    subst e1 e2
    go_enter Tryd.func23, Tryd.ntmps23
    go_wp2_with (go_at_call 36; refine hcut.mono ?_)
    rintro r w' ⟨rfl, rfl⟩
    go_wp2
    go_ret2
    exact ⟨_, rfl, slIn_nil, bl_refl _⟩
theorem lines_step_lf {s : ByteArray} {i at' : Nat} {out : List (List UInt8)} (h : i < s.size) (h10 : (s[i]'h).toNat = 10)
    (hr : splitL 10 (s.data.toList.take i) = out ++ [(s.extract at' i).data.toList]) : splitL 10 (s.data.toList.take (i + 1)) = (out ++ [(s.extract at' i).data.toList]) ++ [(s.extract (i + 1) (i + 1)).data.toList] := by
  have e : (s[i]'h) = 10 := UInt8.toNat.inj (by simpa using h10)
  have e2 : (s.extract (i + 1) (i + 1)).data.toList = [] := by rw [ext_list]; simp
  rw [List.take_succ_eq_append_getElem (by simpa using h), bytes_get s i h, e, splitL_snoc_c, hr, e2]
theorem lines_step_ne {s : ByteArray} {i at' : Nat} {out : List (List UInt8)} (h : i < s.size) (h10 : ¬ (s[i]'h).toNat = 10) (hat : at' ≤ i)
    (hr : splitL 10 (s.data.toList.take i) = out ++ [(s.extract at' i).data.toList]) : splitL 10 (s.data.toList.take (i + 1)) = out ++ [(s.extract at' (i + 1)).data.toList] := by
  have e : (s[i]'h) ≠ 10 := fun e => h10 (by rw [e]; rfl)
  have e2 : (s.extract at' (i + 1)).data.toList = (s.extract at' i).data.toList ++ [s[i]'h] := by
    rw [ext_list, ext_list, show i + 1 - at' = (i - at') + 1 by omega, List.take_succ_eq_append_getElem (by rw [List.length_drop, len_bytes]; omega), List.getElem_drop]
    congr 1
    simp only [List.cons.injEq, and_true]
    rw [← bytes_get s i h]
    congr 1
    omega
  rw [List.take_succ_eq_append_getElem (by simpa using h), bytes_get s i h, splitL_snoc_ne e _ _ _ hr, e2]
theorem lines_all {t : List UInt8} {out : List (List UInt8)} {cur : List UInt8} (h : splitL 10 t = out ++ [cur]) (h1 : ¬ 65536 < t.length) (h2 : t ≠ [] → t.getLast? = some 10) : linesS t = (out, 0) := by
  unfold linesS
  rw [if_neg h1]
  by_cases h0 : t = []
  · rw [if_pos h0]
    rw [h0] at h
    have h' : ([[]] : List (List UInt8)) = out ++ [cur] := h
    cases out with
    | nil => rfl
    | cons x y => simp at h'
  · rw [if_neg h0, if_pos (h2 h0)]
    obtain ⟨f, hf⟩ := List.getLast?_eq_some_iff.1 (h2 h0)
    rw [hf, splitL_snoc_c] at h
    rw [hf, List.dropLast_concat]
    have := congrArg List.dropLast h
    rw [List.dropLast_concat, List.dropLast_concat] at this
    rw [this]
theorem some10 (b : UInt8) : (some b : Option UInt8) = some 10 ↔ b.toNat = 10 := by
  rw [Option.some.injEq]
  exact ⟨fun e => by rw [e]; rfl, fun e => UInt8.toNat.inj (by simpa using e)⟩
set_option maxHeartbeats 4000000 in
theorem rlines_c (s : ByteArray) (hs : s.size ≤ 4294967280) (l : List (List UInt8)) (e : Int) (H : Hid (linesS s.data.toList = (l, e))) (w : World) :
    Calls Tryd.prog 24 #[.string s] w fun r w' => ∃ v, r = .returned (.tuple #[v, .int .i64 e]) ∧ OwnS w.heap.size v l w' ∧ Bl w w' := by
  obtain ⟨i0, hi, hz0, hz1, hz2⟩ := info_parts info_str
  have hn := len_bytes s
  by_cases hbig : 65536 < s.size
  · have HF := Lib.hid (show (([] : List (List UInt8)), (5 : Int)) = (l, e) by rw [← H.out]; unfold linesS; rw [if_pos (by rw [hn]; exact hbig)])
    obtain ⟨e1, e2⟩ := Prod.mk.inj HF.out
    clear H HF
    subst e1 e2
    go_enter Tryd.func24, Tryd.ntmps24
    go_wp2
    go_ret2
    exact ⟨_, rfl, ownS_nil _ _, bl_refl _⟩
  by_cases hbad : ∃ h : 0 < s.size, ¬ (s[s.size - 1]'(by omega)).toNat = 10
  · obtain ⟨h0, hb⟩ := hbad
    have hnl : ¬ s.data.toList = [] := fun h => by rw [h] at hn; simp at hn; omega
    have hne := toList_ne (s := s) (by omega)
    have hne' := toList_ne' (s := s) (by omega)
    have f1 : (((s[s.size - 1]'(by omega)).toNat : Int) != 10) = true := by rw [bne_iff_ne]; omega
    have HF := Lib.hid (show (([] : List (List UInt8)), (4 : Int)) = (l, e) by
      rw [← H.out]; unfold linesS; rw [if_neg (by rw [hn]; omega), if_neg hnl, if_neg (by rw [last_is s h0, some10]; exact hb)])
    obtain ⟨e1, e2⟩ := Prod.mk.inj HF.out
    clear H HF hnl
    subst e1 e2
    go_enter Tryd.func24, Tryd.ntmps24
    go_wp2
    go_ret2
    exact ⟨_, rfl, ownS_nil _ _, bl_refl _⟩
  have HE := Lib.hid (fun (out : List (List UInt8)) (cur : List UInt8) (h : splitL 10 s.data.toList = out ++ [cur]) => show out = l ∧ (0 : Int) = e by
    have := lines_all h (by rw [hn]; exact hbig) (fun hne => by
      have h0 : 0 < s.size := by
        rcases Nat.eq_zero_or_pos s.size with h0 | h0
        · exact absurd (List.length_eq_zero_iff.1 (hn.trans h0)) hne
        · exact h0
      rw [last_is s h0, some10]
      exact Decidable.not_not.1 fun hc => hbad ⟨h0, hc⟩)
    exact Prod.mk.inj (this.symm.trans H.out))
  have hlast : ∀ h0 : 0 < s.size, (((s[s.size - 1]'(by omega)).toNat : Int) != 10) = false := fun h0 => by
    have := Decidable.not_not.1 fun hc => hbad ⟨h0, hc⟩
    rw [this]
    rfl
  clear H hbad
  rcases Nat.eq_zero_or_pos s.size with h0 | h0
  · have hs : s.toList = [] := toList_nil h0
    obtain ⟨e1, e2⟩ := HE.out [] [] (by rw [List.length_eq_zero_iff.1 (hn.trans h0)]; rfl)
    clear hlast HE
    subst e1 e2
    go_enter Tryd.func24, Tryd.ntmps24
    go_wp2_with fail
    refine wp_loop_rounds 1 ?_
    rw [rounds_succ]
    go_wp2
    go_ret2
    exact ⟨_, rfl, ownS_nil _ _, bl_refl _⟩
  · have hne := toList_ne (s := s) (by omega)
    have hne' := toList_ne' (s := s) (by omega)
    have f1 := hlast h0
    clear hlast
    go_enter Tryd.func24, Tryd.ntmps24
    go_wp2
    go_loopw [4, 5, 6] (fun vo va i wr => ∃ (k j : Nat) (out : List (List UInt8)), k ≤ s.size ∧ j ≤ k ∧ out.length ≤ k ∧ i = .int .i64 k ∧ va = .int .i64 j ∧ Hid (OwnS w.heap.size vo out wr) ∧ Hid (splitL 10 (s.data.toList.take k) = out ++ [(s.extract j k).data.toList]) ∧ Hid (Bl w wr)) (fun _ _ i _ => s.size - (intOf i).toNat)
    case atStart => exact ⟨0, 0, [], Nat.zero_le _, Nat.le_refl _, Nat.le_refl _, rfl, rfl, ownS_nil _ _, by show _ = _; rw [ext_list]; rfl, bl_refl _⟩
    case round =>
      obtain ⟨k, j, out, hk, hj, hol, rfl, rfl, HO, HS, HB⟩ := hrel
      by_cases hlt : k < s.size
      · by_cases h10 : ((s[k]'hlt).toNat : Int) = 10
        · have HN := Lib.hid (lines_step_lf hlt (by omega) HS.out)
          obtain ⟨f, hf⟩ : ∃ f, (s.extract j k).data.toList = f := ⟨_, rfl⟩
          have hv : Value.string (s.extract j k) = str f := by rw [← hf]
          rw [hf] at HN
          clear hf
          go_wp2_with (at_builtin; refine wpList_append_own _ rfl _ _ 30 rfl w.heap.size 9 i0 (.string ByteArray.empty) 1 16 Tryd.underlying30 hi hz0 hz1 hz2 rfl (by decide) _ _ _ rfl (ownS_alloc HO.out _) ⟨wr.heap.size, 0, none⟩ 1 1 [str f] rfl rfl ?c1 ?c2 ?c3 ?c4 ?c5 ?_)
          case c1 => exact cells_of_lit _ (fun j u h => by simpa using h)
          case c2 => simp [Value.oneCell']
          case c3 => unfold maxLen; omega
          case c4 => omega
          case c5 => have := HB.out.size; simp; omega
          intro v3 w3 hown3 hgrow3 _
          have O3 := Lib.hid (ownS_app (m := [f]) hown3)
          have B3 : Hid (Bl w w3) := (HB.out.alloc HB.out.size _).grown hgrow3 (by have := HB.out.size; simp; omega) (fun k hk => (World.ownsRow.lt HO.out k hk).1)
          clear hown3 hgrow3 hv
          go_wp2
          go_roundw
          case rel => exact ⟨k + 1, k + 1, out ++ [f], by omega, by omega, by simp; omega, by go_num, by go_num, O3, HN, B3⟩
          case measure => simp [intOf]; omega
        · have f2 : (((s[k]'hlt).toNat : Int) == 10) = false := by rw [beq_eq_false_iff_ne]; exact h10
          have HN := Lib.hid (lines_step_ne hlt (by omega) hj HS.out)
          go_wp2
          go_roundw
          case rel => exact ⟨k + 1, j, out, by omega, by omega, by omega, by go_num, rfl, HO, HN, HB⟩
          case measure => simp [intOf]; omega
      · obtain rfl : k = s.size := by omega
        obtain ⟨e1, e2⟩ := HE.out out _ (by rw [← HS.out, List.take_of_length_le (by omega)])
        clear HE HS
        subst e1 e2
        go_wp2
        go_ret2
        exact ⟨_, rfl, HO.out, HB.out⟩
end Go.Proofs.YtonmfcnkdgdkbaaDoor
