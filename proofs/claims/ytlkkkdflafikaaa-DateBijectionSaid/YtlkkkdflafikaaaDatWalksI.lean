/-
  THE CONTRACTS OF DATE, NINTH PART: ParseMoment, and the reference's. Conditions: those of each contract.
-/
import Derived.Test.YtlkkkdflafikaaaDatWalksH
namespace Go.Proofs.Ytlkkkdflafikaaa
open Go.RowKit
open Num Clk Dat

theorem ext_app {s : ByteArray} {p q : List UInt8} (h : s.data.toList = p ++ q) (hp : p.length = 10) : (s.extract 0 10).data.toList = p := by
  rw [ext_list, h]
  simp [hp]
/-- The parts of a text of the form of a moment. -/
theorem mf_parts {s : ByteArray} {p q : List UInt8} {y m d hh mm ss : Int} (e : s.data.toList = p ++ 84 :: q) (h : DF p y m d) (t : TF q hh mm ss) :
    s.size = 19 ∧ s.data.toList[10]? = some 84 ∧ s.data.toList[13]? = some 58 ∧ s.data.toList[16]? = some 58 ∧ (s.extract 0 10).data.toList = p ∧
    numS (s.extract 11 13).data.toList = (hh, true) ∧ numS (s.extract 14 16).data.toList = (mm, true) ∧ numS (s.extract 17 s.size).data.toList = (ss, true) := by
  have hp := DF_len h
  have hx := ext_app e hp
  obtain ⟨a, b, c, e', f, g, h, k, rfl, _⟩ := h
  obtain ⟨a1, b1, c1, d1, e1, f1, rfl, ⟨k1, k2⟩, ⟨k3, k4⟩, ⟨k5, k6⟩, rfl, rfl, rfl⟩ := t
  have hs : s.size = 19 := by rw [← toList_len, e]; rfl
  rw [hs]
  refine ⟨rfl, ?_, ?_, ?_, hx, ?_, ?_, ?_⟩
  · rw [e]; rfl
  · rw [e]; rfl
  · rw [e]; rfl
  · rw [ext_list, e]; exact num2 k1 k2
  · rw [ext_list, e]; exact num2 k3 k4
  · rw [ext_list, e]; exact num2 k5 k6
theorem list8' {l : List UInt8} (h : l.length = 9) : ∃ t a b x c d y e f, l = [t, a, b, x, c, d, y, e, f] := list9 h
theorem mf_none {s : ByteArray} (h : shapedB s.data.toList pat19 = false) : s.size ≠ 19 ∨ (s.size = 19 ∧ ((∃ x, s.data.toList[10]? = some x ∧ x ≠ 84) ∨ (s.data.toList[10]? = some 84 ∧ ∃ x, s.data.toList[13]? = some x ∧ x ≠ 58) ∨
    (s.data.toList[10]? = some 84 ∧ s.data.toList[13]? = some 58 ∧ ∃ x, s.data.toList[16]? = some x ∧ x ≠ 58) ∨
    (s.data.toList[10]? = some 84 ∧ s.data.toList[13]? = some 58 ∧ s.data.toList[16]? = some 58 ∧ ∃ n1 b1 n2 b2 n3 b3, numS (s.extract 11 13).data.toList = (n1, b1) ∧ numS (s.extract 14 16).data.toList = (n2, b2) ∧ numS (s.extract 17 s.size).data.toList = (n3, b3) ∧
      (shapedB (s.extract 0 10).data.toList pat10 = false ∨ ∃ y m d, DF (s.extract 0 10).data.toList y m d ∧ (b1 = false ∨ (b1 = true ∧ b2 = false) ∨ (b1 = true ∧ b2 = true ∧ b3 = false)))))) := by
  by_cases hl : s.size = 19
  · refine .inr ⟨hl, ?_⟩
    have hl1 : (s.data.toList.take 10).length = 10 := by rw [List.length_take, toList_len, hl]; rfl
    have hl2 : (s.data.toList.drop 10).length = 9 := by rw [List.length_drop, toList_len, hl]
    obtain ⟨t, a', b', x', c', d', y', e', f', e2⟩ := list9 hl2
    have e3 : s.data.toList = s.data.toList.take 10 ++ [t, a', b', x', c', d', y', e', f'] := by rw [← e2, List.take_append_drop]
    generalize hp : s.data.toList.take 10 = p at *
    have hx := ext_app e3 hl1
    have i10 : s.data.toList[10]? = some t := by rw [e3, List.getElem?_append_right (by omega), hl1]; rfl
    have i13 : s.data.toList[13]? = some x' := by rw [e3, List.getElem?_append_right (by omega), hl1]; rfl
    have i16 : s.data.toList[16]? = some y' := by rw [e3, List.getElem?_append_right (by omega), hl1]; rfl
    have d11 : (s.extract 11 13).data.toList = [a', b'] := by
      rw [ext_list, show (11 : Nat) = 10 + 1 from rfl, ← List.drop_drop, e2]; rfl
    have d14 : (s.extract 14 16).data.toList = [c', d'] := by
      rw [ext_list, show (14 : Nat) = 10 + 4 from rfl, ← List.drop_drop, e2]; rfl
    have d17 : (s.extract 17 s.size).data.toList = [e', f'] := by
      rw [ext_list, hl, show (17 : Nat) = 10 + 7 from rfl, ← List.drop_drop, e2]; rfl
    by_cases hx1 : t = 84
    · by_cases hx2 : x' = 58
      · by_cases hx3 : y' = 58
        · refine .inr (.inr (.inr ⟨by rw [i10, hx1], by rw [i13, hx2], by rw [i16, hx3], _, _, _, _, _, _, numS_eta _, numS_eta _, numS_eta _, ?_⟩))
          rw [d11, d14, d17, hx]
          cases hs : shapedB p pat10 with
          | false => exact .inl rfl
          | true =>
            obtain ⟨y, m, d, hd⟩ := shaped10 hs
            refine .inr ⟨y, m, d, hd, ?_⟩
            cases h1 : allDig [a', b'] with
            | false => exact .inl rfl
            | true =>
              cases h2 : allDig [c', d'] with
              | false => exact .inr (.inl ⟨rfl, rfl⟩)
              | true =>
                cases h3 : allDig [e', f'] with
                | false => exact .inr (.inr ⟨rfl, rfl, rfl⟩)
                | true =>
                  simp [allDig] at h1 h2 h3
                  rw [e3, hx1, hx2, hx3, shaped19_of hd ⟨a', b', c', d', e', f', rfl, h1, h2, h3, rfl, rfl, rfl⟩] at h
                  simp at h
        · exact .inr (.inr (.inl ⟨by rw [i10, hx1], by rw [i13, hx2], y', i16, hx3⟩))
      · exact .inr (.inl ⟨by rw [i10, hx1], x', i13, hx2⟩)
    · exact .inl ⟨t, i10, hx1⟩
  · exact .inl hl

set_option maxHeartbeats 8000000 in
theorem dMom_bad (s : ByteArray) (H : Hid (shapedB s.data.toList pat19 = false)) (hs : s.size ≤ 9223372036854775807) (w : World) :
    Calls Try.prog 37 #[.string s] w fun r w' => r = .returned (.tuple #[.int .i64 0, .int .i64 3]) ∧ Bl w w' := by
  rcases mf_none H.out with h | ⟨h19, ⟨x, h10, hx⟩ | ⟨h10, x, h13, hx⟩ | ⟨h10, h13, x, h16, hx⟩ | ⟨h10, h13, h16, n1, b1, n2, b2, n3, b3, k1, k2, k3, hb⟩⟩
  · have q0 : ((s.size : Int) != 19) = true := by rw [bne_iff_ne]; omega
    clear h
    go_enter Try.func37, Try.ntmps37
    go_wp2
    go_ret2
    exact ⟨rfl, bl_refl _⟩
  · have q0 : ((s.size : Int) != 19) = false := by rw [bne_eq_false_iff_eq]; omega
    have e10 := fun W => idx_l s 10 10 rfl x h10 W
    have q1 : ((x.toNat : Int) != 84) = true := by rw [bne_iff_ne]; exact u8_ne (b := 84) hx
    clear h10 h19 hx
    go_enter Try.func37, Try.ntmps37
    go_wp2
    go_ret2
    exact ⟨rfl, bl_refl _⟩
  · have q0 : ((s.size : Int) != 19) = false := by rw [bne_eq_false_iff_eq]; omega
    have e10 := fun W => idx_l s 10 10 rfl 84 h10 W
    have e13 := fun W => idx_l s 13 13 rfl x h13 W
    have q1 : ((x.toNat : Int) != 58) = true := by rw [bne_iff_ne]; exact u8_ne (b := 58) hx
    clear h10 h13 h19 hx
    go_enter Try.func37, Try.ntmps37
    go_wp2
    go_ret2
    exact ⟨rfl, bl_refl _⟩
  · have q0 : ((s.size : Int) != 19) = false := by rw [bne_eq_false_iff_eq]; omega
    have e10 := fun W => idx_l s 10 10 rfl 84 h10 W
    have e13 := fun W => idx_l s 13 13 rfl 58 h13 W
    have e16 := fun W => idx_l s 16 16 rfl x h16 W
    have q1 : ((x.toNat : Int) != 58) = true := by rw [bne_iff_ne]; exact u8_ne (b := 58) hx
    clear h10 h13 h16 h19 hx
    go_enter Try.func37, Try.ntmps37
    go_wp2
    go_ret2
    exact ⟨rfl, bl_refl _⟩
  · have q0 : ((s.size : Int) != 19) = false := by rw [bne_eq_false_iff_eq]; omega
    have e10 := fun W => idx_l s 10 10 rfl 84 h10 W
    have e13 := fun W => idx_l s 13 13 rfl 58 h13 W
    have e16 := fun W => idx_l s 16 16 rfl 58 h16 W
    have N1 := Lib.hid k1
    have N2 := Lib.hid k2
    have N3 := Lib.hid k3
    have hs1 : 19 ≤ s.size := by omega
    have hs2 : s.size ≤ 19 := by omega
    clear h10 h13 h16 h19 k1 k2 k3
    rcases hb with hf | ⟨y, m, d, hd, hb⟩
    · have HF := Lib.hid hf
      clear hf
      go_enter Try.func37, Try.ntmps37
      go_wp2_with fail
      refine (fields_no _ HF _).mono ?_
      rintro e w1 ⟨⟨y, m, d, rfl⟩, rfl⟩
      go_wp2_with fail
      refine (number_c _ _ _ N1 (by rw [ext_size _ _ _ (by omega) (by omega)]; omega) _).mono ?_
      rintro e w1 ⟨rfl, rfl⟩
      go_wp2_with fail
      refine (number_c _ _ _ N2 (by rw [ext_size _ _ _ (by omega) (by omega)]; omega) _).mono ?_
      rintro e w1 ⟨rfl, rfl⟩
      go_wp2_with fail
      refine (number_c _ _ _ N3 (by rw [ext_size _ _ _ (by omega) (by omega)]; omega) _).mono ?_
      rintro e w1 ⟨rfl, rfl⟩
      go_wp2
      go_ret2
      exact ⟨rfl, bl_refl _⟩
    · have HF := Lib.hid hd
      clear hd
      rcases hb with rfl | ⟨rfl, rfl⟩ | ⟨rfl, rfl, rfl⟩
      all_goals
        go_enter Try.func37, Try.ntmps37
        go_wp2_with fail
        refine (fields_yes _ _ _ _ HF _).mono ?_
        rintro e w1 ⟨rfl, rfl⟩
        go_wp2_with fail
        refine (number_c _ _ _ N1 (by rw [ext_size _ _ _ (by omega) (by omega)]; omega) _).mono ?_
        rintro e w1 ⟨rfl, rfl⟩
        go_wp2_with fail
        refine (number_c _ _ _ N2 (by rw [ext_size _ _ _ (by omega) (by omega)]; omega) _).mono ?_
        rintro e w1 ⟨rfl, rfl⟩
        go_wp2_with fail
        refine (number_c _ _ _ N3 (by rw [ext_size _ _ _ (by omega) (by omega)]; omega) _).mono ?_
        rintro e w1 ⟨rfl, rfl⟩
        go_wp2
        go_ret2
        exact ⟨rfl, bl_refl _⟩

/-- What ParseMoment returns at a text of the form. -/
def momRes (n e hh mm ss : Int) : Int × Int := if e = 0 then (if hh ≤ 23 ∧ mm ≤ 59 ∧ ss ≤ 59 then (n * 86400 + 3600 * hh + 60 * mm + ss, 0) else (0, 10)) else (0, e)
theorem time_out {hh mm ss : Int} (h : ¬ (hh ≤ 23 ∧ mm ≤ 59 ∧ ss ≤ 59)) : 23 < hh ∨ (hh ≤ 23 ∧ 59 < mm) ∨ (hh ≤ 23 ∧ mm ≤ 59 ∧ 59 < ss) := by omega
set_option maxHeartbeats 8000000 in
theorem dMom_form (s : ByteArray) (p q : List UInt8) (y m d hh mm ss n e r x : Int) (he : s.data.toList = p ++ 84 :: q) (h : DF p y m d) (t : TF q hh mm ss) (hd : Day p n e) (HR : Hid (momRes n e hh mm ss = (r, x))) (w : World) :
    Calls Try.prog 37 #[.string s] w fun r' w' => r' = .returned (.tuple #[.int .i64 r, .int .i64 x]) ∧ Bl w w' := by
  obtain ⟨h19, h10, h13, h16, hp, n1, n2, n3⟩ := mf_parts he h t
  have e10 := fun W => idx_l s 10 10 rfl 84 h10 W
  have e13 := fun W => idx_l s 13 13 rfl 58 h13 W
  have e16 := fun W => idx_l s 16 16 rfl 58 h16 W
  have q0 : ((s.size : Int) != 19) = false := by rw [bne_eq_false_iff_eq]; omega
  have HF : Hid (DF (s.extract 0 10).data.toList y m d) := by show DF _ _ _ _; rw [hp]; exact h
  have hD : Day (s.extract 0 10).data.toList n e := by rw [hp]; exact hd
  obtain ⟨⟨t0, t1⟩, ⟨t2, t3⟩, ⟨t4, t5⟩⟩ := TF_bd t
  obtain ⟨⟨nb0, nb1⟩, _⟩ := day_bd hd
  have N1 := Lib.hid n1
  have N2 := Lib.hid n2
  have N3 := Lib.hid n3
  have hs1 : 19 ≤ s.size := by omega
  have hs2 : s.size ≤ 19 := by omega
  have hm := HR.out
  clear h19 h10 h13 h16 hp n1 n2 n3 he h t hd HR
  unfold momRes at hm
  by_cases he0 : e = 0
  · subst he0
    rw [if_pos rfl] at hm
    by_cases hx : hh ≤ 23 ∧ mm ≤ 59 ∧ ss ≤ 59
    · rw [if_pos hx] at hm
      obtain ⟨rfl, rfl⟩ := Prod.mk.inj hm
      obtain ⟨x1, x2, x3⟩ := hx
      clear hm
      go_enter Try.func37, Try.ntmps37
      go_wp2_with fail
      refine (fields_yes _ _ _ _ HF _).mono ?_
      rintro e w1 ⟨rfl, rfl⟩
      go_wp2_with fail
      refine (number_c _ _ _ N1 (by rw [ext_size _ _ _ (by omega) (by omega)]; omega) _).mono ?_
      rintro e w1 ⟨rfl, rfl⟩
      go_wp2_with fail
      refine (number_c _ _ _ N2 (by rw [ext_size _ _ _ (by omega) (by omega)]; omega) _).mono ?_
      rintro e w1 ⟨rfl, rfl⟩
      go_wp2_with fail
      refine (number_c _ _ _ N3 (by rw [ext_size _ _ _ (by omega) (by omega)]; omega) _).mono ?_
      rintro e w1 ⟨rfl, rfl⟩
      go_wp2_with fail
      refine (dParse_c _ _ _ hD _).mono ?_
      rintro e w1 ⟨rfl, b1⟩
      go_wp2
      go_ret2
      exact ⟨rfl, b1⟩
    · rw [if_neg hx] at hm
      obtain ⟨rfl, rfl⟩ := Prod.mk.inj hm
      clear hm
      rcases time_out hx with hx | ⟨hx, hy⟩ | ⟨hx, hy, hz⟩
      all_goals
        go_enter Try.func37, Try.ntmps37
        go_wp2_with fail
        refine (fields_yes _ _ _ _ HF _).mono ?_
        rintro e w1 ⟨rfl, rfl⟩
        go_wp2_with fail
        refine (number_c _ _ _ N1 (by rw [ext_size _ _ _ (by omega) (by omega)]; omega) _).mono ?_
        rintro e w1 ⟨rfl, rfl⟩
        go_wp2_with fail
        refine (number_c _ _ _ N2 (by rw [ext_size _ _ _ (by omega) (by omega)]; omega) _).mono ?_
        rintro e w1 ⟨rfl, rfl⟩
        go_wp2_with fail
        refine (number_c _ _ _ N3 (by rw [ext_size _ _ _ (by omega) (by omega)]; omega) _).mono ?_
        rintro e w1 ⟨rfl, rfl⟩
        go_wp2_with fail
        refine (dParse_c _ _ _ hD _).mono ?_
        rintro e w1 ⟨rfl, b1⟩
        go_wp2
        go_ret2
        exact ⟨rfl, b1⟩
  · rw [if_neg he0] at hm
    obtain ⟨rfl, rfl⟩ := Prod.mk.inj hm
    have q9 : (e != 0) = true := by rw [bne_iff_ne]; exact he0
    clear hm he0
    go_enter Try.func37, Try.ntmps37
    go_wp2_with fail
    refine (fields_yes _ _ _ _ HF _).mono ?_
    rintro e w1 ⟨rfl, rfl⟩
    go_wp2_with fail
    refine (number_c _ _ _ N1 (by rw [ext_size _ _ _ (by omega) (by omega)]; omega) _).mono ?_
    rintro e w1 ⟨rfl, rfl⟩
    go_wp2_with fail
    refine (number_c _ _ _ N2 (by rw [ext_size _ _ _ (by omega) (by omega)]; omega) _).mono ?_
    rintro e w1 ⟨rfl, rfl⟩
    go_wp2_with fail
    refine (number_c _ _ _ N3 (by rw [ext_size _ _ _ (by omega) (by omega)]; omega) _).mono ?_
    rintro e w1 ⟨rfl, rfl⟩
    go_wp2_with fail
    refine (dParse_c _ _ _ hD _).mono ?_
    rintro e w1 ⟨rfl, b1⟩
    go_wp2
    go_ret2
    exact ⟨rfl, b1⟩
theorem dMom_c (s : ByteArray) (n e : Int) (H : Mom s.data.toList n e) (hs : s.size ≤ 9223372036854775807) (w : World) :
    Calls Try.prog 37 #[.string s] w fun r w' => r = .returned (.tuple #[.int .i64 n, .int .i64 e]) ∧ Bl w w' := by
  generalize hl : s.data.toList = l at H
  cases H with
  | bad h => exact dMom_bad s (by show _ = _; rw [hl]; exact h) hs w
  | day h t k => exact dMom_form s _ _ _ _ _ _ _ _ 0 11 0 11 hl h t (.out h k) (by show _ = _; rfl) w
  | out n h t k hx => exact dMom_form s _ _ _ _ _ _ _ _ n 0 0 10 hl h t (.ok n h k) (by show _ = _; unfold momRes; rw [if_pos rfl, if_neg hx]) w
  | ok n h t k hx => exact dMom_form s _ _ _ _ _ _ _ _ n 0 _ 0 hl h t (.ok n h k) (by show _ = _; unfold momRes; rw [if_pos rfl, if_pos hx]) w

/-! ### the reference's -/
theorem pat19_str : (ByteArray.mk #[48, 48, 48, 48, 45, 48, 48, 45, 48, 48, 84, 48, 48, 58, 48, 48, 58, 48, 48]).data.toList = pat19 := rfl
set_option maxHeartbeats 8000000 in
theorem rMom_form (s : ByteArray) (p q : List UInt8) (y m d hh mm ss n e r x : Int) (he : s.data.toList = p ++ 84 :: q) (h : DF p y m d) (t : TF q hh mm ss) (hd : Day p n e) (HR : Hid (momRes n e hh mm ss = (r, x))) (w : World) :
    Calls Try.prog 38 #[.string s] w fun r' w' => r' = .returned (.tuple #[.int .i64 r, .int .i64 x]) ∧ Bl w w' := by
  have HS : Hid (shapedB s.data.toList (ByteArray.mk #[48, 48, 48, 48, 45, 48, 48, 45, 48, 48, 84, 48, 48, 58, 48, 48, 58, 48, 48]).data.toList = true) := by show _ = _; rw [he, pat19_str]; exact shaped19_of h t
  obtain ⟨h19, h10, h13, h16, hp, n1, n2, n3⟩ := mf_parts he h t
  have hD : Day (s.extract 0 10).data.toList n e := by rw [hp]; exact hd
  obtain ⟨⟨t0, t1⟩, ⟨t2, t3⟩, ⟨t4, t5⟩⟩ := TF_bd t
  obtain ⟨⟨nb0, nb1⟩, _⟩ := day_bd hd
  have N1 := Lib.hid n1
  have N2 := Lib.hid n2
  have N3 := Lib.hid n3
  have hs1 : 19 ≤ s.size := by omega
  have hs2 : s.size ≤ 19 := by omega
  have hm := HR.out
  clear h19 h10 h13 h16 hp n1 n2 n3 he h t hd HR
  unfold momRes at hm
  by_cases he0 : e = 0
  · subst he0
    rw [if_pos rfl] at hm
    by_cases hx : hh ≤ 23 ∧ mm ≤ 59 ∧ ss ≤ 59
    · rw [if_pos hx] at hm
      obtain ⟨e1, rfl⟩ := Prod.mk.inj hm
      have HE := Lib.hid (show n * 86400 + hh * 3600 + mm * 60 + ss = r by omega)
      obtain ⟨x1, x2, x3⟩ := hx
      clear hm e1
      go_enter Try.func38, Try.ntmps38
      go_wp2_with fail
      refine (shaped_c s _ _ HS (by decide) _).mono ?_
      rintro e w1 ⟨rfl, b1⟩
      go_wp2_with fail
      refine (rParse_c _ _ _ hD _).mono ?_
      rintro e w2 ⟨rfl, b2⟩
      have b3 := bl_next b1 b2
      go_wp2_with fail
      have i13 : (13 : Int) ≤ (s.size : Int) := by omega
      have i16 : (16 : Int) ≤ (s.size : Int) := by omega
      have i17 : (17 : Int) ≤ (s.size : Int) := by omega
      go_quiet ((first
        | (go_at_call 46; with_reducible exact Calls.quiet_of_same ((value_c _ _ N1 (by rw [ext_size _ _ _ (by omega) (by omega)]; omega) _).mono fun _ _ ⟨he, hw⟩ => ⟨he, hw.symm⟩))
        | (go_at_call 46; with_reducible exact Calls.quiet_of_same ((value_c _ _ N2 (by rw [ext_size _ _ _ (by omega) (by omega)]; omega) _).mono fun _ _ ⟨he, hw⟩ => ⟨he, hw.symm⟩))
        | (go_at_call 46; with_reducible exact Calls.quiet_of_same ((value_c _ _ N3 (by rw [ext_size _ _ _ (by omega) (by omega)]; omega) _).mono fun _ _ ⟨he, hw⟩ => ⟨he, hw.symm⟩))))
      go_wp2
      go_ret2
      exact ⟨ret2_int HE.out, bl_drewN b3 _⟩
    · rw [if_neg hx] at hm
      obtain ⟨rfl, rfl⟩ := Prod.mk.inj hm
      clear hm
      rcases time_out hx with hx | ⟨hx, hy⟩ | ⟨hx, hy, hz⟩
      all_goals
        go_enter Try.func38, Try.ntmps38
        go_wp2_with fail
        refine (shaped_c s _ _ HS (by decide) _).mono ?_
        rintro e w1 ⟨rfl, b1⟩
        go_wp2_with fail
        refine (rParse_c _ _ _ hD _).mono ?_
        rintro e w2 ⟨rfl, b2⟩
        have b3 := bl_next b1 b2
        go_wp2_with fail
        have i13 : (13 : Int) ≤ (s.size : Int) := by omega
        have i16 : (16 : Int) ≤ (s.size : Int) := by omega
        have i17 : (17 : Int) ≤ (s.size : Int) := by omega
        go_quiet ((first
          | (go_at_call 46; with_reducible exact Calls.quiet_of_same ((value_c _ _ N1 (by rw [ext_size _ _ _ (by omega) (by omega)]; omega) _).mono fun _ _ ⟨he, hw⟩ => ⟨he, hw.symm⟩))
          | (go_at_call 46; with_reducible exact Calls.quiet_of_same ((value_c _ _ N2 (by rw [ext_size _ _ _ (by omega) (by omega)]; omega) _).mono fun _ _ ⟨he, hw⟩ => ⟨he, hw.symm⟩))
          | (go_at_call 46; with_reducible exact Calls.quiet_of_same ((value_c _ _ N3 (by rw [ext_size _ _ _ (by omega) (by omega)]; omega) _).mono fun _ _ ⟨he, hw⟩ => ⟨he, hw.symm⟩))))
        go_wp2
        go_ret2
        exact ⟨rfl, bl_drewN b3 _⟩
  · rw [if_neg he0] at hm
    obtain ⟨rfl, rfl⟩ := Prod.mk.inj hm
    have q9 : (e != 0) = true := by rw [bne_iff_ne]; exact he0
    clear hm he0
    go_enter Try.func38, Try.ntmps38
    go_wp2_with fail
    refine (shaped_c s _ _ HS (by decide) _).mono ?_
    rintro e w1 ⟨rfl, b1⟩
    go_wp2_with fail
    refine (rParse_c _ _ _ hD _).mono ?_
    rintro e w2 ⟨rfl, b2⟩
    go_wp2
    go_ret2
    exact ⟨rfl, bl_next b1 b2⟩
theorem rMom_c (s : ByteArray) (n e : Int) (H : Mom s.data.toList n e) (w : World) :
    Calls Try.prog 38 #[.string s] w fun r w' => r = .returned (.tuple #[.int .i64 n, .int .i64 e]) ∧ Bl w w' := by
  generalize hl : s.data.toList = l at H
  cases H with
  | bad h =>
    have HF : Hid (shapedB s.data.toList (ByteArray.mk #[48, 48, 48, 48, 45, 48, 48, 45, 48, 48, 84, 48, 48, 58, 48, 48, 58, 48, 48]).data.toList = false) := by show _ = _; rw [hl, pat19_str]; exact h
    clear h hl
    go_enter Try.func38, Try.ntmps38
    go_wp2_with fail
    refine (shaped_c s _ _ HF (by decide) _).mono ?_
    rintro e w1 ⟨rfl, b1⟩
    go_wp2
    go_ret2
    exact ⟨rfl, b1⟩
  | day h t k => exact rMom_form s _ _ _ _ _ _ _ _ 0 11 0 11 hl h t (.out h k) (by show _ = _; rfl) w
  | out n h t k hx => exact rMom_form s _ _ _ _ _ _ _ _ n 0 0 10 hl h t (.ok n h k) (by show _ = _; unfold momRes; rw [if_pos rfl, if_neg hx]) w
  | ok n h t k hx => exact rMom_form s _ _ _ _ _ _ _ _ n 0 _ 0 hl h t (.ok n h k) (by show _ = _; unfold momRes; rw [if_pos rfl, if_pos hx]) w
end Go.Proofs.Ytlkkkdflafikaaa
