/-
  THE WALK OF DateBijection. Conditions: the integers are ints, the string has at most maxLen bytes.
-/
import Derived.Test.YtlkkkdflafikaaaDatLawsC
namespace Go.Proofs.Ytlkkkdflafikaaa
open Go.RowKit
open Num Clk Dat

set_option maxRecDepth 1000000 in
set_option maxHeartbeats 40000000 in
theorem texts_c (d a : Int) (s : ByteArray) (hs : s.size ≤ 4096) (w : World) : Calls Try.prog 39 #[.int .i64 d, .int .i64 a, .string s] w fun r w' => r = .returned (.bool true) ∧ Bl w w' := by
  obtain ⟨l1, e1, k1, f1, H1, H2, P1⟩ : ∃ l e k f, dfmt d = (l, e) ∧ Day l k f ∧ (e = 0 → f = 0 ∧ k = d) := by
    rcases dfmt_cases d with ⟨h0, h1, k⟩ | ⟨h, k⟩
    · exact ⟨_, _, _, _, k, day_text d h0 h1, fun _ => ⟨rfl, rfl⟩⟩
    · obtain ⟨n, e, hd⟩ := day_some []
      exact ⟨_, _, _, _, k, hd, fun h => absurd h (by decide)⟩
  obtain ⟨l2, e2, k2, f2, H3, H4, P2, hb⟩ : ∃ l e k f, mfmt a = (l, e) ∧ Mom l k f ∧ (e = 0 → f = 0 ∧ k = a) ∧ l.length ≤ 19 := by
    rcases mfmt_cases a with ⟨h0, h1, k⟩ | ⟨h, k⟩
    · exact ⟨_, _, _, _, k, mom_text a h0 h1, fun _ => ⟨rfl, rfl⟩, Nat.le_refl _⟩
    · obtain ⟨n, e, hd⟩ := mom_some []
      exact ⟨_, _, _, _, k, hd, fun h => absurd h (by decide), by simp⟩
  obtain ⟨k3, f3, H5⟩ := day_some s.data.toList
  obtain ⟨l3, g3, H6⟩ : ∃ x y, dfmt k3 = (x, y) := ⟨_, _, rfl⟩
  have P3 : f3 = 0 → g3 = 0 ∧ l3 = s.data.toList := by
    rintro rfl
    obtain ⟨hb, e⟩ := text_day H5
    unfold dfmt at H6
    rw [if_pos hb, e] at H6
    obtain ⟨rfl, rfl⟩ := Prod.mk.inj H6
    exact ⟨rfl, rfl⟩
  obtain ⟨k4, f4, H7⟩ := mom_some s.data.toList
  obtain ⟨l4, g4, H8⟩ : ∃ x y, mfmt k4 = (x, y) := ⟨_, _, rfl⟩
  have P4 : f4 = 0 → g4 = 0 ∧ l4 = s.data.toList := by
    rintro rfl
    obtain ⟨hb, e⟩ := text_mom H7
    unfold mfmt at H8
    rw [if_pos hb, e] at H8
    obtain ⟨rfl, rfl⟩ := Prod.mk.inj H8
    exact ⟨rfl, rfl⟩
  have K1 := Lib.hid H1
  have K3 := Lib.hid H3
  have K6 := Lib.hid H6
  have K8 := Lib.hid H8
  have hbz : (ByteArray.mk l2.toArray).size ≤ 9223372036854775807 := by show l2.toArray.size ≤ _; simp; omega
  have hs2 : s.size ≤ 9223372036854775807 := by omega
  have HZ := Lib.hid hbz
  have HS2 := Lib.hid hs2
  clear H1 H3 H6 H8 hbz hs2 hb
  have D1 : (e1 = 0 ∧ f1 = 0 ∧ k1 = d) ∨ (e1 == 0) = false := by
    by_cases k : e1 = 0
    · exact .inl ⟨k, P1 k⟩
    · exact .inr (by rw [beq_eq_false_iff_ne]; exact k)
  have D2 : (e2 = 0 ∧ f2 = 0 ∧ k2 = a) ∨ (e2 == 0) = false := by
    by_cases k : e2 = 0
    · exact .inl ⟨k, P2 k⟩
    · exact .inr (by rw [beq_eq_false_iff_ne]; exact k)
  have D3 : (f3 = 0 ∧ g3 = 0 ∧ l3 = s.data.toList) ∨ (f3 == 0) = false := by
    by_cases k : f3 = 0
    · exact .inl ⟨k, P3 k⟩
    · exact .inr (by rw [beq_eq_false_iff_ne]; exact k)
  have D4 : (f4 = 0 ∧ g4 = 0 ∧ l4 = s.data.toList) ∨ (f4 == 0) = false ∧ (f4 != 0) = true := by
    by_cases k : f4 = 0
    · exact .inl ⟨k, P4 k⟩
    · exact .inr ⟨by rw [beq_eq_false_iff_ne]; exact k, by rw [bne_iff_ne]; exact k⟩
  clear P1 P2 P3 P4
  rcases D1 with ⟨rfl, rfl, rfl⟩ | D1 <;> rcases D2 with ⟨rfl, rfl, rfl⟩ | D2 <;> rcases D3 with ⟨rfl, rfl, rfl⟩ | D3 <;> rcases D4 with ⟨rfl, rfl, rfl⟩ | ⟨D4, D5⟩
  all_goals
    go_enter Try.func39, Try.ntmps39
    go_wp2_with fail
    refine (dFormat_c _ _ _ K1 _).mono ?_
    rintro ee w1 ⟨rfl, b1⟩
    go_wp2_with fail
    refine (dParse_c _ _ _ H2 _).mono ?_
    rintro ee w2 ⟨rfl, b2⟩
    have b3 := bl_next b1 b2
    clear b1 b2
    go_wp2_with fail
    refine (dStamp_c _ _ _ K3 _).mono ?_
    rintro ee w4 ⟨rfl, b4⟩
    have b5 := bl_next b3 b4
    clear b3 b4
    go_wp2_with fail
    refine (dMom_c _ _ _ H4 HZ.out _).mono ?_
    rintro ee w6 ⟨rfl, b6⟩
    have b7 := bl_next b5 b6
    clear b5 b6
    go_wp2_with fail
    refine (dParse_c _ _ _ H5 _).mono ?_
    rintro ee w8 ⟨rfl, b8⟩
    have b9 := bl_next b7 b8
    clear b7 b8
    go_wp2_with fail
    refine (dFormat_c _ _ _ K6 _).mono ?_
    rintro ee w10 ⟨rfl, b10⟩
    have b11 := bl_next b9 b10
    clear b9 b10
    go_wp2_with fail
    refine (dMom_c _ _ _ H7 HS2.out _).mono ?_
    rintro ee w12 ⟨rfl, b12⟩
    have b13 := bl_next b11 b12
    clear b11 b12
    go_wp2_with fail
    refine (dStamp_c _ _ _ K8 _).mono ?_
    rintro ee w14 ⟨rfl, b14⟩
    have b15 := bl_next b13 b14
    clear b13 b14
    go_wp2
    go_ret
    exact ⟨rfl, b15⟩

set_option maxRecDepth 1000000 in
set_option maxHeartbeats 8000000 in
theorem bij_long (a y m d : Int) (s : ByteArray) (h : (4096 : Int) < (s.size : Int)) (w : World) : Calls Try.prog 11 #[.int .i64 a, .agg #[.int .i64 y, .int .i64 m, .int .i64 d], .string s] w fun r w' => r = .returned (.bool true) ∧ Bl w w' := by
  go_enter Try.func11, Try.ntmps11
  go_wp2_with fail
  refine (example_c _).mono ?_
  rintro ee w4 ⟨rfl, b4⟩
  go_wp2
  go_ret
  exact ⟨rfl, bl_next (bl_alloc (bl_refl _) _) b4⟩

set_option maxRecDepth 1000000 in
set_option maxHeartbeats 8000000 in
theorem bij_11 (a y m d : Int) (s : ByteArray) (h : s.size ≤ 4096) (a0 : 0 ≤ a) (a1 : a ≤ 36524) (k : Int) (HX : Hid (fromCivil y m d = (k, true))) (k0 : 0 ≤ k) (k1 : k ≤ 36524) (HK : Hid (yearOf k = y ∧ monthOf k = m ∧ dayOf k = d)) (w : World) : Calls Try.prog 11 #[.int .i64 a, .agg #[.int .i64 y, .int .i64 m, .int .i64 d], .string s] w fun r w' => r = .returned (.bool true) ∧ Bl w w' := by
  have HV := dvalid_yes a0 a1
  have HF : Hid (fromCivil (yearOf a) (monthOf a) (dayOf a) = (a, true)) := from_civil a a0 a1
  have hi : (s.size : Int) ≤ 4096 := by omega
  have HS := Lib.hid h
  clear h
  go_enter Try.func11, Try.ntmps11
  go_wp2_with fail
  refine (civil_yes a a0 a1 _).mono ?_
  rintro e1 w1 ⟨he, b1⟩
  unfold CivRes at he
  subst he
  generalize yearOf a = y1 at *
  generalize monthOf a = m1 at *
  generalize dayOf a = d1 at *
  have c1 := bl_next (bl_alloc (bl_refl w) _) b1
  go_wp2_with fail
  refine (from_c _ _ _ _ _ HF _).mono ?_
  rintro e2 w2 ⟨rfl, b2⟩
  have c2 := bl_next c1 b2
  go_wp2_with fail
  refine (dValid_b _ _ HV _).mono ?_
  rintro e3 w3 ⟨rfl, rfl⟩
  have k0' : w2.cell? ⟨w.heap.size, 0, none⟩ = some (.int .i64 y) := by rw [(bl_cell (b1.trans (b2.mono b1.size))).1 _ _ (by simp)]; rw [World.cell?_alloc_at (hn := rfl)]; rfl
  have k1' : w2.cell? ⟨w.heap.size, 1, none⟩ = some (.int .i64 m) := by rw [(bl_cell (b1.trans (b2.mono b1.size))).1 _ _ (by simp)]; rw [World.cell?_alloc_at (hn := rfl)]; rfl
  have k2' : w2.cell? ⟨w.heap.size, 2, none⟩ = some (.int .i64 d) := by rw [(bl_cell (b1.trans (b2.mono b1.size))).1 _ _ (by simp)]; rw [World.cell?_alloc_at (hn := rfl)]; rfl
  go_wp2_with fail
  refine (from_c _ _ _ _ _ HX _).mono ?_
  rintro e5 w5 ⟨rfl, b5⟩
  have c5 := bl_next c2 b5
  go_wp2_with fail
  refine (civil_yes k k0 k1 _).mono ?_
  rintro e4 w4 ⟨he, b4⟩
  unfold CivRes at he
  rw [HK.out.1, HK.out.2.1, HK.out.2.2] at he
  subst he
  have c6 := bl_next c5 b4
  have bb := b5.trans (b4.mono b5.size)
  have hlt : w.heap.size < w2.heap.size := by have := (b1.trans (b2.mono b1.size)).size; simp at this; omega
  have k0 : w4.cell? ⟨w.heap.size, 0, none⟩ = some (.int .i64 y) := by rw [(bl_cell bb).1 _ _ hlt]; exact k0'
  have k1 : w4.cell? ⟨w.heap.size, 1, none⟩ = some (.int .i64 m) := by rw [(bl_cell bb).1 _ _ hlt]; exact k1'
  have k2 : w4.cell? ⟨w.heap.size, 2, none⟩ = some (.int .i64 d) := by rw [(bl_cell bb).1 _ _ hlt]; exact k2'
  go_wp2_with fail
  refine (texts_c a a s HS.out _).mono ?_
  rintro e7 w7 ⟨rfl, b7⟩
  go_wp2_with fail
  refine (example_c _).mono ?_
  rintro e8 w8 ⟨rfl, b8⟩
  go_wp2
  go_ret
  exact ⟨rfl, bl_next (bl_next c6 b7) b8⟩

set_option maxRecDepth 1000000 in
set_option maxHeartbeats 8000000 in
theorem bij_10 (a y m d : Int) (s : ByteArray) (h : s.size ≤ 4096) (a0 : 0 ≤ a) (a1 : a ≤ 36524) (HX : Hid (fromCivil y m d = (0, false))) (w : World) : Calls Try.prog 11 #[.int .i64 a, .agg #[.int .i64 y, .int .i64 m, .int .i64 d], .string s] w fun r w' => r = .returned (.bool true) ∧ Bl w w' := by
  have HV := dvalid_yes a0 a1
  have HF : Hid (fromCivil (yearOf a) (monthOf a) (dayOf a) = (a, true)) := from_civil a a0 a1
  have hi : (s.size : Int) ≤ 4096 := by omega
  have HS := Lib.hid h
  clear h
  go_enter Try.func11, Try.ntmps11
  go_wp2_with fail
  refine (civil_yes a a0 a1 _).mono ?_
  rintro e1 w1 ⟨he, b1⟩
  unfold CivRes at he
  subst he
  generalize yearOf a = y1 at *
  generalize monthOf a = m1 at *
  generalize dayOf a = d1 at *
  have c1 := bl_next (bl_alloc (bl_refl w) _) b1
  go_wp2_with fail
  refine (from_c _ _ _ _ _ HF _).mono ?_
  rintro e2 w2 ⟨rfl, b2⟩
  have c2 := bl_next c1 b2
  go_wp2_with fail
  refine (dValid_b _ _ HV _).mono ?_
  rintro e3 w3 ⟨rfl, rfl⟩
  have k0' : w2.cell? ⟨w.heap.size, 0, none⟩ = some (.int .i64 y) := by rw [(bl_cell (b1.trans (b2.mono b1.size))).1 _ _ (by simp)]; rw [World.cell?_alloc_at (hn := rfl)]; rfl
  have k1' : w2.cell? ⟨w.heap.size, 1, none⟩ = some (.int .i64 m) := by rw [(bl_cell (b1.trans (b2.mono b1.size))).1 _ _ (by simp)]; rw [World.cell?_alloc_at (hn := rfl)]; rfl
  have k2' : w2.cell? ⟨w.heap.size, 2, none⟩ = some (.int .i64 d) := by rw [(bl_cell (b1.trans (b2.mono b1.size))).1 _ _ (by simp)]; rw [World.cell?_alloc_at (hn := rfl)]; rfl
  go_wp2_with fail
  refine (from_c _ _ _ _ _ HX _).mono ?_
  rintro e5 w5 ⟨rfl, b5⟩
  have c5 := bl_next c2 b5
  go_wp2_with fail
  refine (civil_yes 0 (by decide) (by decide) _).mono ?_
  rintro e4 w4 ⟨he, b4⟩
  unfold CivRes at he
  subst he
  generalize yearOf 0 = y4 at *
  generalize monthOf 0 = m4 at *
  generalize dayOf 0 = d4 at *
  have c6 := bl_next c5 b4
  have bb := b5.trans (b4.mono b5.size)
  have hlt : w.heap.size < w2.heap.size := by have := (b1.trans (b2.mono b1.size)).size; simp at this; omega
  have k0 : w4.cell? ⟨w.heap.size, 0, none⟩ = some (.int .i64 y) := by rw [(bl_cell bb).1 _ _ hlt]; exact k0'
  have k1 : w4.cell? ⟨w.heap.size, 1, none⟩ = some (.int .i64 m) := by rw [(bl_cell bb).1 _ _ hlt]; exact k1'
  have k2 : w4.cell? ⟨w.heap.size, 2, none⟩ = some (.int .i64 d) := by rw [(bl_cell bb).1 _ _ hlt]; exact k2'
  go_wp2_with fail
  refine (texts_c a a s HS.out _).mono ?_
  rintro e7 w7 ⟨rfl, b7⟩
  go_wp2_with fail
  refine (example_c _).mono ?_
  rintro e8 w8 ⟨rfl, b8⟩
  go_wp2
  go_ret
  exact ⟨rfl, bl_next (bl_next c6 b7) b8⟩

set_option maxRecDepth 1000000 in
set_option maxHeartbeats 8000000 in
theorem bij_01 (a y m d : Int) (s : ByteArray) (h : s.size ≤ 4096) (na : Hid (¬ (0 ≤ a ∧ a ≤ 36524))) (k : Int) (HX : Hid (fromCivil y m d = (k, true))) (k0 : 0 ≤ k) (k1 : k ≤ 36524) (HK : Hid (yearOf k = y ∧ monthOf k = m ∧ dayOf k = d)) (w : World) : Calls Try.prog 11 #[.int .i64 a, .agg #[.int .i64 y, .int .i64 m, .int .i64 d], .string s] w fun r w' => r = .returned (.bool true) ∧ Bl w w' := by
  have HV := dvalid_no na.out
  have HF : Hid (fromCivil 0 0 0 = (0, false)) := by show _ = _; decide
  have hi : (s.size : Int) ≤ 4096 := by omega
  have HS := Lib.hid h
  clear h
  go_enter Try.func11, Try.ntmps11
  go_wp2_with fail
  refine (civil_no a na.out _).mono ?_
  rintro e1 w1 ⟨rfl, rfl⟩
  have c1 := bl_alloc (bl_refl w) (.cells #[.int .i64 y, .int .i64 m, .int .i64 d] 44)
  go_wp2_with fail
  refine (from_c _ _ _ _ _ HF _).mono ?_
  rintro e2 w2 ⟨rfl, b2⟩
  have c2 := bl_next c1 b2
  go_wp2_with fail
  refine (dValid_b _ _ HV _).mono ?_
  rintro e3 w3 ⟨rfl, rfl⟩
  have k0' : w2.cell? ⟨w.heap.size, 0, none⟩ = some (.int .i64 y) := by rw [(bl_cell b2).1 _ _ (by simp)]; rw [World.cell?_alloc_at (hn := rfl)]; rfl
  have k1' : w2.cell? ⟨w.heap.size, 1, none⟩ = some (.int .i64 m) := by rw [(bl_cell b2).1 _ _ (by simp)]; rw [World.cell?_alloc_at (hn := rfl)]; rfl
  have k2' : w2.cell? ⟨w.heap.size, 2, none⟩ = some (.int .i64 d) := by rw [(bl_cell b2).1 _ _ (by simp)]; rw [World.cell?_alloc_at (hn := rfl)]; rfl
  go_wp2_with fail
  refine (from_c _ _ _ _ _ HX _).mono ?_
  rintro e5 w5 ⟨rfl, b5⟩
  have c5 := bl_next c2 b5
  go_wp2_with fail
  refine (civil_yes k k0 k1 _).mono ?_
  rintro e4 w4 ⟨he, b4⟩
  unfold CivRes at he
  rw [HK.out.1, HK.out.2.1, HK.out.2.2] at he
  subst he
  have c6 := bl_next c5 b4
  have bb := b5.trans (b4.mono b5.size)
  have hlt : w.heap.size < w2.heap.size := by have := b2.size; simp at this; omega
  have k0 : w4.cell? ⟨w.heap.size, 0, none⟩ = some (.int .i64 y) := by rw [(bl_cell bb).1 _ _ hlt]; exact k0'
  have k1 : w4.cell? ⟨w.heap.size, 1, none⟩ = some (.int .i64 m) := by rw [(bl_cell bb).1 _ _ hlt]; exact k1'
  have k2 : w4.cell? ⟨w.heap.size, 2, none⟩ = some (.int .i64 d) := by rw [(bl_cell bb).1 _ _ hlt]; exact k2'
  go_wp2_with fail
  refine (texts_c a a s HS.out _).mono ?_
  rintro e7 w7 ⟨rfl, b7⟩
  go_wp2_with fail
  refine (example_c _).mono ?_
  rintro e8 w8 ⟨rfl, b8⟩
  go_wp2
  go_ret
  exact ⟨rfl, bl_next (bl_next c6 b7) b8⟩

set_option maxRecDepth 1000000 in
set_option maxHeartbeats 8000000 in
theorem bij_00 (a y m d : Int) (s : ByteArray) (h : s.size ≤ 4096) (na : Hid (¬ (0 ≤ a ∧ a ≤ 36524))) (HX : Hid (fromCivil y m d = (0, false))) (w : World) : Calls Try.prog 11 #[.int .i64 a, .agg #[.int .i64 y, .int .i64 m, .int .i64 d], .string s] w fun r w' => r = .returned (.bool true) ∧ Bl w w' := by
  have HV := dvalid_no na.out
  have HF : Hid (fromCivil 0 0 0 = (0, false)) := by show _ = _; decide
  have hi : (s.size : Int) ≤ 4096 := by omega
  have HS := Lib.hid h
  clear h
  go_enter Try.func11, Try.ntmps11
  go_wp2_with fail
  refine (civil_no a na.out _).mono ?_
  rintro e1 w1 ⟨rfl, rfl⟩
  have c1 := bl_alloc (bl_refl w) (.cells #[.int .i64 y, .int .i64 m, .int .i64 d] 44)
  go_wp2_with fail
  refine (from_c _ _ _ _ _ HF _).mono ?_
  rintro e2 w2 ⟨rfl, b2⟩
  have c2 := bl_next c1 b2
  go_wp2_with fail
  refine (dValid_b _ _ HV _).mono ?_
  rintro e3 w3 ⟨rfl, rfl⟩
  have k0' : w2.cell? ⟨w.heap.size, 0, none⟩ = some (.int .i64 y) := by rw [(bl_cell b2).1 _ _ (by simp)]; rw [World.cell?_alloc_at (hn := rfl)]; rfl
  have k1' : w2.cell? ⟨w.heap.size, 1, none⟩ = some (.int .i64 m) := by rw [(bl_cell b2).1 _ _ (by simp)]; rw [World.cell?_alloc_at (hn := rfl)]; rfl
  have k2' : w2.cell? ⟨w.heap.size, 2, none⟩ = some (.int .i64 d) := by rw [(bl_cell b2).1 _ _ (by simp)]; rw [World.cell?_alloc_at (hn := rfl)]; rfl
  go_wp2_with fail
  refine (from_c _ _ _ _ _ HX _).mono ?_
  rintro e5 w5 ⟨rfl, b5⟩
  have c5 := bl_next c2 b5
  go_wp2_with fail
  refine (civil_yes 0 (by decide) (by decide) _).mono ?_
  rintro e4 w4 ⟨he, b4⟩
  unfold CivRes at he
  subst he
  generalize yearOf 0 = y4 at *
  generalize monthOf 0 = m4 at *
  generalize dayOf 0 = d4 at *
  have c6 := bl_next c5 b4
  have bb := b5.trans (b4.mono b5.size)
  have hlt : w.heap.size < w2.heap.size := by have := b2.size; simp at this; omega
  have k0 : w4.cell? ⟨w.heap.size, 0, none⟩ = some (.int .i64 y) := by rw [(bl_cell bb).1 _ _ hlt]; exact k0'
  have k1 : w4.cell? ⟨w.heap.size, 1, none⟩ = some (.int .i64 m) := by rw [(bl_cell bb).1 _ _ hlt]; exact k1'
  have k2 : w4.cell? ⟨w.heap.size, 2, none⟩ = some (.int .i64 d) := by rw [(bl_cell bb).1 _ _ hlt]; exact k2'
  go_wp2_with fail
  refine (texts_c a a s HS.out _).mono ?_
  rintro e7 w7 ⟨rfl, b7⟩
  go_wp2_with fail
  refine (example_c _).mono ?_
  rintro e8 w8 ⟨rfl, b8⟩
  go_wp2
  go_ret
  exact ⟨rfl, bl_next (bl_next c6 b7) b8⟩

theorem bijection_law (a y m d : Int) (s : ByteArray) (hs : s.size ≤ maxLen) (w : World) : Calls Try.prog 11 #[.int .i64 a, .agg #[.int .i64 y, .int .i64 m, .int .i64 d], .string s] w fun r w' => r = .returned (.bool true) ∧ Bl w w' := by
  unfold maxLen at hs
  by_cases h : s.size ≤ 4096
  · by_cases ha : 0 ≤ a ∧ a ≤ 36524
    · rcases fromCivil_cases y m d with k | ⟨n, k⟩
      · exact bij_10 a y m d s h ha.1 ha.2 k w
      · obtain ⟨hb, e⟩ := civil_from k
        exact bij_11 a y m d s h ha.1 ha.2 n k hb.1 hb.2 e w
    · rcases fromCivil_cases y m d with k | ⟨n, k⟩
      · exact bij_00 a y m d s h ha k w
      · obtain ⟨hb, e⟩ := civil_from k
        exact bij_01 a y m d s h ha n k hb.1 hb.2 e w
  · exact bij_long a y m d s (by omega) w
end Go.Proofs.Ytlkkkdflafikaaa
