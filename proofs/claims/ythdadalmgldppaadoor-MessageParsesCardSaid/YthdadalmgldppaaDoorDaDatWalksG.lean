/-
  THE CONTRACTS OF DATE, SEVENTH PART: shaped, fields, Parse, and the reference's. Conditions: those of each contract.
-/
import Derived.Test.YthdadalmgldppaaDoorDaDatWalksF
namespace Go.Proofs.YthdadalmgldppaaDoor.Da
open Go.RowKit
open Num Clk Dat

/-- A byte of a string, by the list of its bytes, for the walk to take. -/
theorem idx_l (s : ByteArray) (z : Int) (i : Nat) (hz : z = (i : Int)) (c : UInt8) (hc : s.data.toList[i]? = some c) (W : World) :
    (Instr.index 9 (.string s) (.int .i64 z)).run Tryd.prog W = .ok (.int .u8 (c.toNat : Int)) W := by
  obtain ⟨h, e⟩ := List.getElem?_eq_some_iff.1 hc
  have hi : i < s.size := by simpa using h
  rw [idx_c s z i hz hi W, ← bytes_get s i hi, e]
theorem ext_list (s : ByteArray) (i j : Nat) : (s.extract i j).data.toList = (s.data.toList.drop i).take (j - i) := by rw [Lib.extract_data]
theorem toList_len (s : ByteArray) : s.data.toList.length = s.size := by simp

/-! ### shaped -/
theorem shaped_step {l p : List UInt8} {k : Nat} {c q : UInt8} (hc : l[k]? = some c) (hq : p[k]? = some q) : shapedB (l.drop k) (p.drop k) = ((if q == 48 then isDig c else c == q) && shapedB (l.drop (k + 1)) (p.drop (k + 1))) := by
  obtain ⟨h1, rfl⟩ := List.getElem?_eq_some_iff.1 hc
  obtain ⟨h2, rfl⟩ := List.getElem?_eq_some_iff.1 hq
  rw [List.drop_eq_getElem_cons h1, List.drop_eq_getElem_cons h2, shapedB]
theorem u8_ne {a b : UInt8} (h : a ≠ b) : (a.toNat : Int) ≠ (b.toNat : Int) := fun k => h (UInt8.toNat.inj (by omega))
set_option maxRecDepth 20000 in
set_option maxHeartbeats 8000000 in
theorem shaped_c (s p : ByteArray) (b : Bool) (H : Hid (shapedB s.data.toList p.data.toList = b)) (hp : p.size ≤ 100) (w : World) :
    Calls Tryd.prog 72 #[.string s, .string p] w fun e w' => e = .returned (.bool b) ∧ Bl w w' := by
  by_cases hsz : s.size = p.size
  · have q0 : ((s.size : Int) != (p.size : Int)) = false := by rw [bne_eq_false_iff_eq]; omega
    have HSZ := Lib.hid hsz
    have hs1 : s.size ≤ 100 := by omega
    clear hsz
    go_enter Tryd.func72, Tryd.ntmps72
    go_wp2
    go_loopw [5] (fun i wr => ∃ k : Nat, k ≤ s.size ∧ i = .int .i64 k ∧ Hid (shapedB (s.data.toList.drop k) (p.data.toList.drop k) = b) ∧ Bl w wr) (fun i _ => s.size - (intOf i).toNat)
    case atStart => exact ⟨0, Nat.zero_le _, rfl, by show _ = _; exact H.out, bl_refl _⟩
    case round =>
      obtain ⟨k, hk, rfl, HB, hb⟩ := hrel
      by_cases hlt : k < s.size
      · obtain ⟨c, hc⟩ : ∃ c, s.data.toList[k]? = some c := ⟨_, List.getElem?_eq_some_iff.2 ⟨by simpa using hlt, rfl⟩⟩
        obtain ⟨q, hq⟩ : ∃ q, p.data.toList[k]? = some q := ⟨_, List.getElem?_eq_some_iff.2 ⟨by have := HSZ.out; simp; omega, rfl⟩⟩
        have e1 := fun W => idx_l s (k : Int) k rfl c hc W
        have e2 := fun W => idx_l p (k : Int) k rfl q hq W
        have HS := Lib.hid (shaped_step hc hq)
        clear hc hq
        by_cases hq : q = 48
        · subst hq
          rcases dig_or (c := c) with ⟨hdc, c0, c1⟩ | ⟨hdc, c0 | ⟨c0, c1⟩⟩
          · have HN : Hid (shapedB (s.data.toList.drop (k + 1)) (p.data.toList.drop (k + 1)) = b) := by
              show _ = _
              rw [← HB.out, HS.out]
              simp [hdc]
            have d1 : decide ((c.toNat : Int) < 48) = false := decide_eq_false (by omega)
            have d2 : decide ((57 : Int) < (c.toNat : Int)) = false := decide_eq_false (by omega)
            clear hdc HS HB
            go_wp2_with fail
            go_quiet (fail)
            go_wp2
            go_roundw
            case rel => exact ⟨k + 1, by omega, by go_num, HN, bl_drewN hb _⟩
            case measure => simp [intOf]; omega
          · have HN : Hid (b = false) := by
              show _ = _
              rw [← HB.out, HS.out]
              simp [hdc]
            have d1 : decide ((c.toNat : Int) < 48) = true := decide_eq_true (by omega)
            clear hdc HS HB
            go_wp2_with fail
            go_quiet (fail)
            go_wp2
            go_ret
            exact ⟨ret_bool (by rw [HN.out]), bl_drewN hb _⟩
          · have HN : Hid (b = false) := by
              show _ = _
              rw [← HB.out, HS.out]
              simp [hdc]
            have d1 : decide ((c.toNat : Int) < 48) = false := decide_eq_false (by omega)
            have d2 : decide ((57 : Int) < (c.toNat : Int)) = true := decide_eq_true (by omega)
            clear hdc HS HB
            go_wp2_with fail
            go_quiet (fail)
            go_wp2
            go_ret
            exact ⟨ret_bool (by rw [HN.out]), bl_drewN hb _⟩
        · have d0 : ((q.toNat : Int) == 48) = false := by rw [beq_eq_false_iff_ne]; exact u8_ne (b := 48) hq
          have d0' : ((q.toNat : Int) != 48) = true := by rw [bne_iff_ne]; exact u8_ne (b := 48) hq
          have hq2 : (q == 48) = false := by rw [beq_eq_false_iff_ne]; exact hq
          by_cases hcq : c = q
          · have HN : Hid (shapedB (s.data.toList.drop (k + 1)) (p.data.toList.drop (k + 1)) = b) := by
              show _ = _
              rw [← HB.out, HS.out]
              simp [hq2, hcq]
            have d1 : ((c.toNat : Int) != (q.toNat : Int)) = false := by rw [bne_eq_false_iff_eq, hcq]
            clear hcq hq hq2 HS HB
            go_wp2_with fail
            go_quiet (fail)
            go_wp2
            go_roundw
            case rel => exact ⟨k + 1, by omega, by go_num, HN, bl_drewN hb _⟩
            case measure => simp [intOf]; omega
          · have HN : Hid (b = false) := by
              show _ = _
              rw [← HB.out, HS.out]
              simp [hq2, hcq]
            have d1 : ((c.toNat : Int) != (q.toNat : Int)) = true := by rw [bne_iff_ne]; exact u8_ne hcq
            clear hcq hq hq2 HS HB
            go_wp2_with fail
            go_quiet (fail)
            go_wp2
            go_ret
            exact ⟨ret_bool (by rw [HN.out]), bl_drewN hb _⟩
      · have HN : Hid (b = true) := by
          show _ = _
          rw [← HB.out, List.drop_of_length_le (by rw [toList_len]; omega), List.drop_of_length_le (by rw [toList_len]; have := HSZ.out; omega)]
          rfl
        go_wp2
        go_ret
        exact ⟨ret_bool (by rw [HN.out]), hb⟩
  · have HN : Hid (b = false) := by
      show _ = _
      rw [← H.out]
      cases h : shapedB s.data.toList p.data.toList with
      | false => rfl
      | true =>
        have := shaped_len h
        rw [toList_len, toList_len] at this
        exact absurd this hsz
    have q0 : ((s.size : Int) != (p.size : Int)) = true := by rw [bne_iff_ne]; omega
    clear hsz
    go_enter Tryd.func72, Tryd.ntmps72
    go_wp2
    go_ret
    exact ⟨ret_bool (by rw [HN.out]), bl_refl _⟩

/-! ### fields -/
theorem num4 {a b c e : UInt8} (h1 : isDig a = true) (h2 : isDig b = true) (h3 : isDig c = true) (h4 : isDig e = true) : numS [a, b, c, e] = (100 * pair a b + pair c e, true) := by
  have := dig_bd h1
  have := dig_bd h2
  have := dig_bd h3
  have := dig_bd h4
  unfold numS
  rw [if_pos (by simp [allDig, *]), Prod.mk.injEq]
  refine ⟨?_, rfl⟩
  unfold pair
  simp only [val, List.foldl_cons, List.foldl_nil]
  omega
theorem num2 {a b : UInt8} (h1 : isDig a = true) (h2 : isDig b = true) : numS [a, b] = (pair a b, true) := by
  have := dig_bd h1
  have := dig_bd h2
  unfold numS
  rw [if_pos (by simp [allDig, *]), Prod.mk.injEq]
  refine ⟨?_, rfl⟩
  unfold pair
  simp only [val, List.foldl_cons, List.foldl_nil]
  omega
theorem numS_eta (l : List UInt8) : numS l = ((numS l).1, allDig l) := by unfold numS; split <;> simp_all
/-- The parts of a text of the form of a day. -/
theorem df_parts {s : ByteArray} {y m d : Int} (h : DF s.data.toList y m d) : s.size = 10 ∧ s.data.toList[4]? = some 45 ∧ s.data.toList[7]? = some 45 ∧
    numS (s.extract 0 4).data.toList = (y, true) ∧ numS (s.extract 5 7).data.toList = (m, true) ∧ numS (s.extract 8 s.size).data.toList = (d, true) := by
  have hl := DF_len h
  rw [toList_len] at hl
  obtain ⟨a, b, c, e, f, g, h, k, e0, ⟨h1, h2, h3, h4⟩, ⟨h5, h6⟩, ⟨h7, h8⟩, rfl, rfl, rfl⟩ := h
  rw [ext_list, ext_list, ext_list, e0, hl]
  exact ⟨rfl, rfl, rfl, num4 h1 h2 h3 h4, num2 h5 h6, num2 h7 h8⟩
/-- A text that is none: where it parts from the form. -/
theorem df_none {s : ByteArray} (h : shapedB s.data.toList pat10 = false) : s.size ≠ 10 ∨ (s.size = 10 ∧ ((∃ x, s.data.toList[4]? = some x ∧ x ≠ 45) ∨ (s.data.toList[4]? = some 45 ∧ ∃ x, s.data.toList[7]? = some x ∧ x ≠ 45) ∨
    (s.data.toList[4]? = some 45 ∧ s.data.toList[7]? = some 45 ∧ ∃ n1 b1 n2 b2 n3 b3, numS (s.extract 0 4).data.toList = (n1, b1) ∧ numS (s.extract 5 7).data.toList = (n2, b2) ∧ numS (s.extract 8 s.size).data.toList = (n3, b3) ∧
      (b1 = false ∨ (b1 = true ∧ b2 = false) ∨ (b1 = true ∧ b2 = true ∧ b3 = false))))) := by
  by_cases hl : s.size = 10
  · refine .inr ⟨hl, ?_⟩
    obtain ⟨a, b, c, d, x, e, f, y, g, k, e0⟩ := list10 (l := s.data.toList) (by rw [toList_len, hl])
    rw [ext_list, ext_list, ext_list, e0, hl]
    by_cases hx : x = 45
    · by_cases hy : y = 45
      · subst hx
        subst hy
        refine .inr (.inr ⟨rfl, rfl, _, _, _, _, _, _, numS_eta _, numS_eta _, numS_eta _, ?_⟩)
        rw [e0] at h
        show allDig [a, b, c, d] = false ∨ (allDig [a, b, c, d] = true ∧ allDig [e, f] = false) ∨ (allDig [a, b, c, d] = true ∧ allDig [e, f] = true ∧ allDig [g, k] = false)
        cases h1 : allDig [a, b, c, d] with
        | false => exact .inl rfl
        | true =>
          cases h2 : allDig [e, f] with
          | false => exact .inr (.inl ⟨rfl, rfl⟩)
          | true =>
            cases h3 : allDig [g, k] with
            | false => exact .inr (.inr ⟨rfl, rfl, rfl⟩)
            | true =>
              simp [allDig] at h1 h2 h3
              simp [shapedB, pat10, h1, h2, h3] at h
      · subst hx
        exact .inr (.inl ⟨rfl, y, rfl, hy⟩)
    · exact .inl ⟨x, rfl, hx⟩
  · exact .inl hl
/-- The result of fields. -/
def FRes (b : Bool) (e : Ending) : Prop := ∃ y m d : Int, e = .returned (.tuple #[.int .i64 y, .int .i64 m, .int .i64 d, .bool b])
theorem fres {e : Ending} (y m d : Int) (b : Bool) (h : e = .returned (.tuple #[.int .i64 y, .int .i64 m, .int .i64 d, .bool b])) : FRes b e := ⟨y, m, d, h⟩
theorem ext_size (s : ByteArray) (i j : Nat) (h : j ≤ s.size) (hij : i ≤ j) : (s.extract i j).size = j - i := by simp; omega
set_option maxRecDepth 20000 in
set_option maxHeartbeats 4000000 in
theorem fields_yes (s : ByteArray) (y m d : Int) (H : Hid (DF s.data.toList y m d)) (w : World) :
    Calls Tryd.prog 90 #[.string s] w fun e w' => e = .returned (.tuple #[.int .i64 y, .int .i64 m, .int .i64 d, .bool true]) ∧ w = w' := by
  obtain ⟨h10, h4, h7, n1, n2, n3⟩ := df_parts H.out
  have N1 := Lib.hid n1
  have N2 := Lib.hid n2
  have N3 := Lib.hid n3
  have e4 := fun W => idx_l s 4 4 rfl 45 h4 W
  have e7 := fun W => idx_l s 7 7 rfl 45 h7 W
  have hs1 : 10 ≤ s.size := by omega
  have hs2 : s.size ≤ 10 := by omega
  have q0 : ((s.size : Int) != 10) = false := by rw [bne_eq_false_iff_eq]; omega
  clear h10 h4 h7 n1 n2 n3
  go_enter Tryd.func90, Tryd.ntmps90
  go_wp2_with fail
  refine (number_c _ _ _ N1 (by rw [ext_size _ _ _ (by omega) (by omega)]; omega) _).mono ?_
  rintro e w1 ⟨rfl, rfl⟩
  go_wp2_with fail
  refine (number_c _ _ _ N2 (by rw [ext_size _ _ _ (by omega) (by omega)]; omega) _).mono ?_
  rintro e w1 ⟨rfl, rfl⟩
  go_wp2_with fail
  refine (number_c _ _ _ N3 (by rw [ext_size _ _ _ (by omega) (by omega)]; omega) _).mono ?_
  rintro e w1 ⟨rfl, rfl⟩
  go_wp2
  exact bodyPost_ret (v := .tuple #[.int .i64 y, .int .i64 m, .int .i64 d, .bool true]) (by simp [results, Tryd.results90, go_sem]) rfl ⟨rfl, rfl⟩
set_option maxRecDepth 20000 in
set_option maxHeartbeats 4000000 in
theorem fields_no (s : ByteArray) (H : Hid (shapedB s.data.toList pat10 = false)) (w : World) :
    Calls Tryd.prog 90 #[.string s] w fun e w' => FRes false e ∧ w = w' := by
  rcases df_none H.out with h | ⟨h10, ⟨x, h4, hx⟩ | ⟨h4, x, h7, hx⟩ | ⟨h4, h7, n1, b1, n2, b2, n3, b3, k1, k2, k3, hb⟩⟩
  · have q0 : ((s.size : Int) != 10) = true := by rw [bne_iff_ne]; omega
    clear h
    go_enter Tryd.func90, Tryd.ntmps90
    go_wp2
    exact bodyPost_ret (v := .tuple #[.int .i64 0, .int .i64 0, .int .i64 0, .bool false]) (by simp [results, Tryd.results90, go_sem]) rfl ⟨fres _ _ _ _ rfl, rfl⟩
  · have q0 : ((s.size : Int) != 10) = false := by rw [bne_eq_false_iff_eq]; omega
    have e4 := fun W => idx_l s 4 4 rfl x h4 W
    have q1 : ((x.toNat : Int) != 45) = true := by rw [bne_iff_ne]; exact u8_ne (b := 45) hx
    clear h10 h4 hx
    go_enter Tryd.func90, Tryd.ntmps90
    go_wp2
    exact bodyPost_ret (v := .tuple #[.int .i64 0, .int .i64 0, .int .i64 0, .bool false]) (by simp [results, Tryd.results90, go_sem]) rfl ⟨fres _ _ _ _ rfl, rfl⟩
  · have q0 : ((s.size : Int) != 10) = false := by rw [bne_eq_false_iff_eq]; omega
    have e4 := fun W => idx_l s 4 4 rfl 45 h4 W
    have e7 := fun W => idx_l s 7 7 rfl x h7 W
    have q1 : ((x.toNat : Int) != 45) = true := by rw [bne_iff_ne]; exact u8_ne (b := 45) hx
    clear h10 h4 h7 hx
    go_enter Tryd.func90, Tryd.ntmps90
    go_wp2
    exact bodyPost_ret (v := .tuple #[.int .i64 0, .int .i64 0, .int .i64 0, .bool false]) (by simp [results, Tryd.results90, go_sem]) rfl ⟨fres _ _ _ _ rfl, rfl⟩
  · have N1 := Lib.hid k1
    have N2 := Lib.hid k2
    have N3 := Lib.hid k3
    have e4 := fun W => idx_l s 4 4 rfl 45 h4 W
    have e7 := fun W => idx_l s 7 7 rfl 45 h7 W
    have hs1 : 10 ≤ s.size := by omega
    have hs2 : s.size ≤ 10 := by omega
    have q0 : ((s.size : Int) != 10) = false := by rw [bne_eq_false_iff_eq]; omega
    clear h10 h4 h7 k1 k2 k3
    rcases hb with rfl | ⟨rfl, rfl⟩ | ⟨rfl, rfl, rfl⟩
    all_goals
      go_enter Tryd.func90, Tryd.ntmps90
      go_wp2_with fail
      refine (number_c _ _ _ N1 (by rw [ext_size _ _ _ (by omega) (by omega)]; omega) _).mono ?_
      rintro e w1 ⟨rfl, rfl⟩
      go_wp2_with fail
      refine (number_c _ _ _ N2 (by rw [ext_size _ _ _ (by omega) (by omega)]; omega) _).mono ?_
      rintro e w1 ⟨rfl, rfl⟩
      go_wp2_with fail
      refine (number_c _ _ _ N3 (by rw [ext_size _ _ _ (by omega) (by omega)]; omega) _).mono ?_
      rintro e w1 ⟨rfl, rfl⟩
      go_wp2
      exact bodyPost_ret (v := .tuple #[.int .i64 n1, .int .i64 n2, .int .i64 n3, .bool false]) (by simp [results, Tryd.results90, go_sem]) rfl ⟨fres _ _ _ _ rfl, rfl⟩
end Go.Proofs.YthdadalmgldppaaDoor.Da
