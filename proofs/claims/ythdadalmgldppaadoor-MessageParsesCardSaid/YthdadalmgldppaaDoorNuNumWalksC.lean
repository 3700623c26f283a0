/-
  THE CONTRACTS OF NUMBER, THIRD PART: Parse and ParseRange, the program's and the reference's. Conditions: those of each contract.
-/
import Derived.Test.YthdadalmgldppaaDoorNuNumWalksB
import Derived.Lib.IndexBytes
namespace Go.Proofs.YthdadalmgldppaaDoor.Nu
open Go.RowKit
open Num

theorem ret2_int {k : IntKind} {a b : Int} {x : Value} (h : a = b) : Ending.returned (.tuple #[.int k a, x]) = .returned (.tuple #[.int k b, x]) := by rw [h]

theorem plain_b (s : ByteArray) (b : Bool) (h : Hid (canon s.data.toList = b)) (w : World) :
    Calls Tryd.prog 104 #[.string s] w fun e w' => e = .returned (.bool b) ∧ Below w.heap.size w w' :=
  (plain_c s w).mono fun _ _ ⟨he, hw⟩ => ⟨by rw [he, h.out], hw⟩
theorem digits_b (s : ByteArray) (b : Bool) (h : Hid (canon s.data.toList = b)) (hs : s.size ≤ maxLen) (w : World) :
    Calls Tryd.prog 94 #[.string s] w fun e w' => e = .returned (.bool b) ∧ w = w' :=
  (digits_c s hs w).mono fun _ _ ⟨he, hw⟩ => ⟨by rw [he, h.out], hw⟩

theorem canon_all {l : List UInt8} (h : canon l = true) : allDig l = true := by
  simp only [canon, Bool.and_eq_true] at h
  exact h.1.1
theorem canon_ne {l : List UInt8} (h : canon l = true) : l ≠ [] := by
  rintro rfl
  simp [canon] at h

theorem size_nil {s : ByteArray} (h : s.size = 0) : s.data.toList = [] := List.length_eq_zero_iff.1 (by simpa using h)
theorem tail_data (s : ByteArray) : (s.extract 1 s.size).data.toList = s.data.toList.tail := by
  rw [Lib.extract_data]
  simp [List.take_of_length_le]
theorem tail_size (s : ByteArray) : (s.extract 1 s.size).size = s.size - 1 := by simp [ByteArray.size_extract]
theorem eq48 (s : ByteArray) : (s.toList == [48]) = decide (s.data.toList = [48]) := by
  rw [ByteArray.toList_eq, Bool.eq_iff_iff]
  simp
theorem head_byte (s : ByteArray) (h : 0 < s.size) : s.data.toList.head? = some (s[0]'h) := by
  rw [List.head?_eq_getElem?, List.getElem?_eq_getElem (by simpa using h), bytes_get s 0 h]
theorem head_none (s : ByteArray) (h : ¬ 0 < s.size) : s.data.toList.head? = none := by
  have : s.data.toList = [] := size_nil (by omega)
  rw [this]
  rfl

/-- The six ways of 'parse': what the bytes are on each. -/
inductive Way (s : ByteArray) (n e : Int) : Prop
  | minusBad (h : 0 < s.size) (h45 : ((s[0]'h).toNat : Int) = 45) (hc : Hid (canon (s.extract 1 s.size).data.toList = false)) (hn : n = 0) (he : e = 3)
  | minusZero (h : 0 < s.size) (h45 : ((s[0]'h).toNat : Int) = 45) (hc : Hid (canon (s.extract 1 s.size).data.toList = true)) (hz : ((s.extract 1 s.size).toList == [48]) = true) (hn : n = 0) (he : e = 3)
  | minusBig (h : 0 < s.size) (h45 : ((s[0]'h).toNat : Int) = 45) (hc : Hid (canon (s.extract 1 s.size).data.toList = true)) (hz : ((s.extract 1 s.size).toList == [48]) = false) (hv : Hid (9223372036854775808 < val (s.extract 1 s.size).data.toList)) (hn : n = 0) (he : e = 2)
  | minus (h : 0 < s.size) (h45 : ((s[0]'h).toNat : Int) = 45) (hc : Hid (canon (s.extract 1 s.size).data.toList = true)) (hz : ((s.extract 1 s.size).toList == [48]) = false) (v : Nat) (hv : Hid (val (s.extract 1 s.size).data.toList = v)) (hp : 0 < v) (hm : v ≤ 9223372036854775808) (hn : n = -(v : Int)) (he : e = 0)
  | bad (h : ∀ h : 0 < s.size, ¬ ((s[0]'h).toNat : Int) = 45) (hc : Hid (canon s.data.toList = false)) (hn : n = 0) (he : e = 3)
  | plus (h0 : 0 < s.size) (h : ¬ ((s[0]'h0).toNat : Int) = 45) (hc : Hid (canon s.data.toList = true)) (v : Nat) (hv : Hid (val s.data.toList = v)) (hm : v ≤ 9223372036854775807) (hn : n = (v : Int)) (he : e = 0)
  | plusBig (h0 : 0 < s.size) (h : ¬ ((s[0]'h0).toNat : Int) = 45) (hc : Hid (canon s.data.toList = true)) (hv : Hid (9223372036854775807 < val s.data.toList)) (hn : n = 0) (he : e = 2)

theorem parse_way {s : ByteArray} {n e : Int} (h : parse s.data.toList = (n, e)) : Way s n e := by
  unfold parse at h
  by_cases hs : 0 < s.size
  · by_cases h45 : ((s[0]'hs).toNat : Int) = 45
    · have e45 : s[0]'hs = 45 := UInt8.toNat.inj (by simpa using (by omega : (s[0]'hs).toNat = 45))
      rw [if_pos (by rw [head_byte s hs, e45])] at h
      rw [← tail_data] at h
      by_cases hc : canon (s.extract 1 s.size).data.toList = true
      · by_cases hz : (s.extract 1 s.size).data.toList = [48]
        · rw [if_neg (fun k => k.2 hz), Prod.mk.injEq] at h
          exact .minusZero hs h45 hc (by rw [eq48]; exact decide_eq_true hz) h.1.symm h.2.symm
        · rw [if_pos ⟨hc, hz⟩] at h
          have hz' : ((s.extract 1 s.size).toList == [48]) = false := by rw [eq48]; exact decide_eq_false hz
          have hp := val_pos hc hz
          by_cases hv : val (s.extract 1 s.size).data.toList ≤ big + 1
          · rw [if_pos hv, Prod.mk.injEq] at h
            exact .minus hs h45 hc hz' _ rfl hp (by unfold big at hv; exact hv) h.1.symm h.2.symm
          · rw [if_neg hv, Prod.mk.injEq] at h
            exact .minusBig hs h45 hc hz' (by unfold big at hv; show _ < _; omega) h.1.symm h.2.symm
      · rw [if_neg (fun k => hc k.1), Prod.mk.injEq] at h
        exact .minusBad hs h45 (Bool.eq_false_iff.2 hc) h.1.symm h.2.symm
    · have h45' : ¬ s.data.toList.head? = some 45 := by
        rw [head_byte s hs]
        intro k
        simp only [Option.some.injEq] at k
        rw [k] at h45
        exact h45 rfl
      rw [if_neg h45'] at h
      by_cases hc : canon s.data.toList = true
      · rw [if_pos hc] at h
        by_cases hv : val s.data.toList ≤ big
        · rw [if_pos hv, Prod.mk.injEq] at h
          exact .plus hs h45 hc _ rfl (by unfold big at hv; exact hv) h.1.symm h.2.symm
        · rw [if_neg hv, Prod.mk.injEq] at h
          exact .plusBig hs h45 hc (by unfold big at hv; show _ < _; omega) h.1.symm h.2.symm
      · rw [if_neg hc, Prod.mk.injEq] at h
        exact .bad (fun _ => h45) (Bool.eq_false_iff.2 hc) h.1.symm h.2.symm
  · rw [if_neg (by rw [head_none s hs]; simp)] at h
    have hc : canon s.data.toList = false := by
      have : s.data.toList = [] := size_nil (by omega)
      rw [this]
      rfl
    rw [hc, if_neg (by simp), Prod.mk.injEq] at h
    exact .bad (fun k => absurd k hs) hc h.1.symm h.2.symm

theorem neg_u64 (v : Nat) (h0 : 0 < v) (h1 : v ≤ 9223372036854775808) : wrap64 (IntKind.u64.wrap (-(v : Int))) = -(v : Int) := by
  have e : IntKind.u64.wrap (-(v : Int)) = (-(v : Int)) % 18446744073709551616 := by
    simp [IntKind.wrap, IntKind.signed, IntKind.bits]
  rw [e]
  unfold wrap64
  omega

set_option maxRecDepth 20000 in
set_option maxHeartbeats 1000000 in
theorem parse_c (s : ByteArray) (n e : Int) (H : Hid (parse s.data.toList = (n, e))) (hs : s.size ≤ maxLen) (w : World) :
    Calls Tryd.prog 89 #[.string s] w fun r w' => r = .returned (.tuple #[.int .i64 n, .int .i64 e]) ∧ Below w.heap.size w w' := by
  unfold maxLen at hs
  have hts : (s.extract 1 s.size).size ≤ maxLen := by rw [tail_size]; unfold maxLen; omega
  have HTS := Lib.hid hts
  clear hts
  rcases parse_way H.out with ⟨h, h45, hc, rfl, rfl⟩ | ⟨h, h45, hc, hz, rfl, rfl⟩ | ⟨h, h45, hc, hz, hv, rfl, rfl⟩ | ⟨h, h45, hc, hz, v, hv, hp, hm, hn, rfl⟩ | ⟨h, hc, rfl, rfl⟩ | ⟨h0, h, hc, v, hv, hm, hn, rfl⟩ | ⟨h0, h, hc, hv, rfl, rfl⟩
  · have hne := toList_ne (s := s) (by omega)
    have hne' := toList_ne' (s := s) (by omega)
    go_enter Tryd.func89, Tryd.ntmps89
    go_wp2_with (go_at_call 104; refine (plain_b _ _ hc _).mono ?_; rintro e w1 ⟨rfl, hb⟩)
    go_ret2
    exact ⟨rfl, hb⟩
  · have hne := toList_ne (s := s) (by omega)
    have hne' := toList_ne' (s := s) (by omega)
    go_enter Tryd.func89, Tryd.ntmps89
    go_wp2_with (go_at_call 104; refine (plain_b _ _ hc _).mono ?_; rintro e w1 ⟨rfl, hb⟩)
    go_ret2
    exact ⟨rfl, hb⟩
  · have hne := toList_ne (s := s) (by omega)
    have hne' := toList_ne' (s := s) (by omega)
    go_enter Tryd.func89, Tryd.ntmps89
    go_wp2_with (first
      | (go_at_call 104; refine (plain_b _ _ hc _).mono ?_; rintro e w1 ⟨rfl, hb⟩)
      | (go_at_call 105; refine (value_no _ 9223372036854775808 (by omega) (by omega) (canon_all hc.out) HTS.out hv.out _).mono ?_; rintro e w2 ⟨rfl, rfl⟩))
    go_ret2
    exact ⟨rfl, hb⟩
  · have hne := toList_ne (s := s) (by omega)
    have hne' := toList_ne' (s := s) (by omega)
    have HN := Lib.hid hn
    have HU := Lib.hid (neg_u64 v hp hm)
    clear hn
    go_enter Tryd.func89, Tryd.ntmps89
    go_wp2_with (first
      | (go_at_call 104; refine (plain_b _ _ hc _).mono ?_; rintro e w1 ⟨rfl, hb⟩)
      | (go_at_call 105; refine (value_ok _ 9223372036854775808 (by omega) (canon_all hc.out) HTS.out (by rw [hv.out]; exact hm) _).mono ?_; rintro e w2 ⟨rfl, rfl⟩; rw [hv.out]))
    go_ret2
    exact ⟨ret2_int (by rw [HU.out, HN.out]), hb⟩
  · by_cases h0 : 0 < s.size
    · have h' := h h0
      have hne := toList_ne (s := s) (by omega)
      have hne' := toList_ne' (s := s) (by omega)
      clear h
      go_enter Tryd.func89, Tryd.ntmps89
      go_wp2_with (go_at_call 104; refine (plain_b _ _ hc _).mono ?_; rintro e w1 ⟨rfl, hb⟩)
      go_ret2
      exact ⟨rfl, hb⟩
    · have hne := toList_nil (s := s) (by omega)
      clear h
      go_enter Tryd.func89, Tryd.ntmps89
      go_wp2_with (go_at_call 104; refine (plain_b _ _ hc _).mono ?_; rintro e w1 ⟨rfl, hb⟩)
      go_ret2
      exact ⟨rfl, hb⟩
  · have hne := toList_ne (s := s) (by omega)
    have hne' := toList_ne' (s := s) (by omega)
    have HN := Lib.hid hn
    clear hn
    go_enter Tryd.func89, Tryd.ntmps89
    go_wp2_with (first
      | (go_at_call 104; refine (plain_b _ _ hc _).mono ?_; rintro e w1 ⟨rfl, hb⟩)
      | (go_at_call 105; refine (value_ok _ 9223372036854775807 (by omega) (canon_all hc.out) hs (by rw [hv.out]; exact hm) _).mono ?_; rintro e w2 ⟨rfl, rfl⟩; rw [hv.out]))
    go_ret2
    exact ⟨ret2_int (by rw [HN.out]), hb⟩
  · have hne := toList_ne (s := s) (by omega)
    have hne' := toList_ne' (s := s) (by omega)
    go_enter Tryd.func89, Tryd.ntmps89
    go_wp2_with (first
      | (go_at_call 104; refine (plain_b _ _ hc _).mono ?_; rintro e w1 ⟨rfl, hb⟩)
      | (go_at_call 105; refine (value_no _ 9223372036854775807 (by omega) (by omega) (canon_all hc.out) hs hv.out _).mono ?_; rintro e w2 ⟨rfl, rfl⟩))
    go_ret2
    exact ⟨rfl, hb⟩

/-! ### the reference's Parse: the number is computed as a negative one -/
theorem low_test (v k : Int) (h9 : k ≤ 9) : (-v < Int.tdiv (-9223372036854775808 + k) 10) ↔ 9223372036854775808 < 10 * v + k := by
  have e : Int.tdiv (-9223372036854775808 + k) 10 = -((9223372036854775808 - k) / 10) := by
    have : (-9223372036854775808 + k) = -(9223372036854775808 - k) := by omega
    rw [this, Int.neg_tdiv, Int.tdiv_eq_ediv_of_nonneg (by omega)]
  rw [e]
  omega

set_option maxRecDepth 20000 in
set_option maxHeartbeats 1000000 in
theorem refParse_c (s : ByteArray) (n e : Int) (H : Hid (parse s.data.toList = (n, e))) (hs : s.size ≤ maxLen) (w : World) :
    Calls Tryd.prog 71 #[.string s] w fun r w' => r = .returned (.tuple #[.int .i64 n, .int .i64 e]) ∧ w = w' := by
  unfold maxLen at hs
  have hts : (s.extract 1 s.size).size ≤ maxLen := by rw [tail_size]; unfold maxLen; omega
  have HTS := Lib.hid hts
  clear hts
  rcases parse_way H.out with ⟨h, h45, hc, rfl, rfl⟩ | ⟨h, h45, hc, hz, rfl, rfl⟩ | ⟨h, h45, hc, hz, hv, rfl, rfl⟩ | ⟨h, h45, hc, hz, v, hv, hp, hm, hn, rfl⟩ | ⟨h, hc, rfl, rfl⟩ | ⟨h0, h, hc, v, hv, hm, hn, rfl⟩ | ⟨h0, h, hc, hv, rfl, rfl⟩
  · go_enter Tryd.func71, Tryd.ntmps71
    go_wp2_with (go_at_call 94; refine (digits_b _ _ hc HTS.out _).mono ?_; rintro e w1 ⟨rfl, rfl⟩)
    go_ret2
    exact ⟨rfl, rfl⟩
  · go_enter Tryd.func71, Tryd.ntmps71
    go_wp2_with (go_at_call 94; refine (digits_b _ _ hc HTS.out _).mono ?_; rintro e w1 ⟨rfl, rfl⟩)
    go_ret2
    exact ⟨rfl, rfl⟩
  · go_enter Tryd.func71, Tryd.ntmps71
    go_wp2_with (go_at_call 94; refine (digits_b _ _ hc HTS.out _).mono ?_; rintro e w1 ⟨rfl, rfl⟩)
    generalize s.extract 1 s.size = d at *
    have hds : (d).size ≤ 9223372036854775807 := by have := HTS.out; unfold maxLen at this; omega
    have HD := Lib.hid ((allDig_iff (d)).1 (canon_all hc.out))
    go_loop [6, 7] (fun m i => ∃ k v : Nat, k ≤ (d).size ∧ i = .int .i64 k ∧ m = .int .i64 (-(v : Int)) ∧ v ≤ 9223372036854775808 ∧ Hid (val ((d).data.toList.take k) = v)) (fun _ i => (d).size - (intOf i).toNat)
    case atStart => exact ⟨0, 0, by omega, rfl, rfl, by omega, rfl⟩
    case round =>
      obtain ⟨k, u, hk, rfl, rfl, hvl, HV⟩ := hrel
      by_cases hlt : k < (d).size
      · have hb := isDig_bounds (HD.out k hlt)
        have HS := Lib.hid (val_step (d) k hlt)
        have HL := Lib.hid (low_test u ((((d)[k]'hlt).toNat : Int) - 48) (by omega))
        have HLE := Lib.hid (val_take_le (d).data.toList (k + 1))
        by_cases hover : 9223372036854775808 < 10 * (u : Int) + ((((d)[k]'hlt).toNat : Int) - 48)
        · have hno := HL.out.2 hover
          go_wp2
          go_ret2
          exact ⟨rfl, rfl⟩
        · have hno : ¬ (-(u : Int) < Int.tdiv (-9223372036854775808 + ((((d)[k]'hlt).toNat : Int) - 48)) 10) := fun h => hover (HL.out.1 h)
          go_wp2
          go_round
          case rel => exact ⟨k + 1, 10 * u + (((d)[k]'hlt).toNat - 48), by omega, by go_num, by go_num, by omega, by rw [← HV.out]; exact HS.out⟩
          case measure => simp [intOf]; omega
      · have HE := Lib.hid (show u = val (d).data.toList by rw [← HV.out, List.take_of_length_le (by simp; omega)])
        exfalso
        have := hv.out
        have := HE.out
        omega
  · have HN := Lib.hid hn
    clear hn
    go_enter Tryd.func71, Tryd.ntmps71
    go_wp2_with (go_at_call 94; refine (digits_b _ _ hc HTS.out _).mono ?_; rintro e w1 ⟨rfl, rfl⟩)
    generalize s.extract 1 s.size = d at *
    have hds : (d).size ≤ 9223372036854775807 := by have := HTS.out; unfold maxLen at this; omega
    have HD := Lib.hid ((allDig_iff (d)).1 (canon_all hc.out))
    go_loop [6, 7] (fun m i => ∃ k v : Nat, k ≤ (d).size ∧ i = .int .i64 k ∧ m = .int .i64 (-(v : Int)) ∧ v ≤ 9223372036854775808 ∧ Hid (val ((d).data.toList.take k) = v)) (fun _ i => (d).size - (intOf i).toNat)
    case atStart => exact ⟨0, 0, by omega, rfl, rfl, by omega, rfl⟩
    case round =>
      obtain ⟨k, u, hk, rfl, rfl, hvl, HV⟩ := hrel
      by_cases hlt : k < (d).size
      · have hb := isDig_bounds (HD.out k hlt)
        have HS := Lib.hid (val_step (d) k hlt)
        have HL := Lib.hid (low_test u ((((d)[k]'hlt).toNat : Int) - 48) (by omega))
        have HLE := Lib.hid (val_take_le (d).data.toList (k + 1))
        by_cases hover : 9223372036854775808 < 10 * (u : Int) + ((((d)[k]'hlt).toNat : Int) - 48)
        · exfalso
          have h1 := HLE.out
          rw [HS.out, HV.out, hv.out] at h1
          omega
        · have hno : ¬ (-(u : Int) < Int.tdiv (-9223372036854775808 + ((((d)[k]'hlt).toNat : Int) - 48)) 10) := fun h => hover (HL.out.1 h)
          go_wp2
          go_round
          case rel => exact ⟨k + 1, 10 * u + (((d)[k]'hlt).toNat - 48), by omega, by go_num, by go_num, by omega, by rw [← HV.out]; exact HS.out⟩
          case measure => simp [intOf]; omega
      · have HE := Lib.hid (show u = val (d).data.toList by rw [← HV.out, List.take_of_length_le (by simp; omega)])
        go_wp2
        go_ret2
        exact ⟨ret2_int (by rw [HN.out, HE.out, hv.out]), rfl⟩
  · by_cases h0 : 0 < s.size
    · have h' := h h0
      clear h
      go_enter Tryd.func71, Tryd.ntmps71
      go_wp2_with (go_at_call 94; refine (digits_b _ _ hc hs _).mono ?_; rintro e w1 ⟨rfl, rfl⟩)
      go_ret2
      exact ⟨rfl, rfl⟩
    · clear h
      go_enter Tryd.func71, Tryd.ntmps71
      go_wp2_with (go_at_call 94; refine (digits_b _ _ hc hs _).mono ?_; rintro e w1 ⟨rfl, rfl⟩)
      go_ret2
      exact ⟨rfl, rfl⟩
  · have HN := Lib.hid hn
    have hvn : ¬ ((v : Int) = 9223372036854775808) := by omega
    clear hn
    go_enter Tryd.func71, Tryd.ntmps71
    go_wp2_with (go_at_call 94; refine (digits_b _ _ hc hs _).mono ?_; rintro e w1 ⟨rfl, rfl⟩)
    have hds : (s).size ≤ 9223372036854775807 := by have := hs; unfold maxLen at this; omega
    have HD := Lib.hid ((allDig_iff (s)).1 (canon_all hc.out))
    go_loop [6, 7] (fun m i => ∃ k v : Nat, k ≤ (s).size ∧ i = .int .i64 k ∧ m = .int .i64 (-(v : Int)) ∧ v ≤ 9223372036854775808 ∧ Hid (val ((s).data.toList.take k) = v)) (fun _ i => (s).size - (intOf i).toNat)
    case atStart => exact ⟨0, 0, by omega, rfl, rfl, by omega, rfl⟩
    case round =>
      obtain ⟨k, u, hk, rfl, rfl, hvl, HV⟩ := hrel
      by_cases hlt : k < (s).size
      · have hb := isDig_bounds (HD.out k hlt)
        have HS := Lib.hid (val_step (s) k hlt)
        have HL := Lib.hid (low_test u ((((s)[k]'hlt).toNat : Int) - 48) (by omega))
        have HLE := Lib.hid (val_take_le (s).data.toList (k + 1))
        by_cases hover : 9223372036854775808 < 10 * (u : Int) + ((((s)[k]'hlt).toNat : Int) - 48)
        · exfalso
          have h1 := HLE.out
          rw [HS.out, HV.out, hv.out] at h1
          omega
        · have hno : ¬ (-(u : Int) < Int.tdiv (-9223372036854775808 + ((((s)[k]'hlt).toNat : Int) - 48)) 10) := fun h => hover (HL.out.1 h)
          go_wp2
          go_round
          case rel => exact ⟨k + 1, 10 * u + (((s)[k]'hlt).toNat - 48), by omega, by go_num, by go_num, by omega, by rw [← HV.out]; exact HS.out⟩
          case measure => simp [intOf]; omega
      · have HE := Lib.hid (show u = val (s).data.toList by rw [← HV.out, List.take_of_length_le (by simp; omega)])
        have hu : u = v := HE.out.trans hv.out
        subst hu
        go_wp2
        go_ret2
        exact ⟨ret2_int (by rw [HN.out]), rfl⟩
  · go_enter Tryd.func71, Tryd.ntmps71
    go_wp2_with (go_at_call 94; refine (digits_b _ _ hc hs _).mono ?_; rintro e w1 ⟨rfl, rfl⟩)
    have hds : (s).size ≤ 9223372036854775807 := by have := hs; unfold maxLen at this; omega
    have HD := Lib.hid ((allDig_iff (s)).1 (canon_all hc.out))
    go_loop [6, 7] (fun m i => ∃ k v : Nat, k ≤ (s).size ∧ i = .int .i64 k ∧ m = .int .i64 (-(v : Int)) ∧ v ≤ 9223372036854775808 ∧ Hid (val ((s).data.toList.take k) = v)) (fun _ i => (s).size - (intOf i).toNat)
    case atStart => exact ⟨0, 0, by omega, rfl, rfl, by omega, rfl⟩
    case round =>
      obtain ⟨k, u, hk, rfl, rfl, hvl, HV⟩ := hrel
      by_cases hlt : k < (s).size
      · have hb := isDig_bounds (HD.out k hlt)
        have HS := Lib.hid (val_step (s) k hlt)
        have HL := Lib.hid (low_test u ((((s)[k]'hlt).toNat : Int) - 48) (by omega))
        have HLE := Lib.hid (val_take_le (s).data.toList (k + 1))
        by_cases hover : 9223372036854775808 < 10 * (u : Int) + ((((s)[k]'hlt).toNat : Int) - 48)
        · have hno := HL.out.2 hover
          go_wp2
          go_ret2
          exact ⟨rfl, rfl⟩
        · have hno : ¬ (-(u : Int) < Int.tdiv (-9223372036854775808 + ((((s)[k]'hlt).toNat : Int) - 48)) 10) := fun h => hover (HL.out.1 h)
          go_wp2
          go_round
          case rel => exact ⟨k + 1, 10 * u + (((s)[k]'hlt).toNat - 48), by omega, by go_num, by go_num, by omega, by rw [← HV.out]; exact HS.out⟩
          case measure => simp [intOf]; omega
      · have HE := Lib.hid (show u = val (s).data.toList by rw [← HV.out, List.take_of_length_le (by simp; omega)])
        have hu : u = 9223372036854775808 := by have := hv.out; have := HE.out; omega
        subst hu
        go_wp2
        go_ret2
        exact ⟨rfl, rfl⟩

/-! ### ParseRange -/
def parseR (l : List UInt8) (lo hi : Int) : Int × Int := if (parse l).2 = 0 then (if (parse l).1 < lo ∨ hi < (parse l).1 then (0, 2) else ((parse l).1, 0)) else (0, (parse l).2)

end Go.Proofs.YthdadalmgldppaaDoor.Nu
