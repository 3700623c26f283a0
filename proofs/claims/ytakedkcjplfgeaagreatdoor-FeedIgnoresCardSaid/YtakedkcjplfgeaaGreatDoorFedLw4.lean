/-
  THE LAWS OF FEED, FOURTH PART: FeedIgnores. Conditions: those of each contract.
-/
import Derived.Test.YtakedkcjplfgeaaGreatDoorExtra
import Derived.Test.YtakedkcjplfgeaaGreatDoorFedLw3
import Derived.Test.YtakedkcjplfgeaaGreatDoorPkEx2
import Derived.Test.YtakedkcjplfgeaaGreatDoorFedEqC
import Derived.Test.YtakedkcjplfgeaaGreatDoorFedIgn2
import Derived.Test.YtakedkcjplfgeaaGreatDoorPkRecA
namespace Go.Proofs.YtakedkcjplfgeaaGreatDoor
open Go.RowKit
open Frq Thr Tt Num Clk Dat Fld

theorem kb {s : List UInt8} {t : TtD} {n e : Int} (h : parseF s = (t, n, e)) (hs : s.length ≤ 65536) (hl : s.getLast? = some 10) : 0 ≤ n ∧ n ≤ 70000 := by
  by_cases he : e = 0
  · subst he
    have := (parse_valid h).2
    omega
  have hnl : s ≠ [] := fun k => by rw [k] at hl; simp at hl
  have hls : linesS s = (splitL 10 s.dropLast, 0) := by
    unfold linesS
    rw [if_neg (by omega), if_neg hnl, if_pos hl]
  obtain ⟨q, l, hq, -, hqn⟩ := parse_line h he (by rw [hls])
  have h1 := (lines_size hls).1
  rw [hls] at hq
  have h2 := (List.getElem?_eq_some_iff.1 hq).1
  simp only at h2
  omega
set_option maxRecDepth 100000 in
set_option maxHeartbeats 16000000 in
theorem feedIgnores_c (s : ByteArray) (n : Int) (r : ByteArray) (m : Int) (w : World) (env : Env m w) :
    Calls Tryz.prog 7 #[.string s, .int .i64 n, .string r] w fun q w' => q = .returned (.bool true) ∧ Bl w w' := by
  have hex := exHolds_c m w env
  have HE := Lib.hid env
  clear env
  by_cases hbig : 8192 < s.size
  · have h8 : (8192 : Int) < (s.size : Int) := by omega
    go_enter Tryz.func7, Tryz.ntmps7
    go_wp2_with (go_at_call 9; refine hex.mono ?_)
    first | rintro y1 w1 rfl b1 | rintro y1 w1 ⟨rfl, b1⟩
    go_wp2
    go_ret
    exact ⟨rfl, b1⟩
  have h8 : ¬ (8192 : Int) < (s.size : Int) := by omega
  by_cases hbr : 1024 < r.size
  · have h9 : (1024 : Int) < (r.size : Int) := by omega
    go_enter Tryz.func7, Tryz.ntmps7
    go_wp2_with (go_at_call 9; refine hex.mono ?_)
    first | rintro y1 w1 rfl b1 | rintro y1 w1 ⟨rfl, b1⟩
    go_wp2
    go_ret
    exact ⟨rfl, b1⟩
  have h9 : ¬ (1024 : Int) < (r.size : Int) := by omega
  by_cases h0 : s.size = 0
  · have hs1 := toList_nil h0
    go_enter Tryz.func7, Tryz.ntmps7
    go_wp2_with (go_at_call 9; refine hex.mono ?_)
    first | rintro y1 w1 rfl b1 | rintro y1 w1 ⟨rfl, b1⟩
    go_wp2
    go_ret
    exact ⟨rfl, b1⟩
  have hn := len_bytes s
  have hnr := len_bytes r
  have hp0 : 0 < s.size := Nat.pos_of_ne_zero h0
  have hne := toList_ne h0
  have hne' := toList_ne' h0
  have hnl : Hid (s.data.toList ≠ []) := Lib.hid (fun h => by rw [h] at hn; simp at hn; omega)
  have e7 := fun W => Nu.idx_c s ((s.size : Int) - 1) (s.size - 1) (by omega) (show s.size - 1 < s.size by omega) W
  have hla := last_at s hp0
  obtain ⟨c, hc⟩ : ∃ c, s[s.size - 1]'(by omega) = c := ⟨_, rfl⟩
  rw [hc] at e7 hla
  have HLA := Lib.hid hla
  clear hc hla
  by_cases h10 : c = 10
  rotate_left
  · obtain ⟨u1, u2⟩ := u8_not (n := 10) (k := 10) rfl h10
    clear h10 hnl hn hnr HE
    go_enter Tryz.func7, Tryz.ntmps7
    go_wp2_with (go_at_call 9; refine hex.mono ?_)
    first | rintro y1 w1 rfl b1 | rintro y1 w1 ⟨rfl, b1⟩
    go_wp2
    go_ret
    exact ⟨rfl, b1⟩
  have HL10 := Lib.hid (show s.data.toList.getLast? = some 10 by rw [HLA.out, h10])
  obtain ⟨u1, u2⟩ := u8_is (n := 10) (k := 10) (by omega) rfl h10
  clear h10 HLA
  by_cases hn0 : n < 0
  · clear hnl hn hnr HE
    go_enter Tryz.func7, Tryz.ntmps7
    go_wp2_with (go_at_call 9; refine hex.mono ?_)
    first | rintro y1 w1 rfl b1 | rintro y1 w1 ⟨rfl, b1⟩
    go_wp2
    go_ret
    exact ⟨rfl, b1⟩
  by_cases hrz : r.size = 0
  case' pos =>
    have hr1 := toList_nil hrz
    have HRZ := Lib.hid hrz
    have hrm : Hid (r.data.toList = [] ∨ r.data.toList.head? = some 35) := Or.inl (List.length_eq_zero_iff.1 (hnr.trans hrz))
    clear hrz
  case' neg =>
    have hr1 := toList_ne hrz
    have hr2 := toList_ne' hrz
    have hr3 : (0 : Int) < (r.size : Int) := by omega
    have e8 := fun W => Nu.idx_c r 0 0 rfl (show 0 < r.size by omega) W
    obtain ⟨d, hd⟩ : ∃ d, r[0]'(by omega) = d := ⟨_, rfl⟩
    rw [hd] at e8
    by_cases h35 : d = 35
    rotate_left
    · obtain ⟨v1, v2⟩ := u8_not (n := 35) (k := 35) rfl h35
      clear h35 hnl hn hnr HE hd
      go_enter Tryz.func7, Tryz.ntmps7
      go_wp2_with (go_at_call 9; refine hex.mono ?_)
      first | rintro y1 w1 rfl b1 | rintro y1 w1 ⟨rfl, b1⟩
      go_wp2
      go_ret
      exact ⟨rfl, b1⟩
    have hrm : Hid (r.data.toList = [] ∨ r.data.toList.head? = some 35) := Or.inr (by
      rw [List.head?_eq_getElem?, List.getElem?_eq_getElem (by omega)]
      rw [← h35, ← hd]
      rfl)
    obtain ⟨v1, v2⟩ := u8_is (n := 35) (k := 35) (by omega) rfl h35
    clear h35 hd
  all_goals
    obtain ⟨jr, hjr⟩ : ∃ j, beginsG r.data.toList 0 0 1 = j := ⟨_, rfl⟩
    have hbr := fun W => begins_c r (by omega) 1 jr (Lib.hid hjr) W
    have HJR := Lib.hid hjr
    clear hjr
    by_cases hjr0 : 0 ≤ jr
    · clear hnl hn hnr HE
      go_enter Tryz.func7, Tryz.ntmps7
      go_wp2_with (go_at_call 17; (with_reducible refine (hbr _).mono ?_); rintro y3 w3 ⟨rfl, hw3⟩; obtain rfl := hw3.symm)
      go_wp2_with (go_at_call 9; refine hex.mono ?_)
      first | rintro y1 w1 rfl b1 | rintro y1 w1 ⟨rfl, b1⟩
      go_wp2
      go_ret
      exact ⟨rfl, b1⟩
    obtain ⟨js, hjs⟩ : ∃ j, beginsG s.data.toList 0 0 n = j := ⟨_, rfl⟩
    have hbs := fun W => begins_c s (by omega) n js (Lib.hid hjs) W
    have HJS := Lib.hid hjs
    clear hjs
    by_cases hjs0 : js < 0
    · clear hnl hn hnr HE
      go_enter Tryz.func7, Tryz.ntmps7
      go_wp2_with (go_at_call 17; first | ((with_reducible refine (hbr _).mono ?_); rintro y3 w3 ⟨rfl, hw3⟩; obtain rfl := hw3.symm) | ((with_reducible refine (hbs _).mono ?_); rintro y3 w3 ⟨rfl, hw3⟩; obtain rfl := hw3.symm))
      go_wp2_with (go_at_call 9; refine hex.mono ?_)
      first | rintro y1 w1 rfl b1 | rintro y1 w1 ⟨rfl, b1⟩
      go_wp2
      go_ret
      exact ⟨rfl, b1⟩
    obtain ⟨j, rfl⟩ : ∃ j : Nat, js = j := ⟨js.toNat, by omega⟩
    obtain ⟨⟨t, k, e⟩, hp⟩ : ∃ p, parseF s.data.toList = p := ⟨_, rfl⟩
    obtain ⟨hjl, hp2⟩ := ign_law (by omega) (by omega) HL10.out (by omega) hrm.out (by have := HJR.out; omega) HJS.out hp
    have hjz : j ≤ s.size := by omega
    have i0 : (0 : Int) ≤ (j : Int) := by omega
    have i1 : (j : Int) ≤ (s.size : Int) := by omega
    have i2 : ¬ (j : Int) < 0 := by omega
    obtain ⟨hk0, hk1⟩ := kb hp (by omega) HL10.out
    have HPF2 := Lib.hid hp2
    have hpc := fparse_o s (by omega) m t k e (Lib.hid hp) w HE.out
    clear hp hp2 HL10 HJR HJS hjl hex hrm hnl hn hnr
    go_enter Tryz.func7, Tryz.ntmps7
    go_wp2_with (go_at_call 17; first | ((with_reducible refine (hbr _).mono ?_); rintro y3 w3 ⟨rfl, hw3⟩; obtain rfl := hw3.symm) | ((with_reducible refine (hbs _).mono ?_); rintro y3 w3 ⟨rfl, hw3⟩; obtain rfl := hw3.symm))
    go_wp2_with (go_at_call 10; refine hpc.mono ?_)
    rintro y1 w1 ⟨ts, a0, a1, a2, a3, a4, a5, a6, a7, a8, a9, k0, k1, k2, k3, k4, k5, k6, k7, k8, k9, rfl, RD, -, B1⟩
    have E1 := Lib.hid (HE.out.bl B1.out)
    obtain ⟨w2, hw2⟩ : ∃ w2, w1.alloc (.cells #[.slice a0 t.stops.length k0, .slice a1 t.routes.length k1, .slice a2 t.cals.length k2, .slice a3 t.excs.length k3, .slice a4 ts.length k4, .slice a5 t.freqs.length k5, .slice a6 t.thrus.length k6, .slice a7 t.guars.length k7, .slice a8 t.paths.length k8, .slice a9 t.fares.prods.length k9, .int .i64 t.fares.disc, .int .i64 t.fares.within, .int .i64 t.fares.cap] 36) = w2 := ⟨_, rfl⟩
    have b2 : Bl w1 w2 := by rw [← hw2]; exact bl_alloc (bl_refl _) _
    have A2 := Lib.hid (show w2.heap[w1.heap.size]? = some (.cells #[.slice a0 t.stops.length k0, .slice a1 t.routes.length k1, .slice a2 t.cals.length k2, .slice a3 t.excs.length k3, .slice a4 ts.length k4, .slice a5 t.freqs.length k5, .slice a6 t.thrus.length k6, .slice a7 t.guars.length k7, .slice a8 t.paths.length k8, .slice a9 t.fares.prods.length k9, .int .i64 t.fares.disc, .int .i64 t.fares.within, .int .i64 t.fares.cap] 36 (0, 0)) by rw [← hw2]; exact heap_alloc_new w1 _)
    have B2 := Lib.hid (bl_next B1.out b2)
    have E2 := Lib.hid (E1.out.bl b2)
    have R2 := Lib.hid (RD.out.bl b2 (Nat.le_refl _))
    have s2 : w2.heap.size = w1.heap.size + 1 := by rw [← hw2]; simp
    have S2 := Lib.hid s2
    have HW2 := Lib.hid hw2
    clear s2
    obtain ⟨z, hz⟩ : ∃ z, s.extract 0 j ++ r ++ ⟨#[10]⟩ ++ s.extract j s.size = z := ⟨_, rfl⟩
    have hzl : z.data.toList = s.data.toList.take j ++ r.data.toList ++ [10] ++ s.data.toList.drop j := by
      rw [← hz, concat_list, concat_list, concat_list, ext_l, ext_l, show s.data.toList.take s.size = s.data.toList from List.take_of_length_le (by simp)]
      rfl
    have hzs : z.size ≤ 4294967280 := by
      have h1 := len_bytes z
      have h2 := len_bytes s
      have h3 := len_bytes r
      rw [hzl] at h1
      simp only [List.length_append, List.length_take, List.length_drop, List.length_singleton] at h1
      omega
    obtain ⟨k2, hk2⟩ : ∃ k2, (if n < k then k + 1 else k) = k2 := ⟨_, rfl⟩
    have hpc2 := fun W (hb : Bl w2 W) => fparse_o z hzs m t k2 e (Lib.hid (by rw [hzl, ← hk2]; exact HPF2.out)) W (E2.out.bl hb)
    have HK2 := Lib.hid hk2
    clear hk2
    have HZ := Lib.hid hz
    have n1 : ¬ 9223372036854775807 < j + r.size := by omega
    have n2 : ¬ 9223372036854775807 < j + r.size + 1 := by omega
    have n3 : ¬ 9223372036854775807 < j + r.size + 1 + (s.size - j) := by omega
    clear b2 hw2 RD E1 hzl hzs hz
    go_wp2_with fail
    rw [HW2.out]
    refine wp_region_held_drew (S := fun w' => True) (by kernel_rfl) trivial (fun hHeld => ?_)
    refine takeA 0 ?_
    try simp only [Act.put]
    refine takeA 1 ?_
    try simp only [Act.put]
    refine takeA 2 ?_
    try simp only [Act.put]
    refine takeA 3 ?_
    try simp only [Act.put]
    refine takeA 4 ?_
    try simp only [Act.put]
    refine takeA 5 ?_
    try simp only [Act.put]
    refine takeA 6 ?_
    try simp only [Act.put]
    refine takeA 7 ?_
    try simp only [Act.put]
    refine takeA 8 ?_
    try simp only [Act.put]
    refine takeA 9 ?_
    try simp only [Act.put]
    rw [HZ.out]
    refine wpAnyH_ready (rs := [10, 15]) (by kernel_rfl) (by simp) ?_
    refine (AllReadyH.cons rfl (fun KK hKK => ?_) (AllReadyH.cons rfl (fun KK hKK => ?_) AllReadyH.nil))
    case' refine_1 =>
      go_simp
      go_at_call 10
      refine (hpc2 _ (bl_drew (bl_refl _))).mono ?_
      rintro y2 w3 ⟨us, d0, d1, d2, d3, d4, d5, d6, d7, d8, d9, dk0, dk1, dk2, dk3, dk4, dk5, dk6, dk7, dk8, dk9, rfl, RD3, ⟨-, LO3⟩, B3⟩
      clear hHeld
      refine hKK.out _ _ trivial (fun hHeld => ?_)
      clear hKK KK
      try simp only [Act.put]
      refine takeA 11 ?_
      try simp only [Act.put]
      refine takeA 12 ?_
      try simp only [Act.put]
      refine takeA 13 ?_
      try simp only [Act.put]
      refine takeA 14 ?_
      try simp only [Act.put]
      refine stepH 15 (fun KK hKK => ?_)
      go_simp
      clear hHeld
      refine hKK.out _ _ trivial (fun hHeld => ?_)
      clear hKK KK
      try simp only [Act.put]
      have bA : Bl w2 (w3.alloc (.cells #[.slice none 0 0, .slice none 0 0, .slice none 0 0, .slice none 0 0, .slice none 0 0, .slice none 0 0, .slice none 0 0, .slice none 0 0, .slice none 0 0, .slice none 0 0, .int .i64 0, .int .i64 0, .int .i64 0] 36)) := bl_alloc (bl_next (bl_drew (bl_refl _)) B3.out) _
      have hbk : w2.heap.size ≤ w3.heap.size := (bl_next (bl_drew (bl_refl w2)) B3.out).size
      have BK := heap_alloc_new w3 (.cells #[.slice none 0 0, .slice none 0 0, .slice none 0 0, .slice none 0 0, .slice none 0 0, .slice none 0 0, .slice none 0 0, .slice none 0 0, .slice none 0 0, .slice none 0 0, .int .i64 0, .int .i64 0, .int .i64 0] 36)
      have RA3 : Hid (∀ L, TtRd (w3.alloc (.cells #[.slice none 0 0, .slice none 0 0, .slice none 0 0, .slice none 0 0, .slice none 0 0, .slice none 0 0, .slice none 0 0, .slice none 0 0, .slice none 0 0, .slice none 0 0, .int .i64 0, .int .i64 0, .int .i64 0] 36)).heap.size (puts (w3.alloc (.cells #[.slice none 0 0, .slice none 0 0, .slice none 0 0, .slice none 0 0, .slice none 0 0, .slice none 0 0, .slice none 0 0, .slice none 0 0, .slice none 0 0, .slice none 0 0, .int .i64 0, .int .i64 0, .int .i64 0] 36)) w3.heap.size 0 L) ⟨.slice d0 t.stops.length dk0, .slice d1 t.routes.length dk1, .slice d2 t.cals.length dk2, .slice d3 t.excs.length dk3, .slice d4 us.length dk4, .slice d5 t.freqs.length dk5, .slice d6 t.thrus.length dk6, .slice d7 t.guars.length dk7, .slice d8 t.paths.length dk8, .slice d9 t.fares.prods.length dk9⟩ us t) := Lib.hid (fun L => (RD3.out.farL LO3.out fun c o h1 h2 => (puts_far L 0 (Nat.ne_of_lt h2)).trans ((bl_cell (bl_alloc (bl_refl w3) _)).1 c o h2)).up (by simp))
      generalize w3.alloc (.cells #[.slice none 0 0, .slice none 0 0, .slice none 0 0, .slice none 0 0, .slice none 0 0, .slice none 0 0, .slice none 0 0, .slice none 0 0, .slice none 0 0, .slice none 0 0, .int .i64 0, .int .i64 0, .int .i64 0] 36) = wA at bA BK RA3 ⊢
      generalize w3.heap.size = bk at BK RA3 hbk ⊢
    case' refine_2 =>
      go_simp
      clear hHeld
      refine hKK.out _ _ trivial (fun hHeld => ?_)
      clear hKK KK
      try simp only [Act.put, List.getElem_toArray, List.getElem_cons_succ, List.getElem_cons_zero, List.setIfInBounds_toArray, List.set_cons_succ, List.set_cons_zero]
      refine stepH 10 (fun KK hKK => ?_)
      go_simp
      go_at_call 10
      refine (hpc2 _ (bl_drew (bl_alloc (bl_refl _) _))).mono ?_
      rintro y2 w3 ⟨us, d0, d1, d2, d3, d4, d5, d6, d7, d8, d9, dk0, dk1, dk2, dk3, dk4, dk5, dk6, dk7, dk8, dk9, rfl, RD3, ⟨-, LO3⟩, B3⟩
      clear hHeld
      refine hKK.out _ _ trivial (fun hHeld => ?_)
      clear hKK KK
      try simp only [Act.put, List.getElem_toArray, List.getElem_cons_succ, List.getElem_cons_zero, List.setIfInBounds_toArray, List.set_cons_succ, List.set_cons_zero]
      refine takeA 11 ?_
      try simp only [Act.put, List.getElem_toArray, List.getElem_cons_succ, List.getElem_cons_zero, List.setIfInBounds_toArray, List.set_cons_succ, List.set_cons_zero]
      refine takeA 12 ?_
      try simp only [Act.put, List.getElem_toArray, List.getElem_cons_succ, List.getElem_cons_zero, List.setIfInBounds_toArray, List.set_cons_succ, List.set_cons_zero]
      refine takeA 13 ?_
      try simp only [Act.put, List.getElem_toArray, List.getElem_cons_succ, List.getElem_cons_zero, List.setIfInBounds_toArray, List.set_cons_succ, List.set_cons_zero]
      refine takeA 14 ?_
      try simp only [Act.put, List.getElem_toArray, List.getElem_cons_succ, List.getElem_cons_zero, List.setIfInBounds_toArray, List.set_cons_succ, List.set_cons_zero]
      have bA : Bl w2 w3 := bl_next (bl_drew (bl_alloc (bl_refl _) _)) B3.out
      have BK : w3.heap[w2.heap.size]? = some (.cells #[.slice none 0 0, .slice none 0 0, .slice none 0 0, .slice none 0 0, .slice none 0 0, .slice none 0 0, .slice none 0 0, .slice none 0 0, .slice none 0 0, .slice none 0 0, .int .i64 0, .int .i64 0, .int .i64 0] 36 (0, 0)) := blk_bl (show (w2.alloc (.cells #[.slice none 0 0, .slice none 0 0, .slice none 0 0, .slice none 0 0, .slice none 0 0, .slice none 0 0, .slice none 0 0, .slice none 0 0, .slice none 0 0, .slice none 0 0, .int .i64 0, .int .i64 0, .int .i64 0] 36)).drew.heap[w2.heap.size]? = _ from heap_alloc_new w2 _) B3.out
      have RA3 : Hid (∀ L, TtRd w3.heap.size (puts w3 w2.heap.size 0 L) ⟨.slice d0 t.stops.length dk0, .slice d1 t.routes.length dk1, .slice d2 t.cals.length dk2, .slice d3 t.excs.length dk3, .slice d4 us.length dk4, .slice d5 t.freqs.length dk5, .slice d6 t.thrus.length dk6, .slice d7 t.guars.length dk7, .slice d8 t.paths.length dk8, .slice d9 t.fares.prods.length dk9⟩ us t) := Lib.hid (fun L => RD3.out.farL LO3.out fun c o h1 h2 => puts_far L 0 (by simp at h1; omega))
      generalize w3 = wA at bA BK RA3 ⊢
      generalize hbk0 : w2.heap.size = bk at BK RA3 ⊢
      have hbk : w2.heap.size ≤ bk := Nat.le_of_eq hbk0
      clear hbk0
    all_goals
      have WB := puts_bl hbk [.slice d0 t.stops.length dk0, .slice d1 t.routes.length dk1, .slice d2 t.cals.length dk2, .slice d3 t.excs.length dk3, .slice d4 us.length dk4, .slice d5 t.freqs.length dk5, .slice d6 t.thrus.length dk6, .slice d7 t.guars.length dk7, .slice d8 t.paths.length dk8, .slice d9 t.fares.prods.length dk9, .int .i64 t.fares.disc, .int .i64 t.fares.within, .int .i64 t.fares.cap] 0 bA
      have WK := puts_blk [.slice d0 t.stops.length dk0, .slice d1 t.routes.length dk1, .slice d2 t.cals.length dk2, .slice d3 t.excs.length dk3, .slice d4 us.length dk4, .slice d5 t.freqs.length dk5, .slice d6 t.thrus.length dk6, .slice d7 t.guars.length dk7, .slice d8 t.paths.length dk8, .slice d9 t.fares.prods.length dk9, .int .i64 t.fares.disc, .int .i64 t.fares.within, .int .i64 t.fares.cap] 0 BK
      have hC : putC #[.slice none 0 0, .slice none 0 0, .slice none 0 0, .slice none 0 0, .slice none 0 0, .slice none 0 0, .slice none 0 0, .slice none 0 0, .slice none 0 0, .slice none 0 0, .int .i64 0, .int .i64 0, .int .i64 0] 0 [.slice d0 t.stops.length dk0, .slice d1 t.routes.length dk1, .slice d2 t.cals.length dk2, .slice d3 t.excs.length dk3, .slice d4 us.length dk4, .slice d5 t.freqs.length dk5, .slice d6 t.thrus.length dk6, .slice d7 t.guars.length dk7, .slice d8 t.paths.length dk8, .slice d9 t.fares.prods.length dk9, .int .i64 t.fares.disc, .int .i64 t.fares.within, .int .i64 t.fares.cap] = #[.slice d0 t.stops.length dk0, .slice d1 t.routes.length dk1, .slice d2 t.cals.length dk2, .slice d3 t.excs.length dk3, .slice d4 us.length dk4, .slice d5 t.freqs.length dk5, .slice d6 t.thrus.length dk6, .slice d7 t.guars.length dk7, .slice d8 t.paths.length dk8, .slice d9 t.fares.prods.length dk9, .int .i64 t.fares.disc, .int .i64 t.fares.within, .int .i64 t.fares.cap] := by kernel_rfl
      have RX := RA3.out [.slice d0 t.stops.length dk0, .slice d1 t.routes.length dk1, .slice d2 t.cals.length dk2, .slice d3 t.excs.length dk3, .slice d4 us.length dk4, .slice d5 t.freqs.length dk5, .slice d6 t.thrus.length dk6, .slice d7 t.guars.length dk7, .slice d8 t.paths.length dk8, .slice d9 t.fares.prods.length dk9, .int .i64 t.fares.disc, .int .i64 t.fares.within, .int .i64 t.fares.cap]
      rw [puts_cells] at WB WK RX
      rw [hC] at WK
      have WB := Lib.hid WB
      have WK := Lib.hid WK
      have RX := Lib.hid RX
      have hth := there_blk BK
      have hinf : (Tryz.prog.info? 36).map (·.size) = some 13 := by kernel_rfl
      have hone : ∀ v ∈ ([.slice d0 t.stops.length dk0, .slice d1 t.routes.length dk1, .slice d2 t.cals.length dk2, .slice d3 t.excs.length dk3, .slice d4 us.length dk4, .slice d5 t.freqs.length dk5, .slice d6 t.thrus.length dk6, .slice d7 t.guars.length dk7, .slice d8 t.paths.length dk8, .slice d9 t.fares.prods.length dk9, .int .i64 t.fares.disc, .int .i64 t.fares.within, .int .i64 t.fares.cap] : List Value), v.oneCell' = true := by simp [Value.oneCell']
      have hws : wA.heap.size = (wA.setCells bk 0 [.slice d0 t.stops.length dk0, .slice d1 t.routes.length dk1, .slice d2 t.cals.length dk2, .slice d3 t.excs.length dk3, .slice d4 us.length dk4, .slice d5 t.freqs.length dk5, .slice d6 t.thrus.length dk6, .slice d7 t.guars.length dk7, .slice d8 t.paths.length dk8, .slice d9 t.fares.prods.length dk9, .int .i64 t.fares.disc, .int .i64 t.fares.within, .int .i64 t.fares.cap]).heap.size := by rw [← puts_cells]; exact (puts_size _ _ _ _).symm
      rw [hws] at RX
      clear hC hws
      refine wpAnyH_ready (rs := [16]) (by kernel_rfl) (by simp) ?_
      refine (AllReadyH.cons (by rfl) ?_ AllReadyH.nil)
      intro KK hKK
      rw [if_pos (by kernel_rfl)]
      refine wp_store_mid _ _ _ rfl _ _ (List.toArray _) rfl rfl hth hinf (all_oneCell_toArray hone) ?_
      simp only [Act.put]
      clear hHeld
      refine hKK.out _ _ trivial (fun hHeld => ?_)
      clear hKK KK hth hinf hone RA3 BK bA
      try simp only [List.getElem_toArray, List.getElem_cons_succ, List.getElem_cons_zero]
      refine takeA 17 ?_
      try simp only [Act.put, List.getElem_toArray, List.getElem_cons_succ, List.getElem_cons_zero, List.setIfInBounds_toArray, List.set_cons_succ, List.set_cons_zero]
      refine takeA 18 ?_
      try simp only [Act.put, List.getElem_toArray, List.getElem_cons_succ, List.getElem_cons_zero, List.setIfInBounds_toArray, List.set_cons_succ, List.set_cons_zero]
      generalize wA.setCells bk 0 [.slice d0 t.stops.length dk0, .slice d1 t.routes.length dk1, .slice d2 t.cals.length dk2, .slice d3 t.excs.length dk3, .slice d4 us.length dk4, .slice d5 t.freqs.length dk5, .slice d6 t.thrus.length dk6, .slice d7 t.guars.length dk7, .slice d8 t.paths.length dk8, .slice d9 t.fares.prods.length dk9, .int .i64 t.fares.disc, .int .i64 t.fares.within, .int .i64 t.fares.cap] = WX at WB WK RX hHeld ⊢
      refine wpAnyH_done (by kernel_rfl) ?_ _
      try change Exit.then _ _ .normal _ WX
      clear hHeld
      have ra := (R2.out.bl WB.out (by have := S2.out; omega)).up (Nat.le_trans (show w1.heap.size ≤ w2.heap.size by have := S2.out; omega) WB.out.size)
      have he := equal_c _ _ ts us t WX.heap.size WX ra RX.out (Nat.le_refl _)
      unfold ttV at he
      clear ra RX
      obtain ⟨p0, p1, p2, p3, p4, p5, p6, p7, p8, p9, p10, p11, p12⟩ := tt_cells (blk_bl A2.out WB.out)
      obtain ⟨q0, q1, q2, q3, q4, q5, q6, q7, q8, q9, q10, q11, q12⟩ := tt_cells WK.out
      have hx := fun W (hb : Bl WX W) => exHolds_c m W (E2.out.bl (bl_next WB.out hb))
      have BX := Lib.hid (bl_next B2.out WB.out)
      clear WB WK hbk
      by_cases hgt : n < k
      · obtain rfl : k + 1 = k2 := by rw [← HK2.out, if_pos hgt]
        clear HK2
        go_wp2_with (go_at_call 12; refine he.mono ?_)
        first | rintro y5 w5 rfl b5 | rintro y5 w5 ⟨rfl, b5⟩
        have hxx := hx w5 b5
        have B5 := Lib.hid (bl_next BX.out b5)
        clear b5 hx he p0 p1 p2 p3 p4 p5 p6 p7 p8 p9 p10 p11 p12 q0 q1 q2 q3 q4 q5 q6 q7 q8 q9 q10 q11 q12
        go_wp2_with (go_at_call 9; refine hxx.mono ?_)
        first | rintro y6 w6 rfl b6 | rintro y6 w6 ⟨rfl, b6⟩
        go_wp2
        go_ret
        exact ⟨rfl, bl_next B5.out b6⟩
      · obtain rfl : k = k2 := by rw [← HK2.out, if_neg hgt]
        clear HK2
        go_wp2_with (go_at_call 12; refine he.mono ?_)
        first | rintro y5 w5 rfl b5 | rintro y5 w5 ⟨rfl, b5⟩
        have hxx := hx w5 b5
        have B5 := Lib.hid (bl_next BX.out b5)
        clear b5 hx he p0 p1 p2 p3 p4 p5 p6 p7 p8 p9 p10 p11 p12 q0 q1 q2 q3 q4 q5 q6 q7 q8 q9 q10 q11 q12
        go_wp2_with (go_at_call 9; refine hxx.mono ?_)
        first | rintro y6 w6 rfl b6 | rintro y6 w6 ⟨rfl, b6⟩
        go_wp2
        go_ret
        exact ⟨rfl, bl_next B5.out b6⟩
end Go.Proofs.YtakedkcjplfgeaaGreatDoor
