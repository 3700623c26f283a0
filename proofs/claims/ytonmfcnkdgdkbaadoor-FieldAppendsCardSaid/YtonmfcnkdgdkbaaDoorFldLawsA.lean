/-
  THE LAWS OF FIELD, FIRST PART: small, exampleHolds. Conditions: those of each contract.
-/
import Derived.Test.YtonmfcnkdgdkbaaDoorFldWalksO
namespace Go.Proofs.YtonmfcnkdgdkbaaDoor
open Go.RowKit
open Fld

/-- bytealg.MaxLen stands in the first block. -/
def Ml (m : Int) (w : World) : Prop := w.cell? ⟨0, 0, none⟩ = some (.int .i64 m)
theorem ml_next {m : Int} {w w1 : World} (h : Ml m w) (b : Bl w w1) : Ml m w1 := cell0_bl h b
/-- A slice of strings that has just been laid. -/
theorem strs_new (w : World) (l : List (List UInt8)) (C : Array Value) (hC : C = (l.map str).toArray) (n : Nat) (hn : l.length = n) (h1 : n ≤ 1000) : StrsIn (w.alloc (.cells C 9)).heap.size (w.alloc (.cells C 9)) (.slice (some ⟨w.heap.size, 0, none⟩) n n) l := by
  subst hC
  refine ⟨some ⟨w.heap.size, 0, none⟩, n, by rw [hn], by omega, by unfold maxLen; omega, fun _ => ⟨w.heap.size, 0, rfl, by simp, fun i x hx j u hu => ?_⟩⟩
  match j, hu with
  | 0, hu =>
    cases hu
    rw [show 0 + i * 1 + 0 = i by omega, World.cell?_alloc_at (hn := rfl)]
    simp [hx]
  | j + 1, hu => simp at hu
theorem StrsIn.out {B : Nat} {w w' : World} {v : Value} {l : List (List UInt8)} (h : StrsIn B w v l) (hb : Bl w w') (hB : B ≤ w.heap.size) : StrsIn B w' v l := SlIn.below h (hb.mono hB)
def smallS (l : List (List UInt8)) : Bool := decide (l.length ≤ 100) && l.all fun x => decide (x.length ≤ 4096)
theorem small_no {l : List (List UInt8)} {k : Nat} {x : List UInt8} (h : l[k]? = some x) (h1 : 4096 < x.length) : smallS l = false := by
  unfold smallS
  rw [Bool.and_eq_false_iff]
  right
  rw [Bool.eq_false_iff]
  intro hc
  have := List.all_eq_true.1 hc x (List.mem_of_getElem? h)
  simp at this
  omega
theorem small_yes {l : List (List UInt8)} (h0 : l.length ≤ 100) (h : ∀ (j : Nat) (x : List UInt8), l[j]? = some x → x.length ≤ 4096) : smallS l = true := by
  unfold smallS
  rw [decide_eq_true h0, Bool.true_and, List.all_eq_true]
  intro x hx
  obtain ⟨j, hj⟩ := List.getElem?_of_mem hx
  exact decide_eq_true (h j x hj)
theorem small_facts {l : List (List UInt8)} (h : smallS l = true) : l.length ≤ 100 ∧ ∀ x ∈ l, x.length ≤ 4096 := by
  unfold smallS at h
  rw [Bool.and_eq_true, decide_eq_true_eq, List.all_eq_true] at h
  exact ⟨h.1, fun x hx => of_decide_eq_true (h.2 x hx)⟩
set_option maxHeartbeats 4000000 in
theorem small_c (v : Value) (l : List (List UInt8)) (r : Bool) (H : Hid (smallS l = r)) (B : Nat) (w : World) (hv : StrsIn B w v l) :
    Calls Tryd.prog 18 #[v] w fun e w' => e = .returned (.bool r) ∧ Bl w w' := by
  by_cases h0 : 0 < l.length
  · obtain ⟨b1, o1, cap1, rfl, l1, m1, hb1, hc1⟩ := hv.open h0
    have H1 := Lib.hid hc1
    clear hv hc1
    by_cases hbig : 100 < l.length
    · have HF := Lib.hid (show r = false by rw [← H.out]; unfold smallS; rw [decide_eq_false (by omega)]; rfl)
      go_enter Tryd.func18, Tryd.ntmps18
      go_wp2
      go_ret
      exact ⟨ret_bool HF.out.symm, bl_refl _⟩
    go_enter Tryd.func18, Tryd.ntmps18
    go_wp2
    go_loop [3] (fun i => ∃ k : Nat, k ≤ l.length ∧ i = .int .i64 k ∧ Hid (∀ (j : Nat) (x : List UInt8), j < k → l[j]? = some x → x.length ≤ 4096)) (fun i => l.length - (intOf i).toNat)
    case atStart => exact ⟨0, Nat.zero_le _, rfl, fun j x hj => absurd hj (by omega)⟩
    case round =>
      obtain ⟨k, hk, rfl, HK⟩ := hrel
      by_cases hlt : k < l.length
      · obtain ⟨x, hx⟩ : ∃ x, l[k]? = some x := ⟨_, List.getElem?_eq_getElem hlt⟩
        obtain ⟨s, rfl⟩ : ∃ s : ByteArray, s.data.toList = x := ⟨⟨x.toArray⟩, rfl⟩
        have hsx := len_bytes s
        have c1 : w.cell? ⟨b1, o1 + k, none⟩ = some (.string s) := by have := H1.out k _ hx 0 _ rfl; simpa using this
        have i1 : (k : Int) < (l.length : Int) := by omega
        by_cases hbs : 4096 < s.size
        · have HF := Lib.hid (show r = false by rw [← H.out]; exact small_no hx (by omega))
          clear hx
          go_wp2
          go_ret
          exact ⟨ret_bool HF.out.symm, bl_refl _⟩
        · have HM := Lib.hid (show ∀ (j : Nat) (x : List UInt8), j < k + 1 → l[j]? = some x → x.length ≤ 4096 from fun j x hj hjx => by
            by_cases e : j = k
            · rw [e, hx] at hjx; cases hjx; omega
            · exact HK.out j x (by omega) hjx)
          clear hx
          go_wp2
          go_round
          case rel => exact ⟨k + 1, by omega, by go_num, HM⟩
          case measure => simp [intOf]; omega
      · have HF := Lib.hid (show r = true by
          rw [← H.out]
          exact small_yes (by omega) fun j x hjx => HK.out j x (by have := (List.getElem?_eq_some_iff.1 hjx).1; omega) hjx)
        go_wp2
        go_ret
        exact ⟨ret_bool HF.out.symm, bl_refl _⟩
  · obtain ⟨a1, c1, rfl, m1, rfl⟩ := hv.empty (by omega)
    have HF := Lib.hid (show r = true by rw [← H.out]; rfl)
    clear hv
    go_enter Tryd.func18, Tryd.ntmps18
    go_wp2_with fail
    refine wp_loop_rounds 1 ?_
    rw [rounds_succ]
    go_wp2
    go_ret
    exact ⟨ret_bool HF.out.symm, bl_refl _⟩
set_option maxHeartbeats 8000000 in
theorem example_c (m : Int) (w : World) (hm : Ml m w) : Calls Tryd.prog 12 #[] w fun r w' => r = .returned (.bool true) ∧ Bl w w' := by
  have R1 := Lib.hid (show joinR [[65], [44]] = ([65, 44, 34, 44, 34], 0) by decide +kernel)
  have R2 := Lib.hid (show splitS [97, 44] = ([], 3) by decide +kernel)
  have R3 := Lib.hid (show linesS [97, 10, 10] = ([[97], []], 0) by decide +kernel)
  have R4 := Lib.hid (show linesS [97] = ([], 4) by decide +kernel)
  have R5 := Lib.hid (show quoteS [97, 32, 98] = [97, 32, 98] by decide +kernel)
  have R6 := Lib.hid (show quoteS [] = [34, 34] by decide +kernel)
  have R7 := Lib.hid (show quoteS [97, 10] = [34, 97, 92, 120, 48, 97, 34] by decide +kernel)
  have HM := Lib.hid hm
  clear hm
  go_enter Tryd.func12, Tryd.ntmps12
  go_wp2_with fail
  refine (join_c _ [[65], [44]] _ _ R1 (by intro x hx; simp at hx; rcases hx with rfl | rfl <;> decide) _ _ (strs_new w [[65], [44]] _ rfl 2 rfl (by decide)) (Nat.le_refl _)).mono ?_
  rintro e w1 ⟨rfl, b1⟩
  have B1 := Lib.hid (bl_next (bl_alloc (bl_refl w) _) b1)
  clear b1
  go_wp2_with fail
  refine (split_c ⟨#[97, 44]⟩ (by decide) _ _ R2 _).mono ?_
  rintro e w2 ⟨v2, rfl, o2, b2⟩
  have B2 := Lib.hid (bl_next B1.out b2)
  clear o2 b2
  go_wp2_with fail
  refine (lines_c ⟨#[97, 10, 10]⟩ (by decide) m _ _ R3 _ (ml_next HM.out B2.out)).mono ?_
  rintro e w3 ⟨v3, rfl, s3, b3⟩
  have B3 := Lib.hid (bl_next B2.out b3)
  have S3 := Lib.hid s3
  clear s3 b3
  go_wp2_with fail
  refine (lines_c ⟨#[97]⟩ (by decide) m _ _ R4 _ (ml_next HM.out B3.out)).mono ?_
  rintro e w4 ⟨v4, rfl, s4, b4⟩
  have B4 := Lib.hid (bl_next B3.out b4)
  have S4 := Lib.hid (S3.out.out b4 (Nat.le_refl _))
  have Z4 := Lib.hid b4.size
  clear s4 b4
  go_wp2_with fail
  refine (quote_c ⟨#[97, 32, 98]⟩ _ R5 (by decide) _).mono ?_
  rintro e w5 ⟨rfl, b5⟩
  have B5 := Lib.hid (bl_next B4.out b5)
  go_wp2_with fail
  refine (quote_c ⟨#[]⟩ _ R6 (by decide) _).mono ?_
  rintro e w6 ⟨rfl, b6⟩
  have B6 := Lib.hid (bl_next B5.out b6)
  have S6 := Lib.hid (bl_next b5 b6)
  clear b5 b6
  go_wp2_with fail
  refine (quote_c ⟨#[97, 10]⟩ _ R7 (by decide) _).mono ?_
  rintro e w7 ⟨rfl, b7⟩
  have B7 := Lib.hid (bl_next B6.out b7)
  have S7 := Lib.hid (S4.out.out (bl_next S6.out b7) (by have := Z4.out; omega))
  have Z7 := Lib.hid (Nat.le_trans Z4.out (bl_next S6.out b7).size)
  clear b7
  go_wp2_with fail
  refine (same_c _ _ [[97], []] _ _ ((S7.out.out (bl_alloc (bl_refl _) _) (by have := Z7.out; omega)).mono (by have := Z7.out; simp; omega)) (strs_new w7 [[97], []] _ rfl 2 rfl (by decide)) (Nat.le_refl _)).mono ?_
  rintro e w8 ⟨rfl, b8⟩
  go_wp2
  go_ret
  exact ⟨rfl, bl_next B7.out (bl_next (bl_alloc (bl_refl _) _) b8)⟩
end Go.Proofs.YtonmfcnkdgdkbaaDoor
