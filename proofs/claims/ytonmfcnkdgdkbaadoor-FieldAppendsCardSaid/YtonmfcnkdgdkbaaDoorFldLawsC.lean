/-
  THE LAWS OF FIELD, THIRD PART: Safe, Texts, RoundTrip, Appends. Conditions: those of each contract.
-/
import Derived.Test.YtonmfcnkdgdkbaaDoorFldLawsB
import Derived.Test.YtonmfcnkdgdkbaaDoorFldPlain5
namespace Go.Proofs.YtonmfcnkdgdkbaaDoor
open Go.RowKit
open Fld

set_option maxHeartbeats 4000000 in
theorem safe_law (s : ByteArray) (hs : s.size ≤ maxLen) (m : Int) (w : World) (hm : Ml m w) :
    Calls Tryd.prog 5 #[.string s] w fun e w' => e = .returned (.bool true) ∧ Bl w w' := by
  unfold maxLen at hs
  by_cases hbig : 4096 < s.size
  · go_enter Tryd.func5, Tryd.ntmps5
    go_wp2_with fail
    refine (example_c m _ hm).mono ?_
    rintro e w1 ⟨rfl, b1⟩
    go_wp2
    go_ret
    exact ⟨rfl, b1⟩
  · have hsl := len_bytes s
    obtain ⟨q, hq⟩ : ∃ q : ByteArray, q.data.toList = quoteS s.data.toList := ⟨⟨(quoteS s.data.toList).toArray⟩, rfl⟩
    have hql := len_bytes q
    have hqb : q.size ≤ 16386 := by rw [← hql, hq]; have := (quote_len s.data.toList).2; omega
    have HQ := Lib.hid hq.symm
    have HN := Lib.hid (show ∀ k (h : k < q.size), ctl (q[k]'h) = false from fun k h => by
      refine quote_noctl s.data.toList _ ?_
      rw [← hq]
      exact List.mem_of_getElem? (bytes_get? q k h))
    have HU := Lib.hid (show unqR (unquoteS q.data.toList) = (s.data.toList, 0) by rw [hq, unq_quote]; rfl)
    have HS := Lib.hid (show splitS q.data.toList = ([s.data.toList], 0) by rw [hq]; exact split_one _ (by rw [← hq, hql]; omega))
    have hqc : ∀ w, Calls Tryd.prog 13 #[.string s] w fun e w' => e = .returned (.string q) ∧ Bl w w' := fun w => quote_c s _ HQ (by omega) w
    have huc : ∀ w, Calls Tryd.prog 15 #[.string q] w fun e w' => e = .returned (.tuple #[.string s, .int .i64 0]) ∧ Bl w w' := fun w => unquote_c q (by omega) _ _ HU w
    clear hq
    go_enter Tryd.func5, Tryd.ntmps5
    go_wp2_with fail
    refine (hqc _).mono ?_
    rintro e w1 ⟨rfl, b1⟩
    go_wp2_with fail
    go_loopw [4] (fun i wr => ∃ k : Nat, k ≤ q.size ∧ i = .int .i64 k ∧ Bl w wr) (fun i _ => q.size - (intOf i).toNat)
    case atStart => exact ⟨0, Nat.zero_le _, rfl, b1⟩
    case round =>
      obtain ⟨k, hk, rfl, hb⟩ := hrel
      by_cases hlt : k < q.size
      · have hc : ¬ (((q[k]'hlt).toNat : Int) < 32 ∨ ((q[k]'hlt).toNat : Int) = 127) := fun e => by
          have := (ctl_int _).1 e
          rw [HN.out k hlt] at this
          cases this
        have h1 : ¬ ((q[k]'hlt).toNat : Int) < 32 := fun e => hc (.inl e)
        have h2 : ¬ ((q[k]'hlt).toNat : Int) = 127 := fun e => hc (.inr e)
        clear hc
        go_wp2
        go_roundw
        case rel => exact ⟨k + 1, by omega, by go_num, hb⟩
        case measure => simp [intOf]; omega
      · go_wp2_with fail
        refine (huc _).mono ?_
        rintro e w2 ⟨rfl, b2⟩
        have B2 : Hid (Bl w w2) := bl_next hb b2
        go_wp2_with fail
        refine (split_c q (by omega) _ _ HS _).mono ?_
        rintro e w3 ⟨v3, rfl, o3, b3⟩
        have B3 : Hid (Bl w w3) := bl_next B2.out b3
        obtain ⟨bb, oo, cc, y, rfl, l1, l2, l3, hy, hcell⟩ := SlIn.at (ownS_in o3) (k := 0) (Nat.zero_lt_succ _)
        have hc0 : w3.cell? ⟨bb, oo, none⟩ = some (.string s) := by
          have hy' : s.data.toList = y := by simpa using hy
          subst hy'
          have := hcell 0 _ rfl
          simpa using this
        have l2' : cc ≤ 9223372036854775807 := by unfold maxLen at l2; omega
        clear o3 hcell hy b2 b3 hqc huc
        go_wp2_with fail
        refine (example_c m _ (ml_next hm B3.out)).mono ?_
        rintro e w4 ⟨rfl, b4⟩
        go_wp2
        go_ret
        exact ⟨rfl, bl_next B3.out b4⟩
set_option maxHeartbeats 4000000 in
theorem texts_law (v : Value) (l : List (List UInt8)) (B : Nat) (m : Int) (w : World) (hm : Ml m w) (hv : StrsIn B w v l) (hB : B ≤ w.heap.size) :
    Calls Tryd.prog 11 #[v] w fun e w' => e = .returned (.bool true) ∧ Bl w w' := by
  obtain ⟨r, hr⟩ : ∃ r, smallS l = r := ⟨_, rfl⟩
  have HR := Lib.hid hr
  have HV := Lib.hid hv
  clear hr
  cases r with
  | false =>
    go_enter Tryd.func11, Tryd.ntmps11
    go_wp2_with fail
    refine (small_c v l _ HR B w hv).mono ?_
    rintro e w1 ⟨rfl, b1⟩
    go_wp2_with fail
    refine (example_c m _ (ml_next hm b1)).mono ?_
    rintro e w2 ⟨rfl, b2⟩
    go_wp2
    go_ret
    exact ⟨rfl, bl_next b1 b2⟩
  | true =>
    have HL := Lib.hid (show ∀ x ∈ l, x.length ≤ 131072 from fun x hx => by have := (small_facts HR.out).2 x hx; omega)
    have HT := Lib.hid (show (textL l).length ≤ 34359738368 by have h1 := textL_bound l (small_facts HR.out).2; have h2 := (small_facts HR.out).1; omega)
    obtain ⟨o, f, hq⟩ : ∃ o f, textS l = (o, f) := ⟨_, _, rfl⟩
    have HQ := Lib.hid hq
    have hol := textS_len hq
    have HI := Lib.hid (show f = 0 → linesS o = (l, 0) from fun h => by rw [h] at hq; exact lines_text hq)
    have qq : (o == o) = true := by simp
    have ff : (f == f) = true := by simp
    have ff' : (f != f) = false := by simp
    clear hq
    go_enter Tryd.func11, Tryd.ntmps11
    go_wp2_with fail
    refine (small_c v l _ HR B w hv).mono ?_
    rintro e w1 ⟨rfl, b1⟩
    clear hv
    have z1 := b1.size
    go_wp2_with fail
    refine (text_c v l o f HQ HL B w1 (HV.out.out b1 hB) (by omega)).mono ?_
    rintro e w2 ⟨rfl, b2⟩
    have b12 := bl_next b1 b2
    have z2 := b12.size
    go_wp2_with fail
    refine (rtext_c v l o f HQ HT B w2 (HV.out.out b12 hB) (by omega)).mono ?_
    rintro e w3 ⟨rfl, b3⟩
    have b13 := bl_next b12 b3
    have z3 := b13.size
    by_cases hf : f = 0
    · have HW := Lib.hid (HI.out hf)
      have hsz : (⟨o.toArray⟩ : ByteArray).size ≤ 4294967280 := by show o.toArray.size ≤ _; rw [List.size_toArray]; omega
      have hlc := lines_c ⟨o.toArray⟩ hsz m l 0 HW w3 (ml_next hm b13)
      subst hf
      go_wp2_with fail
      refine hlc.mono ?_
      rintro e w4 ⟨v4, rfl, s4, b4⟩
      have b14 := bl_next b13 b4
      have z4 := b14.size
      clear hlc
      go_wp2_with fail
      refine (same_c _ _ l _ _ s4 ((HV.out.out b14 hB).mono (by omega)) (Nat.le_refl _)).mono ?_
      rintro e w5 ⟨rfl, b5⟩
      have b15 := bl_next b14 b5
      go_wp2_with fail
      refine (example_c m _ (ml_next hm b15)).mono ?_
      rintro e w6 ⟨rfl, b6⟩
      go_wp2
      go_ret
      exact ⟨rfl, bl_next b15 b6⟩
    · have f0 : (f != 0) = true := by rw [bne_iff_ne]; exact hf
      go_wp2_with fail
      refine (example_c m _ (ml_next hm b13)).mono ?_
      rintro e w4 ⟨rfl, b4⟩
      go_wp2
      go_ret
      exact ⟨rfl, bl_next b13 b4⟩
end Go.Proofs.YtonmfcnkdgdkbaaDoor
