/-
  THE LAWS OF FIELD, FOURTH PART: RoundTrip, Appends. Conditions: those of each contract.
-/
import Derived.Test.YtonmfcnkdgdkbaaDoorFldLawsC
namespace Go.Proofs.YtonmfcnkdgdkbaaDoor
open Go.RowKit
open Fld

set_option maxHeartbeats 4000000 in
theorem round_law (v : Value) (l : List (List UInt8)) (s : ByteArray) (hs : s.size ≤ maxLen) (B : Nat) (m : Int) (w : World) (hm : Ml m w) (hv : StrsIn B w v l) (hB : B ≤ w.heap.size) :
    Calls Tryd.prog 9 #[v, .string s] w fun e w' => e = .returned (.bool true) ∧ Bl w w' := by
  unfold maxLen at hs
  obtain ⟨r, hr⟩ : ∃ r, smallS l = r := ⟨_, rfl⟩
  have HR := Lib.hid hr
  have HV := Lib.hid hv
  have hsl := len_bytes s
  clear hr
  cases r with
  | false =>
    go_enter Tryd.func9, Tryd.ntmps9
    go_wp2_with fail
    refine (small_c v l _ HR B w hv).mono ?_
    rintro e w1 ⟨rfl, b1⟩
    go_wp2_with fail
    refine (example_c m _ (ml_next hm b1)).mono ?_
    rintro e w2 ⟨rfl, b2⟩
    go_wp2
    go_ret
    exact ⟨rfl, bl_next b1 b2⟩
  | true =>
    by_cases hbig : 16384 < s.size
    · go_enter Tryd.func9, Tryd.ntmps9
      go_wp2_with fail
      refine (small_c v l _ HR B w hv).mono ?_
      rintro e w1 ⟨rfl, b1⟩
      go_wp2_with fail
      refine (example_c m _ (ml_next hm b1)).mono ?_
      rintro e w2 ⟨rfl, b2⟩
      go_wp2
      go_ret
      exact ⟨rfl, bl_next b1 b2⟩
    have HL := Lib.hid (show ∀ x ∈ l, x.length ≤ 131072 from fun x hx => by have := (small_facts HR.out).2 x hx; omega)
    obtain ⟨o, f, hq⟩ : ∃ o f, joinR l = (o, f) := ⟨_, _, rfl⟩
    have HQ := Lib.hid hq
    have hol := joinR_len hq
    have HI := Lib.hid (show f = 0 → splitS o = (l, 0) from fun h => by rw [h] at hq; exact split_join hq)
    obtain ⟨l1, f1, hq1⟩ : ∃ l1 f1, splitS o = (l1, f1) := ⟨_, _, rfl⟩
    have HQ1 := Lib.hid hq1
    obtain ⟨l2, f2, hq2⟩ : ∃ l2 f2, splitS s.data.toList = (l2, f2) := ⟨_, _, rfl⟩
    have HQ2 := Lib.hid hq2
    have HL2 := Lib.hid (show ∀ x ∈ l2, x.length ≤ 131072 from fun x hx => by have := splitS_len hq2 x hx; omega)
    obtain ⟨o3, f3, hq3⟩ : ∃ o3 f3, joinR l2 = (o3, f3) := ⟨_, _, rfl⟩
    have HQ3 := Lib.hid hq3
    have HJ := Lib.hid (show f2 = 0 → o3 = s.data.toList ∧ f3 = 0 from fun h => by
      rw [h] at hq2
      have := join_split hq2
      rw [hq3] at this
      exact Prod.mk.inj this)
    clear hq hq1 hq2 hq3
    have hsz : (⟨o.toArray⟩ : ByteArray).size ≤ 34359738368 := by show o.toArray.size ≤ _; rw [List.size_toArray]; omega
    have hspl : ∀ w, Calls Tryd.prog 17 #[str o] w fun r w' => ∃ v, r = .returned (.tuple #[v, .int .i64 f1]) ∧ OwnS w.heap.size v l1 w' ∧ Bl w w' := fun w => split_c ⟨o.toArray⟩ hsz l1 f1 HQ1 w
    go_enter Tryd.func9, Tryd.ntmps9
    go_wp2_with fail
    refine (small_c v l _ HR B w hv).mono ?_
    rintro e w1 ⟨rfl, b1⟩
    clear hv
    have z1 := b1.size
    go_wp2_with fail
    refine (join_c v l o f HQ HL B w1 (HV.out.out b1 hB) (by omega)).mono ?_
    rintro e w2 ⟨rfl, b2⟩
    have b12 := bl_next b1 b2
    have z2 := b12.size
    go_wp2_with fail
    refine (hspl _).mono ?_
    rintro e w3 ⟨v3, rfl, own3, b3⟩
    have b13 := bl_next b12 b3
    have z3 := b13.size
    have S3 := Lib.hid (ownS_in own3)
    clear own3
    by_cases hf : f = 0
    · have hl1 := HQ1.out.symm.trans (HI.out hf)
      obtain ⟨e1, e2⟩ := Prod.mk.inj hl1
      subst hf
      clear hl1
      subst e1 e2
      go_wp2_with fail
      refine (same_c _ _ l1 _ _ S3.out ((HV.out.out b13 hB).mono (by omega)) (Nat.le_refl _)).mono ?_
      rintro e w4 ⟨rfl, b4⟩
      have b14 := bl_next b13 b4
      go_wp2_with fail
      refine (split_c s (by omega) l2 f2 HQ2 _).mono ?_
      rintro e w5 ⟨v5, rfl, own5, b5⟩
      have b15 := bl_next b14 b5
      go_wp2_with fail
      refine (join_c v5 l2 o3 f3 HQ3 HL2 _ w5 (ownS_in own5) (Nat.le_refl _)).mono ?_
      rintro e w6 ⟨rfl, b6⟩
      have b16 := bl_next b15 b6
      clear own5
      by_cases hf2 : f2 = 0
      · obtain ⟨e1, e2⟩ := HJ.out hf2
        have hbe : (o3 == s.toList) = true := by rw [beq_iff_eq, ByteArray.toList_eq]; exact e1
        subst hf2 e2
        clear e1
        go_wp2_with fail
        refine (example_c m _ (ml_next hm b16)).mono ?_
        rintro e w7 ⟨rfl, b7⟩
        go_wp2
        go_ret
        exact ⟨rfl, bl_next b16 b7⟩
      · have g0 : (f2 != 0) = true := by rw [bne_iff_ne]; exact hf2
        go_wp2_with fail
        refine (example_c m _ (ml_next hm b16)).mono ?_
        rintro e w7 ⟨rfl, b7⟩
        go_wp2
        go_ret
        exact ⟨rfl, bl_next b16 b7⟩
    · have g1 : (f == 0) = false := by rw [beq_eq_false_iff_ne]; exact hf
      go_wp2_with fail
      refine (split_c s (by omega) l2 f2 HQ2 _).mono ?_
      rintro e w5 ⟨v5, rfl, own5, b5⟩
      have b15 := bl_next b13 b5
      go_wp2_with fail
      refine (join_c v5 l2 o3 f3 HQ3 HL2 _ w5 (ownS_in own5) (Nat.le_refl _)).mono ?_
      rintro e w6 ⟨rfl, b6⟩
      have b16 := bl_next b15 b6
      clear own5
      by_cases hf2 : f2 = 0
      · obtain ⟨e1, e2⟩ := HJ.out hf2
        have hbe : (o3 == s.toList) = true := by rw [beq_iff_eq, ByteArray.toList_eq]; exact e1
        subst hf2 e2
        clear e1
        go_wp2_with fail
        refine (example_c m _ (ml_next hm b16)).mono ?_
        rintro e w7 ⟨rfl, b7⟩
        go_wp2
        go_ret
        exact ⟨rfl, bl_next b16 b7⟩
      · have g0 : (f2 != 0) = true := by rw [bne_iff_ne]; exact hf2
        go_wp2_with fail
        refine (example_c m _ (ml_next hm b16)).mono ?_
        rintro e w7 ⟨rfl, b7⟩
        go_wp2
        go_ret
        exact ⟨rfl, bl_next b16 b7⟩
/-! ### Appends -/
theorem flat_strs : ∀ l : List (List UInt8), l.flatMap strCells = l.map str
  | [] => rfl
  | x :: l => by rw [List.flatMap_cons, List.map_cons, flat_strs l]; rfl
theorem news_of {b o : Nat} {l : List (List UInt8)} {w : World} (h : ∀ (i : Nat) (x : List UInt8), l[i]? = some x → ∀ (j : Nat) (u : Value), (strCells x)[j]? = some u → w.cell? ⟨b, o + i * 1 + j, none⟩ = some u) :
    ∀ (j : Nat) (u : Value), (l.flatMap strCells)[j]? = some u → w.cell? ((⟨b, o, none⟩ : Addr).add j) = some u := by
  intro j u hu
  rw [flat_strs, List.getElem?_map] at hu
  obtain ⟨x, hx, rfl⟩ := Option.map_eq_some_iff.1 hu
  have := h j x hx 0 _ rfl
  unfold Addr.add
  split
  · rename_i k; rw [show o + j * 1 + 0 = o by omega] at this; exact this
  · rw [show o + j * 1 + 0 = o + j by omega] at this; exact this
theorem flat_one (l : List (List UInt8)) : ∀ u ∈ l.flatMap strCells, u.oneCell' = true := by
  intro u hu
  rw [flat_strs] at hu
  obtain ⟨x, -, rfl⟩ := List.mem_map.1 hu
  rfl
set_option maxHeartbeats 4000000 in
theorem appends_law (va vb : Value) (a b : List (List UInt8)) (B : Nat) (m : Int) (w : World) (hm : Ml m w) (hva : StrsIn B w va a) (hvb : StrsIn B w vb b) (hB : B ≤ w.heap.size) :
    Calls Tryd.prog 10 #[va, vb] w fun e w' => e = .returned (.bool true) ∧ Bl w w' := by
  obtain ⟨i0, hi, hz0, hz1, hz2⟩ := info_parts info_str
  obtain ⟨r, hr⟩ : ∃ r, smallS a = r := ⟨_, rfl⟩
  have HR := Lib.hid hr
  clear hr
  cases r with
  | false =>
    go_enter Tryd.func10, Tryd.ntmps10
    go_wp2_with fail
    refine (small_c va a _ HR B w hva).mono ?_
    rintro e w1 ⟨rfl, b1⟩
    go_wp2_with fail
    refine (example_c m _ (ml_next hm b1)).mono ?_
    rintro e wz ⟨rfl, bz⟩
    go_wp2
    go_ret
    exact ⟨rfl, bl_next b1 bz⟩
  | true =>
    obtain ⟨rb, hrb⟩ : ∃ rb, smallS b = rb := ⟨_, rfl⟩
    have HS := Lib.hid hrb
    clear hrb
    cases rb with
    | false =>
      go_enter Tryd.func10, Tryd.ntmps10
      go_wp2_with fail
      refine (small_c va a _ HR B w hva).mono ?_
      rintro e w1 ⟨rfl, b1⟩
      go_wp2_with fail
      refine (small_c vb b _ HS B w1 (hvb.out b1 hB)).mono ?_
      rintro e w2 ⟨rfl, b2⟩
      have b12 := bl_next b1 b2
      go_wp2_with fail
      refine (example_c m _ (ml_next hm b12)).mono ?_
      rintro e wz ⟨rfl, bz⟩
      go_wp2
      go_ret
      exact ⟨rfl, bl_next b12 bz⟩
    | true =>
      by_cases ha0 : 0 < a.length
      · obtain ⟨ba, oa, ca, rfl, la1, la2, la3, hca⟩ := hva.open ha0
        have HA := Lib.hid hca
        have HVA := Lib.hid hva
        have iz : ((a.length : Int) == 0) = false := by rw [beq_eq_false_iff_ne]; omega
        clear hca
        by_cases hb0 : 0 < b.length
        · obtain ⟨bb, ob, cb, rfl, lb1, lb2, lb3, hcb⟩ := hvb.open hb0
          have HB := Lib.hid hcb
          have HVB := Lib.hid hvb
          have iz' : ((b.length : Int) == 0) = false := by rw [beq_eq_false_iff_ne]; omega
          have hal := (small_facts HR.out).1
          have hbl := (small_facts HS.out).1
          have HLA := Lib.hid (show ∀ x ∈ a, x.length ≤ 131072 from fun x hx => by have := (small_facts HR.out).2 x hx; omega)
          have HLB := Lib.hid (show ∀ x ∈ b, x.length ≤ 131072 from fun x hx => by have := (small_facts HS.out).2 x hx; omega)
          have HLL := Lib.hid (show ∀ x ∈ a ++ b, x.length ≤ 131072 from fun x hx => by
            rcases List.mem_append.1 hx with h | h
            · exact HLA.out x h
            · exact HLB.out x h)
          obtain ⟨p1, f1, hq1⟩ : ∃ p1 f1, joinR a = (p1, f1) := ⟨_, _, rfl⟩
          obtain ⟨p2, f2, hq2⟩ : ∃ p2 f2, joinR b = (p2, f2) := ⟨_, _, rfl⟩
          obtain ⟨p3, f3, hq3⟩ : ∃ p3 f3, joinR (a ++ b) = (p3, f3) := ⟨_, _, rfl⟩
          have hp1 := joinR_len hq1
          have hp2 := joinR_len hq2
          have HQ1 := Lib.hid hq1
          have HQ2 := Lib.hid hq2
          have HQ3 := Lib.hid hq3
          have HJ := Lib.hid (show f3 = 0 → f1 = 0 ∧ f2 = 0 ∧ p3 = p1 ++ 44 :: p2 from fun h => by
            rw [h] at hq3
            obtain ⟨j1, j2, j3⟩ := join_append (fun e => by rw [e] at ha0; simp at ha0) (fun e => by rw [e] at hb0; simp at hb0) hq3
            rw [hq1] at j1
            rw [hq2] at j2
            obtain ⟨k1, k2⟩ := Prod.mk.inj j1
            obtain ⟨k3, k4⟩ := Prod.mk.inj j2
            exact ⟨k2, k4, by rw [k1, k3]; exact j3⟩)
          clear hq1 hq2 hq3
          obtain ⟨l, hl⟩ : ∃ l, a ++ b = l := ⟨_, rfl⟩
          rw [hl] at HQ3 HLL
          have HAB := Lib.hid hl
          clear hl
          go_enter Tryd.func10, Tryd.ntmps10
          go_wp2_with fail
          refine (small_c _ _ _ HR B w hva).mono ?_
          rintro e w1 ⟨rfl, b1⟩
          go_wp2_with fail
          refine (small_c _ _ _ HS B w1 (hvb.out b1 hB)).mono ?_
          rintro e w2 ⟨rfl, b2⟩
          have b12 := bl_next b1 b2
          have B12 := Lib.hid b12
          clear b1 b2 b12 hva hvb
          go_wp2_with (at_builtin; refine wpList_append_own _ rfl _ _ 30 rfl w.heap.size 9 i0 (.string ByteArray.empty) 1 16 Tryd.underlying30 hi hz0 hz1 hz2 rfl (by decide) _ _ _ rfl (ownS_nil _ _) ⟨ba, oa, none⟩ a.length ca (a.flatMap strCells) rfl (by rw [flat_strs]; simp) ?c1 ?c2 ?c3 ?c4 ?c5 ?_)
          case c1 => exact news_of fun i x hx j u hu => by rw [(bl_cell B12.out).1 _ _ (by omega)]; exact HA.out i x hx j u hu
          case c2 => exact flat_one a
          case c3 => unfold maxLen; simp; omega
          case c4 => simp; omega
          case c5 => exact B12.out.size
          intro v3 w3 hown3 hgrow3 _
          have O3 := Lib.hid (show OwnS w.heap.size v3 a w3 by unfold OwnS; simpa using hown3)
          have B3 : Hid (Bl w w3) := B12.out.grown hgrow3 B12.out.size (fun k hk => by cases hk)
          clear hown3 hgrow3
          go_wp2_with (at_builtin; refine wpList_append_own _ rfl _ _ 30 rfl w.heap.size 9 i0 (.string ByteArray.empty) 1 16 Tryd.underlying30 hi hz0 hz1 hz2 rfl (by decide) _ _ _ rfl O3.out ⟨bb, ob, none⟩ b.length cb (b.flatMap strCells) rfl (by rw [flat_strs]; simp) ?c1 ?c2 ?c3 ?c4 ?c5 ?_)
          case c1 => exact news_of fun i x hx j u hu => by rw [(bl_cell B3.out).1 _ _ (by omega)]; exact HB.out i x hx j u hu
          case c2 => exact flat_one b
          case c3 => unfold maxLen; omega
          case c4 => omega
          case c5 => exact B3.out.size
          intro v4 w4 hown4 hgrow4 _
          have O4 := Lib.hid (ownS_app (m := b) hown4)
          rw [HAB.out] at O4
          have B4 : Hid (Bl w w4) := B3.out.grown hgrow4 B3.out.size (fun k hk => (World.ownsRow.lt O3.out k hk).1)
          clear hown4 hgrow4
          obtain ⟨a4, c4, rfl⟩ := ownS_form O4.out
          have S4 := Lib.hid (ownS_in O4.out)
          have z4 := B4.out.size
          go_wp2_with fail
          refine (join_c _ a p1 f1 HQ1 HLA B w4 (HVA.out.out B4.out hB) (by omega)).mono ?_
          rintro e w5 ⟨rfl, b5⟩
          have B5 := Lib.hid (bl_next B4.out b5)
          have z5 := B5.out.size
          go_wp2_with fail
          refine (join_c _ b p2 f2 HQ2 HLB B w5 (HVB.out.out B5.out hB) (by omega)).mono ?_
          rintro e w6 ⟨rfl, b6⟩
          have B6 := Lib.hid (bl_next B5.out b6)
          have b46 := bl_next b5 b6
          have z6 := b46.size
          go_wp2_with fail
          refine (join_c _ l p3 f3 HQ3 HLL _ w6 (S4.out.out b46 (Nat.le_refl _)) z6).mono ?_
          rintro e w7 ⟨rfl, b7⟩
          have b17 := bl_next B6.out b7
          clear b46 b5 b6 b7
          by_cases hf3 : f3 = 0
          · obtain ⟨j1, j2, j3⟩ := HJ.out hf3
            have hcat : (⟨p1.toArray⟩ ++ ⟨#[44]⟩ ++ ⟨p2.toArray⟩ : ByteArray).toList = p3 := by rw [ByteArray.toList_eq, j3]; simp
            have hbe : (p3 == (⟨p1.toArray⟩ ++ ⟨#[44]⟩ ++ ⟨p2.toArray⟩ : ByteArray).toList) = true := by rw [hcat]; simp
            subst hf3 j1 j2
            clear j3
            go_wp2_with fail
            refine (example_c m _ (ml_next hm b17)).mono ?_
            rintro e wz ⟨rfl, bz⟩
            go_wp2
            go_ret
            exact ⟨rfl, bl_next b17 bz⟩
          · have g0 : (f3 != 0) = true := by rw [bne_iff_ne]; exact hf3
            go_wp2_with fail
            refine (example_c m _ (ml_next hm b17)).mono ?_
            rintro e wz ⟨rfl, bz⟩
            go_wp2
            go_ret
            exact ⟨rfl, bl_next b17 bz⟩
        · obtain ⟨ab, cb, rfl, lb1, rfl⟩ := hvb.empty (by omega)
          go_enter Tryd.func10, Tryd.ntmps10
          go_wp2_with fail
          refine (small_c _ _ _ HR B w hva).mono ?_
          rintro e w1 ⟨rfl, b1⟩
          go_wp2_with fail
          refine (small_c _ _ _ HS B w1 (hvb.out b1 hB)).mono ?_
          rintro e w2 ⟨rfl, b2⟩
          have b12 := bl_next b1 b2
          go_wp2_with fail
          refine (example_c m _ (ml_next hm b12)).mono ?_
          rintro e wz ⟨rfl, bz⟩
          go_wp2
          go_ret
          exact ⟨rfl, bl_next b12 bz⟩
      · obtain ⟨aa, ca, rfl, la1, rfl⟩ := hva.empty (by omega)
        go_enter Tryd.func10, Tryd.ntmps10
        go_wp2_with fail
        refine (small_c _ _ _ HR B w hva).mono ?_
        rintro e w1 ⟨rfl, b1⟩
        go_wp2_with fail
        refine (small_c _ _ _ HS B w1 (hvb.out b1 hB)).mono ?_
        rintro e w2 ⟨rfl, b2⟩
        have b12 := bl_next b1 b2
        go_wp2_with fail
        refine (example_c m _ (ml_next hm b12)).mono ?_
        rintro e wz ⟨rfl, bz⟩
        go_wp2
        go_ret
        exact ⟨rfl, bl_next b12 bz⟩
end Go.Proofs.YtonmfcnkdgdkbaaDoor
