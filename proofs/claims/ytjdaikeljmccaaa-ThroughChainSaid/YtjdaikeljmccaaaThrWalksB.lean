/-
  THE CONTRACTS OF THROUGH SERVICES, SECOND PART: Chain, the reference's Chain, leads. Conditions: those of each contract.
-/
import Derived.Test.YtjdaikeljmccaaaThrWalksA
import Derived.Test.YtjdaikeljmccaaaSetMap
import Derived.Carry
namespace Go.Proofs.Ytjdaikeljmccaaa
open Go.RowKit
open Go.Maps (Keyed)
open Frq Thr

theorem info_int : (Try.prog.info? 3).map (fun i => (i.zero, i.size, i.bytes)) = some (some (.int .i64 0), 1, 8) := by kernel_rfl
theorem int_law : Keyed Try.prog 3 := Go.Maps.int_keyed Try.underlying3
theorem zero_bool (w : World) : (zeroValue 4).run Try.prog w = .ok (.bool false) w := by kernel_rfl
theorem wf_int {x : Int} (h : isInt x) : (Lit.int .i64 x).wf = true := by
  unfold isInt at h
  exact WalkArith.wf_i64 (by omega)
theorem key_int {x : Int} (h : isInt x) : keyOf Try.prog 3 (.int .i64 x) = some (.int .i64 x) := Go.Maps.keyOf_int_mk Try.underlying3 (wf_int h)
/-- A map of the call's own, as a set of ints. -/
abbrev IntSet (w : World) (b n : Nat) (S : Lit → Bool) : Prop := OwnsSet w Try.prog 3 4 b n S
def lenOf : Value → Nat
  | .slice _ n _ => n
  | _ => 0
/-- An owned list of ints that is not empty, opened. -/
theorem own_open {base : Nat} {w : World} {v : Value} {out : List Int} {m : Nat} (h : w.ownsRow base 3 1 v out.length (out.flatMap intCells)) (hm : out.length = m + 1) :
    ∃ g cap, v = .slice (some ⟨g, 0, none⟩) (m + 1) cap ∧ m + 1 ≤ cap ∧ cap ≤ 9223372036854775807 ∧ base ≤ g ∧ g < w.heap.size ∧ (∃ C T z, w.heap[g]? = some (.cells C T z)) ∧ w.cell? ⟨g, m, none⟩ = some (.int .i64 (lastI out)) := by
  have hr := slIn_own (cells := intCells) intCells_len h
  rcases h.2 with ⟨rfl, h0⟩ | ⟨g, cap, cur, rfl, hg, hb, hn, hc, hs, ht⟩
  · omega
  · have hlt : g < w.heap.size := by
      rcases Nat.lt_or_ge g w.heap.size with k | k
      · exact k
      · simp [Array.getElem?_eq_none k] at hb
    obtain ⟨b, o, x, ha, -, hx, hcell⟩ := hr.get (k := m) (by omega) (bl_refl _) (Nat.le_refl _)
    simp only [Option.some.injEq, Addr.mk.injEq] at ha
    obtain ⟨rfl, rfl, -⟩ := ha
    rw [lastI_at hm] at hx
    cases hx
    have c0 := hcell 0 _ rfl
    exact ⟨g, cap, by rw [hm], by omega, by unfold maxLen at hc; exact hc, hg, hlt, ⟨_, _, _, hb⟩, by simpa using c0⟩
theorem own_len {base : Nat} {w : World} {e : TypeId} {sz : Nat} {v : Value} {n : Nat} {xs : List Value} (h : w.ownsRow base e sz v n xs) : lenOf v = n := by
  rcases h.2 with ⟨rfl, h0⟩ | ⟨g, cap, cur, rfl, -⟩
  · rw [h0]; rfl
  · rfl
theorem map_block {w : World} {b n : Nat} {S : Lit → Bool} (h : IntSet w b n S) : ∃ es clock, w.heap[b]? = some (.map es clock) := by
  obtain ⟨D, ⟨es, clock, hb, -⟩, -⟩ := h
  exact ⟨es, clock, hb⟩
set_option maxRecDepth 100000 in
set_option maxHeartbeats 8000000 in
theorem chain_c (v : Value) (l : List ThrD) (trip : Int) (htr : isInt trip) (hok : ∀ x ∈ l, isInt x.to) (hlen : l.length ≤ 1000) (B : Nat) (w : World) (ha : ThrIn B w v l) (hB : B ≤ w.heap.size) :
    Calls Try.prog 18 #[v, .int .i64 trip] w fun e w' => ∃ v', e = .returned v' ∧ IntsIn w'.heap.size w' v' (chainS l trip) ∧ Bl w w' := by
  obtain ⟨i0, hi, hz0, hz1, hz2⟩ := info_parts info_int
  obtain ⟨a, cap, rfl, hl1, hl2⟩ := ha.val
  have HA := Lib.hid ha
  have HOK := Lib.hid hok
  have hmm := @run_makeMap Try.prog
  obtain ⟨w1, hw1⟩ : ∃ w1, w.alloc (.cells #[.int .i64 trip] 3) = w1 := ⟨_, rfl⟩
  have hown0 : w1.ownsRow w.heap.size 3 1 (.slice (some ⟨w.heap.size, 0, none⟩) 1 1) 1 [.int .i64 trip] := by
    rw [← hw1]; exact World.ownsRow_lit w #[.int .i64 trip] 1 (Nat.le_refl _) (by unfold maxLen; omega) rfl
  have b1 : Bl w w1 := by rw [← hw1]; exact bl_alloc (bl_refl _) _
  have s1 : w1.heap.size = w.heap.size + 1 := by rw [← hw1]; simp
  have hset0 : IntSet (w1.alloc (.map #[] 0)) w1.heap.size 0 (fun _ => false) := ownsSet_made w1 Try.prog 3 4
  obtain ⟨w2, hput, hset, hgr⟩ := hset0.put int_law Try.underlying55 Try.underlying4 (by unfold maxLen; omega) (key_int htr)
  rw [← hw1] at hput
  rw [show (w.alloc (.cells #[.int .i64 trip] 3)).heap.size = w.heap.size + 1 by simp] at hput
  have b2 : Bl w1 w2 := Below.grown (bl_alloc (bl_refl _) _) hgr (by simp) (fun k hk => by cases hk; exact Nat.le_refl _)
  have HOWN : Hid (w2.ownsRow w.heap.size 3 1 (.slice (some ⟨w.heap.size, 0, none⟩) 1 1) 1 [.int .i64 trip]) := (hown0.alloc _).kept hgr (by right; intro e; simp [Value.ownBlock] at e; omega)
  have HSET := Lib.hid hset
  have HB2 : Hid (Bl w w2) := bl_next b1 b2
  have S1 := Lib.hid s1
  clear ha hok hown0 b1 b2 hset hgr hset0 s1 hw1
  go_enter Try.func18, Try.ntmps18
  go_wp2
  go_step3
  go_wp2
  go_step3
  go_wp2
  go_loopw [5] (fun vo wr => ∃ (out : List Int) (f n : Nat) (S : Lit → Bool), (out.length + f = l.length + 1 ∧ out.length ≤ n + 1 ∧ n ≤ out.length) ∧ wr.ownsRow w.heap.size 3 1 vo out.length (out.flatMap intCells) ∧ Hid (Making l trip out ∧ chainN l f out = chainS l trip ∧ ∀ x : Int, S (.int .i64 x) = out.contains x) ∧ IntSet wr (w.heap.size + 1) n S ∧ Hid (∀ x ∈ out, isInt x) ∧ Bl w wr) (fun vo _ => l.length + 2 - lenOf vo)
  case atStart =>
    refine ⟨[trip], l.length, 1, setPut (fun _ => false) (.int .i64 trip), by simp; omega, HOWN.out, ⟨making_one l trip, rfl, fun x => ?_⟩, by rw [← S1.out]; exact HSET.out.mono (by omega), fun x hx => ?_, HB2.out⟩
    · by_cases hx : x = trip
      · rw [hx, setPut_at _ (by trivial)]; simp
      · rw [setPut_ne (by simpa using hx)]; simp [hx]
    · rw [List.mem_singleton.1 hx]; exact htr
  case round =>
    obtain ⟨out, f, n, S, ⟨hf, hn1, hn2⟩, hown, HM, hset, HI, hbl⟩ := hrel
    have hp := HM.out.1.pos
    obtain ⟨m, hm⟩ : ∃ m, out.length = m + 1 := ⟨out.length - 1, by omega⟩
    have HOWN' := Lib.hid hown
    obtain ⟨g, capo, rfl, hc1, hc2, hg1, hg2, hgb, hcell⟩ := own_open hown hm
    have HSET' := Lib.hid hset
    have HL := Lib.hid hm
    have z1 := hbl.size
    have HG : Hid (g ≠ w.heap.size + 1) := by
      intro e
      obtain ⟨es, clock, hmb⟩ := map_block hset
      obtain ⟨C, T, z, hgb⟩ := hgb
      rw [e, hmb] at hgb
      cases hgb
    clear hown hset hm hgb
    go_wp2_with fail
    refine (next_c _ l (lastI out) B wr (HA.out.out hbl hB) (by omega)).mono ?_
    rintro e w3 ⟨rfl, b3⟩
    obtain ⟨o, ho⟩ : ∃ o, nextS l (lastI out) = o := ⟨_, rfl⟩
    cases o with
    | none =>
      have HR := Lib.hid (next_none ho)
      have HC := Lib.hid (stepC_none ho)
      rw [HR.out.1, HR.out.2]
      clear ho
      go_wp2
      try rw [Exit.noGoto_ret]
      go_ret
      refine ⟨_, rfl, ?_, bl_next hbl b3⟩
      have := HM.out.2.1
      rw [chainN_stop HC.out] at this
      rw [← this]
      exact (slIn_own (cells := intCells) intCells_len HOWN'.out).bl b3
    | some x =>
      have HR := Lib.hid (next_some ho)
      have HO := Lib.hid ho
      have hxi : isInt x.to := HOK.out x (List.mem_of_find?_eq_some ho)
      have hlook := ((HSET'.out.bl b3).look int_law Try.underlying55 Try.underlying4 (zero_bool w3) (key_int hxi))
      rw [HM.out.2.2 x.to] at hlook
      have z3 := b3.size
      rw [HR.out.1, HR.out.2]
      cases hcon : out.contains x.to with
      | true =>
        have HC := Lib.hid (stepC_used HO.out hcon)
        rw [hcon] at hlook
        clear ho hcon
        go_wp2
        try rw [Exit.noGoto_ret]
        go_ret
        refine ⟨_, rfl, ?_, bl_next hbl b3⟩
        have := HM.out.2.1
        rw [chainN_stop HC.out] at this
        rw [← this]
        exact (slIn_own (cells := intCells) intCells_len HOWN'.out).bl b3
      | false =>
        have HC := Lib.hid (stepC_go HO.out hcon)
        rw [hcon] at hlook
        obtain ⟨w4, hput, hset4, hgr4⟩ := (HSET'.out.bl b3).put int_law Try.underlying55 Try.underlying4 (by unfold maxLen; omega) (key_int hxi)
        have hown4 : w4.ownsRow w.heap.size 3 1 (.slice (some ⟨g, 0, none⟩) (m + 1) capo) out.length (out.flatMap intCells) := by
          refine (HOWN'.out.kept (row := none) ⟨b3.os, b3.tape, b3.output, b3.size, fun k hk _ => b3.block k hk⟩ (by right; simp [Value.ownBlock])).kept hgr4 ?_
          right
          intro e
          simp only [Value.ownBlock, Option.some.injEq] at e
          exact HG.out e
        have hb4 : Bl w w4 := (bl_next hbl b3).grown hgr4 (by omega) (fun k hk => by cases hk; omega)
        have z4 := hgr4.size
        have HOWN4 := Lib.hid hown4
        have HSET4 := Lib.hid hset4
        have HB4 := Lib.hid hb4
        have HF : Hid (f ≠ 0) := by
          intro e
          have h1 := HM.out.1.full (by have := HL.out; omega)
          rw [HC.out] at h1
          cases h1
        clear ho hcon hset4 hgr4 hown4 hb4
        go_wp2_with (at_builtin; refine wpList_append_own _ rfl _ _ 39 rfl w.heap.size 3 i0 (.int .i64 0) 1 8 Try.underlying39 hi hz0 hz1 hz2 rfl (by decide) _ _ _ rfl (HOWN4.out.alloc _) ⟨w4.heap.size, 0, none⟩ 1 1 [.int .i64 x.to] rfl rfl ?c1 ?c2 ?c3 ?c4 ?c5 ?_)
        case c1 => exact cells_new _ _ (by simp) (fun j u h => by simpa using h)
        case c2 => simp [Value.oneCell']
        case c3 => have := HL.out; unfold maxLen; omega
        case c4 => have := HL.out; omega
        case c5 => simp; omega
        intro v' w5 hown' hgrow _
        have hb5 : Bl w w5 := (bl_alloc HB4.out _).grown hgrow (by simp; omega) (fun k hk => (World.ownsRow.lt HOWN4.out k hk).1)
        have hset5 : IntSet w5 (w.heap.size + 1) (n + 1) (setPut S (.int .i64 x.to)) := (HSET4.out.kept (Below.heap_alloc _ _ _ HSET4.out.lt)).grown hgrow (by intro e; simp only [Value.ownBlock, Option.some.injEq] at e; exact HG.out e.symm)
        have HOWN5 := Lib.hid hown'
        have HSET5 := Lib.hid hset5
        have HLV : Hid (lenOf v' = out.length + 1) := own_len hown'
        clear hown' hgrow hset5
        go_wp2
        go_roundw
        case rel =>
          have hl := HL.out
          refine ⟨out ++ [x.to], f - 1, n + 1, setPut S (.int .i64 x.to), ?_, ?_, ⟨HM.out.1.step HC.out, ?_, fun y => ?_⟩, HSET5.out, fun y hy => ?_, hb5⟩
          · have := HF.out; rw [List.length_append, List.length_singleton]; omega
          · have := HOWN5.out
            rw [List.length_append, List.length_singleton, flat_snoc]
            exact this
          · have := HM.out.2.1
            rw [show f = f - 1 + 1 by have := HF.out; omega, chainN_go HC.out] at this
            exact this
          · by_cases hy : y = x.to
            · rw [hy, setPut_at _ (by trivial)]; simp
            · rw [setPut_ne (by simpa using hy), HM.out.2.2 y]; simp [hy]
          · rcases List.mem_append.1 hy with hy | hy
            · exact HI.out y hy
            · rw [List.mem_singleton.1 hy]; exact hxi
        case measure =>
          have h1 := HL.out
          have h2 := HF.out
          have h3 := HLV.out
          show l.length + 2 - lenOf v' < l.length + 2 - (m + 1)
          omega

/-! ### the reference's Chain -/
set_option maxRecDepth 100000 in
set_option maxHeartbeats 8000000 in
theorem rchain_c (v : Value) (l : List ThrD) (trip : Int) (hlen : l.length ≤ 1000) (B : Nat) (w : World) (ha : ThrIn B w v l) (hB : B ≤ w.heap.size) :
    Calls Try.prog 19 #[v, .int .i64 trip] w fun e w' => ∃ v', e = .returned v' ∧ IntsIn w'.heap.size w' v' (chainS l trip) ∧ Bl w w' := by
  obtain ⟨i0, hi, hz0, hz1, hz2⟩ := info_parts info_int
  obtain ⟨a, cap, rfl, hl1, hl2⟩ := ha.val
  have HA := Lib.hid ha
  have hown0 : (w.alloc (.cells #[.int .i64 trip] 3)).ownsRow w.heap.size 3 1 (.slice (some ⟨w.heap.size, 0, none⟩) 1 1) 1 [.int .i64 trip] :=
    World.ownsRow_lit w #[.int .i64 trip] 1 (Nat.le_refl _) (by unfold maxLen; omega) rfl
  have HOWN := Lib.hid hown0
  have HB1 : Hid (Bl w (w.alloc (.cells #[.int .i64 trip] 3))) := bl_alloc (bl_refl _) _
  clear ha hown0
  go_enter Try.func19, Try.ntmps19
  go_wp2_with fail
  go_loopw [5, 12] (fun vo i wr => ∃ (out : List Int) (k : Nat), (i = .int .i64 k ∧ k ≤ l.length ∧ out.length = k + 1) ∧ wr.ownsRow w.heap.size 3 1 vo out.length (out.flatMap intCells) ∧ Hid (Making l trip out ∧ chainN l (l.length - k) out = chainS l trip) ∧ Bl w wr) (fun _ i _ => l.length - (intOf i).toNat)
  case atStart => exact ⟨[trip], 0, ⟨rfl, Nat.zero_le _, rfl⟩, HOWN.out, ⟨making_one l trip, rfl⟩, HB1.out⟩
  case round =>
    obtain ⟨out, k, ⟨rfl, hk, hl⟩, hown, HM, hbl⟩ := hrel
    have HOWN' := Lib.hid hown
    have HL := Lib.hid hl
    have z1 := hbl.size
    obtain ⟨g, capo, rfl, hc1, hc2, hg1, hg2, -, hcell⟩ := own_open hown hl
    clear hown hl
    by_cases hlt : k < l.length
    · go_wp2_with fail
      refine (rnext_c _ l (lastI out) B wr (HA.out.out hbl hB) (by omega)).mono ?_
      rintro e w3 ⟨rfl, rfl⟩
      obtain ⟨o, ho⟩ : ∃ o, nextS l (lastI out) = o := ⟨_, rfl⟩
      cases o with
      | none =>
        have HR := Lib.hid (next_none ho)
        have HC := Lib.hid (stepC_none ho)
        rw [HR.out.1, HR.out.2]
        clear ho
        go_wp2
        go_ret
        refine ⟨_, rfl, ?_, hbl⟩
        have := HM.out.2
        rw [chainN_stop HC.out] at this
        rw [← this]
        exact slIn_own (cells := intCells) intCells_len HOWN'.out
      | some x =>
        have HR := Lib.hid (next_some ho)
        have HO := Lib.hid ho
        rw [HR.out.1, HR.out.2]
        clear ho
        obtain ⟨c, hcon⟩ : ∃ c, out.contains x.to = c := ⟨_, rfl⟩
        have HCON := Lib.hid hcon
        clear hcon
        go_wp2_with fail
        refine (has_c _ out x.to c HCON _ _ (slIn_own (cells := intCells) intCells_len HOWN'.out) (Nat.le_refl _)).mono ?_
        rintro e w4 ⟨rfl, rfl⟩
        cases c with
        | true =>
          have HC := Lib.hid (stepC_used HO.out HCON.out)
          go_wp2
          go_ret
          refine ⟨_, rfl, ?_, hbl⟩
          have := HM.out.2
          rw [chainN_stop HC.out] at this
          rw [← this]
          exact slIn_own (cells := intCells) intCells_len HOWN'.out
        | false =>
          have HC := Lib.hid (stepC_go HO.out HCON.out)
          go_wp2_with (at_builtin; refine wpList_append_own _ rfl _ _ 39 rfl w.heap.size 3 i0 (.int .i64 0) 1 8 Try.underlying39 hi hz0 hz1 hz2 rfl (by decide) _ _ _ rfl (HOWN'.out.alloc _) ⟨wr.heap.size, 0, none⟩ 1 1 [.int .i64 x.to] rfl rfl ?c1 ?c2 ?c3 ?c4 ?c5 ?_)
          case c1 => exact cells_new _ _ (by simp) (fun j u h => by simpa using h)
          case c2 => simp [Value.oneCell']
          case c3 => have := HL.out; unfold maxLen; omega
          case c4 => have := HL.out; omega
          case c5 => simp; omega
          intro v' w5 hown' hgrow _
          have hb5 : Bl w w5 := (bl_alloc hbl _).grown hgrow (by simp; omega) (fun k hk => (World.ownsRow.lt HOWN'.out k hk).1)
          have HOWN5 := Lib.hid hown'
          clear hown' hgrow
          go_wp2
          go_roundw
          case rel =>
            have hl := HL.out
            refine ⟨out ++ [x.to], k + 1, ⟨by go_num, by omega, by rw [List.length_append, List.length_singleton]; omega⟩, ?_, ⟨HM.out.1.step HC.out, ?_⟩, hb5⟩
            · have := HOWN5.out
              rw [List.length_append, List.length_singleton, flat_snoc]
              exact this
            · have := HM.out.2
              rw [show l.length - k = l.length - (k + 1) + 1 by omega, chainN_go HC.out] at this
              exact this
          case measure => simp [intOf]; omega
    · go_wp2
      go_ret
      refine ⟨_, rfl, ?_, hbl⟩
      have := HM.out.2
      rw [show l.length - k = 0 by omega] at this
      rw [← this]
      exact slIn_own (cells := intCells) intCells_len HOWN'.out

/-! ### leads -/
set_option maxHeartbeats 4000000 in
theorem leads_c (v : Value) (l : List ThrD) (frm tt : Int) (r : Bool) (H : Hid ((chainS l frm).contains tt = r)) (hfr : isInt frm) (hok : ∀ x ∈ l, isInt x.to) (hlen : l.length ≤ 1000) (B : Nat) (w : World) (ha : ThrIn B w v l) (hB : B ≤ w.heap.size) :
    Calls Try.prog 27 #[v, .int .i64 frm, .int .i64 tt] w fun e w' => e = .returned (.bool r) ∧ Bl w w' := by
  have HOK := Lib.hid hok
  have HFR := Lib.hid hfr
  obtain ⟨a, cap, rfl, hl1, hl2⟩ := ha.val
  have HA := Lib.hid ha
  clear hok hfr ha
  go_enter Try.func27, Try.ntmps27
  go_wp2_with fail
  refine (chain_c _ l frm HFR.out HOK.out hlen B w HA.out hB).mono ?_
  rintro e w1 ⟨v1, rfl, i1, b1⟩
  have HC := Lib.hid i1
  have hcl : (chainS l frm).length ≤ 1001 := by have := (chainS_making l frm).len; omega
  obtain ⟨C, hC⟩ : ∃ C, chainS l frm = C := ⟨_, rfl⟩
  rw [hC] at H HC i1 hcl
  obtain ⟨a1, cap1, rfl, l1, m1⟩ := i1.val
  clear hC i1
  go_wp2_with fail
  go_loop [13] (fun i => ∃ k : Nat, k ≤ C.length ∧ i = .int .i64 k ∧ Hid ((C.take k).contains tt = false)) (fun i => C.length - (intOf i).toNat)
  case atStart => exact ⟨0, Nat.zero_le _, rfl, rfl⟩
  case round =>
    obtain ⟨k, hk, rfl, HN⟩ := hrel
    by_cases hlt : k < C.length
    · obtain ⟨b, o, x, rfl, hbs, hx, hc⟩ := HC.out.get hlt (bl_refl _) (Nat.le_refl _)
      have c0 : w1.cell? ⟨b, o + k, none⟩ = some (.int .i64 x) := by have := hc 0 _ rfl; simpa using this
      have hkI : (k : Int) < (C.length : Int) := by omega
      have HX := Lib.hid hx
      clear hx hc
      by_cases he : x = tt
      · have HR := Lib.hid (show r = true by rw [← H.out]; exact contains_at (he ▸ HX.out))
        have q : (x == tt) = true := by rw [beq_iff_eq]; exact he
        clear he
        go_wp2
        go_ret
        exact ⟨ret_bool HR.out.symm, b1⟩
      · have q : (x == tt) = false := by rw [beq_eq_false_iff_ne]; exact he
        have HN' := Lib.hid ((contains_take HX.out HN.out).trans q)
        clear he
        go_wp2
        go_round
        case rel => exact ⟨k + 1, by omega, by go_num, HN'⟩
        case measure => simp [intOf]; omega
    · have HR := Lib.hid (show r = false by
        have := HN.out
        rw [List.take_of_length_le (by omega)] at this
        rw [← H.out]; exact this)
      go_wp2
      go_ret
      exact ⟨ret_bool HR.out.symm, b1⟩
end Go.Proofs.Ytjdaikeljmccaaa
