/-
  THE CONTRACTS OF FREQUENCY, FIFTH PART: Starts of the reference, Many. Conditions: those of each contract.
-/
import Derived.Test.YtknecohjajjloaaFrqWalksD
namespace Go.Proofs.Ytknecohjajjloaa
open Go.RowKit
open Frq

theorem info_int : (Try.prog.info? 3).map (fun i => (i.zero, i.size, i.bytes)) = some (some (.int .i64 0), 1, 8) := by kernel_rfl
theorem flat_ints (l : List Int) : (l.flatMap intCells).length = l.length * 1 := by
  induction l with
  | nil => rfl
  | cons c l ih => rw [List.flatMap_cons, List.length_append, ih, List.length_cons]; show 1 + _ = _; omega
set_option maxRecDepth 100000 in
set_option maxHeartbeats 4000000 in
theorem rstarts_c (f : FreqD) (w : World) :
    Calls Try.prog 20 #[.agg #[.int .i64 f.trip, .int .i64 f.frm, .int .i64 f.to, .int .i64 f.every]] w fun e w' => ∃ v, e = .returned v ∧ IntsIn w'.heap.size w' v (starts f) ∧ Bl w w' := by
  obtain ⟨i0, hi, hz0, hz1, hz2⟩ := info_parts info_int
  rcases sound_cases f with ⟨hs, k⟩ | ⟨_, k⟩
  · have HS := Lib.hid hs
    have HK := Lib.hid k
    obtain ⟨c0, c1⟩ := cnt_bd f hs
    obtain ⟨h1, h2, h3, h4, h5⟩ := hs
    clear k
    go_enter Try.func20, Try.ntmps20
    go_wp2_with fail
    refine (rsound_b f true HK _).mono ?_
    rintro e w2 ⟨rfl, b2⟩
    obtain ⟨w1, hw1⟩ : ∃ w1, w.alloc (.cells #[.int .i64 f.trip, .int .i64 f.frm, .int .i64 f.to, .int .i64 f.every] 39) = w1 := ⟨_, rfl⟩
    rw [hw1] at b2
    have b1 : Bl w w1 := by rw [← hw1]; exact bl_alloc (bl_refl _) _
    have s1 : w1.heap.size = w.heap.size + 1 := by rw [← hw1]; simp
    have k0 : ∀ j u, (freqCells f)[j]? = some u → w2.cell? ⟨w.heap.size, j, none⟩ = some u := by
      intro j u hu
      rw [(bl_cell b2).1 _ _ (by omega), ← hw1, World.cell?_alloc_at (hn := rfl)]
      simpa [freqCells] using hu
    have K0 := Lib.hid k0
    have c11 := k0 1 _ rfl
    have hsz : w.heap.size < w2.heap.size := by have := b2.size; omega
    have B2 := Lib.hid (bl_next b1 b2)
    clear k0 hw1 b2 b1 s1
    go_wp2_with fail
    clear c11
    go_loopw [3, 4] (fun vo t wr => ∃ k : Nat, (k : Int) ≤ cnt f ∧ t = .int .i64 (f.frm + k * f.every) ∧ wr.ownsRow w2.heap.size 3 1 vo (startsN f k).length ((startsN f k).flatMap intCells) ∧ Bl w2 wr) (fun _ t _ => (f.to - intOf t).toNat)
    case atStart => exact ⟨0, by omega, by simp, World.ownsRow_nil _ _ _ _, bl_refl _⟩
    case round =>
      obtain ⟨k, hk, rfl, hown, hb⟩ := hrel
      have HO := Lib.hid hown
      clear hown
      have c2 : wr.cell? ⟨w.heap.size, 2, none⟩ = some (.int .i64 f.to) := by rw [(bl_cell hb).1 _ _ hsz]; exact K0.out 2 _ rfl
      have c3 : wr.cell? ⟨w.heap.size, 3, none⟩ = some (.int .i64 f.every) := by rw [(bl_cell hb).1 _ _ hsz]; exact K0.out 3 _ rfl
      have hzw := hb.size
      have hiff := cnt_lt f HS.out k
      by_cases hlt : (k : Int) < cnt f
      · have hto := hiff.2 hlt
        have hbd := start_bd f HS.out k hlt
        have HM := Lib.hid (mul_succ' k f.every)
        have HSN := Lib.hid (startsN_succ f k)
        have HLN := Lib.hid (startsN_len f k)
        obtain ⟨t, ht⟩ : ∃ t, f.frm + k * f.every = t := ⟨_, rfl⟩
        rw [ht] at hto hbd ⊢
        have HT := Lib.hid ht
        obtain ⟨t0, t1⟩ := hbd
        clear hiff ht
        go_wp2_with (at_builtin; refine wpList_append_own _ rfl _ _ 40 rfl w2.heap.size 3 i0 (.int .i64 0) 1 8 Try.underlying40 hi hz0 hz1 hz2 rfl (by decide) _ _ _ rfl (HO.out.alloc _) ⟨wr.heap.size, 0, none⟩ 1 1 [.int .i64 t] rfl rfl ?c1 ?c2 ?c3 ?c4 ?c5 ?_)
        case c1 => exact cells_new _ _ (by simp) (fun j u h => by simpa using h)
        case c2 => simp [Value.oneCell']
        case c3 => rw [HLN.out]; unfold maxLen; omega
        case c4 => rw [HLN.out]; omega
        case c5 => simp; omega
        intro v' w5 own5 gr5 _
        have b5 : Bl w2 w5 := (hb.alloc hb.size _).grown gr5 (by simp; omega) (fun k hk => (World.ownsRow.lt HO.out k hk).1)
        have O5 := Lib.hid own5
        have e3 : w5.cell? ⟨w.heap.size, 3, none⟩ = some (.int .i64 f.every) := by rw [(bl_cell b5).1 _ _ hsz]; exact K0.out 3 _ rfl
        clear own5 gr5
        go_wp2
        go_roundw
        case rel =>
          refine ⟨k + 1, by omega, ?_, ?_, b5⟩
          · rw [HM.out, ← HT.out]; go_num
          · rw [HSN.out, List.length_append, flat_snoc, HT.out]
            exact O5.out
        case measure => simp [intOf]; omega
      · have hge : f.to ≤ f.frm + k * f.every := by
          rcases Int.lt_or_le (f.frm + k * f.every) f.to with h | h
          · exact absurd (hiff.1 h) hlt
          · exact h
        have HF : Hid (wr.ownsRow w2.heap.size 3 1 u3 (starts f).length ((starts f).flatMap intCells)) := by
          have := HO.out
          rw [show k = (cnt f).toNat by omega] at this
          show World.ownsRow _ _ _ _ _ _ _
          unfold starts
          rw [if_pos HS.out]
          exact this
        clear hiff
        go_wp2
        go_ret
        exact ⟨_, rfl, slIn_own intCells_len HF.out, bl_next B2.out hb⟩
  · have HK := Lib.hid k
    have HE : Hid (starts f = []) := by
      show _ = _
      unfold starts
      rw [if_neg (of_decide_eq_false k)]
    clear k
    go_enter Try.func20, Try.ntmps20
    go_wp2_with fail
    refine (rsound_b f false HK _).mono ?_
    rintro e w2 ⟨rfl, b2⟩
    go_wp2
    go_ret
    exact ⟨_, rfl, by rw [HE.out]; exact slIn_nil, bl_next (bl_alloc (bl_refl _) _) b2⟩

/-! ### Many -/
def total (fs : List FreqD) : Int := (fs.map fun f => if soundB f then cnt f else 0).sum
theorem total_snoc (l : List FreqD) (x : FreqD) : total (l ++ [x]) = total l + if soundB x then cnt x else 0 := by simp [total]
theorem total_bd (l : List FreqD) : 0 ≤ total l ∧ total l ≤ 172800 * l.length := by
  induction l with
  | nil => exact ⟨Int.le_refl _, by simp [total]⟩
  | cons x l ih =>
    have : total (x :: l) = (if soundB x then cnt x else 0) + total l := by simp [total]
    rw [this, List.length_cons]
    split
    · rename_i h
      have := cnt_bd x (of_decide_eq_true h)
      omega
    · omega
def manyB (fs : List FreqD) (most : Int) : Bool := decide (100 < fs.length) || decide (most < total fs)
set_option maxRecDepth 100000 in
set_option maxHeartbeats 4000000 in
theorem many_c (v : Value) (fs : List FreqD) (most : Int) (r : Bool) (H : Hid (manyB fs most = r)) (B : Nat) (w : World) (ha : FreqsIn B w v fs) (hB : B ≤ w.heap.size) :
    Calls Try.prog 8 #[v, .int .i64 most] w fun e w' => e = .returned (.bool r) ∧ Bl w w' := by
  by_cases h100 : 100 < fs.length
  · obtain rfl : r = true := by rw [← H.out]; unfold manyB; rw [decide_eq_true h100]; rfl
    obtain ⟨b1, o1, cap1, rfl, l1, m1, hb1, hc1⟩ := ha.open (by omega)
    have hi : (100 : Int) < (fs.length : Int) := by omega
    clear H ha hc1
    go_enter Try.func8, Try.ntmps8
    go_wp2
    go_ret
    exact ⟨rfl, bl_refl _⟩
  have hr : Hid (r = decide (most < total fs)) := by
    show _ = _
    rw [← H.out]
    unfold manyB
    rw [decide_eq_false h100, Bool.false_or]
  by_cases h0 : 0 < fs.length
  · obtain ⟨b1, o1, cap1, rfl, l1, m1, hb1, hc1⟩ := ha.open h0
    have H1 := Lib.hid hc1
    have hi : (fs.length : Int) ≤ 100 := by omega
    clear ha hc1 h100
    go_enter Try.func8, Try.ntmps8
    go_wp2
    go_loopw [5, 6] (fun n i wr => ∃ k : Nat, k ≤ fs.length ∧ i = .int .i64 k ∧ n = .int .i64 (total (fs.take k)) ∧ Bl w wr) (fun _ i _ => fs.length - (intOf i).toNat)
    case atStart => exact ⟨0, Nat.zero_le _, rfl, rfl, bl_refl _⟩
    case round =>
      obtain ⟨k, hk, rfl, rfl, hbl⟩ := hrel
      have hzw := hbl.size
      by_cases hlt : k < fs.length
      · obtain ⟨x, hx⟩ : ∃ x, fs[k]? = some x := ⟨_, List.getElem?_eq_getElem hlt⟩
        have c1 : ∀ j u, (freqCells x)[j]? = some u → wr.cell? ⟨b1, o1 + k * 4 + j, none⟩ = some u := fun j u hu => by rw [(bl_cell hbl).1 _ _ (by omega)]; exact H1.out k x hx j u hu
        have d10 : wr.cell? ⟨b1, o1 + k * 4, none⟩ = some (.int .i64 x.trip) := c1 0 _ rfl
        have d11 := c1 1 _ rfl
        have d12 := c1 2 _ rfl
        have d13 := c1 3 _ rfl
        have HT : Hid (total (fs.take (k + 1)) = total (fs.take k) + if soundB x then cnt x else 0) := by show _ = _; rw [take_snoc_at hx, total_snoc]
        have hbd := total_bd (fs.take k)
        rw [List.length_take, Nat.min_eq_left hk] at hbd
        have hlen : b1 < wr.heap.size := by omega
        generalize total (fs.take k) = n at *
        obtain ⟨n0, n1⟩ := hbd
        clear hx c1
        rcases sound_cases x with ⟨hs, ks⟩ | ⟨_, ks⟩
        · have HK := Lib.hid ks
          have HS := Lib.hid hs
          obtain ⟨cc0, cc1⟩ := cnt_bd x hs
          have HT2 := Lib.hid (show total (fs.take (k + 1)) = n + cnt x by rw [HT.out, if_pos ks])
          clear hs ks HT
          go_wp2_with fail
          refine (rsound_b x true HK _).mono ?_
          rintro e w2 ⟨rfl, b2⟩
          have e10 : w2.cell? ⟨b1, o1 + k * 4, none⟩ = some (.int .i64 x.trip) := by rw [(bl_cell b2).1 _ _ hlen]; exact d10
          have e11 : w2.cell? ⟨b1, o1 + k * 4 + 1, none⟩ = some (.int .i64 x.frm) := by rw [(bl_cell b2).1 _ _ hlen]; exact d11
          have e12 : w2.cell? ⟨b1, o1 + k * 4 + 2, none⟩ = some (.int .i64 x.to) := by rw [(bl_cell b2).1 _ _ hlen]; exact d12
          have e13 : w2.cell? ⟨b1, o1 + k * 4 + 3, none⟩ = some (.int .i64 x.every) := by rw [(bl_cell b2).1 _ _ hlen]; exact d13
          go_wp2_with fail
          refine (rcount_c x HS _).mono ?_
          rintro e w3 ⟨rfl, b3⟩
          go_wp2
          go_roundw
          case rel => exact ⟨k + 1, by omega, by go_num, by rw [HT2.out], bl_next hbl (bl_next b2 b3)⟩
          case measure => simp [intOf]; omega
        · have HK := Lib.hid ks
          have HT2 := Lib.hid (show total (fs.take (k + 1)) = n by rw [HT.out, ks]; simp)
          clear ks HT
          go_wp2_with fail
          refine (rsound_b x false HK _).mono ?_
          rintro e w2 ⟨rfl, b2⟩
          go_wp2
          go_roundw
          case rel => exact ⟨k + 1, by omega, by go_num, by rw [HT2.out], bl_next hbl b2⟩
          case measure => simp [intOf]; omega
      · have HR := Lib.hid (show decide (most < total (fs.take k)) = r by rw [List.take_of_length_le (by omega), hr.out])
        go_wp2
        go_ret
        exact ⟨ret_bool HR.out, hbl⟩
  · obtain ⟨a1, c1, rfl, m1, rfl⟩ := ha.empty (by omega)
    go_enter Try.func8, Try.ntmps8
    go_wp2_with fail
    refine wp_loop_rounds 1 ?_
    rw [rounds_succ]
    go_wp2
    go_ret
    exact ⟨ret_bool hr.out.symm, bl_refl _⟩
end Go.Proofs.Ytknecohjajjloaa
