/-
  Starts of the reference, once more: the row that it returns is its own. Conditions: those of each contract.
-/
import Derived.Test.YtknecohjajjloaaFrqIter
import Derived.Deep.Onto
namespace Go.Proofs.Ytknecohjajjloaa
open Go.RowKit
open Frq

set_option maxRecDepth 100000 in
set_option maxHeartbeats 4000000 in
theorem rstarts_own (f : FreqD) (w : World) :
    Calls Try.prog 20 #[.agg #[.int .i64 f.trip, .int .i64 f.frm, .int .i64 f.to, .int .i64 f.every]] w fun e w' => ∃ v, e = .returned v ∧ w'.ownsRow w.heap.size 3 1 v (starts f).length ((starts f).map (Value.int .i64)) ∧ Bl w w' := by
  obtain ⟨i0, hi, hz0, hz1, hz2⟩ := info_parts info_int
  rcases sound_cases f with ⟨hs, k⟩ | ⟨_, k⟩
  · have HS := Lib.hid hs
    have HK := Lib.hid k
    obtain ⟨c0, c1⟩ := cnt_bd f hs
    obtain ⟨h1, h2, h3, h4, h5⟩ := hs
    clear k
    go_enter Try.func20, Try.ntmps20
    go_wp2_with fail
    refine (rsound_b f true HK _).mono ?_
    rintro e w2 ⟨rfl, b2⟩
    obtain ⟨w1, hw1⟩ : ∃ w1, w.alloc (.cells #[.int .i64 f.trip, .int .i64 f.frm, .int .i64 f.to, .int .i64 f.every] 39) = w1 := ⟨_, rfl⟩
    rw [hw1] at b2
    have b1 : Bl w w1 := by rw [← hw1]; exact bl_alloc (bl_refl _) _
    have s1 : w1.heap.size = w.heap.size + 1 := by rw [← hw1]; simp
    have k0 : ∀ j u, (freqCells f)[j]? = some u → w2.cell? ⟨w.heap.size, j, none⟩ = some u := by
      intro j u hu
      rw [(bl_cell b2).1 _ _ (by omega), ← hw1, World.cell?_alloc_at (hn := rfl)]
      simpa [freqCells] using hu
    have K0 := Lib.hid k0
    have c11 := k0 1 _ rfl
    have hsz : w.heap.size < w2.heap.size := by have := b2.size; omega
    have B2 := Lib.hid (bl_next b1 b2)
    clear k0 hw1 b2 b1 s1
    go_wp2_with fail
    clear c11
    go_loopw [3, 4] (fun vo t wr => ∃ k : Nat, (k : Int) ≤ cnt f ∧ t = .int .i64 (f.frm + k * f.every) ∧ wr.ownsRow w2.heap.size 3 1 vo (startsN f k).length ((startsN f k).flatMap intCells) ∧ Bl w2 wr) (fun _ t _ => (f.to - intOf t).toNat)
    case atStart => exact ⟨0, by omega, by simp, World.ownsRow_nil _ _ _ _, bl_refl _⟩
    case round =>
      obtain ⟨k, hk, rfl, hown, hb⟩ := hrel
      have HO := Lib.hid hown
      clear hown
      have c2 : wr.cell? ⟨w.heap.size, 2, none⟩ = some (.int .i64 f.to) := by rw [(bl_cell hb).1 _ _ hsz]; exact K0.out 2 _ rfl
      have c3 : wr.cell? ⟨w.heap.size, 3, none⟩ = some (.int .i64 f.every) := by rw [(bl_cell hb).1 _ _ hsz]; exact K0.out 3 _ rfl
      have hzw := hb.size
      have hiff := cnt_lt f HS.out k
      by_cases hlt : (k : Int) < cnt f
      · have hto := hiff.2 hlt
        have hbd := start_bd f HS.out k hlt
        have HM := Lib.hid (mul_succ' k f.every)
        have HSN := Lib.hid (startsN_succ f k)
        have HLN := Lib.hid (startsN_len f k)
        obtain ⟨t, ht⟩ : ∃ t, f.frm + k * f.every = t := ⟨_, rfl⟩
        rw [ht] at hto hbd ⊢
        have HT := Lib.hid ht
        obtain ⟨t0, t1⟩ := hbd
        clear hiff ht
        go_wp2_with (at_builtin; refine wpList_append_own _ rfl _ _ 40 rfl w2.heap.size 3 i0 (.int .i64 0) 1 8 Try.underlying40 hi hz0 hz1 hz2 rfl (by decide) _ _ _ rfl (HO.out.alloc _) ⟨wr.heap.size, 0, none⟩ 1 1 [.int .i64 t] rfl rfl ?c1 ?c2 ?c3 ?c4 ?c5 ?_)
        case c1 => exact cells_new _ _ (by simp) (fun j u h => by simpa using h)
        case c2 => simp [Value.oneCell']
        case c3 => rw [HLN.out]; unfold maxLen; omega
        case c4 => rw [HLN.out]; omega
        case c5 => simp; omega
        intro v' w5 own5 gr5 _
        have b5 : Bl w2 w5 := (hb.alloc hb.size _).grown gr5 (by simp; omega) (fun k hk => (World.ownsRow.lt HO.out k hk).1)
        have O5 := Lib.hid own5
        have e3 : w5.cell? ⟨w.heap.size, 3, none⟩ = some (.int .i64 f.every) := by rw [(bl_cell b5).1 _ _ hsz]; exact K0.out 3 _ rfl
        clear own5 gr5
        go_wp2
        go_roundw
        case rel =>
          refine ⟨k + 1, by omega, ?_, ?_, b5⟩
          · rw [HM.out, ← HT.out]; go_num
          · rw [HSN.out, List.length_append, flat_snoc, HT.out]
            exact O5.out
        case measure => simp [intOf]; omega
      · have hge : f.to ≤ f.frm + k * f.every := by
          rcases Int.lt_or_le (f.frm + k * f.every) f.to with h | h
          · exact absurd (hiff.1 h) hlt
          · exact h
        have HF : Hid (wr.ownsRow w2.heap.size 3 1 u3 (starts f).length ((starts f).flatMap intCells)) := by
          have := HO.out
          rw [show k = (cnt f).toNat by omega] at this
          show World.ownsRow _ _ _ _ _ _ _
          unfold starts
          rw [if_pos HS.out]
          exact this
        clear hiff
        go_wp2
        go_ret
        refine ⟨_, rfl, ?_, bl_next B2.out hb⟩
        rw [← flatI]
        exact HF.out.mono B2.out.size
  · have HK := Lib.hid k
    have HE : Hid (starts f = []) := by
      show _ = _
      unfold starts
      rw [if_neg (of_decide_eq_false k)]
    clear k
    go_enter Try.func20, Try.ntmps20
    go_wp2_with fail
    refine (rsound_b f false HK _).mono ?_
    rintro e w2 ⟨rfl, b2⟩
    go_wp2
    go_ret
    exact ⟨_, rfl, by rw [HE.out]; exact World.ownsRow_nil _ _ _ _, bl_next (bl_alloc (bl_refl _) _) b2⟩

end Go.Proofs.Ytknecohjajjloaa
