/-
  THE CONTRACTS OF FREQUENCY: Instances of the reference. Conditions: those of each contract.
-/
import Derived.Test.YtknecohjajjloaaFrqIns
import Derived.Test.YtknecohjajjloaaFrqOwn
import Derived.Test.YtknecohjajjloaaFrqWalksH
namespace Go.Proofs.Ytknecohjajjloaa
open Go.RowKit Go.Shelf
open Frq

def allS (fs : List FreqD) (trip : Int) : List Int := (fs.filter fun f => f.trip == trip).flatMap starts
def fold (l : List Int) : List Int := l.foldl ins []
theorem fold_snoc (l : List Int) (t : Int) : fold (l ++ [t]) = ins (fold l) t := by simp [fold]
theorem goK_bd (L : List Int) (t : Int) : ∀ k, goK L t k ≤ k
  | 0 => Nat.le_refl _
  | k + 1 => by
    by_cases h : (match L[k]? with | some x => decide (t < x) | none => false) = true
    · rw [show goK L t (k + 1) = goK L t k from if_pos h]
      exact Nat.le_trans (goK_bd L t k) (Nat.le_succ k)
    · rw [show goK L t (k + 1) = k + 1 from if_neg h]
      exact Nat.le_refl _
theorem ins_len (L : List Int) (t : Int) : (ins L t).length = L.length + 1 := rowK_len L t (goK_bd L t _)
theorem fold_len : ∀ (l acc : List Int), (l.foldl ins acc).length = acc.length + l.length
  | [], acc => rfl
  | x :: l, acc => by rw [List.foldl_cons, fold_len l, ins_len, List.length_cons]; omega
theorem fold_length (l : List Int) : (fold l).length = l.length := by unfold fold; rw [fold_len]; simp
theorem allS_hit (l : List FreqD) (x : FreqD) (trip : Int) (h : (x.trip == trip) = true) : allS (l ++ [x]) trip = allS l trip ++ starts x := by simp [allS, h]
theorem allS_miss (l : List FreqD) (x : FreqD) (trip : Int) (h : (x.trip == trip) = false) : allS (l ++ [x]) trip = allS l trip := by simp [allS, h]
theorem allS_len (l : List FreqD) (trip : Int) : (allS l trip).length ≤ 172800 * l.length := by
  induction l with
  | nil => simp [allS]
  | cons x l ih =>
    have := starts_len x
    have e : (allS (x :: l) trip).length ≤ (starts x).length + (allS l trip).length := by
      unfold allS
      rw [List.filter_cons]
      split
      · rw [List.flatMap_cons, List.length_append]; omega
      · omega
    rw [List.length_cons]
    omega
theorem swap_row {L : List Int} {x t : Int} {k : Nat} (h : L[k]? = some x) : ((rowK L t (k + 1)).set (k + 1) x).set k t = rowK L t k := by
  have hk := (List.getElem?_eq_some_iff.1 h).1
  rw [rowK_set L t x (by omega), rowK_step h, rowK_set L x t (by omega)]

set_option maxRecDepth 100000 in
set_option maxHeartbeats 8000000 in
theorem rinst_c (v : Value) (fs : List FreqD) (trip : Int) (h100 : fs.length ≤ 100) (B : Nat) (w : World) (ha : FreqsIn B w v fs) (hB : B ≤ w.heap.size) :
    Calls Try.prog 22 #[v, .int .i64 trip] w fun e w' => ∃ v', e = .returned v' ∧ IntsIn w'.heap.size w' v' (fold (allS fs trip)) ∧ Bl w w' := by
  obtain ⟨i0, hi, hz0, hz1, hz2⟩ := info_parts info_int
  by_cases h0 : 0 < fs.length
  · obtain ⟨b1, o1, cap1, rfl, l1, m1, hb1, hc1⟩ := ha.open h0
    have H1 := Lib.hid hc1
    have hi100 : (fs.length : Int) ≤ 100 := by omega
    clear ha hc1
    go_enter Try.func22, Try.ntmps22
    go_wp2_with fail
    go_loopw [5, 6] (fun vo i wr => ∃ k : Nat, k ≤ fs.length ∧ i = .int .i64 k ∧ Hid (wr.ownsRow w.heap.size 3 1 vo (allS (fs.take k) trip).length ((fold (allS (fs.take k) trip)).map (Value.int .i64))) ∧ Bl w wr) (fun _ i _ => fs.length - (intOf i).toNat)
    case atStart => exact ⟨0, Nat.zero_le _, rfl, World.ownsRow_nil _ _ _ _, bl_refl _⟩
    case round =>
      rename World => wo
      obtain ⟨k, hk, rfl, HO, hbl⟩ := hrel
      have hzw := hbl.size
      by_cases hlt : k < fs.length
      · obtain ⟨x, hx⟩ : ∃ x, fs[k]? = some x := ⟨_, List.getElem?_eq_getElem hlt⟩
        have c1 : ∀ j u, (freqCells x)[j]? = some u → wo.cell? ⟨b1, o1 + k * 4 + j, none⟩ = some u := fun j u hu => by rw [(bl_cell hbl).1 _ _ (by omega)]; exact H1.out k x hx j u hu
        have d10 : wo.cell? ⟨b1, o1 + k * 4, none⟩ = some (.int .i64 x.trip) := c1 0 _ rfl
        have d11 := c1 1 _ rfl
        have d12 := c1 2 _ rfl
        have d13 := c1 3 _ rfl
        have HT := Lib.hid (take_snoc_at hx)
        clear hx c1
        by_cases he : x.trip = trip
        · have q : (x.trip == trip) = true := by rw [beq_iff_eq]; exact he
          have q' : (x.trip != trip) = false := by rw [bne, q]; rfl
          have HAL := Lib.hid (show allS (fs.take (k + 1)) trip = allS (fs.take k) trip ++ starts x by rw [HT.out, allS_hit _ _ _ q])
          clear he
          go_wp2_with fail
          refine (rstarts_own x wo).mono ?_
          rintro e w2 ⟨vs, rfl, owns, b2⟩
          have HO2 : Hid (w2.ownsRow w.heap.size 3 1 u5 (allS (fs.take k) trip).length ((fold (allS (fs.take k) trip)).map (Value.int .i64))) := by
            refine HO.out.kept (bl_grown b2) ?_
            rcases HO.out.2 with ⟨h, _⟩ | ⟨g, cap, cur, h, _⟩
            · exact .inl (by rw [h]; rfl)
            · exact .inr (by rw [h]; simp [Value.ownBlock])
          have HB2 : Hid (Bl w w2) := bl_next hbl b2
          have HAlen := Lib.hid (allS_len (fs.take k) trip)
          have HSlen := Lib.hid (starts_len x)
          have hA : (allS (fs.take k) trip).length ≤ 17280000 := by have := HAlen.out; rw [List.length_take] at this; omega
          have hS : (starts x).length ≤ 172800 := HSlen.out
          rcases owns.2 with ⟨rfl, hs0⟩ | ⟨g, caps, cur, rfl, hg0, hgb, hn, -, -, -⟩
          · have hse : starts x = [] := List.length_eq_zero_iff.1 hs0
            have HF3 : Hid (w2.ownsRow w.heap.size 3 1 u5 (allS (fs.take (k + 1)) trip).length ((fold (allS (fs.take (k + 1)) trip)).map (Value.int .i64))) := by
              show World.ownsRow _ _ _ _ _ _ _
              rw [HAL.out, hse, List.append_nil]
              exact HO2.out
            clear owns hse hs0 HAL
            go_wp2_with fail
            refine wp_loop_rounds 1 ?_
            rw [rounds_succ]
            go_wp2
            go_roundw
            case rel => exact ⟨k + 1, by omega, by go_num, HF3, HB2.out⟩
            case measure => simp [intOf]; omega
          · have hglt : g < w2.heap.size := (Array.getElem?_eq_some_iff.1 hgb).1
            have HCS : Hid (∀ (i : Nat) (t : Int), (starts x)[i]? = some t → w2.cell? ⟨g, i, none⟩ = some (.int .i64 t)) := fun i t ht => by
              have hi' := (List.getElem?_eq_some_iff.1 ht).1
              rw [World.ownsRow.cellAt owns i (by omega), List.getElem?_map, ht]
              rfl
            have HG0 : Hid (u5.ownBlock ≠ some g) := by
              intro e
              rcases HO.out.2 with ⟨h, _⟩ | ⟨gg, cap, cur', h, _, hb', _⟩
              · rw [h] at e; simp [Value.ownBlock] at e
              · rw [h] at e
                have : gg = g := by simpa [Value.ownBlock] using e
                have := (Array.getElem?_eq_some_iff.1 hb').1
                omega
            obtain ⟨A, hA'⟩ : ∃ A, allS (fs.take k) trip = A := ⟨_, rfl⟩
            rw [hA'] at HO2 HAL hA
            obtain ⟨n, hn'⟩ : ∃ n, (starts x).length = n := ⟨_, rfl⟩
            have HN := Lib.hid hn'
            rw [hn'] at hS hn ⊢
            clear owns b2 hA' hn' HAlen HSlen hgb
            go_wp2_with fail
            go_loopw [5, 8] (fun vo i wr => ∃ j : Nat, j ≤ n ∧ i = .int .i64 j ∧ Hid (wr.ownsRow w.heap.size 3 1 vo (A.length + j) ((fold (A ++ (starts x).take j)).map (Value.int .i64))) ∧ Hid (vo.ownBlock ≠ some g) ∧ Hid (∀ (i : Nat) (t : Int), (starts x)[i]? = some t → wr.cell? ⟨g, i, none⟩ = some (.int .i64 t)) ∧ g < wr.heap.size ∧ Bl w wr) (fun _ i _ => n - (intOf i).toNat)
            case atStart => exact ⟨0, Nat.zero_le _, rfl, by simpa [Hid] using HO2, HG0, HCS, hglt, HB2.out⟩
            case round =>
              rename World => wm
              obtain ⟨j, hj, rfl, HOm, HGm, HCm, hgm, hbm⟩ := hrel
              have hzm := hbm.size
              by_cases hjn : j < n
              · obtain ⟨t, ht⟩ : ∃ t, (starts x)[j]? = some t := ⟨_, List.getElem?_eq_getElem (by rw [HN.out]; exact hjn)⟩
                have cs := HCm.out j t ht
                have HLS := Lib.hid (show fold (A ++ (starts x).take (j + 1)) = ins (fold (A ++ (starts x).take j)) t by rw [take_snoc_at ht, ← List.append_assoc, fold_snoc])
                have hLl : (fold (A ++ (starts x).take j)).length = A.length + j := by rw [fold_length, List.length_append, List.length_take, HN.out, Nat.min_eq_left hj]
                obtain ⟨L, hL⟩ : ∃ L, fold (A ++ (starts x).take j) = L := ⟨_, rfl⟩
                rw [hL] at HOm HLS hLl
                have HLEN : Hid (L.length + 1 = A.length + (j + 1)) := by show _ = _; omega
                have HLL : Hid (A.length + j = L.length) := hLl.symm
                have hLb : L.length ≤ 17452800 := by omega
                rw [HLL.out] at HOm
                have hjI : (j : Int) < (n : Int) := by omega
                clear ht hL hLl
                go_wp2_with (at_builtin; refine wpList_append_own_at _ rfl _ _ 40 rfl w.heap.size 3 i0 (.int .i64 0) 1 8 Try.underlying40 hi hz0 hz1 hz2 rfl (by decide) _ _ _ rfl (HOm.out.alloc _) ⟨wm.heap.size, 0, none⟩ 1 1 [.int .i64 t] rfl rfl (cell_one_new _ _ _) (by simp [Value.oneCell']) (by unfold maxLen; omega) (by omega) (by simp; omega) ?_; intro v' w5 own5 gr5 _ hblk; obtain ⟨g', cap', rfl⟩ := ownsRow_succ own5; have hcap : L.length + 1 ≤ 9223372036854775807 := by omega)
                have HR5 : Hid (w5.ownsRow w.heap.size 3 1 (.slice (some ⟨g', 0, none⟩) (L.length + 1) cap') (L.length + 1) ((rowK L t L.length).map (Value.int .i64))) := by show World.ownsRow _ _ _ _ _ _ _; rw [rowK_end]; simpa using own5
                have b5 : Bl w w5 := (hbm.alloc hbm.size _).grown gr5 (by simp; omega) (fun k hk => (World.ownsRow.lt HOm.out k hk).1)
                have HC5 : Hid (∀ (i : Nat) (t : Int), (starts x)[i]? = some t → w5.cell? ⟨g, i, none⟩ = some (.int .i64 t)) := fun i t ht => by
                  have h1 := HCm.out i t ht
                  have h2 : w5.heap[g]? = wm.heap[g]? := (gr5.block g (by simp; omega) (fun e => HGm.out e.symm)).trans (Below.heap_alloc _ _ _ hgm)
                  unfold World.cell? at h1 ⊢
                  rw [show w5.heap[(⟨g, i, none⟩ : Addr).block]? = wm.heap[g]? from h2]
                  exact h1
                have hg5 : g < w5.heap.size := by have := gr5.size; simp at this; omega
                have HGG : Hid ((Value.slice (some ⟨g', 0, none⟩) (L.length + 1) cap').ownBlock ≠ some g) := by
                  intro e
                  rcases hblk with h | h
                  · exact HGm.out (h.symm.trans e)
                  · rw [h] at e; simp at e; omega
                have hgg : g' ≠ g := fun e => HGG.out (by rw [e]; rfl)
                have wl : IntKind.i64.wrap ((L.length : Int) + 1 - 1) = (L.length : Int) := by rw [IntWalk.i64_in _ (by omega)]; omega
                have wl2 : IntKind.i64.wrap (((L.length + 1 : Nat) : Int) - 1) = (L.length : Int) := by rw [IntWalk.i64_in _ (by omega)]; omega
                have wl3 : IntKind.i64.wrap (L.length : Int) = (L.length : Int) := IntWalk.i64_in _ (by omega)
                clear own5 gr5 hblk
                go_wp2_with fail
                go_loopw [9] (fun i wr => ∃ kk : Nat, kk ≤ L.length ∧ i = .int .i64 kk ∧ Hid (goK L t kk = goK L t L.length) ∧ Hid (wr.ownsRow w.heap.size 3 1 (.slice (some ⟨g', 0, none⟩) (L.length + 1) cap') (L.length + 1) ((rowK L t kk).map (Value.int .i64))) ∧
                  Hid (∀ (i : Nat) (t : Int), (starts x)[i]? = some t → wr.cell? ⟨g, i, none⟩ = some (.int .i64 t)) ∧ g < wr.heap.size ∧ Bl w wr) (fun i _ => (intOf i).toNat)
                case atStart => exact ⟨L.length, Nat.le_refl _, by first | rfl | simp, rfl, HR5, HC5, hg5, b5⟩
                case round =>
                  obtain ⟨kk, hkk, rfl, HK, HRr, HCr, hgr, hbq⟩ := hrel
                  have hzq := hbq.size
                  have ct : wr.cell? ⟨g', kk, none⟩ = some (.int .i64 t) := by
                    rw [World.ownsRow.cellAt HRr.out kk (by omega), List.getElem?_map, rowK_here L t hkk]
                    rfl
                  cases kk with
                  | zero =>
                    have HKE := Lib.hid (HK.out.symm.trans (show goK L t 0 = 0 from rfl))
                    have HINS := Lib.hid (show ins L t = rowK L t 0 by unfold ins; rw [HKE.out])
                    have HF3 : Hid (wr.ownsRow w.heap.size 3 1 (.slice (some ⟨g', 0, none⟩) (L.length + 1) cap') (A.length + (j + 1)) ((fold (A ++ (starts x).take (j + 1))).map (Value.int .i64))) := by
                      show World.ownsRow _ _ _ _ _ _ _
                      rw [HLS.out, HINS.out, ← HLEN.out]
                      exact HRr.out
                    go_wp2_with fail
                    go_quiet (fail)
                    go_wp2
                    go_roundw
                    case rel => exact ⟨j + 1, by omega, by go_num, HF3, HGG, HCr, hgr, bl_drewN hbq _⟩
                    case measure => simp [intOf]; omega
                  | succ kk =>
                    obtain ⟨y, hy⟩ : ∃ y, L[kk]? = some y := ⟨_, List.getElem?_eq_getElem (by omega)⟩
                    have HY := Lib.hid hy
                    have cy : wr.cell? ⟨g', kk, none⟩ = some (.int .i64 y) := by
                      rw [World.ownsRow.cellAt HRr.out kk (by omega), List.getElem?_map, rowK_at hy]
                      rfl
                    have e1 : IntKind.i64.wrap (((kk + 1 : Nat) : Int) - 1) = (kk : Int) := by rw [IntWalk.i64_in _ (by omega)]; omega
                    have i1 : (kk : Int) < ((L.length + 1 : Nat) : Int) := by omega
                    have i2 : ((kk + 1 : Nat) : Int) < ((L.length + 1 : Nat) : Int) := by omega
                    clear hy
                    by_cases hgt : t < y
                    · have HK2 := Lib.hid ((goK_gt HY.out hgt).symm.trans HK.out)
                      have wl4 : IntKind.i64.wrap (kk : Int) = (kk : Int) := IntWalk.i64_in _ (by omega)
                      go_wp2_with fail
                      go_quiet (fail)
                      generalize hwq : wr.drewN _ = wq
                      have bq : Bl wr wq := by rw [← hwq]; exact bl_drewN (bl_refl _) _
                      have HRq : Hid (wq.ownsRow w.heap.size 3 1 (.slice (some ⟨g', 0, none⟩) (L.length + 1) cap') (L.length + 1) ((rowK L t (kk + 1)).map (Value.int .i64))) := HRr.out.kept (bl_grown bq) (.inr (by simp [Value.ownBlock]))
                      have hgl : Hid (g' < wr.heap.size ∧ w.heap.size ≤ g') := by
                        have h1 := World.ownsRow.lt HRr.out g' rfl
                        exact ⟨h1.2, h1.1⟩
                      have ct' : wq.cell? ⟨g', kk + 1, none⟩ = some (.int .i64 t) := by rw [(bl_cell bq).1 _ _ hgl.out.1]; exact ct
                      have cy' : wq.cell? ⟨g', kk, none⟩ = some (.int .i64 y) := by rw [(bl_cell bq).1 _ _ hgl.out.1]; exact cy
                      have f1 := World.ownsRow.frozenAt HRq.out kk
                      have f2 := World.ownsRow.frozenAt HRq.out (kk + 1)
                      clear ct cy hwq
                      have HW : Hid (∀ z, z = (wq.setCell ⟨g', kk + 1, none⟩ (.int .i64 y)).setCell ⟨g', kk, none⟩ (.int .i64 t) → Hid (z.ownsRow w.heap.size 3 1 (.slice (some ⟨g', 0, none⟩) (L.length + 1) cap') (L.length + 1) ((rowK L t kk).map (Value.int .i64))) ∧
                          Hid (∀ (i : Nat) (t : Int), (starts x)[i]? = some t → z.cell? ⟨g, i, none⟩ = some (.int .i64 t)) ∧ g < z.heap.size ∧ Bl w z) := by
                        rintro z rfl
                        refine ⟨?_, fun i t' ht' => ?_, ?_, ?_⟩
                        · have := ((World.ownsRow.stored HRq.out (kk + 1) (.int .i64 y)).1.stored kk (.int .i64 t)).1
                          rw [← List.map_set, ← List.map_set, swap_row HY.out] at this
                          exact this
                        · have h1 : wq.cell? ⟨g, i, none⟩ = some (.int .i64 t') := by rw [(bl_cell bq).1 _ _ hgr]; exact HCr.out i t' ht'
                          rw [World.cell?_setCell_far _ _ _ _ (by exact hgg), World.cell?_setCell_far _ _ _ _ (by exact hgg)]
                          exact h1
                        · have := bq.size; simp; omega
                        · exact bl_set (bl_set (bl_next hbq bq) hgl.out.2 _) hgl.out.2 _
                      clear bq
                      go_wp2
                      go_roundw
                      case rel => exact ⟨kk, by omega, by go_num, HK2, (HW.out _ rfl).1, (HW.out _ rfl).2.1, (HW.out _ rfl).2.2.1, (HW.out _ rfl).2.2.2⟩
                      case measure => simp [intOf]
                    · have hle : decide (t < y) = false := decide_eq_false hgt
                      have hle' : y ≤ t := by omega
                      have HKE := Lib.hid (HK.out.symm.trans (goK_le HY.out hle'))
                      have HINS := Lib.hid (show ins L t = rowK L t (kk + 1) by unfold ins; rw [HKE.out])
                      have HF3 : Hid (wr.ownsRow w.heap.size 3 1 (.slice (some ⟨g', 0, none⟩) (L.length + 1) cap') (A.length + (j + 1)) ((fold (A ++ (starts x).take (j + 1))).map (Value.int .i64))) := by
                        show World.ownsRow _ _ _ _ _ _ _
                        rw [HLS.out, HINS.out, ← HLEN.out]
                        exact HRr.out
                      go_wp2_with fail
                      go_quiet (fail)
                      go_wp2
                      go_roundw
                      case rel => exact ⟨j + 1, by omega, by go_num, HF3, HGG, HCr, hgr, bl_drewN hbq _⟩
                      case measure => simp [intOf]; omega
              · have HF3 : Hid (wm.ownsRow w.heap.size 3 1 u5 (allS (fs.take (k + 1)) trip).length ((fold (allS (fs.take (k + 1)) trip)).map (Value.int .i64))) := by
                  have := HOm.out
                  rw [show j = (starts x).length by rw [HN.out]; omega, List.take_length, ← List.length_append, ← HAL.out] at this
                  exact this
                go_wp2
                go_roundw
                case rel => exact ⟨k + 1, by omega, by go_num, HF3, hbm⟩
                case measure => simp [intOf]; omega
        · have q : (x.trip == trip) = false := by rw [beq_eq_false_iff_ne]; exact he
          have q' : (x.trip != trip) = true := by rw [bne, q]; rfl
          have HAL := Lib.hid (show allS (fs.take (k + 1)) trip = allS (fs.take k) trip by rw [HT.out, allS_miss _ _ _ q])
          clear he
          go_wp2
          go_roundw
          case rel => exact ⟨k + 1, by omega, by go_num, by rw [HAL.out]; exact HO, hbl⟩
          case measure => simp [intOf]; omega
      · have HF : Hid (wo.ownsRow w.heap.size 3 1 u5 (fold (allS fs trip)).length ((fold (allS fs trip)).flatMap intCells)) := by
          have := HO.out
          rw [List.take_of_length_le (by omega)] at this
          rw [flatI, fold_length]
          exact this
        go_wp2
        go_ret
        exact ⟨_, rfl, slIn_own intCells_len HF.out, hbl⟩
  · obtain ⟨a1, c1, rfl, m1, rfl⟩ := ha.empty (by omega)
    go_enter Try.func22, Try.ntmps22
    go_wp2_with fail
    refine wp_loop_rounds 1 ?_
    rw [rounds_succ]
    go_wp2
    go_ret
    exact ⟨_, rfl, slIn_nil, bl_refl _⟩
end Go.Proofs.Ytknecohjajjloaa
