/-
  THE CONTRACTS OF FIELD, ELEVENTH PART: Join, of the program and of the reference. Conditions: those of each contract.
-/
import Derived.Test.YthdadalmgldppaaDoorMFldWalksJ
namespace Go.Proofs.YthdadalmgldppaaDoor
open Go.RowKit
open Fld

theorem take_next {α : Type} {l : List α} {k : Nat} {x : α} (h : l[k]? = some x) : l.take (k + 1) = l.take k ++ [x] := by
  obtain ⟨hk, rfl⟩ := List.getElem?_eq_some_iff.1 h
  exact List.take_succ_eq_append_getElem hk
theorem join_first {l : List (List UInt8)} {x : List UInt8} (h : l[0]? = some x) : joinS (l.take (0 + 1)) = quoteS x := by
  rw [take_next h]
  rfl
theorem join_next {l : List (List UInt8)} {k : Nat} {x : List UInt8} (h0 : 0 < k) (h : l[k]? = some x) : joinS (l.take (k + 1)) = (joinS (l.take k) ++ [44]) ++ quoteS x := by
  obtain ⟨hk, -⟩ := List.getElem?_eq_some_iff.1 h
  rw [take_next h, joinS_snoc _ _ (fun e => by have := congrArg List.length e; rw [List.length_take, List.length_nil] at this; omega)]
  simp
theorem join_over {l : List (List UInt8)} {k : Nat} {line : List UInt8} (h : joinS (l.take k) = line) (ho : 65536 < line.length) (h64 : ¬ 64 < l.length) : joinR l = ([], 5) := by
  have := joinS_take_le l k
  unfold joinR
  rw [if_neg h64, if_pos (by rw [h] at this; omega)]
theorem join_all {l : List (List UInt8)} {k : Nat} {line : List UInt8} (h : joinS (l.take k) = line) (hk : l.length ≤ k) (ho : line.length ≤ 65536) (h64 : ¬ 64 < l.length) : joinR l = (line, 0) := by
  rw [List.take_of_length_le hk] at h
  unfold joinR
  rw [if_neg h64, if_neg (by rw [h]; omega), h]
set_option maxRecDepth 20000 in
set_option maxHeartbeats 4000000 in
theorem join_c (v : Value) (l : List (List UInt8)) (o : List UInt8) (e : Int) (H : Hid (joinR l = (o, e))) (HL : Hid (∀ x ∈ l, x.length ≤ 131072)) (B : Nat) (w : World) (hv : StrsIn B w v l) (hB : B ≤ w.heap.size) :
    Calls Tryd.prog 33 #[v] w fun r w' => r = .returned (.tuple #[str o, .int .i64 e]) ∧ Bl w w' := by
  by_cases hbig : 64 < l.length
  · obtain ⟨b1, o1, cap1, rfl, l1, m1, hb1, hc1⟩ := hv.open (by omega)
    have HF := Lib.hid (show (([] : List UInt8), (5 : Int)) = (o, e) by rw [← H.out]; unfold joinR; rw [if_pos hbig])
    obtain ⟨e1, e2⟩ := Prod.mk.inj HF.out
    clear H HF hv hc1
    subst e1 e2
    go_enter Tryd.func33, Tryd.ntmps33
    go_wp2
    go_ret2
    exact ⟨rfl, bl_refl _⟩
  by_cases h0 : 0 < l.length
  · obtain ⟨b1, o1, cap1, rfl, l1, m1, hb1, hc1⟩ := hv.open h0
    have H1 := Lib.hid hc1
    clear hv hc1
    go_enter Tryd.func33, Tryd.ntmps33
    go_wp2
    go_loopw [4, 12] (fun vo i wr => ∃ (k : Nat) (line : List UInt8), k ≤ l.length ∧ i = .int .i64 k ∧ vo = str line ∧ line.length ≤ 65536 ∧ Hid (joinS (l.take k) = line) ∧ Hid (Bl w wr)) (fun _ i _ => l.length - (intOf i).toNat)
    case atStart => exact ⟨0, [], Nat.zero_le _, rfl, rfl, by decide, by show _ = _; rfl, bl_refl _⟩
    case round =>
      obtain ⟨k, line, hk, rfl, rfl, hll, HJ, HB⟩ := hrel
      by_cases hlt : k < l.length
      · obtain ⟨x, hx⟩ : ∃ x, l[k]? = some x := ⟨_, List.getElem?_eq_getElem hlt⟩
        have c1 : wr.cell? ⟨b1, o1 + k, none⟩ = some (str x) := by rw [(bl_cell HB.out).1 _ _ (by omega)]; exact (by have := H1.out k x hx 0 _ rfl; simpa using this)
        have i1 : (k : Int) < (l.length : Int) := by omega
        have hxl : x.length ≤ 131072 := HL.out x (List.mem_of_getElem? hx)
        obtain ⟨q, hq⟩ : ∃ q, quoteS x = q := ⟨_, rfl⟩
        have hql : q.length ≤ 524290 := by rw [← hq]; have := (quote_len x).2; omega
        have HQ := Lib.hid hq
        have hqc := quote_c ⟨x.toArray⟩ q HQ (by show x.toArray.size ≤ _; rw [List.size_toArray]; omega)
        by_cases hk0 : 0 < k
        · have HN := Lib.hid (show joinS (l.take (k + 1)) = (line ++ [44]) ++ q by rw [join_next hk0 hx, HJ.out, hq])
          clear hx hq
          go_wp2_with (go_at_call 55; refine (concat_c wr.heap.size 0 2 line [44] _ (by rw [World.cell?_alloc_at (hn := rfl)]; rfl) (by rw [World.cell?_alloc_at (hn := rfl)]; rfl) (by simp) (Nat.le_refl _) (by simp; omega)).mono ?_)
          rintro r w2 ⟨rfl, b2⟩
          have B2 : Hid (Bl w w2) := bl_next (bl_alloc HB.out _) b2
          clear b2
          go_wp2_with (go_at_call 56; refine (hqc _).mono ?_)
          rintro r w3 ⟨rfl, b3⟩
          have B3 : Hid (Bl w w3) := bl_next B2.out b3
          clear b3 hqc
          go_wp2_with (go_at_call 55; refine (concat_c w3.heap.size 0 2 (line ++ [44]) q _ (by rw [World.cell?_alloc_at (hn := rfl)]; rfl) (by rw [World.cell?_alloc_at (hn := rfl)]; rfl) (by simp) (Nat.le_refl _) (by simp; omega)).mono ?_)
          rintro r w4 ⟨rfl, b4⟩
          have B4 : Hid (Bl w w4) := bl_next (bl_alloc B3.out _) b4
          clear b4
          obtain ⟨line', hl'⟩ : ∃ line', (line ++ [44]) ++ q = line' := ⟨_, rfl⟩
          rw [hl'] at HN ⊢
          clear hl'
          by_cases hover : 65536 < line'.length
          · have HF := Lib.hid (join_over HN.out hover (by omega))
            obtain ⟨e1, e2⟩ := Prod.mk.inj (HF.out.symm.trans H.out)
            clear HF H
            subst e1 e2
            go_wp2
            go_ret2
            exact ⟨rfl, B4.out⟩
          · go_wp2
            go_roundw
            case rel => exact ⟨k + 1, line', by omega, by go_num, rfl, by omega, HN, B4⟩
            case measure => simp [intOf]; omega
        · have HN := Lib.hid (show joinS (l.take (k + 1)) = line ++ q by
            have hkz : k = 0 := by omega
            have hl0 : line = [] := by rw [← HJ.out, hkz]; rfl
            rw [hl0, List.nil_append, hkz, join_first (by rw [← hkz]; exact hx), hq])
          clear hx hq
          go_wp2_with (go_at_call 56; refine (hqc _).mono ?_)
          rintro r w3 ⟨rfl, b3⟩
          have B3 : Hid (Bl w w3) := bl_next HB.out b3
          clear b3 hqc
          go_wp2_with (go_at_call 55; refine (concat_c w3.heap.size 0 2 line q _ (by rw [World.cell?_alloc_at (hn := rfl)]; rfl) (by rw [World.cell?_alloc_at (hn := rfl)]; rfl) (by simp) (Nat.le_refl _) (by omega)).mono ?_)
          rintro r w4 ⟨rfl, b4⟩
          have B4 : Hid (Bl w w4) := bl_next (bl_alloc B3.out _) b4
          clear b4
          obtain ⟨line', hl'⟩ : ∃ line', line ++ q = line' := ⟨_, rfl⟩
          rw [hl'] at HN ⊢
          clear hl'
          by_cases hover : 65536 < line'.length
          · have HF := Lib.hid (join_over HN.out hover (by omega))
            obtain ⟨e1, e2⟩ := Prod.mk.inj (HF.out.symm.trans H.out)
            clear HF H
            subst e1 e2
            go_wp2
            go_ret2
            exact ⟨rfl, B4.out⟩
          · go_wp2
            go_roundw
            case rel => exact ⟨k + 1, line', by omega, by go_num, rfl, by omega, HN, B4⟩
            case measure => simp [intOf]; omega
      · have HF := Lib.hid (join_all HJ.out (by omega) hll (by omega))
        obtain ⟨e1, e2⟩ := Prod.mk.inj (HF.out.symm.trans H.out)
        clear HF H
        subst e1 e2
        go_wp2
        go_ret2
        exact ⟨rfl, HB.out⟩
  · obtain ⟨a1, c1, rfl, m1, rfl⟩ := hv.empty (by omega)
    have HF := Lib.hid (show (([] : List UInt8), (0 : Int)) = (o, e) by rw [← H.out]; rfl)
    obtain ⟨e1, e2⟩ := Prod.mk.inj HF.out
    clear H HF hv
    subst e1 e2
    go_enter Tryd.func33, Tryd.ntmps33
    go_wp2_with fail
    refine wp_loop_rounds 1 ?_
    rw [rounds_succ]
    go_wp2
    go_ret2
    exact ⟨rfl, bl_refl _⟩
end Go.Proofs.YthdadalmgldppaaDoor
