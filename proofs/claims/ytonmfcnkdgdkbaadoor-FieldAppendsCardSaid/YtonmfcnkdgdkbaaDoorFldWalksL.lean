/-
  THE CONTRACTS OF FIELD, TWELFTH PART: the reference's Join. Conditions: those of each contract.
-/
import Derived.Test.YtonmfcnkdgdkbaaDoorFldWalksK
import Derived.Lib.AppendStr
namespace Go.Proofs.YtonmfcnkdgdkbaaDoor
open Go.RowKit
open Fld

theorem ownB_str {B : Nat} {v' : Value} {l q : List UInt8} {w : World} {n : Nat} (h : w.ownsRow B 5 1 v' n (Lib.byteCells l ++ Lib.strCells ⟨q.toArray⟩)) (hn : n = l.length + q.length) : OwnB B v' (l ++ q) w := by
  unfold OwnB
  rw [byteCells_app, List.length_append]
  subst hn
  exact h
set_option maxHeartbeats 4000000 in
theorem rjoin_c (v : Value) (l : List (List UInt8)) (o : List UInt8) (e : Int) (H : Hid (joinR l = (o, e))) (HL : Hid (∀ x ∈ l, x.length ≤ 131072)) (B : Nat) (w : World) (hv : StrsIn B w v l) (hB : B ≤ w.heap.size) :
    Calls Tryd.prog 20 #[v] w fun r w' => r = .returned (.tuple #[str o, .int .i64 e]) ∧ Bl w w' := by
  obtain ⟨i0, hi, hz0, hz1, hz2⟩ := info_parts info_byte
  by_cases hbig : 64 < l.length
  · obtain ⟨b1, o1, cap1, rfl, l1, m1, hb1, hc1⟩ := hv.open (by omega)
    have HF := Lib.hid (show (([] : List UInt8), (5 : Int)) = (o, e) by rw [← H.out]; unfold joinR; rw [if_pos hbig])
    obtain ⟨e1, e2⟩ := Prod.mk.inj HF.out
    clear H HF hv hc1
    subst e1 e2
    go_enter Tryd.func20, Tryd.ntmps20
    go_wp2
    go_ret2
    exact ⟨rfl, bl_refl _⟩
  by_cases h0 : 0 < l.length
  · obtain ⟨b1, o1, cap1, rfl, l1, m1, hb1, hc1⟩ := hv.open h0
    have H1 := Lib.hid hc1
    clear hv hc1
    go_enter Tryd.func20, Tryd.ntmps20
    go_wp2
    go_loopw [4, 5] (fun vo i wr => ∃ (k : Nat) (line : List UInt8), k ≤ l.length ∧ i = .int .i64 k ∧ line.length ≤ k * 600000 ∧ Hid (OwnB w.heap.size vo line wr) ∧ Hid (joinS (l.take k) = line) ∧ Hid (Bl w wr)) (fun _ i _ => l.length - (intOf i).toNat)
    case atStart => exact ⟨0, [], Nat.zero_le _, rfl, by decide, ownB_nil _ _, by show _ = _; rfl, bl_refl _⟩
    case round =>
      obtain ⟨k, line, hk, rfl, hll, HO, HJ, HB⟩ := hrel
      by_cases hlt : k < l.length
      · obtain ⟨x, hx⟩ : ∃ x, l[k]? = some x := ⟨_, List.getElem?_eq_getElem hlt⟩
        have hxl : x.length ≤ 131072 := HL.out x (List.mem_of_getElem? hx)
        have i1 : (k : Int) < (l.length : Int) := by omega
        obtain ⟨q, hq⟩ : ∃ q, quoteS x = q := ⟨_, rfl⟩
        have hql : q.length ≤ 524290 := by rw [← hq]; have := (quote_len x).2; omega
        have HQ := Lib.hid hq
        have hqc := rquote_c ⟨x.toArray⟩ q HQ (by show x.toArray.size ≤ _; rw [List.size_toArray]; omega)
        by_cases hk0 : 0 < k
        · have HN := Lib.hid (show joinS (l.take (k + 1)) = (line ++ [44]) ++ q by rw [join_next hk0 hx, HJ.out, hq])
          have HX := Lib.hid hx
          clear hx hq
          go_wp2_with (at_builtin; refine wpList_append_own _ rfl _ _ 40 rfl w.heap.size 5 i0 (.int .u8 0) 1 1 Tryd.underlying40 hi hz0 hz1 hz2 rfl (by decide) _ _ _ rfl (ownB_alloc HO.out _) ⟨wr.heap.size, 0, none⟩ 1 1 [.int .u8 44] rfl rfl ?c1 ?c2 ?c3 ?c4 ?c5 ?_)
          case c1 => exact cells_of_lit _ (fun j u h => by simpa using h)
          case c2 => simp [Value.oneCell']
          case c3 => unfold maxLen; omega
          case c4 => omega
          case c5 => have := HB.out.size; simp; omega
          intro v3 w3 hown3 hgrow3 _
          have O3 := Lib.hid (ownB_app (m := [44]) hown3)
          have B3 : Hid (Bl w w3) := (HB.out.alloc HB.out.size _).grown hgrow3 (by have := HB.out.size; simp; omega) (fun k hk => (World.ownsRow.lt HO.out k hk).1)
          clear hown3 hgrow3
          have c1 : w3.cell? ⟨b1, o1 + k, none⟩ = some (str x) := by rw [(bl_cell B3.out).1 _ _ (by omega)]; exact (by have := H1.out k x HX.out 0 _ rfl; simpa using this)
          have hl44 : (line ++ [44]).length = line.length + 1 := by simp
          go_wp2_with (go_at_call 14; refine (hqc _).mono ?_)
          rintro r w4 ⟨rfl, b4⟩
          have B4 : Hid (Bl w w4) := bl_next B3.out b4
          have O4 := Lib.hid (ownB_bl O3.out b4)
          clear b4 hqc
          go_wp2_with (at_builtin; refine Lib.wpList_append_own_string _ rfl _ _ 40 9 rfl w.heap.size 5 i0 Tryd.underlying40 Tryd.underlying9 hi hz0 hz1 hz2 _ _ _ rfl O4.out ⟨q.toArray⟩ rfl ?d3 ?d4 ?d5 ?_)
          case d3 => show (line ++ [44]).length + q.toArray.size ≤ _; rw [List.size_toArray]; unfold maxLen; omega
          case d4 => show (line ++ [44]).length + q.toArray.size ≤ _; rw [List.size_toArray]; omega
          case d5 => exact B4.out.size
          intro v5 w5 hown5 hgrow5 _
          have O5 := Lib.hid (ownB_str hown5 (by simp))
          have B5 : Hid (Bl w w5) := B4.out.grown hgrow5 B4.out.size (fun k hk => (World.ownsRow.lt O4.out k hk).1)
          clear hown5 hgrow5
          go_wp2
          go_roundw
          case rel => exact ⟨k + 1, (line ++ [44]) ++ q, by omega, by go_num, by simp; omega, O5, HN, B5⟩
          case measure => simp [intOf]; omega
        · have HN := Lib.hid (show joinS (l.take (k + 1)) = line ++ q by
            have hkz : k = 0 := by omega
            have hl0 : line = [] := by rw [← HJ.out, hkz]; rfl
            rw [hl0, List.nil_append, hkz, join_first (by rw [← hkz]; exact hx), hq])
          have c1 : wr.cell? ⟨b1, o1 + k, none⟩ = some (str x) := by rw [(bl_cell HB.out).1 _ _ (by omega)]; exact (by have := H1.out k x hx 0 _ rfl; simpa using this)
          clear hx hq
          go_wp2_with (go_at_call 14; refine (hqc _).mono ?_)
          rintro r w4 ⟨rfl, b4⟩
          have B4 : Hid (Bl w w4) := bl_next HB.out b4
          have O4 := Lib.hid (ownB_bl HO.out b4)
          clear b4 hqc
          go_wp2_with (at_builtin; refine Lib.wpList_append_own_string _ rfl _ _ 40 9 rfl w.heap.size 5 i0 Tryd.underlying40 Tryd.underlying9 hi hz0 hz1 hz2 _ _ _ rfl O4.out ⟨q.toArray⟩ rfl ?d3 ?d4 ?d5 ?_)
          case d3 => show line.length + q.toArray.size ≤ _; rw [List.size_toArray]; unfold maxLen; omega
          case d4 => show line.length + q.toArray.size ≤ _; rw [List.size_toArray]; omega
          case d5 => exact B4.out.size
          intro v5 w5 hown5 hgrow5 _
          have O5 := Lib.hid (ownB_str hown5 (by simp))
          have B5 : Hid (Bl w w5) := B4.out.grown hgrow5 B4.out.size (fun k hk => (World.ownsRow.lt O4.out k hk).1)
          clear hown5 hgrow5
          go_wp2
          go_roundw
          case rel => exact ⟨k + 1, line ++ q, by omega, by go_num, by simp; omega, O5, HN, B5⟩
          case measure => simp [intOf]; omega
      · have HK := Lib.hid (show joinS l = line by rw [← HJ.out, List.take_of_length_le (by omega)])
        by_cases hover : 65536 < line.length
        · have HF := Lib.hid (show (([] : List UInt8), (5 : Int)) = (o, e) by
            rw [← H.out]; unfold joinR; rw [if_neg hbig, if_pos (by rw [HK.out]; exact hover)])
          obtain ⟨e1, e2⟩ := Prod.mk.inj HF.out
          clear H HF
          subst e1 e2
          obtain ⟨a3, c3, rfl⟩ := own_form HO.out
          go_wp2
          go_ret2
          exact ⟨rfl, HB.out⟩
        · have HF := Lib.hid (show (line, (0 : Int)) = (o, e) by
            rw [← H.out]; unfold joinR; rw [if_neg hbig, if_neg (by rw [HK.out]; exact hover), HK.out])
          obtain ⟨e1, e2⟩ := Prod.mk.inj HF.out
          clear H HF
          subst e1 e2
          obtain ⟨a3, c3, rfl⟩ := own_form HO.out
          have hcv := ownB_conv HO.out
          go_wp2
          go_ret2
          exact ⟨rfl, HB.out⟩
  · obtain ⟨a1, c1, rfl, m1, rfl⟩ := hv.empty (by omega)
    have HF := Lib.hid (show (([] : List UInt8), (0 : Int)) = (o, e) by rw [← H.out]; rfl)
    obtain ⟨e1, e2⟩ := Prod.mk.inj HF.out
    clear H HF hv
    subst e1 e2
    go_enter Tryd.func20, Tryd.ntmps20
    have hcv := ownB_conv (ownB_nil w.heap.size w)
    go_wp2_with fail
    refine wp_loop_rounds 1 ?_
    rw [rounds_succ]
    go_wp2
    go_ret2
    exact ⟨rfl, bl_refl _⟩
end Go.Proofs.YtonmfcnkdgdkbaaDoor
