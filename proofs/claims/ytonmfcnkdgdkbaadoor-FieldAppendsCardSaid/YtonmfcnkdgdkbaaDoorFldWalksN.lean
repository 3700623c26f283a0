/-
  THE CONTRACTS OF FIELD, FOURTEENTH PART: Text, of the program and of the reference. Conditions: those of each contract.
-/
import Derived.Test.YtonmfcnkdgdkbaaDoorFldBuilder
import Derived.Lib.IndexLaws
namespace Go.Proofs.YtonmfcnkdgdkbaaDoor
open Go.RowKit
open Fld

theorem lf_none {x : List UInt8} (h : x.contains 10 = false) : Lib.indexByte x 10 = -1 := by
  have hge := Lib.indexByte_ge x 10
  rcases Int.lt_or_le (Lib.indexByte x 10) 0 with hl | hl
  · omega
  · exfalso
    obtain ⟨j, hj⟩ : ∃ j : Nat, Lib.indexByte x 10 = j := ⟨(Lib.indexByte x 10).toNat, by omega⟩
    have := (Lib.indexByte_some hj).1
    have hm : x.contains 10 = true := List.contains_iff_mem.2 (List.mem_of_getElem? this)
    rw [h] at hm
    cases hm
theorem lf_some {x : List UInt8} (h : x.contains 10 = true) : ∃ j : Nat, Lib.indexByte x 10 = j := by
  have hge := Lib.indexByte_ge x 10
  rcases Int.lt_or_le (Lib.indexByte x 10) 0 with hl | hl
  · exfalso
    obtain ⟨i, hi⟩ := List.getElem?_of_mem (List.contains_iff_mem.1 h)
    exact Lib.indexByte_none (by omega) i hi
  · exact ⟨(Lib.indexByte x 10).toNat, by omega⟩
theorem textL_next {ls : List (List UInt8)} {k : Nat} {x : List UInt8} (h : ls[k]? = some x) : textL (ls.take (k + 1)) = (textL (ls.take k) ++ x) ++ [10] := by
  rw [take_next h]
  simp [textL]
theorem textL_take_le (ls : List (List UInt8)) (k : Nat) : (textL (ls.take k)).length ≤ (textL ls).length := by
  have : textL ls = textL (ls.take k) ++ textL (ls.drop k) := by
    unfold textL
    rw [← List.flatMap_append, List.take_append_drop]
  rw [this, List.length_append]
  omega
theorem text_lf {ls : List (List UInt8)} {x : List UInt8} (hx : x ∈ ls) (h : x.contains 10 = true) : textS ls = ([], 3) := by
  have : noLf ls = false := by
    unfold noLf
    rw [Bool.eq_false_iff]
    intro hc
    have := List.all_eq_true.1 hc x hx
    rw [h] at this
    cases this
  unfold textS
  rw [if_pos this]
theorem text_over {ls : List (List UInt8)} {k : Nat} (h : noLf ls = true) (ho : 65536 < (textL (ls.take k)).length) : textS ls = ([], 5) := by
  have := textL_take_le ls k
  unfold textS
  rw [if_neg (by rw [h]; decide), if_pos (by omega)]
theorem text_all {ls : List (List UInt8)} {k : Nat} (h : noLf ls = true) (hk : ls.length ≤ k) (ho : (textL (ls.take k)).length ≤ 65536) : textS ls = (textL (ls.take k), 0) := by
  rw [List.take_of_length_le hk] at ho ⊢
  unfold textS
  rw [if_neg (by rw [h]; decide), if_neg (by omega)]
theorem noLf_next {ls : List (List UInt8)} {k : Nat} {x : List UInt8} (hx : ls[k]? = some x) (h : noLf (ls.take k) = true) (hc : x.contains 10 = false) : noLf (ls.take (k + 1)) = true := by
  unfold noLf at h ⊢
  rw [take_next hx, List.all_append, h, List.all_cons, hc]
  rfl
set_option maxHeartbeats 4000000 in
theorem text_c (v : Value) (l : List (List UInt8)) (o : List UInt8) (e : Int) (H : Hid (textS l = (o, e))) (HL : Hid (∀ x ∈ l, x.length ≤ 131072)) (B : Nat) (w : World) (hv : StrsIn B w v l) (hB : B ≤ w.heap.size) :
    Calls Tryd.prog 25 #[v] w fun r w' => r = .returned (.tuple #[str o, .int .i64 e]) ∧ Bl w w' := by
  by_cases h0 : 0 < l.length
  · obtain ⟨b1, o1, cap1, rfl, l1, m1, hb1, hc1⟩ := hv.open h0
    have H1 := Lib.hid hc1
    clear hv hc1
    go_enter Tryd.func25, Tryd.ntmps25
    go_wp2
    go_loop [12] (fun i => ∃ k : Nat, k ≤ l.length ∧ i = .int .i64 k ∧ Hid (noLf (l.take k) = true)) (fun i => l.length - (intOf i).toNat)
    case atStart => exact ⟨0, Nat.zero_le _, rfl, by show _ = _; rfl⟩
    case round =>
      obtain ⟨k, hk, rfl, HN⟩ := hrel
      by_cases hlt : k < l.length
      · obtain ⟨x, hx⟩ : ∃ x, l[k]? = some x := ⟨_, List.getElem?_eq_getElem hlt⟩
        have c1 : w.cell? ⟨b1, o1 + k, none⟩ = some (str x) := by have := H1.out k x hx 0 _ rfl; simpa using this
        have i1 : (k : Int) < (l.length : Int) := by omega
        have hix := Tryd.strings_IndexByte ⟨x.toArray⟩ 10 w
        rw [show (⟨x.toArray⟩ : ByteArray).data.toList = x from rfl, show ((10 : Int).toNat.toUInt8) = 10 from rfl] at hix
        by_cases hc : x.contains 10 = true
        · obtain ⟨j, hj⟩ := lf_some hc
          have HF := Lib.hid (text_lf (List.mem_of_getElem? hx) hc)
          obtain ⟨e1, e2⟩ := Prod.mk.inj (HF.out.symm.trans H.out)
          rw [hj] at hix
          clear HF H hx hc hj
          subst e1 e2
          go_wp2_with (go_at_call 38; refine hix.mono ?_)
          go_ret2
          exact ⟨rfl, bl_refl _⟩
        · have hc' : x.contains 10 = false := by simpa using hc
          have HM := Lib.hid (noLf_next hx HN.out hc')
          rw [lf_none hc'] at hix
          clear hc hc' hx
          go_wp2_with (go_at_call 38; refine hix.mono ?_)
          go_round
          case rel => exact ⟨k + 1, by omega, by go_num, HM⟩
          case measure => simp [intOf]; omega
      · have HA := Lib.hid (show noLf l = true by have := HN.out; rw [List.take_of_length_le (by omega)] at this; exact this)
        go_wp2
        go_loopw [4, 22] (fun vn i wr => ∃ (j n : Nat), j ≤ l.length ∧ i = .int .i64 j ∧ vn = .int .i64 n ∧ n ≤ 65536 ∧ Hid ((textL (l.take j)).length = n) ∧ Hid (Lib.IsBuilder 54 5 w.heap.size w.heap.size (Lib.byteCells (textL (l.take j))) wr) ∧ Hid (Bl w wr)) (fun _ i _ => l.length - (intOf i).toNat)
        case atStart => exact ⟨0, 0, Nat.zero_le _, rfl, rfl, by decide, by show _ = _; rfl, Lib.fresh_isBuilder _ _ w, bl_alloc (bl_refl _) _⟩
        case round =>
          obtain ⟨j, n, hj, rfl, rfl, hn, HT, HI, HB⟩ := hrel
          by_cases hlt2 : j < l.length
          · obtain ⟨x, hx⟩ : ∃ x, l[j]? = some x := ⟨_, List.getElem?_eq_getElem hlt2⟩
            have c1 : wr.cell? ⟨b1, o1 + j, none⟩ = some (str x) := by rw [(bl_cell HB.out).1 _ _ (by omega)]; have := H1.out j x hx 0 _ rfl; simpa using this
            have i1 : (j : Int) < (l.length : Int) := by omega
            have hxl : x.length ≤ 131072 := HL.out x (List.mem_of_getElem? hx)
            have HX := Lib.hid (textL_next hx)
            have hlen : (textL (l.take (j + 1))).length = n + x.length + 1 := by rw [HX.out, List.length_append, List.length_append, HT.out]; rfl
            have HS := Lib.hid (show (⟨x.toArray⟩ : ByteArray).size = x.length by show x.toArray.size = _; simp)
            clear hx
            by_cases hover : (65536 : Int) < (n : Int) + ((x.length : Int) + 1)
            · have HF := Lib.hid (text_over (k := j + 1) HA.out (by omega))
              obtain ⟨e1, e2⟩ := Prod.mk.inj (HF.out.symm.trans H.out)
              clear HF H
              subst e1 e2
              go_wp2
              go_ret2
              exact ⟨rfl, HB.out⟩
            · go_wp2_with (go_at_call 39; refine (writeString_c w.heap.size w.heap.size _ ⟨x.toArray⟩ _ HI.out (by rw [Lib.byteCells_length, HT.out, HS.out]; omega) HB.out.size).mono ?_; rintro r w1 ⟨rfl, h1, b1'⟩)
              have B1 : Hid (Bl w w1) := HB.out.trans b1'
              have I1 := Lib.hid (show Lib.IsBuilder 54 5 w.heap.size w.heap.size (Lib.byteCells (textL (l.take j) ++ x)) w1 from .inr (by rw [Lib.byteCells_append]; exact h1))
              clear h1 b1'
              go_wp2_with (go_at_call 40; refine (writeByte_c w.heap.size w.heap.size _ 10 _ I1.out (by rw [Lib.byteCells_length, List.length_append, HT.out]; omega) B1.out.size).mono ?_)
              rintro r w2 ⟨rfl, h2, b2⟩
              have B2 : Hid (Bl w w2) := B1.out.trans b2
              have I2 := Lib.hid (show Lib.IsBuilder 54 5 w.heap.size w.heap.size (Lib.byteCells (textL (l.take (j + 1)))) w2 from .inr (by rw [HX.out, Lib.byteCells_append]; exact h2))
              clear h2 b2
              go_wp2
              go_roundw
              case rel => exact ⟨j + 1, n + x.length + 1, by omega, by go_num, by go_num, by omega, hlen, I2, B2⟩
              case measure => simp [intOf]; omega
          · have HF := Lib.hid (text_all (k := j) HA.out (by omega) (by rw [HT.out]; exact hn))
            obtain ⟨e1, e2⟩ := Prod.mk.inj (HF.out.symm.trans H.out)
            go_wp2_with (go_at_call 41; refine (Tryd.Builder_String_any w.heap.size w.heap.size (textL (l.take j)) _ HI.out HB.out.size).mono ?_)
            rintro r w1 ⟨rfl, b1⟩
            have B1 : Hid (Bl w w1) := HB.out.trans b1
            clear HF H b1
            subst e1 e2
            go_wp2
            go_ret2
            exact ⟨rfl, B1.out⟩
  · obtain ⟨a1, c1, rfl, m1, rfl⟩ := hv.empty (by omega)
    have HF := Lib.hid (show (([] : List UInt8), (0 : Int)) = (o, e) by rw [← H.out]; rfl)
    obtain ⟨e1, e2⟩ := Prod.mk.inj HF.out
    clear H HF hv
    subst e1 e2
    go_enter Tryd.func25, Tryd.ntmps25
    go_wp2_with fail
    refine wp_loop_rounds 1 ?_
    rw [rounds_succ]
    go_wp2
    refine wp_loop_rounds 1 ?_
    rw [rounds_succ]
    go_wp2_with (go_at_call 41; refine (Tryd.Builder_String_any w.heap.size w.heap.size [] _ (Lib.fresh_isBuilder _ _ w) (by simp)).mono ?_)
    rintro r w1 ⟨rfl, b1⟩
    go_wp2
    go_ret2
    exact ⟨rfl, (bl_alloc (bl_refl _) _).trans b1⟩
end Go.Proofs.YtonmfcnkdgdkbaaDoor
