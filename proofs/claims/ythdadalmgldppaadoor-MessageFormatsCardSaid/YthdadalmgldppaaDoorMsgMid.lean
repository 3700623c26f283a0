/-
  THE CONTRACTS OF MESSAGE, PART L: parts, of the program and of the reference. Conditions: those of each contract.
  THE CONTRACTS OF MESSAGE, PART M: the parser in its block; next, fail, integer. Conditions: those of each contract.
  THE CONTRACTS OF MESSAGE, PART N: call of the parser. Conditions: those of each contract.
-/
import Derived.Test.YthdadalmgldppaaDoorMFldWalksK
import Derived.Test.YthdadalmgldppaaDoorFldPlain3
import Derived.Test.YthdadalmgldppaaDoorMsgWalksK
import Derived.Test.YthdadalmgldppaaDoorNuNumWalksC
import Derived.Test.YthdadalmgldppaaDoorDaDatWalksH
namespace Go.Proofs.YthdadalmgldppaaDoor
open Go.RowKit
open Fld

theorem parts_step_sep {s : ByteArray} {i at' : Nat} {out : List (List UInt8)} (h : i < s.size) (h10 : (s[i]'h).toNat = 32)
    (hr : splitL 32 (s.data.toList.take i) = out ++ [(s.extract at' i).data.toList]) : splitL 32 (s.data.toList.take (i + 1)) = (out ++ [(s.extract at' i).data.toList]) ++ [(s.extract (i + 1) (i + 1)).data.toList] := by
  have e : (s[i]'h) = 32 := UInt8.toNat.inj (by simpa using h10)
  have e2 : (s.extract (i + 1) (i + 1)).data.toList = [] := by rw [ext_list]; simp
  rw [List.take_succ_eq_append_getElem (by simpa using h), bytes_get s i h, e, splitL_snoc_c, hr, e2]
theorem parts_step_ne {s : ByteArray} {i at' : Nat} {out : List (List UInt8)} (h : i < s.size) (h10 : ¬ (s[i]'h).toNat = 32) (hat : at' ≤ i)
    (hr : splitL 32 (s.data.toList.take i) = out ++ [(s.extract at' i).data.toList]) : splitL 32 (s.data.toList.take (i + 1)) = out ++ [(s.extract at' (i + 1)).data.toList] := by
  have e : (s[i]'h) ≠ 32 := fun e => h10 (by rw [e]; rfl)
  have e2 : (s.extract at' (i + 1)).data.toList = (s.extract at' i).data.toList ++ [s[i]'h] := by
    rw [ext_list, ext_list, show i + 1 - at' = (i - at') + 1 by omega, List.take_succ_eq_append_getElem (by rw [List.length_drop, len_bytes]; omega), List.getElem_drop]
    congr 1
    simp only [List.cons.injEq, and_true]
    rw [← bytes_get s i h]
    congr 1
    omega
  rw [List.take_succ_eq_append_getElem (by simpa using h), bytes_get s i h, splitL_snoc_ne e _ _ _ hr, e2]
set_option maxRecDepth 20000 in
set_option maxHeartbeats 4000000 in
theorem parts_c (s : ByteArray) (hs : s.size ≤ 34359738368) (l : List (List UInt8)) (H : Hid (splitL 32 s.data.toList = l)) (w : World) :
    Calls Tryd.prog 92 #[.string s] w fun r w' => ∃ v, r = .returned v ∧ OwnS w.heap.size v l w' ∧ Bl w w' := by
  obtain ⟨i0, hi, hz0, hz1, hz2⟩ := info_parts info_str
  have hn := len_bytes s
  go_enter Tryd.func92, Tryd.ntmps92
  go_wp2
  go_loopw [3, 4, 5] (fun vo va i wr => ∃ (k j : Nat) (out : List (List UInt8)), k ≤ s.size + 1 ∧ j ≤ k ∧ out.length ≤ k ∧ i = .int .i64 k ∧ va = .int .i64 j ∧ Hid (OwnS w.heap.size vo out wr) ∧ Hid (k ≤ s.size → splitL 32 (s.data.toList.take k) = out ++ [(s.extract j k).data.toList]) ∧ Hid (k = s.size + 1 → out = l) ∧ Hid (Bl w wr)) (fun _ _ i _ => s.size + 2 - (intOf i).toNat)
  case atStart => exact ⟨0, 0, [], Nat.zero_le _, Nat.le_refl _, Nat.le_refl _, rfl, rfl, ownS_nil _ _, fun _ => by rw [ext_list]; rfl, fun h => by omega, bl_refl _⟩
  case round =>
    obtain ⟨k, j, out, hk, hj, hol, rfl, rfl, HO, HS, HL, HB⟩ := hrel
    by_cases hle : k ≤ s.size
    · obtain ⟨f, hf⟩ : ∃ f, (s.extract j k).data.toList = f := ⟨_, rfl⟩
      have hv : Value.string (s.extract j k) = str f := by rw [← hf]
      have HS' := Lib.hid (HS.out hle)
      have hkI : (k : Int) ≤ (s.size : Int) := by omega
      by_cases hlt : k < s.size
      · by_cases h10 : ((s[k]'hlt).toNat : Int) = 32
        · have HN := Lib.hid (parts_step_sep hlt (by omega) HS'.out)
          rw [hf] at HN
          have f1 : ((k : Int) == (s.size : Int)) = false := by rw [beq_eq_false_iff_ne]; omega
          clear hf HS HS' HL
          go_wp2_with (at_builtin; refine wpList_append_own _ rfl _ _ 48 rfl w.heap.size 9 i0 (.string ByteArray.empty) 1 16 Tryd.underlying48 hi hz0 hz1 hz2 rfl (by decide) _ _ _ rfl (ownS_alloc HO.out _) ⟨wr.heap.size, 0, none⟩ 1 1 [str f] rfl rfl ?c1 ?c2 ?c3 ?c4 ?c5 ?_)
          case c1 => exact cells_of_lit _ (fun j u h => by simpa using h)
          case c2 => simp [Value.oneCell']
          case c3 => unfold maxLen; omega
          case c4 => omega
          case c5 => have := HB.out.size; simp; omega
          intro v3 w3 hown3 hgrow3 _
          have O3 := Lib.hid (ownS_app (m := [f]) hown3)
          have B3 : Hid (Bl w w3) := (HB.out.alloc HB.out.size _).grown hgrow3 (by have := HB.out.size; simp; omega) (fun k hk => (World.ownsRow.lt HO.out k hk).1)
          clear hown3 hgrow3 hv
          go_wp2
          go_roundw
          case rel => exact ⟨k + 1, k + 1, out ++ [f], by omega, by omega, by simp; omega, by go_num, by go_num, O3, fun _ => HN.out, fun h => by omega, B3⟩
          case measure => simp [intOf]; omega
        · have f2 : (((s[k]'hlt).toNat : Int) == 32) = false := by rw [beq_eq_false_iff_ne]; exact h10
          have f1 : ((k : Int) == (s.size : Int)) = false := by rw [beq_eq_false_iff_ne]; omega
          have HN := Lib.hid (parts_step_ne hlt (by omega) hj HS'.out)
          clear hf HS HS' HL hv
          go_wp2
          go_roundw
          case rel => exact ⟨k + 1, j, out, by omega, by omega, by omega, by go_num, rfl, HO, fun _ => HN.out, fun h => by omega, HB⟩
          case measure => simp [intOf]; omega
      · obtain rfl : k = s.size := by omega
        have HN := Lib.hid (show out ++ [f] = l by rw [← H.out, ← hf, ← HS'.out, List.take_of_length_le (by omega)])
        clear hf HS HS' HL
        go_wp2_with (at_builtin; refine wpList_append_own _ rfl _ _ 48 rfl w.heap.size 9 i0 (.string ByteArray.empty) 1 16 Tryd.underlying48 hi hz0 hz1 hz2 rfl (by decide) _ _ _ rfl (ownS_alloc HO.out _) ⟨wr.heap.size, 0, none⟩ 1 1 [str f] rfl rfl ?d1 ?d2 ?d3 ?d4 ?d5 ?_)
        case d1 => exact cells_of_lit _ (fun j u h => by simpa using h)
        case d2 => simp [Value.oneCell']
        case d3 => unfold maxLen; omega
        case d4 => omega
        case d5 => have := HB.out.size; simp; omega
        intro v3 w3 hown3 hgrow3 _
        have O3 := Lib.hid (ownS_app (m := [f]) hown3)
        have B3 : Hid (Bl w w3) := (HB.out.alloc HB.out.size _).grown hgrow3 (by have := HB.out.size; simp; omega) (fun k hk => (World.ownsRow.lt HO.out k hk).1)
        clear hown3 hgrow3 hv
        go_wp2
        go_roundw
        case rel => exact ⟨s.size + 1, s.size + 1, out ++ [f], by omega, by omega, by simp; omega, by go_num, by go_num, O3, fun h => by omega, fun _ => HN.out, B3⟩
        case measure => simp [intOf]
    · have HN := Lib.hid (HL.out (by omega))
      clear HS HL
      have hkI : ¬ (k : Int) ≤ (s.size : Int) := by omega
      go_wp2
      go_ret
      exact ⟨_, rfl, by rw [← HN.out]; exact HO.out, HB.out⟩
set_option maxRecDepth 20000 in
set_option maxHeartbeats 4000000 in
theorem rparts_c (s : ByteArray) (hs : s.size ≤ 34359738368) (l : List (List UInt8)) (H : Hid (splitL 32 s.data.toList = l)) (w : World) :
    Calls Tryd.prog 75 #[.string s] w fun r w' => ∃ v, r = .returned v ∧ OwnS w.heap.size v l w' ∧ Bl w w' := by
  obtain ⟨i0, hi, hz0, hz1, hz2⟩ := info_parts info_str
  have hn := len_bytes s
  go_enter Tryd.func75, Tryd.ntmps75
  go_wp2
  go_loopw [3, 4, 5] (fun vo va i wr => ∃ (k j : Nat) (out : List (List UInt8)), k ≤ s.size + 1 ∧ j ≤ k ∧ out.length ≤ k ∧ i = .int .i64 k ∧ va = .int .i64 j ∧ Hid (OwnS w.heap.size vo out wr) ∧ Hid (k ≤ s.size → splitL 32 (s.data.toList.take k) = out ++ [(s.extract j k).data.toList]) ∧ Hid (k = s.size + 1 → out = l) ∧ Hid (Bl w wr)) (fun _ _ i _ => s.size + 2 - (intOf i).toNat)
  case atStart => exact ⟨0, 0, [], Nat.zero_le _, Nat.le_refl _, Nat.le_refl _, rfl, rfl, ownS_nil _ _, fun _ => by rw [ext_list]; rfl, fun h => by omega, bl_refl _⟩
  case round =>
    obtain ⟨k, j, out, hk, hj, hol, rfl, rfl, HO, HS, HL, HB⟩ := hrel
    by_cases hle : k ≤ s.size
    · obtain ⟨f, hf⟩ : ∃ f, (s.extract j k).data.toList = f := ⟨_, rfl⟩
      have hv : Value.string (s.extract j k) = str f := by rw [← hf]
      have HS' := Lib.hid (HS.out hle)
      have hkI : (k : Int) ≤ (s.size : Int) := by omega
      by_cases hlt : k < s.size
      · by_cases h10 : ((s[k]'hlt).toNat : Int) = 32
        · have HN := Lib.hid (parts_step_sep hlt (by omega) HS'.out)
          rw [hf] at HN
          have f1 : ((k : Int) == (s.size : Int)) = false := by rw [beq_eq_false_iff_ne]; omega
          clear hf HS HS' HL
          go_wp2_with (at_builtin; refine wpList_append_own _ rfl _ _ 48 rfl w.heap.size 9 i0 (.string ByteArray.empty) 1 16 Tryd.underlying48 hi hz0 hz1 hz2 rfl (by decide) _ _ _ rfl (ownS_alloc HO.out _) ⟨wr.heap.size, 0, none⟩ 1 1 [str f] rfl rfl ?c1 ?c2 ?c3 ?c4 ?c5 ?_)
          case c1 => exact cells_of_lit _ (fun j u h => by simpa using h)
          case c2 => simp [Value.oneCell']
          case c3 => unfold maxLen; omega
          case c4 => omega
          case c5 => have := HB.out.size; simp; omega
          intro v3 w3 hown3 hgrow3 _
          have O3 := Lib.hid (ownS_app (m := [f]) hown3)
          have B3 : Hid (Bl w w3) := (HB.out.alloc HB.out.size _).grown hgrow3 (by have := HB.out.size; simp; omega) (fun k hk => (World.ownsRow.lt HO.out k hk).1)
          clear hown3 hgrow3 hv
          go_wp2
          go_roundw
          case rel => exact ⟨k + 1, k + 1, out ++ [f], by omega, by omega, by simp; omega, by go_num, by go_num, O3, fun _ => HN.out, fun h => by omega, B3⟩
          case measure => simp [intOf]; omega
        · have f2 : (((s[k]'hlt).toNat : Int) == 32) = false := by rw [beq_eq_false_iff_ne]; exact h10
          have f1 : ((k : Int) == (s.size : Int)) = false := by rw [beq_eq_false_iff_ne]; omega
          have HN := Lib.hid (parts_step_ne hlt (by omega) hj HS'.out)
          clear hf HS HS' HL hv
          go_wp2
          go_roundw
          case rel => exact ⟨k + 1, j, out, by omega, by omega, by omega, by go_num, rfl, HO, fun _ => HN.out, fun h => by omega, HB⟩
          case measure => simp [intOf]; omega
      · obtain rfl : k = s.size := by omega
        have HN := Lib.hid (show out ++ [f] = l by rw [← H.out, ← hf, ← HS'.out, List.take_of_length_le (by omega)])
        clear hf HS HS' HL
        go_wp2_with (at_builtin; refine wpList_append_own _ rfl _ _ 48 rfl w.heap.size 9 i0 (.string ByteArray.empty) 1 16 Tryd.underlying48 hi hz0 hz1 hz2 rfl (by decide) _ _ _ rfl (ownS_alloc HO.out _) ⟨wr.heap.size, 0, none⟩ 1 1 [str f] rfl rfl ?d1 ?d2 ?d3 ?d4 ?d5 ?_)
        case d1 => exact cells_of_lit _ (fun j u h => by simpa using h)
        case d2 => simp [Value.oneCell']
        case d3 => unfold maxLen; omega
        case d4 => omega
        case d5 => have := HB.out.size; simp; omega
        intro v3 w3 hown3 hgrow3 _
        have O3 := Lib.hid (ownS_app (m := [f]) hown3)
        have B3 : Hid (Bl w w3) := (HB.out.alloc HB.out.size _).grown hgrow3 (by have := HB.out.size; simp; omega) (fun k hk => (World.ownsRow.lt HO.out k hk).1)
        clear hown3 hgrow3 hv
        go_wp2
        go_roundw
        case rel => exact ⟨s.size + 1, s.size + 1, out ++ [f], by omega, by omega, by simp; omega, by go_num, by go_num, O3, fun h => by omega, fun _ => HN.out, B3⟩
        case measure => simp [intOf]
    · have HN := Lib.hid (HL.out (by omega))
      clear HS HL
      have hkI : ¬ (k : Int) ≤ (s.size : Int) := by omega
      go_wp2
      go_ret
      exact ⟨_, rfl, by rw [← HN.out]; exact HO.out, HB.out⟩
end Go.Proofs.YthdadalmgldppaaDoor
namespace Go.Proofs.YthdadalmgldppaaDoor
open Go.RowKit
open Msg Num Fld Dat

/-- The cells of a parser: the fields that are left, the error, the message. -/
abbrev pCells (u : Value) (e : Int) (m : MsgD) (vc : Value) : Array Value := #[u, .int .i64 e, .int .i64 m.src, .int .i64 m.seq, .int .i64 m.iss, .int .i64 m.exp, .int .i64 m.kind, str m.trip, .int .i64 m.day, .int .i64 m.inst, .int .i64 m.call, .int .i64 m.secs, .int .i64 m.route, .bool m.step, vc]
def PAt (g : Nat) (u : Value) (e : Int) (m : MsgD) (vc : Value) (w : World) : Prop := w.heap[g]? = some (.cells (pCells u e m vc) 63 (0, 0))
theorem PAt.lt {g : Nat} {u : Value} {e : Int} {m : MsgD} {vc : Value} {w : World} (h : PAt g u e m vc w) : g < w.heap.size := lt_of_block h
theorem PAt.cell {g : Nat} {u : Value} {e : Int} {m : MsgD} {vc : Value} {w : World} (h : PAt g u e m vc w) (i : Nat) (v : Value) (hi : (pCells u e m vc)[i]? = some v) : w.cell? ⟨g, i, none⟩ = some v := blk_cell h i v hi
theorem PAt.free {g : Nat} {u : Value} {e : Int} {m : MsgD} {vc : Value} {w : World} (h : PAt g u e m vc w) (i : Nat) : w.frozen? ⟨g, i, none⟩ = false := Lib.frozen_of_heap h i
theorem blk_set {w : World} {g : Nat} {C : Array Value} {T : TypeId} (h : w.heap[g]? = some (.cells C T (0, 0))) (i : Nat) (v : Value) : (w.setCell ⟨g, i, none⟩ v).heap[g]? = some (.cells (C.setIfInBounds i v) T (0, 0)) := by
  have hlt := lt_of_block h
  have h' : w.heap[g] = .cells C T (0, 0) := by simpa [Array.getElem?_eq_getElem hlt] using h
  show (w.heap.modify g _)[g]? = _
  rw [Array.getElem?_eq_getElem (by simpa using hlt), Array.getElem_modify_self, h']
  rfl
/-- Nothing has turned but the block g. -/
abbrev Gr (g : Nat) (w w' : World) : Prop := w.grownBy w' (some g)
theorem gr_bl {g : Nat} {w w' : World} (h : Bl w w') : Gr g w w' := ⟨h.os, h.tape, h.output, h.size, fun k hk _ => h.block k hk⟩
theorem gr_refl (g : Nat) (w : World) : Gr g w w := gr_bl (bl_refl _)
theorem gr_next {g : Nat} {a b c : World} (h : Gr g a b) (k : Gr g b c) : Gr g a c :=
  ⟨k.os.trans h.os, k.tape.trans h.tape, k.output.trans h.output, Nat.le_trans h.size k.size, fun i hi hne => (k.block i (Nat.lt_of_lt_of_le hi h.size) hne).trans (h.block i hi hne)⟩
theorem gr_set (g : Nat) (w : World) (i : Nat) (v : Value) : Gr g w (w.setCell ⟨g, i, none⟩ v) :=
  ⟨rfl, rfl, rfl, by simp, fun k _ hne => Below.heap_setCell w ⟨g, i, none⟩ v k (fun e => hne (by rw [e]))⟩
theorem gr_below {g B : Nat} {w w' : World} (h : Gr g w w') (hg : g < w.heap.size) (hB : B ≤ g) : Below B w w' :=
  ⟨h.os, h.tape, h.output, h.size, fun k hk => h.block k (by omega) (fun e => by simp only [Option.some.injEq] at e; omega)⟩
theorem pat_drew {g : Nat} {u : Value} {e : Int} {m : MsgD} {vc : Value} {w : World} (h : PAt g u e m vc w) : PAt g u e m vc w.drew := h
theorem strs_drew {B : Nat} {u : Value} {l : List (List UInt8)} {w : World} (h : StrsIn B w u l) : StrsIn B w.drew u l := h.below (Below.drew (Below.refl _ _))
/-- The first of two errors. -/
def fe (e e2 : Int) : Int := if e = 0 then e2 else e
theorem unit_end : (Ending.returned (.tuple #[]) : Ending) = .returned (.tuple #[]) := rfl

set_option maxHeartbeats 4000000 in
theorem next_c (g : Nat) (u : Value) (e : Int) (m : MsgD) (vc : Value) (x : List UInt8) (r : List (List UInt8)) (B : Nat) (w : World) (h : PAt g u e m vc w) (hu : StrsIn B w u (x :: r)) (hB : B ≤ g) :
    Calls Tryd.prog 66 #[.pointer (some ⟨g, 0, none⟩)] w fun q w' => q = .returned (str x) ∧ ∃ u', StrsIn B w' u' r ∧ PAt g u' e m vc w' ∧ Gr g w w' := by
  obtain ⟨b, o, cap, rfl, l1, l2, l3, hc⟩ := SlIn.open hu (by simp)
  have c0 := h.cell 0 _ rfl
  have f0 := h.free 0
  have x0 : w.cell? ⟨b, o, none⟩ = some (str x) := hc 0 x rfl 0 _ rfl
  have HC := Lib.hid hc
  have HP := Lib.hid h
  simp only [List.length_cons] at l1 c0
  clear hu hc h
  have e1 : (((r.length + 1 : Nat) : Int) == 0) = false := by rw [beq_eq_false_iff_ne]; omega
  go_enter Tryd.func66, Tryd.ntmps66
  go_wp2
  all_goals
    go_ret
    refine ⟨rfl, _, ?_, blk_set HP.out 0 _, gr_set g w 0 _⟩
  all_goals first
    | exact ⟨_, _, rfl, by omega, by unfold maxLen; omega, fun h0 => by omega⟩
    | exact ⟨_, _, rfl, by omega, by unfold maxLen; omega, fun h0 => ⟨b, o + 1, rfl, l3, fun i y hy j v hv => by
        rw [(gr_below (gr_set g w 0 _) HP.out.lt hB).cell (p := ⟨b, o + 1 + i * 1 + j, none⟩) l3]
        have := HC.out (i + 1) y (by simpa using hy) j v hv
        rw [show o + 1 + i * 1 + j = o + (i + 1) * 1 + j by omega]
        exact this⟩⟩
set_option maxHeartbeats 4000000 in
theorem fail_c (g : Nat) (u : Value) (e e2 e3 : Int) (H : Hid (fe e e2 = e3)) (m : MsgD) (vc : Value) (w : World) (h : PAt g u e m vc w) :
    Calls Tryd.prog 41 #[.pointer (some ⟨g, 0, none⟩), .int .i64 e2] w fun q w' => q = .returned (.tuple #[]) ∧ PAt g u e3 m vc w' ∧ Gr g w w' := by
  have c1 : w.cell? ⟨g, 1, none⟩ = some (.int .i64 e) := h.cell 1 _ rfl
  have f1 := h.free 1
  have HP := Lib.hid h
  clear h
  by_cases he : e = 0
  · have HE := Lib.hid (show e2 = e3 by rw [← H.out]; unfold fe; rw [if_pos he])
    subst he
    clear H
    go_enter Tryd.func41, Tryd.ntmps41
    go_wp2
    go_end0
    exact ⟨rfl, by rw [← HE.out]; exact blk_set HP.out 1 _, gr_set g w 1 _⟩
  · have HE := Lib.hid (show e = e3 by rw [← H.out]; unfold fe; rw [if_neg he])
    have f1 : (e == 0) = false := by rw [beq_eq_false_iff_ne]; exact he
    clear H
    go_enter Tryd.func41, Tryd.ntmps41
    go_wp2
    go_end0
    exact ⟨rfl, by rw [← HE.out]; exact HP.out, gr_refl g w⟩
set_option maxHeartbeats 4000000 in
theorem integer_c (g : Nat) (u : Value) (e e2 e3 n : Int) (x : List UInt8) (HX : Hid (parse x = (n, e2))) (hx : x.length ≤ 9223372036854775807) (H : Hid (fe e e2 = e3)) (m : MsgD) (vc : Value) (w : World) (h : PAt g u e m vc w) :
    Calls Tryd.prog 65 #[.pointer (some ⟨g, 0, none⟩), str x] w fun q w' => q = .returned (.int .i64 n) ∧ PAt g u e3 m vc w' ∧ Gr g w w' := by
  have hp := fun w => Nu.parse_c ⟨x.toArray⟩ n e2 HX (by show x.toArray.size ≤ _; rw [List.size_toArray]; unfold maxLen; omega) w
  have HP := Lib.hid h
  clear h
  go_enter Tryd.func65, Tryd.ntmps65
  go_wp2_with (go_at_call 89; refine (hp _).mono ?_)
  rintro y1 w1 ⟨rfl, b1⟩
  have P1 : Hid (PAt g u e m vc w1) := blk_bl HP.out b1
  have G1 : Hid (Gr g w w1) := gr_bl b1
  clear b1 hp
  go_wp2_with (go_at_call 41; refine (fail_c g u e e2 e3 H m vc w1 P1.out).mono ?_)
  rintro y2 w2 ⟨rfl, p2, g2⟩
  go_wp2
  go_ret
  exact ⟨rfl, p2, gr_next G1.out g2⟩
set_option maxRecDepth 20000 in
set_option maxHeartbeats 8000000 in
theorem head_c (g : Nat) (u : Value) (vc : Value) (a0 a1 a2 a3 a4 a5 a6 a7 : List UInt8) (r : List (List UInt8)) (n0 n1 n2 n3 n6 n7 e0 e1 e2 e3 e6 e7 E : Int) (B : Nat) (k : Int)
    (H0 : Hid (parse a0 = (n0, e0))) (H1 : Hid (parse a1 = (n1, e1))) (H2 : Hid (parse a2 = (n2, e2))) (H3 : Hid (parse a3 = (n3, e3))) (H6 : Hid (Day a6 n6 e6)) (H7 : Hid (parse a7 = (n7, e7)))
    (HE : Hid (fe (fe (fe (fe (fe (fe 0 e0) e1) e2) e3) e6) e7 = E)) (hl : Hid (∀ x ∈ [a0, a1, a2, a3, a4, a5, a6, a7], x.length ≤ 9223372036854775807))
    (w : World) (h : PAt g u 0 zeroM vc w) (hu : StrsIn B w u (a0 :: a1 :: a2 :: a3 :: a4 :: a5 :: a6 :: a7 :: r)) (hB : B ≤ g) :
    Calls Tryd.prog 39 #[.pointer (some ⟨g, 0, none⟩), .int .i64 k] w fun q w' => q = .returned (.tuple #[]) ∧ ∃ u', StrsIn B w' u' r ∧ PAt g u' E ⟨n0, n1, n2, n3, k, a5, n6, n7, 0, 0, 0, false, []⟩ vc w' ∧ Gr g w w' := by
  have HP := Lib.hid h
  have HU := Lib.hid hu
  clear h hu
  have hl0 := hl.out a0 (by simp)
  have hl1 := hl.out a1 (by simp)
  have hl2 := hl.out a2 (by simp)
  have hl3 := hl.out a3 (by simp)
  have hl7 := hl.out a7 (by simp)
  go_enter Tryd.func39, Tryd.ntmps39
  go_wp2_with fail
  go_region_held3 (fun w' => True) (exact trivial)
    (first
      | (go_at_call 66; refine (next_c g _ _ _ _ _ _ B _ (pat_drew HP.out) (strs_drew HU.out) hB).mono ?_; rintro q0 w0 ⟨rfl, u0, s0, p0, g0⟩)
      | (go_at_call 65; refine (integer_c g _ _ _ _ _ _ H0 hl0 rfl _ _ _ p0).mono ?_; rintro r0 v0 ⟨rfl, pp0, gg0⟩; have cc0 := pp0.cell 2 _ rfl; have ff0 := pp0.free 2))
  have P0 : Hid (PAt g u0 (fe 0 e0) ⟨n0, 0, 0, 0, 0, [], 0, 0, 0, 0, 0, false, []⟩ vc (v0.setCell ⟨g, 2, none⟩ (.int .i64 n0))) := blk_set pp0 2 _
  have G0 : Hid (Gr g w (v0.setCell ⟨g, 2, none⟩ (.int .i64 n0))) := gr_next (gr_refl g w) (gr_next (gr_bl (bl_drew (bl_refl _))) (gr_next g0 (gr_next gg0 (gr_set g _ 2 _))))
  have U0 := Lib.hid (s0.below (gr_below (gr_next gg0 (gr_set g _ 2 (.int .i64 n0))) p0.lt hB))
  generalize v0.setCell ⟨g, 2, none⟩ (.int .i64 n0) = W0 at P0 G0 U0 ⊢
  clear cc0 ff0 s0 p0 g0 pp0 gg0
  go_wp2_with fail
  go_region_held3 (fun w' => True) (exact trivial)
    (first
      | (go_at_call 66; refine (next_c g _ _ _ _ _ _ B _ (pat_drew P0.out) (strs_drew U0.out) hB).mono ?_; rintro q1 w1 ⟨rfl, u1, s1, p1, g1⟩)
      | (go_at_call 65; refine (integer_c g _ _ _ _ _ _ H1 hl1 rfl _ _ _ p1).mono ?_; rintro r1 v1 ⟨rfl, pp1, gg1⟩; have cc1 := pp1.cell 3 _ rfl; have ff1 := pp1.free 3))
  have P1 : Hid (PAt g u1 (fe (fe 0 e0) e1) ⟨n0, n1, 0, 0, 0, [], 0, 0, 0, 0, 0, false, []⟩ vc (v1.setCell ⟨g, 3, none⟩ (.int .i64 n1))) := blk_set pp1 3 _
  have G1 : Hid (Gr g w (v1.setCell ⟨g, 3, none⟩ (.int .i64 n1))) := gr_next G0.out (gr_next (gr_bl (bl_drew (bl_refl _))) (gr_next g1 (gr_next gg1 (gr_set g _ 3 _))))
  have U1 := Lib.hid (s1.below (gr_below (gr_next gg1 (gr_set g _ 3 (.int .i64 n1))) p1.lt hB))
  generalize v1.setCell ⟨g, 3, none⟩ (.int .i64 n1) = W1 at P1 G1 U1 ⊢
  clear cc1 ff1 s1 p1 g1 pp1 gg1
  go_wp2_with fail
  go_region_held3 (fun w' => True) (exact trivial)
    (first
      | (go_at_call 66; refine (next_c g _ _ _ _ _ _ B _ (pat_drew P1.out) (strs_drew U1.out) hB).mono ?_; rintro q2 w2 ⟨rfl, u2, s2, p2, g2⟩)
      | (go_at_call 65; refine (integer_c g _ _ _ _ _ _ H2 hl2 rfl _ _ _ p2).mono ?_; rintro r2 v2 ⟨rfl, pp2, gg2⟩; have cc2 := pp2.cell 4 _ rfl; have ff2 := pp2.free 4))
  have P2 : Hid (PAt g u2 (fe (fe (fe 0 e0) e1) e2) ⟨n0, n1, n2, 0, 0, [], 0, 0, 0, 0, 0, false, []⟩ vc (v2.setCell ⟨g, 4, none⟩ (.int .i64 n2))) := blk_set pp2 4 _
  have G2 : Hid (Gr g w (v2.setCell ⟨g, 4, none⟩ (.int .i64 n2))) := gr_next G1.out (gr_next (gr_bl (bl_drew (bl_refl _))) (gr_next g2 (gr_next gg2 (gr_set g _ 4 _))))
  have U2 := Lib.hid (s2.below (gr_below (gr_next gg2 (gr_set g _ 4 (.int .i64 n2))) p2.lt hB))
  generalize v2.setCell ⟨g, 4, none⟩ (.int .i64 n2) = W2 at P2 G2 U2 ⊢
  clear cc2 ff2 s2 p2 g2 pp2 gg2
  go_wp2_with fail
  go_region_held3 (fun w' => True) (exact trivial)
    (first
      | (go_at_call 66; refine (next_c g _ _ _ _ _ _ B _ (pat_drew P2.out) (strs_drew U2.out) hB).mono ?_; rintro q3 w3 ⟨rfl, u3, s3, p3, g3⟩)
      | (go_at_call 65; refine (integer_c g _ _ _ _ _ _ H3 hl3 rfl _ _ _ p3).mono ?_; rintro r3 v3 ⟨rfl, pp3, gg3⟩; have cc3 := pp3.cell 5 _ rfl; have ff3 := pp3.free 5))
  have P3 : Hid (PAt g u3 (fe (fe (fe (fe 0 e0) e1) e2) e3) ⟨n0, n1, n2, n3, 0, [], 0, 0, 0, 0, 0, false, []⟩ vc (v3.setCell ⟨g, 5, none⟩ (.int .i64 n3))) := blk_set pp3 5 _
  have G3 : Hid (Gr g w (v3.setCell ⟨g, 5, none⟩ (.int .i64 n3))) := gr_next G2.out (gr_next (gr_bl (bl_drew (bl_refl _))) (gr_next g3 (gr_next gg3 (gr_set g _ 5 _))))
  have U3 := Lib.hid (s3.below (gr_below (gr_next gg3 (gr_set g _ 5 (.int .i64 n3))) p3.lt hB))
  generalize v3.setCell ⟨g, 5, none⟩ (.int .i64 n3) = W3 at P3 G3 U3 ⊢
  clear cc3 ff3 s3 p3 g3 pp3 gg3
  go_wp2_with (go_at_call 66; refine (next_c g _ _ _ _ _ _ B _ P3.out U3.out hB).mono ?_)
  rintro q4 w4 ⟨rfl, u4, s4, p4, g4⟩
  have c6 := p4.cell 6 _ rfl
  have f6 := p4.free 6
  have P4 : Hid (PAt g u4 (fe (fe (fe (fe 0 e0) e1) e2) e3) ⟨n0, n1, n2, n3, k, [], 0, 0, 0, 0, 0, false, []⟩ vc (w4.setCell ⟨g, 6, none⟩ (.int .i64 k))) := blk_set p4 6 _
  have G4 : Hid (Gr g w (w4.setCell ⟨g, 6, none⟩ (.int .i64 k))) := gr_next G3.out (gr_next g4 (gr_set g _ 6 _))
  have U4 := Lib.hid (s4.below (gr_below (gr_set g _ 6 (.int .i64 k)) p4.lt hB))
  clear s4 p4 g4
  go_wp2_with (go_at_call 66; refine (next_c g _ _ _ _ _ _ B _ P4.out U4.out hB).mono ?_)
  rintro q5 w5 ⟨rfl, u5, s5, p5, g5⟩
  have c7 := p5.cell 7 _ rfl
  have f7 := p5.free 7
  have P5 : Hid (PAt g u5 (fe (fe (fe (fe 0 e0) e1) e2) e3) ⟨n0, n1, n2, n3, k, a5, 0, 0, 0, 0, 0, false, []⟩ vc (w5.setCell ⟨g, 7, none⟩ (str a5))) := blk_set p5 7 _
  have G5 : Hid (Gr g w (w5.setCell ⟨g, 7, none⟩ (str a5))) := gr_next G4.out (gr_next g5 (gr_set g _ 7 _))
  have U5 := Lib.hid (s5.below (gr_below (gr_set g _ 7 (str a5)) p5.lt hB))
  clear s5 p5 g5 c6 f6
  go_wp2_with (go_at_call 66; refine (next_c g _ _ _ _ _ _ B _ P5.out U5.out hB).mono ?_)
  rintro q6 w6 ⟨rfl, u6, s6, p6, g6⟩
  have P6 := Lib.hid p6
  have G6 := Lib.hid (gr_next G5.out g6)
  have U6 := Lib.hid s6
  clear s6 p6 g6 c7 f7
  have hd := fun w => Da.dParse_c ⟨a6.toArray⟩ n6 e6 H6.out w
  go_wp2_with (go_at_call 67; refine (hd _).mono ?_)
  rintro q8 w8 ⟨rfl, b8⟩
  have P8 : Hid (PAt g u6 (fe (fe (fe (fe 0 e0) e1) e2) e3) ⟨n0, n1, n2, n3, k, a5, 0, 0, 0, 0, 0, false, []⟩ vc w8) := blk_bl P6.out b8
  have G8 := Lib.hid (gr_next G6.out (gr_bl b8))
  have U8 := Lib.hid (U6.out.below (gr_below (gr_bl b8) P6.out.lt hB))
  clear b8 hd
  go_wp2_with (go_at_call 41; refine (fail_c g _ _ e6 _ rfl _ _ _ P8.out).mono ?_)
  rintro q9 w9 ⟨rfl, p9, g9⟩
  have c8 := p9.cell 8 _ rfl
  have f8 := p9.free 8
  have P9 : Hid (PAt g u6 (fe (fe (fe (fe (fe 0 e0) e1) e2) e3) e6) ⟨n0, n1, n2, n3, k, a5, n6, 0, 0, 0, 0, false, []⟩ vc (w9.setCell ⟨g, 8, none⟩ (.int .i64 n6))) := blk_set p9 8 _
  have G9 : Hid (Gr g w (w9.setCell ⟨g, 8, none⟩ (.int .i64 n6))) := gr_next G8.out (gr_next g9 (gr_set g _ 8 _))
  have U9 := Lib.hid (U8.out.below (gr_below (gr_next g9 (gr_set g _ 8 (.int .i64 n6))) P8.out.lt hB))
  clear p9 g9
  go_wp2_with fail
  go_region_held3 (fun w' => True) (exact trivial)
    (first
      | (go_at_call 66; refine (next_c g _ _ _ _ _ _ B _ (pat_drew P9.out) (strs_drew U9.out) hB).mono ?_; rintro q7 w7 ⟨rfl, u7, s7, p7, g7⟩)
      | (go_at_call 65; refine (integer_c g _ _ _ _ _ _ H7 hl7 rfl _ _ _ p7).mono ?_; rintro r7 v7 ⟨rfl, pp7, gg7⟩; have cc7 := pp7.cell 9 _ rfl; have ff7 := pp7.free 9))
  have P7 : Hid (PAt g u7 (fe (fe (fe (fe (fe (fe 0 e0) e1) e2) e3) e6) e7) ⟨n0, n1, n2, n3, k, a5, n6, n7, 0, 0, 0, false, []⟩ vc (v7.setCell ⟨g, 9, none⟩ (.int .i64 n7))) := blk_set pp7 9 _
  have G7 : Hid (Gr g w (v7.setCell ⟨g, 9, none⟩ (.int .i64 n7))) := gr_next G9.out (gr_next (gr_bl (bl_drew (bl_refl _))) (gr_next g7 (gr_next gg7 (gr_set g _ 9 _))))
  have U7 := Lib.hid (s7.below (gr_below (gr_next gg7 (gr_set g _ 9 (.int .i64 n7))) p7.lt hB))
  generalize v7.setCell ⟨g, 9, none⟩ (.int .i64 n7) = W7 at P7 G7 U7 ⊢
  clear cc7 ff7 s7 p7 g7 pp7 gg7
  go_wp2
  go_end0
  exact ⟨rfl, u7, U7.out, by rw [← HE.out]; exact P7.out, G7.out⟩

end Go.Proofs.YthdadalmgldppaaDoor
namespace Go.Proofs.YthdadalmgldppaaDoor
open Go.RowKit
open Msg Num Fld Dat

def feL (e : Int) (l : List Int) : Int := l.foldl fe e
theorem feL_first (e : Int) (l : List Int) : feL e l = if e = 0 then firstE l else e := by
  induction l generalizing e with
  | nil =>
    show e = if e = 0 then 0 else e
    split <;> simp_all
  | cons x r ih =>
    show feL (fe e x) r = _
    rw [ih]
    unfold fe
    by_cases he : e = 0
    · simp only [he, if_true]
      rfl
    · simp only [he, if_false]
theorem splitL_lens {c : UInt8} : ∀ {s : List UInt8} {l : List (List UInt8)}, splitL c s = l → ∀ y ∈ l, y.length ≤ s.length
  | [], l, h => by
    rw [← h]
    intro y hy
    rw [show splitL c [] = [[]] from rfl, List.mem_singleton] at hy
    rw [hy]
    exact Nat.le_refl _
  | b :: r, l, h => by
    by_cases hb : b = c
    · rw [hb, splitL_sep] at h
      rw [← h]
      intro y hy
      rcases List.mem_cons.1 hy with rfl | hy
      · simp
      · have := splitL_lens rfl y hy
        rw [List.length_cons]
        omega
    · obtain ⟨h', t', hr⟩ : ∃ h' t', splitL c r = h' :: t' := by
        cases hs : splitL c r with
        | nil => exact absurd hs (splitL_ne c r)
        | cons p q => exact ⟨p, q, rfl⟩
      rw [splitL_other hb hr] at h
      rw [← h]
      intro y hy
      rcases List.mem_cons.1 hy with rfl | hy
      · have := splitL_lens hr h' (List.mem_cons_self ..)
        rw [List.length_cons, List.length_cons]
        omega
      · have := splitL_lens hr y (List.mem_cons_of_mem _ hy)
        rw [List.length_cons]
        omega
theorem gr_blk {g : Nat} {a b : World} (h : Gr g a b) {k : Nat} (hk : k < a.heap.size) (hne : k ≠ g) : b.heap[k]? = a.heap[k]? := h.block k hk (fun e => hne (Option.some.inj e))
theorem gr_setNew {g : Nat} {w a : World} (h : Gr g w a) {c : Nat} (hc : w.heap.size ≤ c) (i : Nat) (v : Value) : Gr g w (a.setCell ⟨c, i, none⟩ v) :=
  ⟨h.os, h.tape, h.output, by have := h.size; simp; exact this, fun k hk hne => (Below.heap_setCell a ⟨c, i, none⟩ v k (by simp; omega)).trans (h.block k hk hne)⟩
/-- The five stores of a call into a block. -/
abbrev put5 (w : World) (r : Nat) (v0 v1 v2 v3 v4 : Value) : World := ((((w.setCell ⟨r, 0, none⟩ v0).setCell ⟨r, 1, none⟩ v1).setCell ⟨r, 2, none⟩ v2).setCell ⟨r, 3, none⟩ v3).setCell ⟨r, 4, none⟩ v4
theorem store5 {w : World} {r : Nat} {a0 a1 a2 a3 a4 v0 v1 v2 v3 v4 : Value} {T : TypeId} (h : w.heap[r]? = some (.cells #[a0, a1, a2, a3, a4] T (0, 0))) : (put5 w r v0 v1 v2 v3 v4).heap[r]? = some (.cells #[v0, v1, v2, v3, v4] T (0, 0)) :=
  blk_set (blk_set (blk_set (blk_set (blk_set h 0 v0) 1 v1) 2 v2) 3 v3) 4 v4
theorem far5 {w : World} {r k : Nat} {v0 v1 v2 v3 v4 : Value} (h : k ≠ r) : (put5 w r v0 v1 v2 v3 v4).heap[k]? = w.heap[k]? :=
  (Below.heap_setCell _ _ _ k h).trans ((Below.heap_setCell _ _ _ k h).trans ((Below.heap_setCell _ _ _ k h).trans ((Below.heap_setCell _ _ _ k h).trans (Below.heap_setCell _ _ _ k h))))
theorem gr5 {g : Nat} {w a : World} (h : Gr g w a) {r : Nat} {v0 v1 v2 v3 v4 : Value} (hr : w.heap.size ≤ r) : Gr g w (put5 a r v0 v1 v2 v3 v4) :=
  gr_setNew (gr_setNew (gr_setNew (gr_setNew (gr_setNew h hr _ _) hr _ _) hr _ _) hr _ _) hr _ _
theorem bits_cases (wd : List UInt8) : wd = [98, 111, 116, 104] ∨ wd = [98, 111, 97, 114, 100] ∨ wd = [97, 108, 105, 103, 104, 116] ∨ wd = [110, 111, 110, 101] ∨
    ((wd == [98, 111, 116, 104]) = false ∧ (wd == [98, 111, 97, 114, 100]) = false ∧ (wd == [97, 108, 105, 103, 104, 116]) = false ∧ (wd == [110, 111, 110, 101]) = false ∧ bitsOf wd = none) := by
  by_cases h1 : wd = [98, 111, 116, 104]
  · exact .inl h1
  by_cases h2 : wd = [98, 111, 97, 114, 100]
  · exact .inr (.inl h2)
  by_cases h3 : wd = [97, 108, 105, 103, 104, 116]
  · exact .inr (.inr (.inl h3))
  by_cases h4 : wd = [110, 111, 110, 101]
  · exact .inr (.inr (.inr (.inl h4)))
  refine .inr (.inr (.inr (.inr ⟨by simpa using h1, by simpa using h2, by simpa using h3, by simpa using h4, ?_⟩)))
  unfold bitsOf wBoth wBoard wAlight wNone
  rw [if_neg h1, if_neg h2, if_neg h3, if_neg h4]
set_option maxRecDepth 20000 in
set_option maxHeartbeats 8000000 in
theorem call_c (g : Nat) (u vc : Value) (e E : Int) (m : MsgD) (x : List UInt8) (hx : x.length ≤ 131072) (c : CallD) (HC : Hid ((readCall x).1 = c)) (HE : Hid (feL e (readCall x).2 = E)) (w : World) (h : PAt g u e m vc w) :
    Calls Tryd.prog 68 #[.pointer (some ⟨g, 0, none⟩), str x] w fun q w' => q = .returned (callV c) ∧ PAt g u E m vc w' ∧ Gr g w w' := by
  obtain ⟨l, hl⟩ : ∃ l, splitL 32 x = l := ⟨_, rfl⟩
  have HL := Lib.hid hl
  have hp := fun w => parts_c ⟨x.toArray⟩ (by show x.toArray.size ≤ _; rw [List.size_toArray]; omega) l (by show _ = _; exact hl) w
  have HP := Lib.hid h
  clear hl h
  by_cases h4 : l.length = 4
  · obtain ⟨a, b, d, wd, rfl⟩ : ∃ a b d wd, l = [a, b, d, wd] := by
      match l, h4 with
      | [a, b, d, wd], _ => exact ⟨a, b, d, wd, rfl⟩
    clear h4
    have hg := HP.out.lt
    have hlen := splitL_lens HL.out
    have hla : a.length ≤ 9223372036854775807 := by have := hlen a (by simp); omega
    have hlb : b.length ≤ 9223372036854775807 := by have := hlen b (by simp); omega
    have hld : d.length ≤ 9223372036854775807 := by have := hlen d (by simp); omega
    clear hlen
    obtain ⟨⟨na, ea⟩, HA⟩ : ∃ p, Hid (parse a = p) := ⟨_, rfl⟩
    obtain ⟨⟨nb, eb⟩, HBB⟩ : ∃ p, Hid (parse b = p) := ⟨_, rfl⟩
    obtain ⟨⟨nd, ed⟩, HD⟩ : ∃ p, Hid (parse d = p) := ⟨_, rfl⟩
    rcases bits_cases wd with rfl | rfl | rfl | rfl | ⟨n1, n2, n3, n4, hbw⟩
    ·
      have hrc : readCall x = (⟨na, nb, nd, true, true⟩, [0, ea, eb, ed]) := by
        unfold readCall; rw [HL.out]; simp only; rw [show bitsOf [98, 111, 116, 104] = some (true, true) from by decide, HA.out, HBB.out, HD.out]; rfl
      rw [hrc] at HC HE
      obtain rfl := HC.out
      clear HC hrc
      go_enter Tryd.func68, Tryd.ntmps68
      go_wp2_with (go_at_call 92; refine (hp _).mono ?_)
      rintro q1 w1 v1 rfl o1 b1
      obtain ⟨pb, po, pc, rfl, l1, l2, l3, hc⟩ := (ownS_in o1).open (by simp)
      have x3 : w1.cell? ⟨pb, po + 3, none⟩ = some (str [98, 111, 116, 104]) := hc 3 _ rfl 0 _ rfl
      have hpb : w.heap.size < pb := by have := (World.ownsRow.lt o1 pb rfl).1; omega
      have hs1 : w.heap.size < w1.heap.size := by have := b1.size; simp at this; omega
      have S0 := Lib.hid (show w1.cell? ⟨pb, po, none⟩ = some (str a) from hc 0 _ rfl 0 _ rfl)
      have S1 := Lib.hid (show w1.cell? ⟨pb, po + 1, none⟩ = some (str b) from hc 1 _ rfl 0 _ rfl)
      have S2 := Lib.hid (show w1.cell? ⟨pb, po + 2, none⟩ = some (str d) from hc 2 _ rfl 0 _ rfl)
      have P1 : Hid (PAt g u e m vc w1) := blk_bl HP.out (bl_next (bl_alloc (bl_refl _) _) b1)
      have G1 : Hid (Gr g w w1) := gr_bl (bl_next (bl_alloc (bl_refl _) _) b1)
      have R1 := Lib.hid (blk_bl (heap_alloc_new w _) b1)
      clear hc o1 b1
      go_wp2_with fail
      have PX : Hid (PAt g u (fe e 0) m vc (w1.alloc (.cells #[.int .i64 0, .int .i64 0, .int .i64 0, .bool true, .bool true] 46))) := by rw [show fe e 0 = e from by unfold fe; split <;> simp_all]; exact blk_bl P1.out (bl_alloc (bl_refl _) _)
      have GX : Hid (Gr g w (w1.alloc (.cells #[.int .i64 0, .int .i64 0, .int .i64 0, .bool true, .bool true] 46))) := gr_next G1.out (gr_bl (bl_alloc (bl_refl _) _))
      have CX := Lib.hid (show (w1.alloc (.cells #[.int .i64 0, .int .i64 0, .int .i64 0, .bool true, .bool true] 46)).heap[w1.heap.size]? = _ from heap_alloc_new w1 _)
      have KX := Lib.hid (show (w1.alloc (.cells #[.int .i64 0, .int .i64 0, .int .i64 0, .bool true, .bool true] 46)).heap[pb]? = _ from Below.heap_alloc w1 _ pb l3)
      have RX := Lib.hid (show (w1.alloc (.cells #[.int .i64 0, .int .i64 0, .int .i64 0, .bool true, .bool true] 46)).heap[w.heap.size]? = _ from (Below.heap_alloc w1 _ w.heap.size hs1).trans R1.out)
      clear P1 G1 R1 x3
      obtain ⟨cb, hcb⟩ : ∃ cb, w1.heap.size = cb := ⟨_, rfl⟩
      change Code.wp _ _ _ _ (w1.alloc (.cells #[.int .i64 0, .int .i64 0, .int .i64 0, .bool true, .bool true] 46))
      generalize (w1.alloc (.cells #[.int .i64 0, .int .i64 0, .int .i64 0, .bool true, .bool true] 46)) = wx at PX GX CX KX RX ⊢
      rw [hcb] at CX l3 hs1 ⊢
      have hcr : w.heap.size < cb := hs1
      have s0 : wx.cell? ⟨pb, po, none⟩ = some (str a) := (World.cell?_of_block KX.out).trans S0.out
      go_region_held3 (fun w' => w'.cell? ⟨pb, po, none⟩ = some (str a))
        (first | exact s0 | exact t0 | exact z0 _)
        ((go_at_call 65; refine (integer_c g _ _ _ _ _ a HA hla rfl _ _ _ (pat_drew PX.out)).mono ?_; rintro r0 y0 ⟨rfl, pp0, gg0⟩; have cc0 := Lib.hid ((gr_blk gg0 (lt_of_block CX.out) (by omega)).trans CX.out); have kk0 := Lib.hid ((gr_blk gg0 (Nat.lt_trans l3 (lt_of_block CX.out)) (by omega)).trans KX.out); have t0 : y0.cell? ⟨pb, po, none⟩ = some (str a) := (World.cell?_of_block kk0.out).trans S0.out; have c0 := blk_cell cc0.out 0 _ rfl; have f0 := Lib.frozen_of_heap cc0.out 0; have z0 : ∀ v, (y0.setCell ⟨cb, 0, none⟩ v).cell? ⟨pb, po, none⟩ = some (str a) := fun v => (World.cell?_of_block (Below.heap_setCell _ _ _ pb (by simp; omega))).trans t0))
      have P1x : Hid (PAt g u (fe (fe e 0) ea) m vc (y0.setCell ⟨cb, 0, none⟩ (.int .i64 na))) := (Below.heap_setCell _ _ _ g (by simp; omega)).trans pp0
      have G1x : Hid (Gr g w (y0.setCell ⟨cb, 0, none⟩ (.int .i64 na))) := gr_setNew (gr_next GX.out (gr_next (gr_bl (bl_drew (bl_refl _))) gg0)) (by omega) _ _
      have C1x : Hid ((y0.setCell ⟨cb, 0, none⟩ (.int .i64 na)).heap[cb]? = some (.cells #[.int .i64 na, .int .i64 0, .int .i64 0, .bool true, .bool true] 46 (0, 0))) := blk_set cc0.out 0 _
      have K1x : Hid ((y0.setCell ⟨cb, 0, none⟩ (.int .i64 na)).heap[pb]? = w1.heap[pb]?) := (Below.heap_setCell _ _ _ pb (by simp; omega)).trans kk0.out
      have R1x := Lib.hid (show (y0.setCell ⟨cb, 0, none⟩ (.int .i64 na)).heap[w.heap.size]? = _ from (Below.heap_setCell _ _ _ w.heap.size (by simp; omega)).trans ((gr_blk gg0 (Nat.lt_trans hcr (lt_of_block CX.out)) (by omega)).trans RX.out))
      clear PX GX CX KX RX pp0 gg0 cc0 kk0 t0 c0 f0 z0 s0
      generalize (y0.setCell ⟨cb, 0, none⟩ (.int .i64 na)) = W1 at P1x G1x C1x K1x R1x ⊢
      have s1 : W1.cell? ⟨pb, po + 1, none⟩ = some (str b) := (World.cell?_of_block K1x.out).trans S1.out
      go_wp2_with fail
      go_region_held3 (fun w' => w'.cell? ⟨pb, po + 1, none⟩ = some (str b))
        (first | exact s1 | exact t1 | exact z1 _)
        ((go_at_call 65; refine (integer_c g _ _ _ _ _ b HBB hlb rfl _ _ _ (pat_drew P1x.out)).mono ?_; rintro r1 y1 ⟨rfl, pp1, gg1⟩; have cc1 := Lib.hid ((gr_blk gg1 (lt_of_block C1x.out) (by omega)).trans C1x.out); have kk1 := Lib.hid ((gr_blk gg1 (Nat.lt_trans l3 (lt_of_block C1x.out)) (by omega)).trans K1x.out); have t1 : y1.cell? ⟨pb, po + 1, none⟩ = some (str b) := (World.cell?_of_block kk1.out).trans S1.out; have c1 := blk_cell cc1.out 1 _ rfl; have f1 := Lib.frozen_of_heap cc1.out 1; have z1 : ∀ v, (y1.setCell ⟨cb, 1, none⟩ v).cell? ⟨pb, po + 1, none⟩ = some (str b) := fun v => (World.cell?_of_block (Below.heap_setCell _ _ _ pb (by simp; omega))).trans t1))
      have P2x : Hid (PAt g u (fe (fe (fe e 0) ea) eb) m vc (y1.setCell ⟨cb, 1, none⟩ (.int .i64 nb))) := (Below.heap_setCell _ _ _ g (by simp; omega)).trans pp1
      have G2x : Hid (Gr g w (y1.setCell ⟨cb, 1, none⟩ (.int .i64 nb))) := gr_setNew (gr_next G1x.out (gr_next (gr_bl (bl_drew (bl_refl _))) gg1)) (by omega) _ _
      have C2x : Hid ((y1.setCell ⟨cb, 1, none⟩ (.int .i64 nb)).heap[cb]? = some (.cells #[.int .i64 na, .int .i64 nb, .int .i64 0, .bool true, .bool true] 46 (0, 0))) := blk_set cc1.out 1 _
      have K2x : Hid ((y1.setCell ⟨cb, 1, none⟩ (.int .i64 nb)).heap[pb]? = w1.heap[pb]?) := (Below.heap_setCell _ _ _ pb (by simp; omega)).trans kk1.out
      have R2x := Lib.hid (show (y1.setCell ⟨cb, 1, none⟩ (.int .i64 nb)).heap[w.heap.size]? = _ from (Below.heap_setCell _ _ _ w.heap.size (by simp; omega)).trans ((gr_blk gg1 (Nat.lt_trans hcr (lt_of_block C1x.out)) (by omega)).trans R1x.out))
      clear P1x G1x C1x K1x R1x pp1 gg1 cc1 kk1 t1 c1 f1 z1 s1
      generalize (y1.setCell ⟨cb, 1, none⟩ (.int .i64 nb)) = W2 at P2x G2x C2x K2x R2x ⊢
      have s2 : W2.cell? ⟨pb, po + 2, none⟩ = some (str d) := (World.cell?_of_block K2x.out).trans S2.out
      go_wp2_with fail
      go_region_held3 (fun w' => w'.cell? ⟨pb, po + 2, none⟩ = some (str d))
        (first | exact s2 | exact t2 | exact z2 _)
        ((go_at_call 65; refine (integer_c g _ _ _ _ _ d HD hld rfl _ _ _ (pat_drew P2x.out)).mono ?_; rintro r2 y2 ⟨rfl, pp2, gg2⟩; have cc2 := Lib.hid ((gr_blk gg2 (lt_of_block C2x.out) (by omega)).trans C2x.out); have kk2 := Lib.hid ((gr_blk gg2 (Nat.lt_trans l3 (lt_of_block C2x.out)) (by omega)).trans K2x.out); have t2 : y2.cell? ⟨pb, po + 2, none⟩ = some (str d) := (World.cell?_of_block kk2.out).trans S2.out; have c2 := blk_cell cc2.out 2 _ rfl; have f2 := Lib.frozen_of_heap cc2.out 2; have z2 : ∀ v, (y2.setCell ⟨cb, 2, none⟩ v).cell? ⟨pb, po + 2, none⟩ = some (str d) := fun v => (World.cell?_of_block (Below.heap_setCell _ _ _ pb (by simp; omega))).trans t2))
      have P3x : Hid (PAt g u (fe (fe (fe (fe e 0) ea) eb) ed) m vc (y2.setCell ⟨cb, 2, none⟩ (.int .i64 nd))) := (Below.heap_setCell _ _ _ g (by simp; omega)).trans pp2
      have G3x : Hid (Gr g w (y2.setCell ⟨cb, 2, none⟩ (.int .i64 nd))) := gr_setNew (gr_next G2x.out (gr_next (gr_bl (bl_drew (bl_refl _))) gg2)) (by omega) _ _
      have C3x : Hid ((y2.setCell ⟨cb, 2, none⟩ (.int .i64 nd)).heap[cb]? = some (.cells #[.int .i64 na, .int .i64 nb, .int .i64 nd, .bool true, .bool true] 46 (0, 0))) := blk_set cc2.out 2 _
      have K3x : Hid ((y2.setCell ⟨cb, 2, none⟩ (.int .i64 nd)).heap[pb]? = w1.heap[pb]?) := (Below.heap_setCell _ _ _ pb (by simp; omega)).trans kk2.out
      have R3x := Lib.hid (show (y2.setCell ⟨cb, 2, none⟩ (.int .i64 nd)).heap[w.heap.size]? = _ from (Below.heap_setCell _ _ _ w.heap.size (by simp; omega)).trans ((gr_blk gg2 (Nat.lt_trans hcr (lt_of_block C2x.out)) (by omega)).trans R2x.out))
      clear P2x G2x C2x K2x R2x pp2 gg2 cc2 kk2 t2 c2 f2 z2 s2
      generalize (y2.setCell ⟨cb, 2, none⟩ (.int .i64 nd)) = W3 at P3x G3x C3x K3x R3x ⊢
      have d0 := blk_cell C3x.out 0 _ rfl
      have d1 := blk_cell C3x.out 1 _ rfl
      have d2 := blk_cell C3x.out 2 _ rfl
      have d3 := blk_cell C3x.out 3 _ rfl
      have d4 := blk_cell C3x.out 4 _ rfl
      have rf := Lib.frozen_of_heap R3x.out
      have j0 := blk_cell R3x.out 0 _ rfl
      have j1 := blk_cell R3x.out 1 _ rfl
      have j2 := blk_cell R3x.out 2 _ rfl
      have j3 := blk_cell R3x.out 3 _ rfl
      have j4 := blk_cell R3x.out 4 _ rfl
      go_wp2_with fail
      refine bodyPost_ret (results_cell_row rfl _ _ w.heap.size 46 _ (0, 0) _ rfl (store5 R3x.out) Tryd.underlying46 rfl (by kernel_rfl)) rfl ?_
      exact ⟨rfl, by rw [← HE.out]; exact (far5 (by omega)).trans P3x.out, gr5 G3x.out (Nat.le_refl _)⟩
    ·
      have hrc : readCall x = (⟨na, nb, nd, true, false⟩, [0, ea, eb, ed]) := by
        unfold readCall; rw [HL.out]; simp only; rw [show bitsOf [98, 111, 97, 114, 100] = some (true, false) from by decide, HA.out, HBB.out, HD.out]; rfl
      rw [hrc] at HC HE
      obtain rfl := HC.out
      clear HC hrc
      go_enter Tryd.func68, Tryd.ntmps68
      go_wp2_with (go_at_call 92; refine (hp _).mono ?_)
      rintro q1 w1 v1 rfl o1 b1
      obtain ⟨pb, po, pc, rfl, l1, l2, l3, hc⟩ := (ownS_in o1).open (by simp)
      have x3 : w1.cell? ⟨pb, po + 3, none⟩ = some (str [98, 111, 97, 114, 100]) := hc 3 _ rfl 0 _ rfl
      have hpb : w.heap.size < pb := by have := (World.ownsRow.lt o1 pb rfl).1; omega
      have hs1 : w.heap.size < w1.heap.size := by have := b1.size; simp at this; omega
      have S0 := Lib.hid (show w1.cell? ⟨pb, po, none⟩ = some (str a) from hc 0 _ rfl 0 _ rfl)
      have S1 := Lib.hid (show w1.cell? ⟨pb, po + 1, none⟩ = some (str b) from hc 1 _ rfl 0 _ rfl)
      have S2 := Lib.hid (show w1.cell? ⟨pb, po + 2, none⟩ = some (str d) from hc 2 _ rfl 0 _ rfl)
      have P1 : Hid (PAt g u e m vc w1) := blk_bl HP.out (bl_next (bl_alloc (bl_refl _) _) b1)
      have G1 : Hid (Gr g w w1) := gr_bl (bl_next (bl_alloc (bl_refl _) _) b1)
      have R1 := Lib.hid (blk_bl (heap_alloc_new w _) b1)
      clear hc o1 b1
      go_wp2_with fail
      have PX : Hid (PAt g u (fe e 0) m vc (w1.alloc (.cells #[.int .i64 0, .int .i64 0, .int .i64 0, .bool true, .bool false] 46))) := by rw [show fe e 0 = e from by unfold fe; split <;> simp_all]; exact blk_bl P1.out (bl_alloc (bl_refl _) _)
      have GX : Hid (Gr g w (w1.alloc (.cells #[.int .i64 0, .int .i64 0, .int .i64 0, .bool true, .bool false] 46))) := gr_next G1.out (gr_bl (bl_alloc (bl_refl _) _))
      have CX := Lib.hid (show (w1.alloc (.cells #[.int .i64 0, .int .i64 0, .int .i64 0, .bool true, .bool false] 46)).heap[w1.heap.size]? = _ from heap_alloc_new w1 _)
      have KX := Lib.hid (show (w1.alloc (.cells #[.int .i64 0, .int .i64 0, .int .i64 0, .bool true, .bool false] 46)).heap[pb]? = _ from Below.heap_alloc w1 _ pb l3)
      have RX := Lib.hid (show (w1.alloc (.cells #[.int .i64 0, .int .i64 0, .int .i64 0, .bool true, .bool false] 46)).heap[w.heap.size]? = _ from (Below.heap_alloc w1 _ w.heap.size hs1).trans R1.out)
      clear P1 G1 R1 x3
      obtain ⟨cb, hcb⟩ : ∃ cb, w1.heap.size = cb := ⟨_, rfl⟩
      change Code.wp _ _ _ _ (w1.alloc (.cells #[.int .i64 0, .int .i64 0, .int .i64 0, .bool true, .bool false] 46))
      generalize (w1.alloc (.cells #[.int .i64 0, .int .i64 0, .int .i64 0, .bool true, .bool false] 46)) = wx at PX GX CX KX RX ⊢
      rw [hcb] at CX l3 hs1 ⊢
      have hcr : w.heap.size < cb := hs1
      have s0 : wx.cell? ⟨pb, po, none⟩ = some (str a) := (World.cell?_of_block KX.out).trans S0.out
      go_region_held3 (fun w' => w'.cell? ⟨pb, po, none⟩ = some (str a))
        (first | exact s0 | exact t0 | exact z0 _)
        ((go_at_call 65; refine (integer_c g _ _ _ _ _ a HA hla rfl _ _ _ (pat_drew PX.out)).mono ?_; rintro r0 y0 ⟨rfl, pp0, gg0⟩; have cc0 := Lib.hid ((gr_blk gg0 (lt_of_block CX.out) (by omega)).trans CX.out); have kk0 := Lib.hid ((gr_blk gg0 (Nat.lt_trans l3 (lt_of_block CX.out)) (by omega)).trans KX.out); have t0 : y0.cell? ⟨pb, po, none⟩ = some (str a) := (World.cell?_of_block kk0.out).trans S0.out; have c0 := blk_cell cc0.out 0 _ rfl; have f0 := Lib.frozen_of_heap cc0.out 0; have z0 : ∀ v, (y0.setCell ⟨cb, 0, none⟩ v).cell? ⟨pb, po, none⟩ = some (str a) := fun v => (World.cell?_of_block (Below.heap_setCell _ _ _ pb (by simp; omega))).trans t0))
      have P1x : Hid (PAt g u (fe (fe e 0) ea) m vc (y0.setCell ⟨cb, 0, none⟩ (.int .i64 na))) := (Below.heap_setCell _ _ _ g (by simp; omega)).trans pp0
      have G1x : Hid (Gr g w (y0.setCell ⟨cb, 0, none⟩ (.int .i64 na))) := gr_setNew (gr_next GX.out (gr_next (gr_bl (bl_drew (bl_refl _))) gg0)) (by omega) _ _
      have C1x : Hid ((y0.setCell ⟨cb, 0, none⟩ (.int .i64 na)).heap[cb]? = some (.cells #[.int .i64 na, .int .i64 0, .int .i64 0, .bool true, .bool false] 46 (0, 0))) := blk_set cc0.out 0 _
      have K1x : Hid ((y0.setCell ⟨cb, 0, none⟩ (.int .i64 na)).heap[pb]? = w1.heap[pb]?) := (Below.heap_setCell _ _ _ pb (by simp; omega)).trans kk0.out
      have R1x := Lib.hid (show (y0.setCell ⟨cb, 0, none⟩ (.int .i64 na)).heap[w.heap.size]? = _ from (Below.heap_setCell _ _ _ w.heap.size (by simp; omega)).trans ((gr_blk gg0 (Nat.lt_trans hcr (lt_of_block CX.out)) (by omega)).trans RX.out))
      clear PX GX CX KX RX pp0 gg0 cc0 kk0 t0 c0 f0 z0 s0
      generalize (y0.setCell ⟨cb, 0, none⟩ (.int .i64 na)) = W1 at P1x G1x C1x K1x R1x ⊢
      have s1 : W1.cell? ⟨pb, po + 1, none⟩ = some (str b) := (World.cell?_of_block K1x.out).trans S1.out
      go_wp2_with fail
      go_region_held3 (fun w' => w'.cell? ⟨pb, po + 1, none⟩ = some (str b))
        (first | exact s1 | exact t1 | exact z1 _)
        ((go_at_call 65; refine (integer_c g _ _ _ _ _ b HBB hlb rfl _ _ _ (pat_drew P1x.out)).mono ?_; rintro r1 y1 ⟨rfl, pp1, gg1⟩; have cc1 := Lib.hid ((gr_blk gg1 (lt_of_block C1x.out) (by omega)).trans C1x.out); have kk1 := Lib.hid ((gr_blk gg1 (Nat.lt_trans l3 (lt_of_block C1x.out)) (by omega)).trans K1x.out); have t1 : y1.cell? ⟨pb, po + 1, none⟩ = some (str b) := (World.cell?_of_block kk1.out).trans S1.out; have c1 := blk_cell cc1.out 1 _ rfl; have f1 := Lib.frozen_of_heap cc1.out 1; have z1 : ∀ v, (y1.setCell ⟨cb, 1, none⟩ v).cell? ⟨pb, po + 1, none⟩ = some (str b) := fun v => (World.cell?_of_block (Below.heap_setCell _ _ _ pb (by simp; omega))).trans t1))
      have P2x : Hid (PAt g u (fe (fe (fe e 0) ea) eb) m vc (y1.setCell ⟨cb, 1, none⟩ (.int .i64 nb))) := (Below.heap_setCell _ _ _ g (by simp; omega)).trans pp1
      have G2x : Hid (Gr g w (y1.setCell ⟨cb, 1, none⟩ (.int .i64 nb))) := gr_setNew (gr_next G1x.out (gr_next (gr_bl (bl_drew (bl_refl _))) gg1)) (by omega) _ _
      have C2x : Hid ((y1.setCell ⟨cb, 1, none⟩ (.int .i64 nb)).heap[cb]? = some (.cells #[.int .i64 na, .int .i64 nb, .int .i64 0, .bool true, .bool false] 46 (0, 0))) := blk_set cc1.out 1 _
      have K2x : Hid ((y1.setCell ⟨cb, 1, none⟩ (.int .i64 nb)).heap[pb]? = w1.heap[pb]?) := (Below.heap_setCell _ _ _ pb (by simp; omega)).trans kk1.out
      have R2x := Lib.hid (show (y1.setCell ⟨cb, 1, none⟩ (.int .i64 nb)).heap[w.heap.size]? = _ from (Below.heap_setCell _ _ _ w.heap.size (by simp; omega)).trans ((gr_blk gg1 (Nat.lt_trans hcr (lt_of_block C1x.out)) (by omega)).trans R1x.out))
      clear P1x G1x C1x K1x R1x pp1 gg1 cc1 kk1 t1 c1 f1 z1 s1
      generalize (y1.setCell ⟨cb, 1, none⟩ (.int .i64 nb)) = W2 at P2x G2x C2x K2x R2x ⊢
      have s2 : W2.cell? ⟨pb, po + 2, none⟩ = some (str d) := (World.cell?_of_block K2x.out).trans S2.out
      go_wp2_with fail
      go_region_held3 (fun w' => w'.cell? ⟨pb, po + 2, none⟩ = some (str d))
        (first | exact s2 | exact t2 | exact z2 _)
        ((go_at_call 65; refine (integer_c g _ _ _ _ _ d HD hld rfl _ _ _ (pat_drew P2x.out)).mono ?_; rintro r2 y2 ⟨rfl, pp2, gg2⟩; have cc2 := Lib.hid ((gr_blk gg2 (lt_of_block C2x.out) (by omega)).trans C2x.out); have kk2 := Lib.hid ((gr_blk gg2 (Nat.lt_trans l3 (lt_of_block C2x.out)) (by omega)).trans K2x.out); have t2 : y2.cell? ⟨pb, po + 2, none⟩ = some (str d) := (World.cell?_of_block kk2.out).trans S2.out; have c2 := blk_cell cc2.out 2 _ rfl; have f2 := Lib.frozen_of_heap cc2.out 2; have z2 : ∀ v, (y2.setCell ⟨cb, 2, none⟩ v).cell? ⟨pb, po + 2, none⟩ = some (str d) := fun v => (World.cell?_of_block (Below.heap_setCell _ _ _ pb (by simp; omega))).trans t2))
      have P3x : Hid (PAt g u (fe (fe (fe (fe e 0) ea) eb) ed) m vc (y2.setCell ⟨cb, 2, none⟩ (.int .i64 nd))) := (Below.heap_setCell _ _ _ g (by simp; omega)).trans pp2
      have G3x : Hid (Gr g w (y2.setCell ⟨cb, 2, none⟩ (.int .i64 nd))) := gr_setNew (gr_next G2x.out (gr_next (gr_bl (bl_drew (bl_refl _))) gg2)) (by omega) _ _
      have C3x : Hid ((y2.setCell ⟨cb, 2, none⟩ (.int .i64 nd)).heap[cb]? = some (.cells #[.int .i64 na, .int .i64 nb, .int .i64 nd, .bool true, .bool false] 46 (0, 0))) := blk_set cc2.out 2 _
      have K3x : Hid ((y2.setCell ⟨cb, 2, none⟩ (.int .i64 nd)).heap[pb]? = w1.heap[pb]?) := (Below.heap_setCell _ _ _ pb (by simp; omega)).trans kk2.out
      have R3x := Lib.hid (show (y2.setCell ⟨cb, 2, none⟩ (.int .i64 nd)).heap[w.heap.size]? = _ from (Below.heap_setCell _ _ _ w.heap.size (by simp; omega)).trans ((gr_blk gg2 (Nat.lt_trans hcr (lt_of_block C2x.out)) (by omega)).trans R2x.out))
      clear P2x G2x C2x K2x R2x pp2 gg2 cc2 kk2 t2 c2 f2 z2 s2
      generalize (y2.setCell ⟨cb, 2, none⟩ (.int .i64 nd)) = W3 at P3x G3x C3x K3x R3x ⊢
      have d0 := blk_cell C3x.out 0 _ rfl
      have d1 := blk_cell C3x.out 1 _ rfl
      have d2 := blk_cell C3x.out 2 _ rfl
      have d3 := blk_cell C3x.out 3 _ rfl
      have d4 := blk_cell C3x.out 4 _ rfl
      have rf := Lib.frozen_of_heap R3x.out
      have j0 := blk_cell R3x.out 0 _ rfl
      have j1 := blk_cell R3x.out 1 _ rfl
      have j2 := blk_cell R3x.out 2 _ rfl
      have j3 := blk_cell R3x.out 3 _ rfl
      have j4 := blk_cell R3x.out 4 _ rfl
      go_wp2_with fail
      refine bodyPost_ret (results_cell_row rfl _ _ w.heap.size 46 _ (0, 0) _ rfl (store5 R3x.out) Tryd.underlying46 rfl (by kernel_rfl)) rfl ?_
      exact ⟨rfl, by rw [← HE.out]; exact (far5 (by omega)).trans P3x.out, gr5 G3x.out (Nat.le_refl _)⟩
    ·
      have hrc : readCall x = (⟨na, nb, nd, false, true⟩, [0, ea, eb, ed]) := by
        unfold readCall; rw [HL.out]; simp only; rw [show bitsOf [97, 108, 105, 103, 104, 116] = some (false, true) from by decide, HA.out, HBB.out, HD.out]; rfl
      rw [hrc] at HC HE
      obtain rfl := HC.out
      clear HC hrc
      go_enter Tryd.func68, Tryd.ntmps68
      go_wp2_with (go_at_call 92; refine (hp _).mono ?_)
      rintro q1 w1 v1 rfl o1 b1
      obtain ⟨pb, po, pc, rfl, l1, l2, l3, hc⟩ := (ownS_in o1).open (by simp)
      have x3 : w1.cell? ⟨pb, po + 3, none⟩ = some (str [97, 108, 105, 103, 104, 116]) := hc 3 _ rfl 0 _ rfl
      have hpb : w.heap.size < pb := by have := (World.ownsRow.lt o1 pb rfl).1; omega
      have hs1 : w.heap.size < w1.heap.size := by have := b1.size; simp at this; omega
      have S0 := Lib.hid (show w1.cell? ⟨pb, po, none⟩ = some (str a) from hc 0 _ rfl 0 _ rfl)
      have S1 := Lib.hid (show w1.cell? ⟨pb, po + 1, none⟩ = some (str b) from hc 1 _ rfl 0 _ rfl)
      have S2 := Lib.hid (show w1.cell? ⟨pb, po + 2, none⟩ = some (str d) from hc 2 _ rfl 0 _ rfl)
      have P1 : Hid (PAt g u e m vc w1) := blk_bl HP.out (bl_next (bl_alloc (bl_refl _) _) b1)
      have G1 : Hid (Gr g w w1) := gr_bl (bl_next (bl_alloc (bl_refl _) _) b1)
      have R1 := Lib.hid (blk_bl (heap_alloc_new w _) b1)
      clear hc o1 b1
      go_wp2_with fail
      have PX : Hid (PAt g u (fe e 0) m vc (w1.alloc (.cells #[.int .i64 0, .int .i64 0, .int .i64 0, .bool false, .bool true] 46))) := by rw [show fe e 0 = e from by unfold fe; split <;> simp_all]; exact blk_bl P1.out (bl_alloc (bl_refl _) _)
      have GX : Hid (Gr g w (w1.alloc (.cells #[.int .i64 0, .int .i64 0, .int .i64 0, .bool false, .bool true] 46))) := gr_next G1.out (gr_bl (bl_alloc (bl_refl _) _))
      have CX := Lib.hid (show (w1.alloc (.cells #[.int .i64 0, .int .i64 0, .int .i64 0, .bool false, .bool true] 46)).heap[w1.heap.size]? = _ from heap_alloc_new w1 _)
      have KX := Lib.hid (show (w1.alloc (.cells #[.int .i64 0, .int .i64 0, .int .i64 0, .bool false, .bool true] 46)).heap[pb]? = _ from Below.heap_alloc w1 _ pb l3)
      have RX := Lib.hid (show (w1.alloc (.cells #[.int .i64 0, .int .i64 0, .int .i64 0, .bool false, .bool true] 46)).heap[w.heap.size]? = _ from (Below.heap_alloc w1 _ w.heap.size hs1).trans R1.out)
      clear P1 G1 R1 x3
      obtain ⟨cb, hcb⟩ : ∃ cb, w1.heap.size = cb := ⟨_, rfl⟩
      change Code.wp _ _ _ _ (w1.alloc (.cells #[.int .i64 0, .int .i64 0, .int .i64 0, .bool false, .bool true] 46))
      generalize (w1.alloc (.cells #[.int .i64 0, .int .i64 0, .int .i64 0, .bool false, .bool true] 46)) = wx at PX GX CX KX RX ⊢
      rw [hcb] at CX l3 hs1 ⊢
      have hcr : w.heap.size < cb := hs1
      have s0 : wx.cell? ⟨pb, po, none⟩ = some (str a) := (World.cell?_of_block KX.out).trans S0.out
      go_region_held3 (fun w' => w'.cell? ⟨pb, po, none⟩ = some (str a))
        (first | exact s0 | exact t0 | exact z0 _)
        ((go_at_call 65; refine (integer_c g _ _ _ _ _ a HA hla rfl _ _ _ (pat_drew PX.out)).mono ?_; rintro r0 y0 ⟨rfl, pp0, gg0⟩; have cc0 := Lib.hid ((gr_blk gg0 (lt_of_block CX.out) (by omega)).trans CX.out); have kk0 := Lib.hid ((gr_blk gg0 (Nat.lt_trans l3 (lt_of_block CX.out)) (by omega)).trans KX.out); have t0 : y0.cell? ⟨pb, po, none⟩ = some (str a) := (World.cell?_of_block kk0.out).trans S0.out; have c0 := blk_cell cc0.out 0 _ rfl; have f0 := Lib.frozen_of_heap cc0.out 0; have z0 : ∀ v, (y0.setCell ⟨cb, 0, none⟩ v).cell? ⟨pb, po, none⟩ = some (str a) := fun v => (World.cell?_of_block (Below.heap_setCell _ _ _ pb (by simp; omega))).trans t0))
      have P1x : Hid (PAt g u (fe (fe e 0) ea) m vc (y0.setCell ⟨cb, 0, none⟩ (.int .i64 na))) := (Below.heap_setCell _ _ _ g (by simp; omega)).trans pp0
      have G1x : Hid (Gr g w (y0.setCell ⟨cb, 0, none⟩ (.int .i64 na))) := gr_setNew (gr_next GX.out (gr_next (gr_bl (bl_drew (bl_refl _))) gg0)) (by omega) _ _
      have C1x : Hid ((y0.setCell ⟨cb, 0, none⟩ (.int .i64 na)).heap[cb]? = some (.cells #[.int .i64 na, .int .i64 0, .int .i64 0, .bool false, .bool true] 46 (0, 0))) := blk_set cc0.out 0 _
      have K1x : Hid ((y0.setCell ⟨cb, 0, none⟩ (.int .i64 na)).heap[pb]? = w1.heap[pb]?) := (Below.heap_setCell _ _ _ pb (by simp; omega)).trans kk0.out
      have R1x := Lib.hid (show (y0.setCell ⟨cb, 0, none⟩ (.int .i64 na)).heap[w.heap.size]? = _ from (Below.heap_setCell _ _ _ w.heap.size (by simp; omega)).trans ((gr_blk gg0 (Nat.lt_trans hcr (lt_of_block CX.out)) (by omega)).trans RX.out))
      clear PX GX CX KX RX pp0 gg0 cc0 kk0 t0 c0 f0 z0 s0
      generalize (y0.setCell ⟨cb, 0, none⟩ (.int .i64 na)) = W1 at P1x G1x C1x K1x R1x ⊢
      have s1 : W1.cell? ⟨pb, po + 1, none⟩ = some (str b) := (World.cell?_of_block K1x.out).trans S1.out
      go_wp2_with fail
      go_region_held3 (fun w' => w'.cell? ⟨pb, po + 1, none⟩ = some (str b))
        (first | exact s1 | exact t1 | exact z1 _)
        ((go_at_call 65; refine (integer_c g _ _ _ _ _ b HBB hlb rfl _ _ _ (pat_drew P1x.out)).mono ?_; rintro r1 y1 ⟨rfl, pp1, gg1⟩; have cc1 := Lib.hid ((gr_blk gg1 (lt_of_block C1x.out) (by omega)).trans C1x.out); have kk1 := Lib.hid ((gr_blk gg1 (Nat.lt_trans l3 (lt_of_block C1x.out)) (by omega)).trans K1x.out); have t1 : y1.cell? ⟨pb, po + 1, none⟩ = some (str b) := (World.cell?_of_block kk1.out).trans S1.out; have c1 := blk_cell cc1.out 1 _ rfl; have f1 := Lib.frozen_of_heap cc1.out 1; have z1 : ∀ v, (y1.setCell ⟨cb, 1, none⟩ v).cell? ⟨pb, po + 1, none⟩ = some (str b) := fun v => (World.cell?_of_block (Below.heap_setCell _ _ _ pb (by simp; omega))).trans t1))
      have P2x : Hid (PAt g u (fe (fe (fe e 0) ea) eb) m vc (y1.setCell ⟨cb, 1, none⟩ (.int .i64 nb))) := (Below.heap_setCell _ _ _ g (by simp; omega)).trans pp1
      have G2x : Hid (Gr g w (y1.setCell ⟨cb, 1, none⟩ (.int .i64 nb))) := gr_setNew (gr_next G1x.out (gr_next (gr_bl (bl_drew (bl_refl _))) gg1)) (by omega) _ _
      have C2x : Hid ((y1.setCell ⟨cb, 1, none⟩ (.int .i64 nb)).heap[cb]? = some (.cells #[.int .i64 na, .int .i64 nb, .int .i64 0, .bool false, .bool true] 46 (0, 0))) := blk_set cc1.out 1 _
      have K2x : Hid ((y1.setCell ⟨cb, 1, none⟩ (.int .i64 nb)).heap[pb]? = w1.heap[pb]?) := (Below.heap_setCell _ _ _ pb (by simp; omega)).trans kk1.out
      have R2x := Lib.hid (show (y1.setCell ⟨cb, 1, none⟩ (.int .i64 nb)).heap[w.heap.size]? = _ from (Below.heap_setCell _ _ _ w.heap.size (by simp; omega)).trans ((gr_blk gg1 (Nat.lt_trans hcr (lt_of_block C1x.out)) (by omega)).trans R1x.out))
      clear P1x G1x C1x K1x R1x pp1 gg1 cc1 kk1 t1 c1 f1 z1 s1
      generalize (y1.setCell ⟨cb, 1, none⟩ (.int .i64 nb)) = W2 at P2x G2x C2x K2x R2x ⊢
      have s2 : W2.cell? ⟨pb, po + 2, none⟩ = some (str d) := (World.cell?_of_block K2x.out).trans S2.out
      go_wp2_with fail
      go_region_held3 (fun w' => w'.cell? ⟨pb, po + 2, none⟩ = some (str d))
        (first | exact s2 | exact t2 | exact z2 _)
        ((go_at_call 65; refine (integer_c g _ _ _ _ _ d HD hld rfl _ _ _ (pat_drew P2x.out)).mono ?_; rintro r2 y2 ⟨rfl, pp2, gg2⟩; have cc2 := Lib.hid ((gr_blk gg2 (lt_of_block C2x.out) (by omega)).trans C2x.out); have kk2 := Lib.hid ((gr_blk gg2 (Nat.lt_trans l3 (lt_of_block C2x.out)) (by omega)).trans K2x.out); have t2 : y2.cell? ⟨pb, po + 2, none⟩ = some (str d) := (World.cell?_of_block kk2.out).trans S2.out; have c2 := blk_cell cc2.out 2 _ rfl; have f2 := Lib.frozen_of_heap cc2.out 2; have z2 : ∀ v, (y2.setCell ⟨cb, 2, none⟩ v).cell? ⟨pb, po + 2, none⟩ = some (str d) := fun v => (World.cell?_of_block (Below.heap_setCell _ _ _ pb (by simp; omega))).trans t2))
      have P3x : Hid (PAt g u (fe (fe (fe (fe e 0) ea) eb) ed) m vc (y2.setCell ⟨cb, 2, none⟩ (.int .i64 nd))) := (Below.heap_setCell _ _ _ g (by simp; omega)).trans pp2
      have G3x : Hid (Gr g w (y2.setCell ⟨cb, 2, none⟩ (.int .i64 nd))) := gr_setNew (gr_next G2x.out (gr_next (gr_bl (bl_drew (bl_refl _))) gg2)) (by omega) _ _
      have C3x : Hid ((y2.setCell ⟨cb, 2, none⟩ (.int .i64 nd)).heap[cb]? = some (.cells #[.int .i64 na, .int .i64 nb, .int .i64 nd, .bool false, .bool true] 46 (0, 0))) := blk_set cc2.out 2 _
      have K3x : Hid ((y2.setCell ⟨cb, 2, none⟩ (.int .i64 nd)).heap[pb]? = w1.heap[pb]?) := (Below.heap_setCell _ _ _ pb (by simp; omega)).trans kk2.out
      have R3x := Lib.hid (show (y2.setCell ⟨cb, 2, none⟩ (.int .i64 nd)).heap[w.heap.size]? = _ from (Below.heap_setCell _ _ _ w.heap.size (by simp; omega)).trans ((gr_blk gg2 (Nat.lt_trans hcr (lt_of_block C2x.out)) (by omega)).trans R2x.out))
      clear P2x G2x C2x K2x R2x pp2 gg2 cc2 kk2 t2 c2 f2 z2 s2
      generalize (y2.setCell ⟨cb, 2, none⟩ (.int .i64 nd)) = W3 at P3x G3x C3x K3x R3x ⊢
      have d0 := blk_cell C3x.out 0 _ rfl
      have d1 := blk_cell C3x.out 1 _ rfl
      have d2 := blk_cell C3x.out 2 _ rfl
      have d3 := blk_cell C3x.out 3 _ rfl
      have d4 := blk_cell C3x.out 4 _ rfl
      have rf := Lib.frozen_of_heap R3x.out
      have j0 := blk_cell R3x.out 0 _ rfl
      have j1 := blk_cell R3x.out 1 _ rfl
      have j2 := blk_cell R3x.out 2 _ rfl
      have j3 := blk_cell R3x.out 3 _ rfl
      have j4 := blk_cell R3x.out 4 _ rfl
      go_wp2_with fail
      refine bodyPost_ret (results_cell_row rfl _ _ w.heap.size 46 _ (0, 0) _ rfl (store5 R3x.out) Tryd.underlying46 rfl (by kernel_rfl)) rfl ?_
      exact ⟨rfl, by rw [← HE.out]; exact (far5 (by omega)).trans P3x.out, gr5 G3x.out (Nat.le_refl _)⟩
    ·
      have hrc : readCall x = (⟨na, nb, nd, false, false⟩, [0, ea, eb, ed]) := by
        unfold readCall; rw [HL.out]; simp only; rw [show bitsOf [110, 111, 110, 101] = some (false, false) from by decide, HA.out, HBB.out, HD.out]; rfl
      rw [hrc] at HC HE
      obtain rfl := HC.out
      clear HC hrc
      go_enter Tryd.func68, Tryd.ntmps68
      go_wp2_with (go_at_call 92; refine (hp _).mono ?_)
      rintro q1 w1 v1 rfl o1 b1
      obtain ⟨pb, po, pc, rfl, l1, l2, l3, hc⟩ := (ownS_in o1).open (by simp)
      have x3 : w1.cell? ⟨pb, po + 3, none⟩ = some (str [110, 111, 110, 101]) := hc 3 _ rfl 0 _ rfl
      have hpb : w.heap.size < pb := by have := (World.ownsRow.lt o1 pb rfl).1; omega
      have hs1 : w.heap.size < w1.heap.size := by have := b1.size; simp at this; omega
      have S0 := Lib.hid (show w1.cell? ⟨pb, po, none⟩ = some (str a) from hc 0 _ rfl 0 _ rfl)
      have S1 := Lib.hid (show w1.cell? ⟨pb, po + 1, none⟩ = some (str b) from hc 1 _ rfl 0 _ rfl)
      have S2 := Lib.hid (show w1.cell? ⟨pb, po + 2, none⟩ = some (str d) from hc 2 _ rfl 0 _ rfl)
      have P1 : Hid (PAt g u e m vc w1) := blk_bl HP.out (bl_next (bl_alloc (bl_refl _) _) b1)
      have G1 : Hid (Gr g w w1) := gr_bl (bl_next (bl_alloc (bl_refl _) _) b1)
      have R1 := Lib.hid (blk_bl (heap_alloc_new w _) b1)
      clear hc o1 b1
      go_wp2_with fail
      have PX : Hid (PAt g u (fe e 0) m vc (w1.alloc (.cells #[.int .i64 0, .int .i64 0, .int .i64 0, .bool false, .bool false] 46))) := by rw [show fe e 0 = e from by unfold fe; split <;> simp_all]; exact blk_bl P1.out (bl_alloc (bl_refl _) _)
      have GX : Hid (Gr g w (w1.alloc (.cells #[.int .i64 0, .int .i64 0, .int .i64 0, .bool false, .bool false] 46))) := gr_next G1.out (gr_bl (bl_alloc (bl_refl _) _))
      have CX := Lib.hid (show (w1.alloc (.cells #[.int .i64 0, .int .i64 0, .int .i64 0, .bool false, .bool false] 46)).heap[w1.heap.size]? = _ from heap_alloc_new w1 _)
      have KX := Lib.hid (show (w1.alloc (.cells #[.int .i64 0, .int .i64 0, .int .i64 0, .bool false, .bool false] 46)).heap[pb]? = _ from Below.heap_alloc w1 _ pb l3)
      have RX := Lib.hid (show (w1.alloc (.cells #[.int .i64 0, .int .i64 0, .int .i64 0, .bool false, .bool false] 46)).heap[w.heap.size]? = _ from (Below.heap_alloc w1 _ w.heap.size hs1).trans R1.out)
      clear P1 G1 R1 x3
      obtain ⟨cb, hcb⟩ : ∃ cb, w1.heap.size = cb := ⟨_, rfl⟩
      change Code.wp _ _ _ _ (w1.alloc (.cells #[.int .i64 0, .int .i64 0, .int .i64 0, .bool false, .bool false] 46))
      generalize (w1.alloc (.cells #[.int .i64 0, .int .i64 0, .int .i64 0, .bool false, .bool false] 46)) = wx at PX GX CX KX RX ⊢
      rw [hcb] at CX l3 hs1 ⊢
      have hcr : w.heap.size < cb := hs1
      have s0 : wx.cell? ⟨pb, po, none⟩ = some (str a) := (World.cell?_of_block KX.out).trans S0.out
      go_region_held3 (fun w' => w'.cell? ⟨pb, po, none⟩ = some (str a))
        (first | exact s0 | exact t0 | exact z0 _)
        ((go_at_call 65; refine (integer_c g _ _ _ _ _ a HA hla rfl _ _ _ (pat_drew PX.out)).mono ?_; rintro r0 y0 ⟨rfl, pp0, gg0⟩; have cc0 := Lib.hid ((gr_blk gg0 (lt_of_block CX.out) (by omega)).trans CX.out); have kk0 := Lib.hid ((gr_blk gg0 (Nat.lt_trans l3 (lt_of_block CX.out)) (by omega)).trans KX.out); have t0 : y0.cell? ⟨pb, po, none⟩ = some (str a) := (World.cell?_of_block kk0.out).trans S0.out; have c0 := blk_cell cc0.out 0 _ rfl; have f0 := Lib.frozen_of_heap cc0.out 0; have z0 : ∀ v, (y0.setCell ⟨cb, 0, none⟩ v).cell? ⟨pb, po, none⟩ = some (str a) := fun v => (World.cell?_of_block (Below.heap_setCell _ _ _ pb (by simp; omega))).trans t0))
      have P1x : Hid (PAt g u (fe (fe e 0) ea) m vc (y0.setCell ⟨cb, 0, none⟩ (.int .i64 na))) := (Below.heap_setCell _ _ _ g (by simp; omega)).trans pp0
      have G1x : Hid (Gr g w (y0.setCell ⟨cb, 0, none⟩ (.int .i64 na))) := gr_setNew (gr_next GX.out (gr_next (gr_bl (bl_drew (bl_refl _))) gg0)) (by omega) _ _
      have C1x : Hid ((y0.setCell ⟨cb, 0, none⟩ (.int .i64 na)).heap[cb]? = some (.cells #[.int .i64 na, .int .i64 0, .int .i64 0, .bool false, .bool false] 46 (0, 0))) := blk_set cc0.out 0 _
      have K1x : Hid ((y0.setCell ⟨cb, 0, none⟩ (.int .i64 na)).heap[pb]? = w1.heap[pb]?) := (Below.heap_setCell _ _ _ pb (by simp; omega)).trans kk0.out
      have R1x := Lib.hid (show (y0.setCell ⟨cb, 0, none⟩ (.int .i64 na)).heap[w.heap.size]? = _ from (Below.heap_setCell _ _ _ w.heap.size (by simp; omega)).trans ((gr_blk gg0 (Nat.lt_trans hcr (lt_of_block CX.out)) (by omega)).trans RX.out))
      clear PX GX CX KX RX pp0 gg0 cc0 kk0 t0 c0 f0 z0 s0
      generalize (y0.setCell ⟨cb, 0, none⟩ (.int .i64 na)) = W1 at P1x G1x C1x K1x R1x ⊢
      have s1 : W1.cell? ⟨pb, po + 1, none⟩ = some (str b) := (World.cell?_of_block K1x.out).trans S1.out
      go_wp2_with fail
      go_region_held3 (fun w' => w'.cell? ⟨pb, po + 1, none⟩ = some (str b))
        (first | exact s1 | exact t1 | exact z1 _)
        ((go_at_call 65; refine (integer_c g _ _ _ _ _ b HBB hlb rfl _ _ _ (pat_drew P1x.out)).mono ?_; rintro r1 y1 ⟨rfl, pp1, gg1⟩; have cc1 := Lib.hid ((gr_blk gg1 (lt_of_block C1x.out) (by omega)).trans C1x.out); have kk1 := Lib.hid ((gr_blk gg1 (Nat.lt_trans l3 (lt_of_block C1x.out)) (by omega)).trans K1x.out); have t1 : y1.cell? ⟨pb, po + 1, none⟩ = some (str b) := (World.cell?_of_block kk1.out).trans S1.out; have c1 := blk_cell cc1.out 1 _ rfl; have f1 := Lib.frozen_of_heap cc1.out 1; have z1 : ∀ v, (y1.setCell ⟨cb, 1, none⟩ v).cell? ⟨pb, po + 1, none⟩ = some (str b) := fun v => (World.cell?_of_block (Below.heap_setCell _ _ _ pb (by simp; omega))).trans t1))
      have P2x : Hid (PAt g u (fe (fe (fe e 0) ea) eb) m vc (y1.setCell ⟨cb, 1, none⟩ (.int .i64 nb))) := (Below.heap_setCell _ _ _ g (by simp; omega)).trans pp1
      have G2x : Hid (Gr g w (y1.setCell ⟨cb, 1, none⟩ (.int .i64 nb))) := gr_setNew (gr_next G1x.out (gr_next (gr_bl (bl_drew (bl_refl _))) gg1)) (by omega) _ _
      have C2x : Hid ((y1.setCell ⟨cb, 1, none⟩ (.int .i64 nb)).heap[cb]? = some (.cells #[.int .i64 na, .int .i64 nb, .int .i64 0, .bool false, .bool false] 46 (0, 0))) := blk_set cc1.out 1 _
      have K2x : Hid ((y1.setCell ⟨cb, 1, none⟩ (.int .i64 nb)).heap[pb]? = w1.heap[pb]?) := (Below.heap_setCell _ _ _ pb (by simp; omega)).trans kk1.out
      have R2x := Lib.hid (show (y1.setCell ⟨cb, 1, none⟩ (.int .i64 nb)).heap[w.heap.size]? = _ from (Below.heap_setCell _ _ _ w.heap.size (by simp; omega)).trans ((gr_blk gg1 (Nat.lt_trans hcr (lt_of_block C1x.out)) (by omega)).trans R1x.out))
      clear P1x G1x C1x K1x R1x pp1 gg1 cc1 kk1 t1 c1 f1 z1 s1
      generalize (y1.setCell ⟨cb, 1, none⟩ (.int .i64 nb)) = W2 at P2x G2x C2x K2x R2x ⊢
      have s2 : W2.cell? ⟨pb, po + 2, none⟩ = some (str d) := (World.cell?_of_block K2x.out).trans S2.out
      go_wp2_with fail
      go_region_held3 (fun w' => w'.cell? ⟨pb, po + 2, none⟩ = some (str d))
        (first | exact s2 | exact t2 | exact z2 _)
        ((go_at_call 65; refine (integer_c g _ _ _ _ _ d HD hld rfl _ _ _ (pat_drew P2x.out)).mono ?_; rintro r2 y2 ⟨rfl, pp2, gg2⟩; have cc2 := Lib.hid ((gr_blk gg2 (lt_of_block C2x.out) (by omega)).trans C2x.out); have kk2 := Lib.hid ((gr_blk gg2 (Nat.lt_trans l3 (lt_of_block C2x.out)) (by omega)).trans K2x.out); have t2 : y2.cell? ⟨pb, po + 2, none⟩ = some (str d) := (World.cell?_of_block kk2.out).trans S2.out; have c2 := blk_cell cc2.out 2 _ rfl; have f2 := Lib.frozen_of_heap cc2.out 2; have z2 : ∀ v, (y2.setCell ⟨cb, 2, none⟩ v).cell? ⟨pb, po + 2, none⟩ = some (str d) := fun v => (World.cell?_of_block (Below.heap_setCell _ _ _ pb (by simp; omega))).trans t2))
      have P3x : Hid (PAt g u (fe (fe (fe (fe e 0) ea) eb) ed) m vc (y2.setCell ⟨cb, 2, none⟩ (.int .i64 nd))) := (Below.heap_setCell _ _ _ g (by simp; omega)).trans pp2
      have G3x : Hid (Gr g w (y2.setCell ⟨cb, 2, none⟩ (.int .i64 nd))) := gr_setNew (gr_next G2x.out (gr_next (gr_bl (bl_drew (bl_refl _))) gg2)) (by omega) _ _
      have C3x : Hid ((y2.setCell ⟨cb, 2, none⟩ (.int .i64 nd)).heap[cb]? = some (.cells #[.int .i64 na, .int .i64 nb, .int .i64 nd, .bool false, .bool false] 46 (0, 0))) := blk_set cc2.out 2 _
      have K3x : Hid ((y2.setCell ⟨cb, 2, none⟩ (.int .i64 nd)).heap[pb]? = w1.heap[pb]?) := (Below.heap_setCell _ _ _ pb (by simp; omega)).trans kk2.out
      have R3x := Lib.hid (show (y2.setCell ⟨cb, 2, none⟩ (.int .i64 nd)).heap[w.heap.size]? = _ from (Below.heap_setCell _ _ _ w.heap.size (by simp; omega)).trans ((gr_blk gg2 (Nat.lt_trans hcr (lt_of_block C2x.out)) (by omega)).trans R2x.out))
      clear P2x G2x C2x K2x R2x pp2 gg2 cc2 kk2 t2 c2 f2 z2 s2
      generalize (y2.setCell ⟨cb, 2, none⟩ (.int .i64 nd)) = W3 at P3x G3x C3x K3x R3x ⊢
      have d0 := blk_cell C3x.out 0 _ rfl
      have d1 := blk_cell C3x.out 1 _ rfl
      have d2 := blk_cell C3x.out 2 _ rfl
      have d3 := blk_cell C3x.out 3 _ rfl
      have d4 := blk_cell C3x.out 4 _ rfl
      have rf := Lib.frozen_of_heap R3x.out
      have j0 := blk_cell R3x.out 0 _ rfl
      have j1 := blk_cell R3x.out 1 _ rfl
      have j2 := blk_cell R3x.out 2 _ rfl
      have j3 := blk_cell R3x.out 3 _ rfl
      have j4 := blk_cell R3x.out 4 _ rfl
      go_wp2_with fail
      refine bodyPost_ret (results_cell_row rfl _ _ w.heap.size 46 _ (0, 0) _ rfl (store5 R3x.out) Tryd.underlying46 rfl (by kernel_rfl)) rfl ?_
      exact ⟨rfl, by rw [← HE.out]; exact (far5 (by omega)).trans P3x.out, gr5 G3x.out (Nat.le_refl _)⟩
    ·
      have hrc : readCall x = (⟨na, nb, nd, false, false⟩, [3, ea, eb, ed]) := by
        unfold readCall; rw [HL.out]; simp only; rw [hbw, HA.out, HBB.out, HD.out]; rfl
      rw [hrc] at HC HE
      obtain rfl := HC.out
      clear HC hrc
      go_enter Tryd.func68, Tryd.ntmps68
      go_wp2_with (go_at_call 92; refine (hp _).mono ?_)
      rintro q1 w1 v1 rfl o1 b1
      obtain ⟨pb, po, pc, rfl, l1, l2, l3, hc⟩ := (ownS_in o1).open (by simp)
      have x3 : w1.cell? ⟨pb, po + 3, none⟩ = some (str wd) := hc 3 _ rfl 0 _ rfl
      have hpb : w.heap.size < pb := by have := (World.ownsRow.lt o1 pb rfl).1; omega
      have hs1 : w.heap.size < w1.heap.size := by have := b1.size; simp at this; omega
      have S0 := Lib.hid (show w1.cell? ⟨pb, po, none⟩ = some (str a) from hc 0 _ rfl 0 _ rfl)
      have S1 := Lib.hid (show w1.cell? ⟨pb, po + 1, none⟩ = some (str b) from hc 1 _ rfl 0 _ rfl)
      have S2 := Lib.hid (show w1.cell? ⟨pb, po + 2, none⟩ = some (str d) from hc 2 _ rfl 0 _ rfl)
      have P1 : Hid (PAt g u e m vc w1) := blk_bl HP.out (bl_next (bl_alloc (bl_refl _) _) b1)
      have G1 : Hid (Gr g w w1) := gr_bl (bl_next (bl_alloc (bl_refl _) _) b1)
      have R1 := Lib.hid (blk_bl (heap_alloc_new w _) b1)
      clear hc o1 b1
      go_wp2_with (go_at_call 41; refine (fail_c g u e 3 _ rfl m vc _ (blk_bl P1.out (bl_alloc (bl_refl _) _))).mono ?_)
      rintro q2 wx ⟨rfl, p2, g2⟩
      have PX : Hid (PAt g u (fe e 3) m vc wx) := p2
      have GX := Lib.hid (gr_next G1.out (gr_next (gr_bl (bl_alloc (bl_refl _) _)) g2))
      have CX := Lib.hid ((gr_blk g2 (by simp) (by omega)).trans (heap_alloc_new w1 (.cells #[.int .i64 0, .int .i64 0, .int .i64 0, .bool false, .bool false] 46)))
      have KX := Lib.hid ((gr_blk g2 (by simp; omega) (by omega)).trans (Below.heap_alloc w1 _ pb l3))
      have RX := Lib.hid ((gr_blk g2 (by simp; omega) (by omega)).trans ((Below.heap_alloc w1 _ w.heap.size hs1).trans R1.out))
      clear p2 g2 P1 G1 R1 x3
      obtain ⟨cb, hcb⟩ : ∃ cb, w1.heap.size = cb := ⟨_, rfl⟩
      rw [hcb] at CX l3 hs1 ⊢
      have hcr : w.heap.size < cb := hs1
      have s0 : wx.cell? ⟨pb, po, none⟩ = some (str a) := (World.cell?_of_block KX.out).trans S0.out
      go_wp2_with fail
      go_region_held3 (fun w' => w'.cell? ⟨pb, po, none⟩ = some (str a))
        (first | exact s0 | exact t0 | exact z0 _)
        ((go_at_call 65; refine (integer_c g _ _ _ _ _ a HA hla rfl _ _ _ (pat_drew PX.out)).mono ?_; rintro r0 y0 ⟨rfl, pp0, gg0⟩; have cc0 := Lib.hid ((gr_blk gg0 (lt_of_block CX.out) (by omega)).trans CX.out); have kk0 := Lib.hid ((gr_blk gg0 (Nat.lt_trans l3 (lt_of_block CX.out)) (by omega)).trans KX.out); have t0 : y0.cell? ⟨pb, po, none⟩ = some (str a) := (World.cell?_of_block kk0.out).trans S0.out; have c0 := blk_cell cc0.out 0 _ rfl; have f0 := Lib.frozen_of_heap cc0.out 0; have z0 : ∀ v, (y0.setCell ⟨cb, 0, none⟩ v).cell? ⟨pb, po, none⟩ = some (str a) := fun v => (World.cell?_of_block (Below.heap_setCell _ _ _ pb (by simp; omega))).trans t0))
      have P1x : Hid (PAt g u (fe (fe e 3) ea) m vc (y0.setCell ⟨cb, 0, none⟩ (.int .i64 na))) := (Below.heap_setCell _ _ _ g (by simp; omega)).trans pp0
      have G1x : Hid (Gr g w (y0.setCell ⟨cb, 0, none⟩ (.int .i64 na))) := gr_setNew (gr_next GX.out (gr_next (gr_bl (bl_drew (bl_refl _))) gg0)) (by omega) _ _
      have C1x : Hid ((y0.setCell ⟨cb, 0, none⟩ (.int .i64 na)).heap[cb]? = some (.cells #[.int .i64 na, .int .i64 0, .int .i64 0, .bool false, .bool false] 46 (0, 0))) := blk_set cc0.out 0 _
      have K1x : Hid ((y0.setCell ⟨cb, 0, none⟩ (.int .i64 na)).heap[pb]? = w1.heap[pb]?) := (Below.heap_setCell _ _ _ pb (by simp; omega)).trans kk0.out
      have R1x := Lib.hid (show (y0.setCell ⟨cb, 0, none⟩ (.int .i64 na)).heap[w.heap.size]? = _ from (Below.heap_setCell _ _ _ w.heap.size (by simp; omega)).trans ((gr_blk gg0 (Nat.lt_trans hcr (lt_of_block CX.out)) (by omega)).trans RX.out))
      clear PX GX CX KX RX pp0 gg0 cc0 kk0 t0 c0 f0 z0 s0
      generalize (y0.setCell ⟨cb, 0, none⟩ (.int .i64 na)) = W1 at P1x G1x C1x K1x R1x ⊢
      have s1 : W1.cell? ⟨pb, po + 1, none⟩ = some (str b) := (World.cell?_of_block K1x.out).trans S1.out
      go_wp2_with fail
      go_region_held3 (fun w' => w'.cell? ⟨pb, po + 1, none⟩ = some (str b))
        (first | exact s1 | exact t1 | exact z1 _)
        ((go_at_call 65; refine (integer_c g _ _ _ _ _ b HBB hlb rfl _ _ _ (pat_drew P1x.out)).mono ?_; rintro r1 y1 ⟨rfl, pp1, gg1⟩; have cc1 := Lib.hid ((gr_blk gg1 (lt_of_block C1x.out) (by omega)).trans C1x.out); have kk1 := Lib.hid ((gr_blk gg1 (Nat.lt_trans l3 (lt_of_block C1x.out)) (by omega)).trans K1x.out); have t1 : y1.cell? ⟨pb, po + 1, none⟩ = some (str b) := (World.cell?_of_block kk1.out).trans S1.out; have c1 := blk_cell cc1.out 1 _ rfl; have f1 := Lib.frozen_of_heap cc1.out 1; have z1 : ∀ v, (y1.setCell ⟨cb, 1, none⟩ v).cell? ⟨pb, po + 1, none⟩ = some (str b) := fun v => (World.cell?_of_block (Below.heap_setCell _ _ _ pb (by simp; omega))).trans t1))
      have P2x : Hid (PAt g u (fe (fe (fe e 3) ea) eb) m vc (y1.setCell ⟨cb, 1, none⟩ (.int .i64 nb))) := (Below.heap_setCell _ _ _ g (by simp; omega)).trans pp1
      have G2x : Hid (Gr g w (y1.setCell ⟨cb, 1, none⟩ (.int .i64 nb))) := gr_setNew (gr_next G1x.out (gr_next (gr_bl (bl_drew (bl_refl _))) gg1)) (by omega) _ _
      have C2x : Hid ((y1.setCell ⟨cb, 1, none⟩ (.int .i64 nb)).heap[cb]? = some (.cells #[.int .i64 na, .int .i64 nb, .int .i64 0, .bool false, .bool false] 46 (0, 0))) := blk_set cc1.out 1 _
      have K2x : Hid ((y1.setCell ⟨cb, 1, none⟩ (.int .i64 nb)).heap[pb]? = w1.heap[pb]?) := (Below.heap_setCell _ _ _ pb (by simp; omega)).trans kk1.out
      have R2x := Lib.hid (show (y1.setCell ⟨cb, 1, none⟩ (.int .i64 nb)).heap[w.heap.size]? = _ from (Below.heap_setCell _ _ _ w.heap.size (by simp; omega)).trans ((gr_blk gg1 (Nat.lt_trans hcr (lt_of_block C1x.out)) (by omega)).trans R1x.out))
      clear P1x G1x C1x K1x R1x pp1 gg1 cc1 kk1 t1 c1 f1 z1 s1
      generalize (y1.setCell ⟨cb, 1, none⟩ (.int .i64 nb)) = W2 at P2x G2x C2x K2x R2x ⊢
      have s2 : W2.cell? ⟨pb, po + 2, none⟩ = some (str d) := (World.cell?_of_block K2x.out).trans S2.out
      go_wp2_with fail
      go_region_held3 (fun w' => w'.cell? ⟨pb, po + 2, none⟩ = some (str d))
        (first | exact s2 | exact t2 | exact z2 _)
        ((go_at_call 65; refine (integer_c g _ _ _ _ _ d HD hld rfl _ _ _ (pat_drew P2x.out)).mono ?_; rintro r2 y2 ⟨rfl, pp2, gg2⟩; have cc2 := Lib.hid ((gr_blk gg2 (lt_of_block C2x.out) (by omega)).trans C2x.out); have kk2 := Lib.hid ((gr_blk gg2 (Nat.lt_trans l3 (lt_of_block C2x.out)) (by omega)).trans K2x.out); have t2 : y2.cell? ⟨pb, po + 2, none⟩ = some (str d) := (World.cell?_of_block kk2.out).trans S2.out; have c2 := blk_cell cc2.out 2 _ rfl; have f2 := Lib.frozen_of_heap cc2.out 2; have z2 : ∀ v, (y2.setCell ⟨cb, 2, none⟩ v).cell? ⟨pb, po + 2, none⟩ = some (str d) := fun v => (World.cell?_of_block (Below.heap_setCell _ _ _ pb (by simp; omega))).trans t2))
      have P3x : Hid (PAt g u (fe (fe (fe (fe e 3) ea) eb) ed) m vc (y2.setCell ⟨cb, 2, none⟩ (.int .i64 nd))) := (Below.heap_setCell _ _ _ g (by simp; omega)).trans pp2
      have G3x : Hid (Gr g w (y2.setCell ⟨cb, 2, none⟩ (.int .i64 nd))) := gr_setNew (gr_next G2x.out (gr_next (gr_bl (bl_drew (bl_refl _))) gg2)) (by omega) _ _
      have C3x : Hid ((y2.setCell ⟨cb, 2, none⟩ (.int .i64 nd)).heap[cb]? = some (.cells #[.int .i64 na, .int .i64 nb, .int .i64 nd, .bool false, .bool false] 46 (0, 0))) := blk_set cc2.out 2 _
      have K3x : Hid ((y2.setCell ⟨cb, 2, none⟩ (.int .i64 nd)).heap[pb]? = w1.heap[pb]?) := (Below.heap_setCell _ _ _ pb (by simp; omega)).trans kk2.out
      have R3x := Lib.hid (show (y2.setCell ⟨cb, 2, none⟩ (.int .i64 nd)).heap[w.heap.size]? = _ from (Below.heap_setCell _ _ _ w.heap.size (by simp; omega)).trans ((gr_blk gg2 (Nat.lt_trans hcr (lt_of_block C2x.out)) (by omega)).trans R2x.out))
      clear P2x G2x C2x K2x R2x pp2 gg2 cc2 kk2 t2 c2 f2 z2 s2
      generalize (y2.setCell ⟨cb, 2, none⟩ (.int .i64 nd)) = W3 at P3x G3x C3x K3x R3x ⊢
      have d0 := blk_cell C3x.out 0 _ rfl
      have d1 := blk_cell C3x.out 1 _ rfl
      have d2 := blk_cell C3x.out 2 _ rfl
      have d3 := blk_cell C3x.out 3 _ rfl
      have d4 := blk_cell C3x.out 4 _ rfl
      have rf := Lib.frozen_of_heap R3x.out
      have j0 := blk_cell R3x.out 0 _ rfl
      have j1 := blk_cell R3x.out 1 _ rfl
      have j2 := blk_cell R3x.out 2 _ rfl
      have j3 := blk_cell R3x.out 3 _ rfl
      have j4 := blk_cell R3x.out 4 _ rfl
      go_wp2_with fail
      refine bodyPost_ret (results_cell_row rfl _ _ w.heap.size 46 _ (0, 0) _ rfl (store5 R3x.out) Tryd.underlying46 rfl (by kernel_rfl)) rfl ?_
      exact ⟨rfl, by rw [← HE.out]; exact (far5 (by omega)).trans P3x.out, gr5 G3x.out (Nat.le_refl _)⟩
  · have hrc : readCall x = (⟨0, 0, 0, false, false⟩, [3]) := by
      unfold readCall
      rw [HL.out]
      split
      · rename_i hh; exact absurd (by simp) h4
      · rfl
    rw [hrc] at HC HE
    obtain rfl := HC.out
    have h4' : ((l.length : Int) != 4) = true := by rw [bne_iff_ne]; omega
    have hg := HP.out.lt
    clear HC hrc
    go_enter Tryd.func68, Tryd.ntmps68
    go_wp2_with (go_at_call 92; refine (hp _).mono ?_)
    rintro q1 w1 v1 rfl o1 b1
    obtain ⟨a1, c1, rfl⟩ := ownS_form o1
    have hs1 : w.heap.size < w1.heap.size := by have := b1.size; simp at this; omega
    have P1 : Hid (PAt g u e m vc w1) := blk_bl HP.out (bl_next (bl_alloc (bl_refl _) _) b1)
    have G1 : Hid (Gr g w w1) := gr_bl (bl_next (bl_alloc (bl_refl _) _) b1)
    have R1 := Lib.hid (blk_bl (heap_alloc_new w _) b1)
    clear o1 b1
    go_wp2_with (go_at_call 41; refine (fail_c g u e 3 _ rfl m vc _ (blk_bl P1.out (bl_alloc (bl_refl _) _))).mono ?_)
    rintro q2 wx ⟨rfl, p2, g2⟩
    have CX := Lib.hid ((gr_blk g2 (by simp) (by omega)).trans (heap_alloc_new w1 (.cells #[.int .i64 0, .int .i64 0, .int .i64 0, .bool false, .bool false] 46)))
    have RX := Lib.hid ((gr_blk g2 (by simp; omega) (by omega)).trans ((Below.heap_alloc w1 _ w.heap.size hs1).trans R1.out))
    have GX := Lib.hid (gr_next G1.out (gr_next (gr_bl (bl_alloc (bl_refl _) _)) g2))
    have d0 := blk_cell CX.out 0 _ rfl
    have d1 := blk_cell CX.out 1 _ rfl
    have d2 := blk_cell CX.out 2 _ rfl
    have d3 := blk_cell CX.out 3 _ rfl
    have d4 := blk_cell CX.out 4 _ rfl
    have rf := Lib.frozen_of_heap RX.out
    have j0 := blk_cell RX.out 0 _ rfl
    have j1 := blk_cell RX.out 1 _ rfl
    have j2 := blk_cell RX.out 2 _ rfl
    have j3 := blk_cell RX.out 3 _ rfl
    have j4 := blk_cell RX.out 4 _ rfl
    go_wp2_with fail
    refine bodyPost_ret (results_cell_row rfl _ _ w.heap.size 46 _ (0, 0) _ rfl (store5 RX.out) Tryd.underlying46 rfl (by kernel_rfl)) rfl ?_
    exact ⟨rfl, by rw [← HE.out]; exact (far5 (by omega)).trans p2, gr5 GX.out (Nat.le_refl _)⟩
end Go.Proofs.YthdadalmgldppaaDoor
