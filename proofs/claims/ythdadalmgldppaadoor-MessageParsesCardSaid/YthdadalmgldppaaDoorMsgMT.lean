/-
  THE CONTRACTS OF MESSAGE, PART L: parts, of the program and of the reference. Conditions: those of each contract.
  THE CONTRACTS OF MESSAGE, PART M: the parser in its block; next, fail, integer. Conditions: those of each contract.
  THE CONTRACTS OF MESSAGE, PART N: call of the parser. Conditions: those of each contract.
  THE CONTRACTS OF MESSAGE, PART O: tail of the parser. Conditions: those of each contract.
  THE CONTRACTS OF MESSAGE, PART P: shaped, Parse of the program. Conditions: those of each contract.
  THE CONTRACTS OF MESSAGE, PART Q: Parse of the program. Conditions: those of each contract.
-/
import Derived.Test.YthdadalmgldppaaDoorMFldWalksK
import Derived.Test.YthdadalmgldppaaDoorFldPlain3
import Derived.Test.YthdadalmgldppaaDoorMsgWalksK
import Derived.Test.YthdadalmgldppaaDoorNuNumWalksC
import Derived.Test.YthdadalmgldppaaDoorDaDatWalksH
import Derived.Deep.RegionLaw
import Derived.Laws.ResultCell
import Derived.Test.YthdadalmgldppaaDoorFldPlain5
namespace Go.Proofs.YthdadalmgldppaaDoor
open Go.RowKit
open Fld

theorem parts_step_sep {s : ByteArray} {i at' : Nat} {out : List (List UInt8)} (h : i < s.size) (h10 : (s[i]'h).toNat = 32)
    (hr : splitL 32 (s.data.toList.take i) = out ++ [(s.extract at' i).data.toList]) : splitL 32 (s.data.toList.take (i + 1)) = (out ++ [(s.extract at' i).data.toList]) ++ [(s.extract (i + 1) (i + 1)).data.toList] := by
  have e : (s[i]'h) = 32 := UInt8.toNat.inj (by simpa using h10)
  have e2 : (s.extract (i + 1) (i + 1)).data.toList = [] := by rw [ext_list]; simp
  rw [List.take_succ_eq_append_getElem (by simpa using h), bytes_get s i h, e, splitL_snoc_c, hr, e2]
theorem parts_step_ne {s : ByteArray} {i at' : Nat} {out : List (List UInt8)} (h : i < s.size) (h10 : ¬ (s[i]'h).toNat = 32) (hat : at' ≤ i)
    (hr : splitL 32 (s.data.toList.take i) = out ++ [(s.extract at' i).data.toList]) : splitL 32 (s.data.toList.take (i + 1)) = out ++ [(s.extract at' (i + 1)).data.toList] := by
  have e : (s[i]'h) ≠ 32 := fun e => h10 (by rw [e]; rfl)
  have e2 : (s.extract at' (i + 1)).data.toList = (s.extract at' i).data.toList ++ [s[i]'h] := by
    rw [ext_list, ext_list, show i + 1 - at' = (i - at') + 1 by omega, List.take_succ_eq_append_getElem (by rw [List.length_drop, len_bytes]; omega), List.getElem_drop]
    congr 1
    simp only [List.cons.injEq, and_true]
    rw [← bytes_get s i h]
    congr 1
    omega
  rw [List.take_succ_eq_append_getElem (by simpa using h), bytes_get s i h, splitL_snoc_ne e _ _ _ hr, e2]
set_option maxRecDepth 20000 in
set_option maxHeartbeats 4000000 in
theorem parts_c (s : ByteArray) (hs : s.size ≤ 34359738368) (l : List (List UInt8)) (H : Hid (splitL 32 s.data.toList = l)) (w : World) :
    Calls Tryd.prog 92 #[.string s] w fun r w' => ∃ v, r = .returned v ∧ OwnS w.heap.size v l w' ∧ Bl w w' := by
  obtain ⟨i0, hi, hz0, hz1, hz2⟩ := info_parts info_str
  have hn := len_bytes s
  go_enter Tryd.func92, Tryd.ntmps92
  go_wp2
  go_loopw [3, 4, 5] (fun vo va i wr => ∃ (k j : Nat) (out : List (List UInt8)), k ≤ s.size + 1 ∧ j ≤ k ∧ out.length ≤ k ∧ i = .int .i64 k ∧ va = .int .i64 j ∧ Hid (OwnS w.heap.size vo out wr) ∧ Hid (k ≤ s.size → splitL 32 (s.data.toList.take k) = out ++ [(s.extract j k).data.toList]) ∧ Hid (k = s.size + 1 → out = l) ∧ Hid (Bl w wr)) (fun _ _ i _ => s.size + 2 - (intOf i).toNat)
  case atStart => exact ⟨0, 0, [], Nat.zero_le _, Nat.le_refl _, Nat.le_refl _, rfl, rfl, ownS_nil _ _, fun _ => by rw [ext_list]; rfl, fun h => by omega, bl_refl _⟩
  case round =>
    obtain ⟨k, j, out, hk, hj, hol, rfl, rfl, HO, HS, HL, HB⟩ := hrel
    by_cases hle : k ≤ s.size
    · obtain ⟨f, hf⟩ : ∃ f, (s.extract j k).data.toList = f := ⟨_, rfl⟩
      have hv : Value.string (s.extract j k) = str f := by rw [← hf]
      have HS' := Lib.hid (HS.out hle)
      have hkI : (k : Int) ≤ (s.size : Int) := by omega
      by_cases hlt : k < s.size
      · by_cases h10 : ((s[k]'hlt).toNat : Int) = 32
        · have HN := Lib.hid (parts_step_sep hlt (by omega) HS'.out)
          rw [hf] at HN
          have f1 : ((k : Int) == (s.size : Int)) = false := by rw [beq_eq_false_iff_ne]; omega
          clear hf HS HS' HL
          go_wp2_with (at_builtin; refine wpList_append_own _ rfl _ _ 48 rfl w.heap.size 9 i0 (.string ByteArray.empty) 1 16 Tryd.underlying48 hi hz0 hz1 hz2 rfl (by decide) _ _ _ rfl (ownS_alloc HO.out _) ⟨wr.heap.size, 0, none⟩ 1 1 [str f] rfl rfl ?c1 ?c2 ?c3 ?c4 ?c5 ?_)
          case c1 => exact cells_of_lit _ (fun j u h => by simpa using h)
          case c2 => simp [Value.oneCell']
          case c3 => unfold maxLen; omega
          case c4 => omega
          case c5 => have := HB.out.size; simp; omega
          intro v3 w3 hown3 hgrow3 _
          have O3 := Lib.hid (ownS_app (m := [f]) hown3)
          have B3 : Hid (Bl w w3) := (HB.out.alloc HB.out.size _).grown hgrow3 (by have := HB.out.size; simp; omega) (fun k hk => (World.ownsRow.lt HO.out k hk).1)
          clear hown3 hgrow3 hv
          go_wp2
          go_roundw
          case rel => exact ⟨k + 1, k + 1, out ++ [f], by omega, by omega, by simp; omega, by go_num, by go_num, O3, fun _ => HN.out, fun h => by omega, B3⟩
          case measure => simp [intOf]; omega
        · have f2 : (((s[k]'hlt).toNat : Int) == 32) = false := by rw [beq_eq_false_iff_ne]; exact h10
          have f1 : ((k : Int) == (s.size : Int)) = false := by rw [beq_eq_false_iff_ne]; omega
          have HN := Lib.hid (parts_step_ne hlt (by omega) hj HS'.out)
          clear hf HS HS' HL hv
          go_wp2
          go_roundw
          case rel => exact ⟨k + 1, j, out, by omega, by omega, by omega, by go_num, rfl, HO, fun _ => HN.out, fun h => by omega, HB⟩
          case measure => simp [intOf]; omega
      · obtain rfl : k = s.size := by omega
        have HN := Lib.hid (show out ++ [f] = l by rw [← H.out, ← hf, ← HS'.out, List.take_of_length_le (by omega)])
        clear hf HS HS' HL
        go_wp2_with (at_builtin; refine wpList_append_own _ rfl _ _ 48 rfl w.heap.size 9 i0 (.string ByteArray.empty) 1 16 Tryd.underlying48 hi hz0 hz1 hz2 rfl (by decide) _ _ _ rfl (ownS_alloc HO.out _) ⟨wr.heap.size, 0, none⟩ 1 1 [str f] rfl rfl ?d1 ?d2 ?d3 ?d4 ?d5 ?_)
        case d1 => exact cells_of_lit _ (fun j u h => by simpa using h)
        case d2 => simp [Value.oneCell']
        case d3 => unfold maxLen; omega
        case d4 => omega
        case d5 => have := HB.out.size; simp; omega
        intro v3 w3 hown3 hgrow3 _
        have O3 := Lib.hid (ownS_app (m := [f]) hown3)
        have B3 : Hid (Bl w w3) := (HB.out.alloc HB.out.size _).grown hgrow3 (by have := HB.out.size; simp; omega) (fun k hk => (World.ownsRow.lt HO.out k hk).1)
        clear hown3 hgrow3 hv
        go_wp2
        go_roundw
        case rel => exact ⟨s.size + 1, s.size + 1, out ++ [f], by omega, by omega, by simp; omega, by go_num, by go_num, O3, fun h => by omega, fun _ => HN.out, B3⟩
        case measure => simp [intOf]
    · have HN := Lib.hid (HL.out (by omega))
      clear HS HL
      have hkI : ¬ (k : Int) ≤ (s.size : Int) := by omega
      go_wp2
      go_ret
      exact ⟨_, rfl, by rw [← HN.out]; exact HO.out, HB.out⟩
set_option maxRecDepth 20000 in
set_option maxHeartbeats 4000000 in
theorem rparts_c (s : ByteArray) (hs : s.size ≤ 34359738368) (l : List (List UInt8)) (H : Hid (splitL 32 s.data.toList = l)) (w : World) :
    Calls Tryd.prog 75 #[.string s] w fun r w' => ∃ v, r = .returned v ∧ OwnS w.heap.size v l w' ∧ Bl w w' := by
  obtain ⟨i0, hi, hz0, hz1, hz2⟩ := info_parts info_str
  have hn := len_bytes s
  go_enter Tryd.func75, Tryd.ntmps75
  go_wp2
  go_loopw [3, 4, 5] (fun vo va i wr => ∃ (k j : Nat) (out : List (List UInt8)), k ≤ s.size + 1 ∧ j ≤ k ∧ out.length ≤ k ∧ i = .int .i64 k ∧ va = .int .i64 j ∧ Hid (OwnS w.heap.size vo out wr) ∧ Hid (k ≤ s.size → splitL 32 (s.data.toList.take k) = out ++ [(s.extract j k).data.toList]) ∧ Hid (k = s.size + 1 → out = l) ∧ Hid (Bl w wr)) (fun _ _ i _ => s.size + 2 - (intOf i).toNat)
  case atStart => exact ⟨0, 0, [], Nat.zero_le _, Nat.le_refl _, Nat.le_refl _, rfl, rfl, ownS_nil _ _, fun _ => by rw [ext_list]; rfl, fun h => by omega, bl_refl _⟩
  case round =>
    obtain ⟨k, j, out, hk, hj, hol, rfl, rfl, HO, HS, HL, HB⟩ := hrel
    by_cases hle : k ≤ s.size
    · obtain ⟨f, hf⟩ : ∃ f, (s.extract j k).data.toList = f := ⟨_, rfl⟩
      have hv : Value.string (s.extract j k) = str f := by rw [← hf]
      have HS' := Lib.hid (HS.out hle)
      have hkI : (k : Int) ≤ (s.size : Int) := by omega
      by_cases hlt : k < s.size
      · by_cases h10 : ((s[k]'hlt).toNat : Int) = 32
        · have HN := Lib.hid (parts_step_sep hlt (by omega) HS'.out)
          rw [hf] at HN
          have f1 : ((k : Int) == (s.size : Int)) = false := by rw [beq_eq_false_iff_ne]; omega
          clear hf HS HS' HL
          go_wp2_with (at_builtin; refine wpList_append_own _ rfl _ _ 48 rfl w.heap.size 9 i0 (.string ByteArray.empty) 1 16 Tryd.underlying48 hi hz0 hz1 hz2 rfl (by decide) _ _ _ rfl (ownS_alloc HO.out _) ⟨wr.heap.size, 0, none⟩ 1 1 [str f] rfl rfl ?c1 ?c2 ?c3 ?c4 ?c5 ?_)
          case c1 => exact cells_of_lit _ (fun j u h => by simpa using h)
          case c2 => simp [Value.oneCell']
          case c3 => unfold maxLen; omega
          case c4 => omega
          case c5 => have := HB.out.size; simp; omega
          intro v3 w3 hown3 hgrow3 _
          have O3 := Lib.hid (ownS_app (m := [f]) hown3)
          have B3 : Hid (Bl w w3) := (HB.out.alloc HB.out.size _).grown hgrow3 (by have := HB.out.size; simp; omega) (fun k hk => (World.ownsRow.lt HO.out k hk).1)
          clear hown3 hgrow3 hv
          go_wp2
          go_roundw
          case rel => exact ⟨k + 1, k + 1, out ++ [f], by omega, by omega, by simp; omega, by go_num, by go_num, O3, fun _ => HN.out, fun h => by omega, B3⟩
          case measure => simp [intOf]; omega
        · have f2 : (((s[k]'hlt).toNat : Int) == 32) = false := by rw [beq_eq_false_iff_ne]; exact h10
          have f1 : ((k : Int) == (s.size : Int)) = false := by rw [beq_eq_false_iff_ne]; omega
          have HN := Lib.hid (parts_step_ne hlt (by omega) hj HS'.out)
          clear hf HS HS' HL hv
          go_wp2
          go_roundw
          case rel => exact ⟨k + 1, j, out, by omega, by omega, by omega, by go_num, rfl, HO, fun _ => HN.out, fun h => by omega, HB⟩
          case measure => simp [intOf]; omega
      · obtain rfl : k = s.size := by omega
        have HN := Lib.hid (show out ++ [f] = l by rw [← H.out, ← hf, ← HS'.out, List.take_of_length_le (by omega)])
        clear hf HS HS' HL
        go_wp2_with (at_builtin; refine wpList_append_own _ rfl _ _ 48 rfl w.heap.size 9 i0 (.string ByteArray.empty) 1 16 Tryd.underlying48 hi hz0 hz1 hz2 rfl (by decide) _ _ _ rfl (ownS_alloc HO.out _) ⟨wr.heap.size, 0, none⟩ 1 1 [str f] rfl rfl ?d1 ?d2 ?d3 ?d4 ?d5 ?_)
        case d1 => exact cells_of_lit _ (fun j u h => by simpa using h)
        case d2 => simp [Value.oneCell']
        case d3 => unfold maxLen; omega
        case d4 => omega
        case d5 => have := HB.out.size; simp; omega
        intro v3 w3 hown3 hgrow3 _
        have O3 := Lib.hid (ownS_app (m := [f]) hown3)
        have B3 : Hid (Bl w w3) := (HB.out.alloc HB.out.size _).grown hgrow3 (by have := HB.out.size; simp; omega) (fun k hk => (World.ownsRow.lt HO.out k hk).1)
        clear hown3 hgrow3 hv
        go_wp2
        go_roundw
        case rel => exact ⟨s.size + 1, s.size + 1, out ++ [f], by omega, by omega, by simp; omega, by go_num, by go_num, O3, fun h => by omega, fun _ => HN.out, B3⟩
        case measure => simp [intOf]
    · have HN := Lib.hid (HL.out (by omega))
      clear HS HL
      have hkI : ¬ (k : Int) ≤ (s.size : Int) := by omega
      go_wp2
      go_ret
      exact ⟨_, rfl, by rw [← HN.out]; exact HO.out, HB.out⟩
end Go.Proofs.YthdadalmgldppaaDoor
namespace Go.Proofs.YthdadalmgldppaaDoor
open Go.RowKit
open Msg Num Fld Dat

/-- The cells of a parser: the fields that are left, the error, the message. -/
abbrev pCells (u : Value) (e : Int) (m : MsgD) (vc : Value) : Array Value := #[u, .int .i64 e, .int .i64 m.src, .int .i64 m.seq, .int .i64 m.iss, .int .i64 m.exp, .int .i64 m.kind, str m.trip, .int .i64 m.day, .int .i64 m.inst, .int .i64 m.call, .int .i64 m.secs, .int .i64 m.route, .bool m.step, vc]
def PAt (g : Nat) (u : Value) (e : Int) (m : MsgD) (vc : Value) (w : World) : Prop := w.heap[g]? = some (.cells (pCells u e m vc) 63 (0, 0))
theorem PAt.lt {g : Nat} {u : Value} {e : Int} {m : MsgD} {vc : Value} {w : World} (h : PAt g u e m vc w) : g < w.heap.size := lt_of_block h
theorem PAt.cell {g : Nat} {u : Value} {e : Int} {m : MsgD} {vc : Value} {w : World} (h : PAt g u e m vc w) (i : Nat) (v : Value) (hi : (pCells u e m vc)[i]? = some v) : w.cell? ⟨g, i, none⟩ = some v := blk_cell h i v hi
theorem PAt.free {g : Nat} {u : Value} {e : Int} {m : MsgD} {vc : Value} {w : World} (h : PAt g u e m vc w) (i : Nat) : w.frozen? ⟨g, i, none⟩ = false := Lib.frozen_of_heap h i
theorem blk_set {w : World} {g : Nat} {C : Array Value} {T : TypeId} (h : w.heap[g]? = some (.cells C T (0, 0))) (i : Nat) (v : Value) : (w.setCell ⟨g, i, none⟩ v).heap[g]? = some (.cells (C.setIfInBounds i v) T (0, 0)) := by
  have hlt := lt_of_block h
  have h' : w.heap[g] = .cells C T (0, 0) := by simpa [Array.getElem?_eq_getElem hlt] using h
  show (w.heap.modify g _)[g]? = _
  rw [Array.getElem?_eq_getElem (by simpa using hlt), Array.getElem_modify_self, h']
  rfl
/-- Nothing has turned but the block g. -/
abbrev Gr (g : Nat) (w w' : World) : Prop := w.grownBy w' (some g)
theorem gr_bl {g : Nat} {w w' : World} (h : Bl w w') : Gr g w w' := ⟨h.os, h.tape, h.output, h.size, fun k hk _ => h.block k hk⟩
theorem gr_refl (g : Nat) (w : World) : Gr g w w := gr_bl (bl_refl _)
theorem gr_next {g : Nat} {a b c : World} (h : Gr g a b) (k : Gr g b c) : Gr g a c :=
  ⟨k.os.trans h.os, k.tape.trans h.tape, k.output.trans h.output, Nat.le_trans h.size k.size, fun i hi hne => (k.block i (Nat.lt_of_lt_of_le hi h.size) hne).trans (h.block i hi hne)⟩
theorem gr_set (g : Nat) (w : World) (i : Nat) (v : Value) : Gr g w (w.setCell ⟨g, i, none⟩ v) :=
  ⟨rfl, rfl, rfl, by simp, fun k _ hne => Below.heap_setCell w ⟨g, i, none⟩ v k (fun e => hne (by rw [e]))⟩
theorem gr_below {g B : Nat} {w w' : World} (h : Gr g w w') (hg : g < w.heap.size) (hB : B ≤ g) : Below B w w' :=
  ⟨h.os, h.tape, h.output, h.size, fun k hk => h.block k (by omega) (fun e => by simp only [Option.some.injEq] at e; omega)⟩
theorem pat_drew {g : Nat} {u : Value} {e : Int} {m : MsgD} {vc : Value} {w : World} (h : PAt g u e m vc w) : PAt g u e m vc w.drew := h
theorem strs_drew {B : Nat} {u : Value} {l : List (List UInt8)} {w : World} (h : StrsIn B w u l) : StrsIn B w.drew u l := h.below (Below.drew (Below.refl _ _))
/-- The first of two errors. -/
def fe (e e2 : Int) : Int := if e = 0 then e2 else e
theorem unit_end : (Ending.returned (.tuple #[]) : Ending) = .returned (.tuple #[]) := rfl

set_option maxHeartbeats 4000000 in
theorem next_c (g : Nat) (u : Value) (e : Int) (m : MsgD) (vc : Value) (x : List UInt8) (r : List (List UInt8)) (B : Nat) (w : World) (h : PAt g u e m vc w) (hu : StrsIn B w u (x :: r)) (hB : B ≤ g) :
    Calls Tryd.prog 66 #[.pointer (some ⟨g, 0, none⟩)] w fun q w' => q = .returned (str x) ∧ ∃ u', StrsIn B w' u' r ∧ PAt g u' e m vc w' ∧ Gr g w w' := by
  obtain ⟨b, o, cap, rfl, l1, l2, l3, hc⟩ := SlIn.open hu (by simp)
  have c0 := h.cell 0 _ rfl
  have f0 := h.free 0
  have x0 : w.cell? ⟨b, o, none⟩ = some (str x) := hc 0 x rfl 0 _ rfl
  have HC := Lib.hid hc
  have HP := Lib.hid h
  simp only [List.length_cons] at l1 c0
  clear hu hc h
  have e1 : (((r.length + 1 : Nat) : Int) == 0) = false := by rw [beq_eq_false_iff_ne]; omega
  go_enter Tryd.func66, Tryd.ntmps66
  go_wp2
  all_goals
    go_ret
    refine ⟨rfl, _, ?_, blk_set HP.out 0 _, gr_set g w 0 _⟩
  all_goals first
    | exact ⟨_, _, rfl, by omega, by unfold maxLen; omega, fun h0 => by omega⟩
    | exact ⟨_, _, rfl, by omega, by unfold maxLen; omega, fun h0 => ⟨b, o + 1, rfl, l3, fun i y hy j v hv => by
        rw [(gr_below (gr_set g w 0 _) HP.out.lt hB).cell (p := ⟨b, o + 1 + i * 1 + j, none⟩) l3]
        have := HC.out (i + 1) y (by simpa using hy) j v hv
        rw [show o + 1 + i * 1 + j = o + (i + 1) * 1 + j by omega]
        exact this⟩⟩
set_option maxHeartbeats 4000000 in
theorem fail_c (g : Nat) (u : Value) (e e2 e3 : Int) (H : Hid (fe e e2 = e3)) (m : MsgD) (vc : Value) (w : World) (h : PAt g u e m vc w) :
    Calls Tryd.prog 41 #[.pointer (some ⟨g, 0, none⟩), .int .i64 e2] w fun q w' => q = .returned (.tuple #[]) ∧ PAt g u e3 m vc w' ∧ Gr g w w' := by
  have c1 : w.cell? ⟨g, 1, none⟩ = some (.int .i64 e) := h.cell 1 _ rfl
  have f1 := h.free 1
  have HP := Lib.hid h
  clear h
  by_cases he : e = 0
  · have HE := Lib.hid (show e2 = e3 by rw [← H.out]; unfold fe; rw [if_pos he])
    subst he
    clear H
    go_enter Tryd.func41, Tryd.ntmps41
    go_wp2
    go_end0
    exact ⟨rfl, by rw [← HE.out]; exact blk_set HP.out 1 _, gr_set g w 1 _⟩
  · have HE := Lib.hid (show e = e3 by rw [← H.out]; unfold fe; rw [if_neg he])
    have f1 : (e == 0) = false := by rw [beq_eq_false_iff_ne]; exact he
    clear H
    go_enter Tryd.func41, Tryd.ntmps41
    go_wp2
    go_end0
    exact ⟨rfl, by rw [← HE.out]; exact HP.out, gr_refl g w⟩
set_option maxHeartbeats 4000000 in
theorem integer_c (g : Nat) (u : Value) (e e2 e3 n : Int) (x : List UInt8) (HX : Hid (parse x = (n, e2))) (hx : x.length ≤ 9223372036854775807) (H : Hid (fe e e2 = e3)) (m : MsgD) (vc : Value) (w : World) (h : PAt g u e m vc w) :
    Calls Tryd.prog 65 #[.pointer (some ⟨g, 0, none⟩), str x] w fun q w' => q = .returned (.int .i64 n) ∧ PAt g u e3 m vc w' ∧ Gr g w w' := by
  have hp := fun w => Nu.parse_c ⟨x.toArray⟩ n e2 HX (by show x.toArray.size ≤ _; rw [List.size_toArray]; unfold maxLen; omega) w
  have HP := Lib.hid h
  clear h
  go_enter Tryd.func65, Tryd.ntmps65
  go_wp2_with (go_at_call 89; refine (hp _).mono ?_)
  rintro y1 w1 ⟨rfl, b1⟩
  have P1 : Hid (PAt g u e m vc w1) := blk_bl HP.out b1
  have G1 : Hid (Gr g w w1) := gr_bl b1
  clear b1 hp
  go_wp2_with (go_at_call 41; refine (fail_c g u e e2 e3 H m vc w1 P1.out).mono ?_)
  rintro y2 w2 ⟨rfl, p2, g2⟩
  go_wp2
  go_ret
  exact ⟨rfl, p2, gr_next G1.out g2⟩
set_option maxRecDepth 20000 in
set_option maxHeartbeats 8000000 in
theorem head_c (g : Nat) (u : Value) (vc : Value) (a0 a1 a2 a3 a4 a5 a6 a7 : List UInt8) (r : List (List UInt8)) (n0 n1 n2 n3 n6 n7 e0 e1 e2 e3 e6 e7 E : Int) (B : Nat) (k : Int)
    (H0 : Hid (parse a0 = (n0, e0))) (H1 : Hid (parse a1 = (n1, e1))) (H2 : Hid (parse a2 = (n2, e2))) (H3 : Hid (parse a3 = (n3, e3))) (H6 : Hid (Day a6 n6 e6)) (H7 : Hid (parse a7 = (n7, e7)))
    (HE : Hid (fe (fe (fe (fe (fe (fe 0 e0) e1) e2) e3) e6) e7 = E)) (hl : Hid (∀ x ∈ [a0, a1, a2, a3, a4, a5, a6, a7], x.length ≤ 9223372036854775807))
    (w : World) (h : PAt g u 0 zeroM vc w) (hu : StrsIn B w u (a0 :: a1 :: a2 :: a3 :: a4 :: a5 :: a6 :: a7 :: r)) (hB : B ≤ g) :
    Calls Tryd.prog 39 #[.pointer (some ⟨g, 0, none⟩), .int .i64 k] w fun q w' => q = .returned (.tuple #[]) ∧ ∃ u', StrsIn B w' u' r ∧ PAt g u' E ⟨n0, n1, n2, n3, k, a5, n6, n7, 0, 0, 0, false, []⟩ vc w' ∧ Gr g w w' := by
  have HP := Lib.hid h
  have HU := Lib.hid hu
  clear h hu
  have hl0 := hl.out a0 (by simp)
  have hl1 := hl.out a1 (by simp)
  have hl2 := hl.out a2 (by simp)
  have hl3 := hl.out a3 (by simp)
  have hl7 := hl.out a7 (by simp)
  go_enter Tryd.func39, Tryd.ntmps39
  go_wp2_with fail
  go_region_held3 (fun w' => True) (exact trivial)
    (first
      | (go_at_call 66; refine (next_c g _ _ _ _ _ _ B _ (pat_drew HP.out) (strs_drew HU.out) hB).mono ?_; rintro q0 w0 ⟨rfl, u0, s0, p0, g0⟩)
      | (go_at_call 65; refine (integer_c g _ _ _ _ _ _ H0 hl0 rfl _ _ _ p0).mono ?_; rintro r0 v0 ⟨rfl, pp0, gg0⟩; have cc0 := pp0.cell 2 _ rfl; have ff0 := pp0.free 2))
  have P0 : Hid (PAt g u0 (fe 0 e0) ⟨n0, 0, 0, 0, 0, [], 0, 0, 0, 0, 0, false, []⟩ vc (v0.setCell ⟨g, 2, none⟩ (.int .i64 n0))) := blk_set pp0 2 _
  have G0 : Hid (Gr g w (v0.setCell ⟨g, 2, none⟩ (.int .i64 n0))) := gr_next (gr_refl g w) (gr_next (gr_bl (bl_drew (bl_refl _))) (gr_next g0 (gr_next gg0 (gr_set g _ 2 _))))
  have U0 := Lib.hid (s0.below (gr_below (gr_next gg0 (gr_set g _ 2 (.int .i64 n0))) p0.lt hB))
  generalize v0.setCell ⟨g, 2, none⟩ (.int .i64 n0) = W0 at P0 G0 U0 ⊢
  clear cc0 ff0 s0 p0 g0 pp0 gg0
  go_wp2_with fail
  go_region_held3 (fun w' => True) (exact trivial)
    (first
      | (go_at_call 66; refine (next_c g _ _ _ _ _ _ B _ (pat_drew P0.out) (strs_drew U0.out) hB).mono ?_; rintro q1 w1 ⟨rfl, u1, s1, p1, g1⟩)
      | (go_at_call 65; refine (integer_c g _ _ _ _ _ _ H1 hl1 rfl _ _ _ p1).mono ?_; rintro r1 v1 ⟨rfl, pp1, gg1⟩; have cc1 := pp1.cell 3 _ rfl; have ff1 := pp1.free 3))
  have P1 : Hid (PAt g u1 (fe (fe 0 e0) e1) ⟨n0, n1, 0, 0, 0, [], 0, 0, 0, 0, 0, false, []⟩ vc (v1.setCell ⟨g, 3, none⟩ (.int .i64 n1))) := blk_set pp1 3 _
  have G1 : Hid (Gr g w (v1.setCell ⟨g, 3, none⟩ (.int .i64 n1))) := gr_next G0.out (gr_next (gr_bl (bl_drew (bl_refl _))) (gr_next g1 (gr_next gg1 (gr_set g _ 3 _))))
  have U1 := Lib.hid (s1.below (gr_below (gr_next gg1 (gr_set g _ 3 (.int .i64 n1))) p1.lt hB))
  generalize v1.setCell ⟨g, 3, none⟩ (.int .i64 n1) = W1 at P1 G1 U1 ⊢
  clear cc1 ff1 s1 p1 g1 pp1 gg1
  go_wp2_with fail
  go_region_held3 (fun w' => True) (exact trivial)
    (first
      | (go_at_call 66; refine (next_c g _ _ _ _ _ _ B _ (pat_drew P1.out) (strs_drew U1.out) hB).mono ?_; rintro q2 w2 ⟨rfl, u2, s2, p2, g2⟩)
      | (go_at_call 65; refine (integer_c g _ _ _ _ _ _ H2 hl2 rfl _ _ _ p2).mono ?_; rintro r2 v2 ⟨rfl, pp2, gg2⟩; have cc2 := pp2.cell 4 _ rfl; have ff2 := pp2.free 4))
  have P2 : Hid (PAt g u2 (fe (fe (fe 0 e0) e1) e2) ⟨n0, n1, n2, 0, 0, [], 0, 0, 0, 0, 0, false, []⟩ vc (v2.setCell ⟨g, 4, none⟩ (.int .i64 n2))) := blk_set pp2 4 _
  have G2 : Hid (Gr g w (v2.setCell ⟨g, 4, none⟩ (.int .i64 n2))) := gr_next G1.out (gr_next (gr_bl (bl_drew (bl_refl _))) (gr_next g2 (gr_next gg2 (gr_set g _ 4 _))))
  have U2 := Lib.hid (s2.below (gr_below (gr_next gg2 (gr_set g _ 4 (.int .i64 n2))) p2.lt hB))
  generalize v2.setCell ⟨g, 4, none⟩ (.int .i64 n2) = W2 at P2 G2 U2 ⊢
  clear cc2 ff2 s2 p2 g2 pp2 gg2
  go_wp2_with fail
  go_region_held3 (fun w' => True) (exact trivial)
    (first
      | (go_at_call 66; refine (next_c g _ _ _ _ _ _ B _ (pat_drew P2.out) (strs_drew U2.out) hB).mono ?_; rintro q3 w3 ⟨rfl, u3, s3, p3, g3⟩)
      | (go_at_call 65; refine (integer_c g _ _ _ _ _ _ H3 hl3 rfl _ _ _ p3).mono ?_; rintro r3 v3 ⟨rfl, pp3, gg3⟩; have cc3 := pp3.cell 5 _ rfl; have ff3 := pp3.free 5))
  have P3 : Hid (PAt g u3 (fe (fe (fe (fe 0 e0) e1) e2) e3) ⟨n0, n1, n2, n3, 0, [], 0, 0, 0, 0, 0, false, []⟩ vc (v3.setCell ⟨g, 5, none⟩ (.int .i64 n3))) := blk_set pp3 5 _
  have G3 : Hid (Gr g w (v3.setCell ⟨g, 5, none⟩ (.int .i64 n3))) := gr_next G2.out (gr_next (gr_bl (bl_drew (bl_refl _))) (gr_next g3 (gr_next gg3 (gr_set g _ 5 _))))
  have U3 := Lib.hid (s3.below (gr_below (gr_next gg3 (gr_set g _ 5 (.int .i64 n3))) p3.lt hB))
  generalize v3.setCell ⟨g, 5, none⟩ (.int .i64 n3) = W3 at P3 G3 U3 ⊢
  clear cc3 ff3 s3 p3 g3 pp3 gg3
  go_wp2_with (go_at_call 66; refine (next_c g _ _ _ _ _ _ B _ P3.out U3.out hB).mono ?_)
  rintro q4 w4 ⟨rfl, u4, s4, p4, g4⟩
  have c6 := p4.cell 6 _ rfl
  have f6 := p4.free 6
  have P4 : Hid (PAt g u4 (fe (fe (fe (fe 0 e0) e1) e2) e3) ⟨n0, n1, n2, n3, k, [], 0, 0, 0, 0, 0, false, []⟩ vc (w4.setCell ⟨g, 6, none⟩ (.int .i64 k))) := blk_set p4 6 _
  have G4 : Hid (Gr g w (w4.setCell ⟨g, 6, none⟩ (.int .i64 k))) := gr_next G3.out (gr_next g4 (gr_set g _ 6 _))
  have U4 := Lib.hid (s4.below (gr_below (gr_set g _ 6 (.int .i64 k)) p4.lt hB))
  clear s4 p4 g4
  go_wp2_with (go_at_call 66; refine (next_c g _ _ _ _ _ _ B _ P4.out U4.out hB).mono ?_)
  rintro q5 w5 ⟨rfl, u5, s5, p5, g5⟩
  have c7 := p5.cell 7 _ rfl
  have f7 := p5.free 7
  have P5 : Hid (PAt g u5 (fe (fe (fe (fe 0 e0) e1) e2) e3) ⟨n0, n1, n2, n3, k, a5, 0, 0, 0, 0, 0, false, []⟩ vc (w5.setCell ⟨g, 7, none⟩ (str a5))) := blk_set p5 7 _
  have G5 : Hid (Gr g w (w5.setCell ⟨g, 7, none⟩ (str a5))) := gr_next G4.out (gr_next g5 (gr_set g _ 7 _))
  have U5 := Lib.hid (s5.below (gr_below (gr_set g _ 7 (str a5)) p5.lt hB))
  clear s5 p5 g5 c6 f6
  go_wp2_with (go_at_call 66; refine (next_c g _ _ _ _ _ _ B _ P5.out U5.out hB).mono ?_)
  rintro q6 w6 ⟨rfl, u6, s6, p6, g6⟩
  have P6 := Lib.hid p6
  have G6 := Lib.hid (gr_next G5.out g6)
  have U6 := Lib.hid s6
  clear s6 p6 g6 c7 f7
  have hd := fun w => Da.dParse_c ⟨a6.toArray⟩ n6 e6 H6.out w
  go_wp2_with (go_at_call 67; refine (hd _).mono ?_)
  rintro q8 w8 ⟨rfl, b8⟩
  have P8 : Hid (PAt g u6 (fe (fe (fe (fe 0 e0) e1) e2) e3) ⟨n0, n1, n2, n3, k, a5, 0, 0, 0, 0, 0, false, []⟩ vc w8) := blk_bl P6.out b8
  have G8 := Lib.hid (gr_next G6.out (gr_bl b8))
  have U8 := Lib.hid (U6.out.below (gr_below (gr_bl b8) P6.out.lt hB))
  clear b8 hd
  go_wp2_with (go_at_call 41; refine (fail_c g _ _ e6 _ rfl _ _ _ P8.out).mono ?_)
  rintro q9 w9 ⟨rfl, p9, g9⟩
  have c8 := p9.cell 8 _ rfl
  have f8 := p9.free 8
  have P9 : Hid (PAt g u6 (fe (fe (fe (fe (fe 0 e0) e1) e2) e3) e6) ⟨n0, n1, n2, n3, k, a5, n6, 0, 0, 0, 0, false, []⟩ vc (w9.setCell ⟨g, 8, none⟩ (.int .i64 n6))) := blk_set p9 8 _
  have G9 : Hid (Gr g w (w9.setCell ⟨g, 8, none⟩ (.int .i64 n6))) := gr_next G8.out (gr_next g9 (gr_set g _ 8 _))
  have U9 := Lib.hid (U8.out.below (gr_below (gr_next g9 (gr_set g _ 8 (.int .i64 n6))) P8.out.lt hB))
  clear p9 g9
  go_wp2_with fail
  go_region_held3 (fun w' => True) (exact trivial)
    (first
      | (go_at_call 66; refine (next_c g _ _ _ _ _ _ B _ (pat_drew P9.out) (strs_drew U9.out) hB).mono ?_; rintro q7 w7 ⟨rfl, u7, s7, p7, g7⟩)
      | (go_at_call 65; refine (integer_c g _ _ _ _ _ _ H7 hl7 rfl _ _ _ p7).mono ?_; rintro r7 v7 ⟨rfl, pp7, gg7⟩; have cc7 := pp7.cell 9 _ rfl; have ff7 := pp7.free 9))
  have P7 : Hid (PAt g u7 (fe (fe (fe (fe (fe (fe 0 e0) e1) e2) e3) e6) e7) ⟨n0, n1, n2, n3, k, a5, n6, n7, 0, 0, 0, false, []⟩ vc (v7.setCell ⟨g, 9, none⟩ (.int .i64 n7))) := blk_set pp7 9 _
  have G7 : Hid (Gr g w (v7.setCell ⟨g, 9, none⟩ (.int .i64 n7))) := gr_next G9.out (gr_next (gr_bl (bl_drew (bl_refl _))) (gr_next g7 (gr_next gg7 (gr_set g _ 9 _))))
  have U7 := Lib.hid (s7.below (gr_below (gr_next gg7 (gr_set g _ 9 (.int .i64 n7))) p7.lt hB))
  generalize v7.setCell ⟨g, 9, none⟩ (.int .i64 n7) = W7 at P7 G7 U7 ⊢
  clear cc7 ff7 s7 p7 g7 pp7 gg7
  go_wp2
  go_end0
  exact ⟨rfl, u7, U7.out, by rw [← HE.out]; exact P7.out, G7.out⟩

end Go.Proofs.YthdadalmgldppaaDoor
namespace Go.Proofs.YthdadalmgldppaaDoor
open Go.RowKit
open Msg Num Fld Dat

def feL (e : Int) (l : List Int) : Int := l.foldl fe e
theorem feL_first (e : Int) (l : List Int) : feL e l = if e = 0 then firstE l else e := by
  induction l generalizing e with
  | nil =>
    show e = if e = 0 then 0 else e
    split <;> simp_all
  | cons x r ih =>
    show feL (fe e x) r = _
    rw [ih]
    unfold fe
    by_cases he : e = 0
    · simp only [he, if_true]
      rfl
    · simp only [he, if_false]
theorem splitL_lens {c : UInt8} : ∀ {s : List UInt8} {l : List (List UInt8)}, splitL c s = l → ∀ y ∈ l, y.length ≤ s.length
  | [], l, h => by
    rw [← h]
    intro y hy
    rw [show splitL c [] = [[]] from rfl, List.mem_singleton] at hy
    rw [hy]
    exact Nat.le_refl _
  | b :: r, l, h => by
    by_cases hb : b = c
    · rw [hb, splitL_sep] at h
      rw [← h]
      intro y hy
      rcases List.mem_cons.1 hy with rfl | hy
      · simp
      · have := splitL_lens rfl y hy
        rw [List.length_cons]
        omega
    · obtain ⟨h', t', hr⟩ : ∃ h' t', splitL c r = h' :: t' := by
        cases hs : splitL c r with
        | nil => exact absurd hs (splitL_ne c r)
        | cons p q => exact ⟨p, q, rfl⟩
      rw [splitL_other hb hr] at h
      rw [← h]
      intro y hy
      rcases List.mem_cons.1 hy with rfl | hy
      · have := splitL_lens hr h' (List.mem_cons_self ..)
        rw [List.length_cons, List.length_cons]
        omega
      · have := splitL_lens hr y (List.mem_cons_of_mem _ hy)
        rw [List.length_cons]
        omega
theorem gr_blk {g : Nat} {a b : World} (h : Gr g a b) {k : Nat} (hk : k < a.heap.size) (hne : k ≠ g) : b.heap[k]? = a.heap[k]? := h.block k hk (fun e => hne (Option.some.inj e))
theorem gr_setNew {g : Nat} {w a : World} (h : Gr g w a) {c : Nat} (hc : w.heap.size ≤ c) (i : Nat) (v : Value) : Gr g w (a.setCell ⟨c, i, none⟩ v) :=
  ⟨h.os, h.tape, h.output, by have := h.size; simp; exact this, fun k hk hne => (Below.heap_setCell a ⟨c, i, none⟩ v k (by simp; omega)).trans (h.block k hk hne)⟩
/-- The five stores of a call into a block. -/
abbrev put5 (w : World) (r : Nat) (v0 v1 v2 v3 v4 : Value) : World := ((((w.setCell ⟨r, 0, none⟩ v0).setCell ⟨r, 1, none⟩ v1).setCell ⟨r, 2, none⟩ v2).setCell ⟨r, 3, none⟩ v3).setCell ⟨r, 4, none⟩ v4
theorem store5 {w : World} {r : Nat} {a0 a1 a2 a3 a4 v0 v1 v2 v3 v4 : Value} {T : TypeId} (h : w.heap[r]? = some (.cells #[a0, a1, a2, a3, a4] T (0, 0))) : (put5 w r v0 v1 v2 v3 v4).heap[r]? = some (.cells #[v0, v1, v2, v3, v4] T (0, 0)) :=
  blk_set (blk_set (blk_set (blk_set (blk_set h 0 v0) 1 v1) 2 v2) 3 v3) 4 v4
theorem far5 {w : World} {r k : Nat} {v0 v1 v2 v3 v4 : Value} (h : k ≠ r) : (put5 w r v0 v1 v2 v3 v4).heap[k]? = w.heap[k]? :=
  (Below.heap_setCell _ _ _ k h).trans ((Below.heap_setCell _ _ _ k h).trans ((Below.heap_setCell _ _ _ k h).trans ((Below.heap_setCell _ _ _ k h).trans (Below.heap_setCell _ _ _ k h))))
theorem gr5 {g : Nat} {w a : World} (h : Gr g w a) {r : Nat} {v0 v1 v2 v3 v4 : Value} (hr : w.heap.size ≤ r) : Gr g w (put5 a r v0 v1 v2 v3 v4) :=
  gr_setNew (gr_setNew (gr_setNew (gr_setNew (gr_setNew h hr _ _) hr _ _) hr _ _) hr _ _) hr _ _
theorem bits_cases (wd : List UInt8) : wd = [98, 111, 116, 104] ∨ wd = [98, 111, 97, 114, 100] ∨ wd = [97, 108, 105, 103, 104, 116] ∨ wd = [110, 111, 110, 101] ∨
    ((wd == [98, 111, 116, 104]) = false ∧ (wd == [98, 111, 97, 114, 100]) = false ∧ (wd == [97, 108, 105, 103, 104, 116]) = false ∧ (wd == [110, 111, 110, 101]) = false ∧ bitsOf wd = none) := by
  by_cases h1 : wd = [98, 111, 116, 104]
  · exact .inl h1
  by_cases h2 : wd = [98, 111, 97, 114, 100]
  · exact .inr (.inl h2)
  by_cases h3 : wd = [97, 108, 105, 103, 104, 116]
  · exact .inr (.inr (.inl h3))
  by_cases h4 : wd = [110, 111, 110, 101]
  · exact .inr (.inr (.inr (.inl h4)))
  refine .inr (.inr (.inr (.inr ⟨by simpa using h1, by simpa using h2, by simpa using h3, by simpa using h4, ?_⟩)))
  unfold bitsOf wBoth wBoard wAlight wNone
  rw [if_neg h1, if_neg h2, if_neg h3, if_neg h4]
set_option maxRecDepth 20000 in
set_option maxHeartbeats 8000000 in
theorem call_c (g : Nat) (u vc : Value) (e E : Int) (m : MsgD) (x : List UInt8) (hx : x.length ≤ 131072) (c : CallD) (HC : Hid ((readCall x).1 = c)) (HE : Hid (feL e (readCall x).2 = E)) (w : World) (h : PAt g u e m vc w) :
    Calls Tryd.prog 68 #[.pointer (some ⟨g, 0, none⟩), str x] w fun q w' => q = .returned (callV c) ∧ PAt g u E m vc w' ∧ Gr g w w' := by
  obtain ⟨l, hl⟩ : ∃ l, splitL 32 x = l := ⟨_, rfl⟩
  have HL := Lib.hid hl
  have hp := fun w => parts_c ⟨x.toArray⟩ (by show x.toArray.size ≤ _; rw [List.size_toArray]; omega) l (by show _ = _; exact hl) w
  have HP := Lib.hid h
  clear hl h
  by_cases h4 : l.length = 4
  · obtain ⟨a, b, d, wd, rfl⟩ : ∃ a b d wd, l = [a, b, d, wd] := by
      match l, h4 with
      | [a, b, d, wd], _ => exact ⟨a, b, d, wd, rfl⟩
    clear h4
    have hg := HP.out.lt
    have hlen := splitL_lens HL.out
    have hla : a.length ≤ 9223372036854775807 := by have := hlen a (by simp); omega
    have hlb : b.length ≤ 9223372036854775807 := by have := hlen b (by simp); omega
    have hld : d.length ≤ 9223372036854775807 := by have := hlen d (by simp); omega
    clear hlen
    obtain ⟨⟨na, ea⟩, HA⟩ : ∃ p, Hid (parse a = p) := ⟨_, rfl⟩
    obtain ⟨⟨nb, eb⟩, HBB⟩ : ∃ p, Hid (parse b = p) := ⟨_, rfl⟩
    obtain ⟨⟨nd, ed⟩, HD⟩ : ∃ p, Hid (parse d = p) := ⟨_, rfl⟩
    rcases bits_cases wd with rfl | rfl | rfl | rfl | ⟨n1, n2, n3, n4, hbw⟩
    ·
      have hrc : readCall x = (⟨na, nb, nd, true, true⟩, [0, ea, eb, ed]) := by
        unfold readCall; rw [HL.out]; simp only; rw [show bitsOf [98, 111, 116, 104] = some (true, true) from by decide, HA.out, HBB.out, HD.out]; rfl
      rw [hrc] at HC HE
      obtain rfl := HC.out
      clear HC hrc
      go_enter Tryd.func68, Tryd.ntmps68
      go_wp2_with (go_at_call 92; refine (hp _).mono ?_)
      rintro q1 w1 v1 rfl o1 b1
      obtain ⟨pb, po, pc, rfl, l1, l2, l3, hc⟩ := (ownS_in o1).open (by simp)
      have x3 : w1.cell? ⟨pb, po + 3, none⟩ = some (str [98, 111, 116, 104]) := hc 3 _ rfl 0 _ rfl
      have hpb : w.heap.size < pb := by have := (World.ownsRow.lt o1 pb rfl).1; omega
      have hs1 : w.heap.size < w1.heap.size := by have := b1.size; simp at this; omega
      have S0 := Lib.hid (show w1.cell? ⟨pb, po, none⟩ = some (str a) from hc 0 _ rfl 0 _ rfl)
      have S1 := Lib.hid (show w1.cell? ⟨pb, po + 1, none⟩ = some (str b) from hc 1 _ rfl 0 _ rfl)
      have S2 := Lib.hid (show w1.cell? ⟨pb, po + 2, none⟩ = some (str d) from hc 2 _ rfl 0 _ rfl)
      have P1 : Hid (PAt g u e m vc w1) := blk_bl HP.out (bl_next (bl_alloc (bl_refl _) _) b1)
      have G1 : Hid (Gr g w w1) := gr_bl (bl_next (bl_alloc (bl_refl _) _) b1)
      have R1 := Lib.hid (blk_bl (heap_alloc_new w _) b1)
      clear hc o1 b1
      go_wp2_with fail
      have PX : Hid (PAt g u (fe e 0) m vc (w1.alloc (.cells #[.int .i64 0, .int .i64 0, .int .i64 0, .bool true, .bool true] 46))) := by rw [show fe e 0 = e from by unfold fe; split <;> simp_all]; exact blk_bl P1.out (bl_alloc (bl_refl _) _)
      have GX : Hid (Gr g w (w1.alloc (.cells #[.int .i64 0, .int .i64 0, .int .i64 0, .bool true, .bool true] 46))) := gr_next G1.out (gr_bl (bl_alloc (bl_refl _) _))
      have CX := Lib.hid (show (w1.alloc (.cells #[.int .i64 0, .int .i64 0, .int .i64 0, .bool true, .bool true] 46)).heap[w1.heap.size]? = _ from heap_alloc_new w1 _)
      have KX := Lib.hid (show (w1.alloc (.cells #[.int .i64 0, .int .i64 0, .int .i64 0, .bool true, .bool true] 46)).heap[pb]? = _ from Below.heap_alloc w1 _ pb l3)
      have RX := Lib.hid (show (w1.alloc (.cells #[.int .i64 0, .int .i64 0, .int .i64 0, .bool true, .bool true] 46)).heap[w.heap.size]? = _ from (Below.heap_alloc w1 _ w.heap.size hs1).trans R1.out)
      clear P1 G1 R1 x3
      obtain ⟨cb, hcb⟩ : ∃ cb, w1.heap.size = cb := ⟨_, rfl⟩
      change Code.wp _ _ _ _ (w1.alloc (.cells #[.int .i64 0, .int .i64 0, .int .i64 0, .bool true, .bool true] 46))
      generalize (w1.alloc (.cells #[.int .i64 0, .int .i64 0, .int .i64 0, .bool true, .bool true] 46)) = wx at PX GX CX KX RX ⊢
      rw [hcb] at CX l3 hs1 ⊢
      have hcr : w.heap.size < cb := hs1
      have s0 : wx.cell? ⟨pb, po, none⟩ = some (str a) := (World.cell?_of_block KX.out).trans S0.out
      go_region_held3 (fun w' => w'.cell? ⟨pb, po, none⟩ = some (str a))
        (first | exact s0 | exact t0 | exact z0 _)
        ((go_at_call 65; refine (integer_c g _ _ _ _ _ a HA hla rfl _ _ _ (pat_drew PX.out)).mono ?_; rintro r0 y0 ⟨rfl, pp0, gg0⟩; have cc0 := Lib.hid ((gr_blk gg0 (lt_of_block CX.out) (by omega)).trans CX.out); have kk0 := Lib.hid ((gr_blk gg0 (Nat.lt_trans l3 (lt_of_block CX.out)) (by omega)).trans KX.out); have t0 : y0.cell? ⟨pb, po, none⟩ = some (str a) := (World.cell?_of_block kk0.out).trans S0.out; have c0 := blk_cell cc0.out 0 _ rfl; have f0 := Lib.frozen_of_heap cc0.out 0; have z0 : ∀ v, (y0.setCell ⟨cb, 0, none⟩ v).cell? ⟨pb, po, none⟩ = some (str a) := fun v => (World.cell?_of_block (Below.heap_setCell _ _ _ pb (by simp; omega))).trans t0))
      have P1x : Hid (PAt g u (fe (fe e 0) ea) m vc (y0.setCell ⟨cb, 0, none⟩ (.int .i64 na))) := (Below.heap_setCell _ _ _ g (by simp; omega)).trans pp0
      have G1x : Hid (Gr g w (y0.setCell ⟨cb, 0, none⟩ (.int .i64 na))) := gr_setNew (gr_next GX.out (gr_next (gr_bl (bl_drew (bl_refl _))) gg0)) (by omega) _ _
      have C1x : Hid ((y0.setCell ⟨cb, 0, none⟩ (.int .i64 na)).heap[cb]? = some (.cells #[.int .i64 na, .int .i64 0, .int .i64 0, .bool true, .bool true] 46 (0, 0))) := blk_set cc0.out 0 _
      have K1x : Hid ((y0.setCell ⟨cb, 0, none⟩ (.int .i64 na)).heap[pb]? = w1.heap[pb]?) := (Below.heap_setCell _ _ _ pb (by simp; omega)).trans kk0.out
      have R1x := Lib.hid (show (y0.setCell ⟨cb, 0, none⟩ (.int .i64 na)).heap[w.heap.size]? = _ from (Below.heap_setCell _ _ _ w.heap.size (by simp; omega)).trans ((gr_blk gg0 (Nat.lt_trans hcr (lt_of_block CX.out)) (by omega)).trans RX.out))
      clear PX GX CX KX RX pp0 gg0 cc0 kk0 t0 c0 f0 z0 s0
      generalize (y0.setCell ⟨cb, 0, none⟩ (.int .i64 na)) = W1 at P1x G1x C1x K1x R1x ⊢
      have s1 : W1.cell? ⟨pb, po + 1, none⟩ = some (str b) := (World.cell?_of_block K1x.out).trans S1.out
      go_wp2_with fail
      go_region_held3 (fun w' => w'.cell? ⟨pb, po + 1, none⟩ = some (str b))
        (first | exact s1 | exact t1 | exact z1 _)
        ((go_at_call 65; refine (integer_c g _ _ _ _ _ b HBB hlb rfl _ _ _ (pat_drew P1x.out)).mono ?_; rintro r1 y1 ⟨rfl, pp1, gg1⟩; have cc1 := Lib.hid ((gr_blk gg1 (lt_of_block C1x.out) (by omega)).trans C1x.out); have kk1 := Lib.hid ((gr_blk gg1 (Nat.lt_trans l3 (lt_of_block C1x.out)) (by omega)).trans K1x.out); have t1 : y1.cell? ⟨pb, po + 1, none⟩ = some (str b) := (World.cell?_of_block kk1.out).trans S1.out; have c1 := blk_cell cc1.out 1 _ rfl; have f1 := Lib.frozen_of_heap cc1.out 1; have z1 : ∀ v, (y1.setCell ⟨cb, 1, none⟩ v).cell? ⟨pb, po + 1, none⟩ = some (str b) := fun v => (World.cell?_of_block (Below.heap_setCell _ _ _ pb (by simp; omega))).trans t1))
      have P2x : Hid (PAt g u (fe (fe (fe e 0) ea) eb) m vc (y1.setCell ⟨cb, 1, none⟩ (.int .i64 nb))) := (Below.heap_setCell _ _ _ g (by simp; omega)).trans pp1
      have G2x : Hid (Gr g w (y1.setCell ⟨cb, 1, none⟩ (.int .i64 nb))) := gr_setNew (gr_next G1x.out (gr_next (gr_bl (bl_drew (bl_refl _))) gg1)) (by omega) _ _
      have C2x : Hid ((y1.setCell ⟨cb, 1, none⟩ (.int .i64 nb)).heap[cb]? = some (.cells #[.int .i64 na, .int .i64 nb, .int .i64 0, .bool true, .bool true] 46 (0, 0))) := blk_set cc1.out 1 _
      have K2x : Hid ((y1.setCell ⟨cb, 1, none⟩ (.int .i64 nb)).heap[pb]? = w1.heap[pb]?) := (Below.heap_setCell _ _ _ pb (by simp; omega)).trans kk1.out
      have R2x := Lib.hid (show (y1.setCell ⟨cb, 1, none⟩ (.int .i64 nb)).heap[w.heap.size]? = _ from (Below.heap_setCell _ _ _ w.heap.size (by simp; omega)).trans ((gr_blk gg1 (Nat.lt_trans hcr (lt_of_block C1x.out)) (by omega)).trans R1x.out))
      clear P1x G1x C1x K1x R1x pp1 gg1 cc1 kk1 t1 c1 f1 z1 s1
      generalize (y1.setCell ⟨cb, 1, none⟩ (.int .i64 nb)) = W2 at P2x G2x C2x K2x R2x ⊢
      have s2 : W2.cell? ⟨pb, po + 2, none⟩ = some (str d) := (World.cell?_of_block K2x.out).trans S2.out
      go_wp2_with fail
      go_region_held3 (fun w' => w'.cell? ⟨pb, po + 2, none⟩ = some (str d))
        (first | exact s2 | exact t2 | exact z2 _)
        ((go_at_call 65; refine (integer_c g _ _ _ _ _ d HD hld rfl _ _ _ (pat_drew P2x.out)).mono ?_; rintro r2 y2 ⟨rfl, pp2, gg2⟩; have cc2 := Lib.hid ((gr_blk gg2 (lt_of_block C2x.out) (by omega)).trans C2x.out); have kk2 := Lib.hid ((gr_blk gg2 (Nat.lt_trans l3 (lt_of_block C2x.out)) (by omega)).trans K2x.out); have t2 : y2.cell? ⟨pb, po + 2, none⟩ = some (str d) := (World.cell?_of_block kk2.out).trans S2.out; have c2 := blk_cell cc2.out 2 _ rfl; have f2 := Lib.frozen_of_heap cc2.out 2; have z2 : ∀ v, (y2.setCell ⟨cb, 2, none⟩ v).cell? ⟨pb, po + 2, none⟩ = some (str d) := fun v => (World.cell?_of_block (Below.heap_setCell _ _ _ pb (by simp; omega))).trans t2))
      have P3x : Hid (PAt g u (fe (fe (fe (fe e 0) ea) eb) ed) m vc (y2.setCell ⟨cb, 2, none⟩ (.int .i64 nd))) := (Below.heap_setCell _ _ _ g (by simp; omega)).trans pp2
      have G3x : Hid (Gr g w (y2.setCell ⟨cb, 2, none⟩ (.int .i64 nd))) := gr_setNew (gr_next G2x.out (gr_next (gr_bl (bl_drew (bl_refl _))) gg2)) (by omega) _ _
      have C3x : Hid ((y2.setCell ⟨cb, 2, none⟩ (.int .i64 nd)).heap[cb]? = some (.cells #[.int .i64 na, .int .i64 nb, .int .i64 nd, .bool true, .bool true] 46 (0, 0))) := blk_set cc2.out 2 _
      have K3x : Hid ((y2.setCell ⟨cb, 2, none⟩ (.int .i64 nd)).heap[pb]? = w1.heap[pb]?) := (Below.heap_setCell _ _ _ pb (by simp; omega)).trans kk2.out
      have R3x := Lib.hid (show (y2.setCell ⟨cb, 2, none⟩ (.int .i64 nd)).heap[w.heap.size]? = _ from (Below.heap_setCell _ _ _ w.heap.size (by simp; omega)).trans ((gr_blk gg2 (Nat.lt_trans hcr (lt_of_block C2x.out)) (by omega)).trans R2x.out))
      clear P2x G2x C2x K2x R2x pp2 gg2 cc2 kk2 t2 c2 f2 z2 s2
      generalize (y2.setCell ⟨cb, 2, none⟩ (.int .i64 nd)) = W3 at P3x G3x C3x K3x R3x ⊢
      have d0 := blk_cell C3x.out 0 _ rfl
      have d1 := blk_cell C3x.out 1 _ rfl
      have d2 := blk_cell C3x.out 2 _ rfl
      have d3 := blk_cell C3x.out 3 _ rfl
      have d4 := blk_cell C3x.out 4 _ rfl
      have rf := Lib.frozen_of_heap R3x.out
      have j0 := blk_cell R3x.out 0 _ rfl
      have j1 := blk_cell R3x.out 1 _ rfl
      have j2 := blk_cell R3x.out 2 _ rfl
      have j3 := blk_cell R3x.out 3 _ rfl
      have j4 := blk_cell R3x.out 4 _ rfl
      go_wp2_with fail
      refine bodyPost_ret (results_cell_row rfl _ _ w.heap.size 46 _ (0, 0) _ rfl (store5 R3x.out) Tryd.underlying46 rfl (by kernel_rfl)) rfl ?_
      exact ⟨rfl, by rw [← HE.out]; exact (far5 (by omega)).trans P3x.out, gr5 G3x.out (Nat.le_refl _)⟩
    ·
      have hrc : readCall x = (⟨na, nb, nd, true, false⟩, [0, ea, eb, ed]) := by
        unfold readCall; rw [HL.out]; simp only; rw [show bitsOf [98, 111, 97, 114, 100] = some (true, false) from by decide, HA.out, HBB.out, HD.out]; rfl
      rw [hrc] at HC HE
      obtain rfl := HC.out
      clear HC hrc
      go_enter Tryd.func68, Tryd.ntmps68
      go_wp2_with (go_at_call 92; refine (hp _).mono ?_)
      rintro q1 w1 v1 rfl o1 b1
      obtain ⟨pb, po, pc, rfl, l1, l2, l3, hc⟩ := (ownS_in o1).open (by simp)
      have x3 : w1.cell? ⟨pb, po + 3, none⟩ = some (str [98, 111, 97, 114, 100]) := hc 3 _ rfl 0 _ rfl
      have hpb : w.heap.size < pb := by have := (World.ownsRow.lt o1 pb rfl).1; omega
      have hs1 : w.heap.size < w1.heap.size := by have := b1.size; simp at this; omega
      have S0 := Lib.hid (show w1.cell? ⟨pb, po, none⟩ = some (str a) from hc 0 _ rfl 0 _ rfl)
      have S1 := Lib.hid (show w1.cell? ⟨pb, po + 1, none⟩ = some (str b) from hc 1 _ rfl 0 _ rfl)
      have S2 := Lib.hid (show w1.cell? ⟨pb, po + 2, none⟩ = some (str d) from hc 2 _ rfl 0 _ rfl)
      have P1 : Hid (PAt g u e m vc w1) := blk_bl HP.out (bl_next (bl_alloc (bl_refl _) _) b1)
      have G1 : Hid (Gr g w w1) := gr_bl (bl_next (bl_alloc (bl_refl _) _) b1)
      have R1 := Lib.hid (blk_bl (heap_alloc_new w _) b1)
      clear hc o1 b1
      go_wp2_with fail
      have PX : Hid (PAt g u (fe e 0) m vc (w1.alloc (.cells #[.int .i64 0, .int .i64 0, .int .i64 0, .bool true, .bool false] 46))) := by rw [show fe e 0 = e from by unfold fe; split <;> simp_all]; exact blk_bl P1.out (bl_alloc (bl_refl _) _)
      have GX : Hid (Gr g w (w1.alloc (.cells #[.int .i64 0, .int .i64 0, .int .i64 0, .bool true, .bool false] 46))) := gr_next G1.out (gr_bl (bl_alloc (bl_refl _) _))
      have CX := Lib.hid (show (w1.alloc (.cells #[.int .i64 0, .int .i64 0, .int .i64 0, .bool true, .bool false] 46)).heap[w1.heap.size]? = _ from heap_alloc_new w1 _)
      have KX := Lib.hid (show (w1.alloc (.cells #[.int .i64 0, .int .i64 0, .int .i64 0, .bool true, .bool false] 46)).heap[pb]? = _ from Below.heap_alloc w1 _ pb l3)
      have RX := Lib.hid (show (w1.alloc (.cells #[.int .i64 0, .int .i64 0, .int .i64 0, .bool true, .bool false] 46)).heap[w.heap.size]? = _ from (Below.heap_alloc w1 _ w.heap.size hs1).trans R1.out)
      clear P1 G1 R1 x3
      obtain ⟨cb, hcb⟩ : ∃ cb, w1.heap.size = cb := ⟨_, rfl⟩
      change Code.wp _ _ _ _ (w1.alloc (.cells #[.int .i64 0, .int .i64 0, .int .i64 0, .bool true, .bool false] 46))
      generalize (w1.alloc (.cells #[.int .i64 0, .int .i64 0, .int .i64 0, .bool true, .bool false] 46)) = wx at PX GX CX KX RX ⊢
      rw [hcb] at CX l3 hs1 ⊢
      have hcr : w.heap.size < cb := hs1
      have s0 : wx.cell? ⟨pb, po, none⟩ = some (str a) := (World.cell?_of_block KX.out).trans S0.out
      go_region_held3 (fun w' => w'.cell? ⟨pb, po, none⟩ = some (str a))
        (first | exact s0 | exact t0 | exact z0 _)
        ((go_at_call 65; refine (integer_c g _ _ _ _ _ a HA hla rfl _ _ _ (pat_drew PX.out)).mono ?_; rintro r0 y0 ⟨rfl, pp0, gg0⟩; have cc0 := Lib.hid ((gr_blk gg0 (lt_of_block CX.out) (by omega)).trans CX.out); have kk0 := Lib.hid ((gr_blk gg0 (Nat.lt_trans l3 (lt_of_block CX.out)) (by omega)).trans KX.out); have t0 : y0.cell? ⟨pb, po, none⟩ = some (str a) := (World.cell?_of_block kk0.out).trans S0.out; have c0 := blk_cell cc0.out 0 _ rfl; have f0 := Lib.frozen_of_heap cc0.out 0; have z0 : ∀ v, (y0.setCell ⟨cb, 0, none⟩ v).cell? ⟨pb, po, none⟩ = some (str a) := fun v => (World.cell?_of_block (Below.heap_setCell _ _ _ pb (by simp; omega))).trans t0))
      have P1x : Hid (PAt g u (fe (fe e 0) ea) m vc (y0.setCell ⟨cb, 0, none⟩ (.int .i64 na))) := (Below.heap_setCell _ _ _ g (by simp; omega)).trans pp0
      have G1x : Hid (Gr g w (y0.setCell ⟨cb, 0, none⟩ (.int .i64 na))) := gr_setNew (gr_next GX.out (gr_next (gr_bl (bl_drew (bl_refl _))) gg0)) (by omega) _ _
      have C1x : Hid ((y0.setCell ⟨cb, 0, none⟩ (.int .i64 na)).heap[cb]? = some (.cells #[.int .i64 na, .int .i64 0, .int .i64 0, .bool true, .bool false] 46 (0, 0))) := blk_set cc0.out 0 _
      have K1x : Hid ((y0.setCell ⟨cb, 0, none⟩ (.int .i64 na)).heap[pb]? = w1.heap[pb]?) := (Below.heap_setCell _ _ _ pb (by simp; omega)).trans kk0.out
      have R1x := Lib.hid (show (y0.setCell ⟨cb, 0, none⟩ (.int .i64 na)).heap[w.heap.size]? = _ from (Below.heap_setCell _ _ _ w.heap.size (by simp; omega)).trans ((gr_blk gg0 (Nat.lt_trans hcr (lt_of_block CX.out)) (by omega)).trans RX.out))
      clear PX GX CX KX RX pp0 gg0 cc0 kk0 t0 c0 f0 z0 s0
      generalize (y0.setCell ⟨cb, 0, none⟩ (.int .i64 na)) = W1 at P1x G1x C1x K1x R1x ⊢
      have s1 : W1.cell? ⟨pb, po + 1, none⟩ = some (str b) := (World.cell?_of_block K1x.out).trans S1.out
      go_wp2_with fail
      go_region_held3 (fun w' => w'.cell? ⟨pb, po + 1, none⟩ = some (str b))
        (first | exact s1 | exact t1 | exact z1 _)
        ((go_at_call 65; refine (integer_c g _ _ _ _ _ b HBB hlb rfl _ _ _ (pat_drew P1x.out)).mono ?_; rintro r1 y1 ⟨rfl, pp1, gg1⟩; have cc1 := Lib.hid ((gr_blk gg1 (lt_of_block C1x.out) (by omega)).trans C1x.out); have kk1 := Lib.hid ((gr_blk gg1 (Nat.lt_trans l3 (lt_of_block C1x.out)) (by omega)).trans K1x.out); have t1 : y1.cell? ⟨pb, po + 1, none⟩ = some (str b) := (World.cell?_of_block kk1.out).trans S1.out; have c1 := blk_cell cc1.out 1 _ rfl; have f1 := Lib.frozen_of_heap cc1.out 1; have z1 : ∀ v, (y1.setCell ⟨cb, 1, none⟩ v).cell? ⟨pb, po + 1, none⟩ = some (str b) := fun v => (World.cell?_of_block (Below.heap_setCell _ _ _ pb (by simp; omega))).trans t1))
      have P2x : Hid (PAt g u (fe (fe (fe e 0) ea) eb) m vc (y1.setCell ⟨cb, 1, none⟩ (.int .i64 nb))) := (Below.heap_setCell _ _ _ g (by simp; omega)).trans pp1
      have G2x : Hid (Gr g w (y1.setCell ⟨cb, 1, none⟩ (.int .i64 nb))) := gr_setNew (gr_next G1x.out (gr_next (gr_bl (bl_drew (bl_refl _))) gg1)) (by omega) _ _
      have C2x : Hid ((y1.setCell ⟨cb, 1, none⟩ (.int .i64 nb)).heap[cb]? = some (.cells #[.int .i64 na, .int .i64 nb, .int .i64 0, .bool true, .bool false] 46 (0, 0))) := blk_set cc1.out 1 _
      have K2x : Hid ((y1.setCell ⟨cb, 1, none⟩ (.int .i64 nb)).heap[pb]? = w1.heap[pb]?) := (Below.heap_setCell _ _ _ pb (by simp; omega)).trans kk1.out
      have R2x := Lib.hid (show (y1.setCell ⟨cb, 1, none⟩ (.int .i64 nb)).heap[w.heap.size]? = _ from (Below.heap_setCell _ _ _ w.heap.size (by simp; omega)).trans ((gr_blk gg1 (Nat.lt_trans hcr (lt_of_block C1x.out)) (by omega)).trans R1x.out))
      clear P1x G1x C1x K1x R1x pp1 gg1 cc1 kk1 t1 c1 f1 z1 s1
      generalize (y1.setCell ⟨cb, 1, none⟩ (.int .i64 nb)) = W2 at P2x G2x C2x K2x R2x ⊢
      have s2 : W2.cell? ⟨pb, po + 2, none⟩ = some (str d) := (World.cell?_of_block K2x.out).trans S2.out
      go_wp2_with fail
      go_region_held3 (fun w' => w'.cell? ⟨pb, po + 2, none⟩ = some (str d))
        (first | exact s2 | exact t2 | exact z2 _)
        ((go_at_call 65; refine (integer_c g _ _ _ _ _ d HD hld rfl _ _ _ (pat_drew P2x.out)).mono ?_; rintro r2 y2 ⟨rfl, pp2, gg2⟩; have cc2 := Lib.hid ((gr_blk gg2 (lt_of_block C2x.out) (by omega)).trans C2x.out); have kk2 := Lib.hid ((gr_blk gg2 (Nat.lt_trans l3 (lt_of_block C2x.out)) (by omega)).trans K2x.out); have t2 : y2.cell? ⟨pb, po + 2, none⟩ = some (str d) := (World.cell?_of_block kk2.out).trans S2.out; have c2 := blk_cell cc2.out 2 _ rfl; have f2 := Lib.frozen_of_heap cc2.out 2; have z2 : ∀ v, (y2.setCell ⟨cb, 2, none⟩ v).cell? ⟨pb, po + 2, none⟩ = some (str d) := fun v => (World.cell?_of_block (Below.heap_setCell _ _ _ pb (by simp; omega))).trans t2))
      have P3x : Hid (PAt g u (fe (fe (fe (fe e 0) ea) eb) ed) m vc (y2.setCell ⟨cb, 2, none⟩ (.int .i64 nd))) := (Below.heap_setCell _ _ _ g (by simp; omega)).trans pp2
      have G3x : Hid (Gr g w (y2.setCell ⟨cb, 2, none⟩ (.int .i64 nd))) := gr_setNew (gr_next G2x.out (gr_next (gr_bl (bl_drew (bl_refl _))) gg2)) (by omega) _ _
      have C3x : Hid ((y2.setCell ⟨cb, 2, none⟩ (.int .i64 nd)).heap[cb]? = some (.cells #[.int .i64 na, .int .i64 nb, .int .i64 nd, .bool true, .bool false] 46 (0, 0))) := blk_set cc2.out 2 _
      have K3x : Hid ((y2.setCell ⟨cb, 2, none⟩ (.int .i64 nd)).heap[pb]? = w1.heap[pb]?) := (Below.heap_setCell _ _ _ pb (by simp; omega)).trans kk2.out
      have R3x := Lib.hid (show (y2.setCell ⟨cb, 2, none⟩ (.int .i64 nd)).heap[w.heap.size]? = _ from (Below.heap_setCell _ _ _ w.heap.size (by simp; omega)).trans ((gr_blk gg2 (Nat.lt_trans hcr (lt_of_block C2x.out)) (by omega)).trans R2x.out))
      clear P2x G2x C2x K2x R2x pp2 gg2 cc2 kk2 t2 c2 f2 z2 s2
      generalize (y2.setCell ⟨cb, 2, none⟩ (.int .i64 nd)) = W3 at P3x G3x C3x K3x R3x ⊢
      have d0 := blk_cell C3x.out 0 _ rfl
      have d1 := blk_cell C3x.out 1 _ rfl
      have d2 := blk_cell C3x.out 2 _ rfl
      have d3 := blk_cell C3x.out 3 _ rfl
      have d4 := blk_cell C3x.out 4 _ rfl
      have rf := Lib.frozen_of_heap R3x.out
      have j0 := blk_cell R3x.out 0 _ rfl
      have j1 := blk_cell R3x.out 1 _ rfl
      have j2 := blk_cell R3x.out 2 _ rfl
      have j3 := blk_cell R3x.out 3 _ rfl
      have j4 := blk_cell R3x.out 4 _ rfl
      go_wp2_with fail
      refine bodyPost_ret (results_cell_row rfl _ _ w.heap.size 46 _ (0, 0) _ rfl (store5 R3x.out) Tryd.underlying46 rfl (by kernel_rfl)) rfl ?_
      exact ⟨rfl, by rw [← HE.out]; exact (far5 (by omega)).trans P3x.out, gr5 G3x.out (Nat.le_refl _)⟩
    ·
      have hrc : readCall x = (⟨na, nb, nd, false, true⟩, [0, ea, eb, ed]) := by
        unfold readCall; rw [HL.out]; simp only; rw [show bitsOf [97, 108, 105, 103, 104, 116] = some (false, true) from by decide, HA.out, HBB.out, HD.out]; rfl
      rw [hrc] at HC HE
      obtain rfl := HC.out
      clear HC hrc
      go_enter Tryd.func68, Tryd.ntmps68
      go_wp2_with (go_at_call 92; refine (hp _).mono ?_)
      rintro q1 w1 v1 rfl o1 b1
      obtain ⟨pb, po, pc, rfl, l1, l2, l3, hc⟩ := (ownS_in o1).open (by simp)
      have x3 : w1.cell? ⟨pb, po + 3, none⟩ = some (str [97, 108, 105, 103, 104, 116]) := hc 3 _ rfl 0 _ rfl
      have hpb : w.heap.size < pb := by have := (World.ownsRow.lt o1 pb rfl).1; omega
      have hs1 : w.heap.size < w1.heap.size := by have := b1.size; simp at this; omega
      have S0 := Lib.hid (show w1.cell? ⟨pb, po, none⟩ = some (str a) from hc 0 _ rfl 0 _ rfl)
      have S1 := Lib.hid (show w1.cell? ⟨pb, po + 1, none⟩ = some (str b) from hc 1 _ rfl 0 _ rfl)
      have S2 := Lib.hid (show w1.cell? ⟨pb, po + 2, none⟩ = some (str d) from hc 2 _ rfl 0 _ rfl)
      have P1 : Hid (PAt g u e m vc w1) := blk_bl HP.out (bl_next (bl_alloc (bl_refl _) _) b1)
      have G1 : Hid (Gr g w w1) := gr_bl (bl_next (bl_alloc (bl_refl _) _) b1)
      have R1 := Lib.hid (blk_bl (heap_alloc_new w _) b1)
      clear hc o1 b1
      go_wp2_with fail
      have PX : Hid (PAt g u (fe e 0) m vc (w1.alloc (.cells #[.int .i64 0, .int .i64 0, .int .i64 0, .bool false, .bool true] 46))) := by rw [show fe e 0 = e from by unfold fe; split <;> simp_all]; exact blk_bl P1.out (bl_alloc (bl_refl _) _)
      have GX : Hid (Gr g w (w1.alloc (.cells #[.int .i64 0, .int .i64 0, .int .i64 0, .bool false, .bool true] 46))) := gr_next G1.out (gr_bl (bl_alloc (bl_refl _) _))
      have CX := Lib.hid (show (w1.alloc (.cells #[.int .i64 0, .int .i64 0, .int .i64 0, .bool false, .bool true] 46)).heap[w1.heap.size]? = _ from heap_alloc_new w1 _)
      have KX := Lib.hid (show (w1.alloc (.cells #[.int .i64 0, .int .i64 0, .int .i64 0, .bool false, .bool true] 46)).heap[pb]? = _ from Below.heap_alloc w1 _ pb l3)
      have RX := Lib.hid (show (w1.alloc (.cells #[.int .i64 0, .int .i64 0, .int .i64 0, .bool false, .bool true] 46)).heap[w.heap.size]? = _ from (Below.heap_alloc w1 _ w.heap.size hs1).trans R1.out)
      clear P1 G1 R1 x3
      obtain ⟨cb, hcb⟩ : ∃ cb, w1.heap.size = cb := ⟨_, rfl⟩
      change Code.wp _ _ _ _ (w1.alloc (.cells #[.int .i64 0, .int .i64 0, .int .i64 0, .bool false, .bool true] 46))
      generalize (w1.alloc (.cells #[.int .i64 0, .int .i64 0, .int .i64 0, .bool false, .bool true] 46)) = wx at PX GX CX KX RX ⊢
      rw [hcb] at CX l3 hs1 ⊢
      have hcr : w.heap.size < cb := hs1
      have s0 : wx.cell? ⟨pb, po, none⟩ = some (str a) := (World.cell?_of_block KX.out).trans S0.out
      go_region_held3 (fun w' => w'.cell? ⟨pb, po, none⟩ = some (str a))
        (first | exact s0 | exact t0 | exact z0 _)
        ((go_at_call 65; refine (integer_c g _ _ _ _ _ a HA hla rfl _ _ _ (pat_drew PX.out)).mono ?_; rintro r0 y0 ⟨rfl, pp0, gg0⟩; have cc0 := Lib.hid ((gr_blk gg0 (lt_of_block CX.out) (by omega)).trans CX.out); have kk0 := Lib.hid ((gr_blk gg0 (Nat.lt_trans l3 (lt_of_block CX.out)) (by omega)).trans KX.out); have t0 : y0.cell? ⟨pb, po, none⟩ = some (str a) := (World.cell?_of_block kk0.out).trans S0.out; have c0 := blk_cell cc0.out 0 _ rfl; have f0 := Lib.frozen_of_heap cc0.out 0; have z0 : ∀ v, (y0.setCell ⟨cb, 0, none⟩ v).cell? ⟨pb, po, none⟩ = some (str a) := fun v => (World.cell?_of_block (Below.heap_setCell _ _ _ pb (by simp; omega))).trans t0))
      have P1x : Hid (PAt g u (fe (fe e 0) ea) m vc (y0.setCell ⟨cb, 0, none⟩ (.int .i64 na))) := (Below.heap_setCell _ _ _ g (by simp; omega)).trans pp0
      have G1x : Hid (Gr g w (y0.setCell ⟨cb, 0, none⟩ (.int .i64 na))) := gr_setNew (gr_next GX.out (gr_next (gr_bl (bl_drew (bl_refl _))) gg0)) (by omega) _ _
      have C1x : Hid ((y0.setCell ⟨cb, 0, none⟩ (.int .i64 na)).heap[cb]? = some (.cells #[.int .i64 na, .int .i64 0, .int .i64 0, .bool false, .bool true] 46 (0, 0))) := blk_set cc0.out 0 _
      have K1x : Hid ((y0.setCell ⟨cb, 0, none⟩ (.int .i64 na)).heap[pb]? = w1.heap[pb]?) := (Below.heap_setCell _ _ _ pb (by simp; omega)).trans kk0.out
      have R1x := Lib.hid (show (y0.setCell ⟨cb, 0, none⟩ (.int .i64 na)).heap[w.heap.size]? = _ from (Below.heap_setCell _ _ _ w.heap.size (by simp; omega)).trans ((gr_blk gg0 (Nat.lt_trans hcr (lt_of_block CX.out)) (by omega)).trans RX.out))
      clear PX GX CX KX RX pp0 gg0 cc0 kk0 t0 c0 f0 z0 s0
      generalize (y0.setCell ⟨cb, 0, none⟩ (.int .i64 na)) = W1 at P1x G1x C1x K1x R1x ⊢
      have s1 : W1.cell? ⟨pb, po + 1, none⟩ = some (str b) := (World.cell?_of_block K1x.out).trans S1.out
      go_wp2_with fail
      go_region_held3 (fun w' => w'.cell? ⟨pb, po + 1, none⟩ = some (str b))
        (first | exact s1 | exact t1 | exact z1 _)
        ((go_at_call 65; refine (integer_c g _ _ _ _ _ b HBB hlb rfl _ _ _ (pat_drew P1x.out)).mono ?_; rintro r1 y1 ⟨rfl, pp1, gg1⟩; have cc1 := Lib.hid ((gr_blk gg1 (lt_of_block C1x.out) (by omega)).trans C1x.out); have kk1 := Lib.hid ((gr_blk gg1 (Nat.lt_trans l3 (lt_of_block C1x.out)) (by omega)).trans K1x.out); have t1 : y1.cell? ⟨pb, po + 1, none⟩ = some (str b) := (World.cell?_of_block kk1.out).trans S1.out; have c1 := blk_cell cc1.out 1 _ rfl; have f1 := Lib.frozen_of_heap cc1.out 1; have z1 : ∀ v, (y1.setCell ⟨cb, 1, none⟩ v).cell? ⟨pb, po + 1, none⟩ = some (str b) := fun v => (World.cell?_of_block (Below.heap_setCell _ _ _ pb (by simp; omega))).trans t1))
      have P2x : Hid (PAt g u (fe (fe (fe e 0) ea) eb) m vc (y1.setCell ⟨cb, 1, none⟩ (.int .i64 nb))) := (Below.heap_setCell _ _ _ g (by simp; omega)).trans pp1
      have G2x : Hid (Gr g w (y1.setCell ⟨cb, 1, none⟩ (.int .i64 nb))) := gr_setNew (gr_next G1x.out (gr_next (gr_bl (bl_drew (bl_refl _))) gg1)) (by omega) _ _
      have C2x : Hid ((y1.setCell ⟨cb, 1, none⟩ (.int .i64 nb)).heap[cb]? = some (.cells #[.int .i64 na, .int .i64 nb, .int .i64 0, .bool false, .bool true] 46 (0, 0))) := blk_set cc1.out 1 _
      have K2x : Hid ((y1.setCell ⟨cb, 1, none⟩ (.int .i64 nb)).heap[pb]? = w1.heap[pb]?) := (Below.heap_setCell _ _ _ pb (by simp; omega)).trans kk1.out
      have R2x := Lib.hid (show (y1.setCell ⟨cb, 1, none⟩ (.int .i64 nb)).heap[w.heap.size]? = _ from (Below.heap_setCell _ _ _ w.heap.size (by simp; omega)).trans ((gr_blk gg1 (Nat.lt_trans hcr (lt_of_block C1x.out)) (by omega)).trans R1x.out))
      clear P1x G1x C1x K1x R1x pp1 gg1 cc1 kk1 t1 c1 f1 z1 s1
      generalize (y1.setCell ⟨cb, 1, none⟩ (.int .i64 nb)) = W2 at P2x G2x C2x K2x R2x ⊢
      have s2 : W2.cell? ⟨pb, po + 2, none⟩ = some (str d) := (World.cell?_of_block K2x.out).trans S2.out
      go_wp2_with fail
      go_region_held3 (fun w' => w'.cell? ⟨pb, po + 2, none⟩ = some (str d))
        (first | exact s2 | exact t2 | exact z2 _)
        ((go_at_call 65; refine (integer_c g _ _ _ _ _ d HD hld rfl _ _ _ (pat_drew P2x.out)).mono ?_; rintro r2 y2 ⟨rfl, pp2, gg2⟩; have cc2 := Lib.hid ((gr_blk gg2 (lt_of_block C2x.out) (by omega)).trans C2x.out); have kk2 := Lib.hid ((gr_blk gg2 (Nat.lt_trans l3 (lt_of_block C2x.out)) (by omega)).trans K2x.out); have t2 : y2.cell? ⟨pb, po + 2, none⟩ = some (str d) := (World.cell?_of_block kk2.out).trans S2.out; have c2 := blk_cell cc2.out 2 _ rfl; have f2 := Lib.frozen_of_heap cc2.out 2; have z2 : ∀ v, (y2.setCell ⟨cb, 2, none⟩ v).cell? ⟨pb, po + 2, none⟩ = some (str d) := fun v => (World.cell?_of_block (Below.heap_setCell _ _ _ pb (by simp; omega))).trans t2))
      have P3x : Hid (PAt g u (fe (fe (fe (fe e 0) ea) eb) ed) m vc (y2.setCell ⟨cb, 2, none⟩ (.int .i64 nd))) := (Below.heap_setCell _ _ _ g (by simp; omega)).trans pp2
      have G3x : Hid (Gr g w (y2.setCell ⟨cb, 2, none⟩ (.int .i64 nd))) := gr_setNew (gr_next G2x.out (gr_next (gr_bl (bl_drew (bl_refl _))) gg2)) (by omega) _ _
      have C3x : Hid ((y2.setCell ⟨cb, 2, none⟩ (.int .i64 nd)).heap[cb]? = some (.cells #[.int .i64 na, .int .i64 nb, .int .i64 nd, .bool false, .bool true] 46 (0, 0))) := blk_set cc2.out 2 _
      have K3x : Hid ((y2.setCell ⟨cb, 2, none⟩ (.int .i64 nd)).heap[pb]? = w1.heap[pb]?) := (Below.heap_setCell _ _ _ pb (by simp; omega)).trans kk2.out
      have R3x := Lib.hid (show (y2.setCell ⟨cb, 2, none⟩ (.int .i64 nd)).heap[w.heap.size]? = _ from (Below.heap_setCell _ _ _ w.heap.size (by simp; omega)).trans ((gr_blk gg2 (Nat.lt_trans hcr (lt_of_block C2x.out)) (by omega)).trans R2x.out))
      clear P2x G2x C2x K2x R2x pp2 gg2 cc2 kk2 t2 c2 f2 z2 s2
      generalize (y2.setCell ⟨cb, 2, none⟩ (.int .i64 nd)) = W3 at P3x G3x C3x K3x R3x ⊢
      have d0 := blk_cell C3x.out 0 _ rfl
      have d1 := blk_cell C3x.out 1 _ rfl
      have d2 := blk_cell C3x.out 2 _ rfl
      have d3 := blk_cell C3x.out 3 _ rfl
      have d4 := blk_cell C3x.out 4 _ rfl
      have rf := Lib.frozen_of_heap R3x.out
      have j0 := blk_cell R3x.out 0 _ rfl
      have j1 := blk_cell R3x.out 1 _ rfl
      have j2 := blk_cell R3x.out 2 _ rfl
      have j3 := blk_cell R3x.out 3 _ rfl
      have j4 := blk_cell R3x.out 4 _ rfl
      go_wp2_with fail
      refine bodyPost_ret (results_cell_row rfl _ _ w.heap.size 46 _ (0, 0) _ rfl (store5 R3x.out) Tryd.underlying46 rfl (by kernel_rfl)) rfl ?_
      exact ⟨rfl, by rw [← HE.out]; exact (far5 (by omega)).trans P3x.out, gr5 G3x.out (Nat.le_refl _)⟩
    ·
      have hrc : readCall x = (⟨na, nb, nd, false, false⟩, [0, ea, eb, ed]) := by
        unfold readCall; rw [HL.out]; simp only; rw [show bitsOf [110, 111, 110, 101] = some (false, false) from by decide, HA.out, HBB.out, HD.out]; rfl
      rw [hrc] at HC HE
      obtain rfl := HC.out
      clear HC hrc
      go_enter Tryd.func68, Tryd.ntmps68
      go_wp2_with (go_at_call 92; refine (hp _).mono ?_)
      rintro q1 w1 v1 rfl o1 b1
      obtain ⟨pb, po, pc, rfl, l1, l2, l3, hc⟩ := (ownS_in o1).open (by simp)
      have x3 : w1.cell? ⟨pb, po + 3, none⟩ = some (str [110, 111, 110, 101]) := hc 3 _ rfl 0 _ rfl
      have hpb : w.heap.size < pb := by have := (World.ownsRow.lt o1 pb rfl).1; omega
      have hs1 : w.heap.size < w1.heap.size := by have := b1.size; simp at this; omega
      have S0 := Lib.hid (show w1.cell? ⟨pb, po, none⟩ = some (str a) from hc 0 _ rfl 0 _ rfl)
      have S1 := Lib.hid (show w1.cell? ⟨pb, po + 1, none⟩ = some (str b) from hc 1 _ rfl 0 _ rfl)
      have S2 := Lib.hid (show w1.cell? ⟨pb, po + 2, none⟩ = some (str d) from hc 2 _ rfl 0 _ rfl)
      have P1 : Hid (PAt g u e m vc w1) := blk_bl HP.out (bl_next (bl_alloc (bl_refl _) _) b1)
      have G1 : Hid (Gr g w w1) := gr_bl (bl_next (bl_alloc (bl_refl _) _) b1)
      have R1 := Lib.hid (blk_bl (heap_alloc_new w _) b1)
      clear hc o1 b1
      go_wp2_with fail
      have PX : Hid (PAt g u (fe e 0) m vc (w1.alloc (.cells #[.int .i64 0, .int .i64 0, .int .i64 0, .bool false, .bool false] 46))) := by rw [show fe e 0 = e from by unfold fe; split <;> simp_all]; exact blk_bl P1.out (bl_alloc (bl_refl _) _)
      have GX : Hid (Gr g w (w1.alloc (.cells #[.int .i64 0, .int .i64 0, .int .i64 0, .bool false, .bool false] 46))) := gr_next G1.out (gr_bl (bl_alloc (bl_refl _) _))
      have CX := Lib.hid (show (w1.alloc (.cells #[.int .i64 0, .int .i64 0, .int .i64 0, .bool false, .bool false] 46)).heap[w1.heap.size]? = _ from heap_alloc_new w1 _)
      have KX := Lib.hid (show (w1.alloc (.cells #[.int .i64 0, .int .i64 0, .int .i64 0, .bool false, .bool false] 46)).heap[pb]? = _ from Below.heap_alloc w1 _ pb l3)
      have RX := Lib.hid (show (w1.alloc (.cells #[.int .i64 0, .int .i64 0, .int .i64 0, .bool false, .bool false] 46)).heap[w.heap.size]? = _ from (Below.heap_alloc w1 _ w.heap.size hs1).trans R1.out)
      clear P1 G1 R1 x3
      obtain ⟨cb, hcb⟩ : ∃ cb, w1.heap.size = cb := ⟨_, rfl⟩
      change Code.wp _ _ _ _ (w1.alloc (.cells #[.int .i64 0, .int .i64 0, .int .i64 0, .bool false, .bool false] 46))
      generalize (w1.alloc (.cells #[.int .i64 0, .int .i64 0, .int .i64 0, .bool false, .bool false] 46)) = wx at PX GX CX KX RX ⊢
      rw [hcb] at CX l3 hs1 ⊢
      have hcr : w.heap.size < cb := hs1
      have s0 : wx.cell? ⟨pb, po, none⟩ = some (str a) := (World.cell?_of_block KX.out).trans S0.out
      go_region_held3 (fun w' => w'.cell? ⟨pb, po, none⟩ = some (str a))
        (first | exact s0 | exact t0 | exact z0 _)
        ((go_at_call 65; refine (integer_c g _ _ _ _ _ a HA hla rfl _ _ _ (pat_drew PX.out)).mono ?_; rintro r0 y0 ⟨rfl, pp0, gg0⟩; have cc0 := Lib.hid ((gr_blk gg0 (lt_of_block CX.out) (by omega)).trans CX.out); have kk0 := Lib.hid ((gr_blk gg0 (Nat.lt_trans l3 (lt_of_block CX.out)) (by omega)).trans KX.out); have t0 : y0.cell? ⟨pb, po, none⟩ = some (str a) := (World.cell?_of_block kk0.out).trans S0.out; have c0 := blk_cell cc0.out 0 _ rfl; have f0 := Lib.frozen_of_heap cc0.out 0; have z0 : ∀ v, (y0.setCell ⟨cb, 0, none⟩ v).cell? ⟨pb, po, none⟩ = some (str a) := fun v => (World.cell?_of_block (Below.heap_setCell _ _ _ pb (by simp; omega))).trans t0))
      have P1x : Hid (PAt g u (fe (fe e 0) ea) m vc (y0.setCell ⟨cb, 0, none⟩ (.int .i64 na))) := (Below.heap_setCell _ _ _ g (by simp; omega)).trans pp0
      have G1x : Hid (Gr g w (y0.setCell ⟨cb, 0, none⟩ (.int .i64 na))) := gr_setNew (gr_next GX.out (gr_next (gr_bl (bl_drew (bl_refl _))) gg0)) (by omega) _ _
      have C1x : Hid ((y0.setCell ⟨cb, 0, none⟩ (.int .i64 na)).heap[cb]? = some (.cells #[.int .i64 na, .int .i64 0, .int .i64 0, .bool false, .bool false] 46 (0, 0))) := blk_set cc0.out 0 _
      have K1x : Hid ((y0.setCell ⟨cb, 0, none⟩ (.int .i64 na)).heap[pb]? = w1.heap[pb]?) := (Below.heap_setCell _ _ _ pb (by simp; omega)).trans kk0.out
      have R1x := Lib.hid (show (y0.setCell ⟨cb, 0, none⟩ (.int .i64 na)).heap[w.heap.size]? = _ from (Below.heap_setCell _ _ _ w.heap.size (by simp; omega)).trans ((gr_blk gg0 (Nat.lt_trans hcr (lt_of_block CX.out)) (by omega)).trans RX.out))
      clear PX GX CX KX RX pp0 gg0 cc0 kk0 t0 c0 f0 z0 s0
      generalize (y0.setCell ⟨cb, 0, none⟩ (.int .i64 na)) = W1 at P1x G1x C1x K1x R1x ⊢
      have s1 : W1.cell? ⟨pb, po + 1, none⟩ = some (str b) := (World.cell?_of_block K1x.out).trans S1.out
      go_wp2_with fail
      go_region_held3 (fun w' => w'.cell? ⟨pb, po + 1, none⟩ = some (str b))
        (first | exact s1 | exact t1 | exact z1 _)
        ((go_at_call 65; refine (integer_c g _ _ _ _ _ b HBB hlb rfl _ _ _ (pat_drew P1x.out)).mono ?_; rintro r1 y1 ⟨rfl, pp1, gg1⟩; have cc1 := Lib.hid ((gr_blk gg1 (lt_of_block C1x.out) (by omega)).trans C1x.out); have kk1 := Lib.hid ((gr_blk gg1 (Nat.lt_trans l3 (lt_of_block C1x.out)) (by omega)).trans K1x.out); have t1 : y1.cell? ⟨pb, po + 1, none⟩ = some (str b) := (World.cell?_of_block kk1.out).trans S1.out; have c1 := blk_cell cc1.out 1 _ rfl; have f1 := Lib.frozen_of_heap cc1.out 1; have z1 : ∀ v, (y1.setCell ⟨cb, 1, none⟩ v).cell? ⟨pb, po + 1, none⟩ = some (str b) := fun v => (World.cell?_of_block (Below.heap_setCell _ _ _ pb (by simp; omega))).trans t1))
      have P2x : Hid (PAt g u (fe (fe (fe e 0) ea) eb) m vc (y1.setCell ⟨cb, 1, none⟩ (.int .i64 nb))) := (Below.heap_setCell _ _ _ g (by simp; omega)).trans pp1
      have G2x : Hid (Gr g w (y1.setCell ⟨cb, 1, none⟩ (.int .i64 nb))) := gr_setNew (gr_next G1x.out (gr_next (gr_bl (bl_drew (bl_refl _))) gg1)) (by omega) _ _
      have C2x : Hid ((y1.setCell ⟨cb, 1, none⟩ (.int .i64 nb)).heap[cb]? = some (.cells #[.int .i64 na, .int .i64 nb, .int .i64 0, .bool false, .bool false] 46 (0, 0))) := blk_set cc1.out 1 _
      have K2x : Hid ((y1.setCell ⟨cb, 1, none⟩ (.int .i64 nb)).heap[pb]? = w1.heap[pb]?) := (Below.heap_setCell _ _ _ pb (by simp; omega)).trans kk1.out
      have R2x := Lib.hid (show (y1.setCell ⟨cb, 1, none⟩ (.int .i64 nb)).heap[w.heap.size]? = _ from (Below.heap_setCell _ _ _ w.heap.size (by simp; omega)).trans ((gr_blk gg1 (Nat.lt_trans hcr (lt_of_block C1x.out)) (by omega)).trans R1x.out))
      clear P1x G1x C1x K1x R1x pp1 gg1 cc1 kk1 t1 c1 f1 z1 s1
      generalize (y1.setCell ⟨cb, 1, none⟩ (.int .i64 nb)) = W2 at P2x G2x C2x K2x R2x ⊢
      have s2 : W2.cell? ⟨pb, po + 2, none⟩ = some (str d) := (World.cell?_of_block K2x.out).trans S2.out
      go_wp2_with fail
      go_region_held3 (fun w' => w'.cell? ⟨pb, po + 2, none⟩ = some (str d))
        (first | exact s2 | exact t2 | exact z2 _)
        ((go_at_call 65; refine (integer_c g _ _ _ _ _ d HD hld rfl _ _ _ (pat_drew P2x.out)).mono ?_; rintro r2 y2 ⟨rfl, pp2, gg2⟩; have cc2 := Lib.hid ((gr_blk gg2 (lt_of_block C2x.out) (by omega)).trans C2x.out); have kk2 := Lib.hid ((gr_blk gg2 (Nat.lt_trans l3 (lt_of_block C2x.out)) (by omega)).trans K2x.out); have t2 : y2.cell? ⟨pb, po + 2, none⟩ = some (str d) := (World.cell?_of_block kk2.out).trans S2.out; have c2 := blk_cell cc2.out 2 _ rfl; have f2 := Lib.frozen_of_heap cc2.out 2; have z2 : ∀ v, (y2.setCell ⟨cb, 2, none⟩ v).cell? ⟨pb, po + 2, none⟩ = some (str d) := fun v => (World.cell?_of_block (Below.heap_setCell _ _ _ pb (by simp; omega))).trans t2))
      have P3x : Hid (PAt g u (fe (fe (fe (fe e 0) ea) eb) ed) m vc (y2.setCell ⟨cb, 2, none⟩ (.int .i64 nd))) := (Below.heap_setCell _ _ _ g (by simp; omega)).trans pp2
      have G3x : Hid (Gr g w (y2.setCell ⟨cb, 2, none⟩ (.int .i64 nd))) := gr_setNew (gr_next G2x.out (gr_next (gr_bl (bl_drew (bl_refl _))) gg2)) (by omega) _ _
      have C3x : Hid ((y2.setCell ⟨cb, 2, none⟩ (.int .i64 nd)).heap[cb]? = some (.cells #[.int .i64 na, .int .i64 nb, .int .i64 nd, .bool false, .bool false] 46 (0, 0))) := blk_set cc2.out 2 _
      have K3x : Hid ((y2.setCell ⟨cb, 2, none⟩ (.int .i64 nd)).heap[pb]? = w1.heap[pb]?) := (Below.heap_setCell _ _ _ pb (by simp; omega)).trans kk2.out
      have R3x := Lib.hid (show (y2.setCell ⟨cb, 2, none⟩ (.int .i64 nd)).heap[w.heap.size]? = _ from (Below.heap_setCell _ _ _ w.heap.size (by simp; omega)).trans ((gr_blk gg2 (Nat.lt_trans hcr (lt_of_block C2x.out)) (by omega)).trans R2x.out))
      clear P2x G2x C2x K2x R2x pp2 gg2 cc2 kk2 t2 c2 f2 z2 s2
      generalize (y2.setCell ⟨cb, 2, none⟩ (.int .i64 nd)) = W3 at P3x G3x C3x K3x R3x ⊢
      have d0 := blk_cell C3x.out 0 _ rfl
      have d1 := blk_cell C3x.out 1 _ rfl
      have d2 := blk_cell C3x.out 2 _ rfl
      have d3 := blk_cell C3x.out 3 _ rfl
      have d4 := blk_cell C3x.out 4 _ rfl
      have rf := Lib.frozen_of_heap R3x.out
      have j0 := blk_cell R3x.out 0 _ rfl
      have j1 := blk_cell R3x.out 1 _ rfl
      have j2 := blk_cell R3x.out 2 _ rfl
      have j3 := blk_cell R3x.out 3 _ rfl
      have j4 := blk_cell R3x.out 4 _ rfl
      go_wp2_with fail
      refine bodyPost_ret (results_cell_row rfl _ _ w.heap.size 46 _ (0, 0) _ rfl (store5 R3x.out) Tryd.underlying46 rfl (by kernel_rfl)) rfl ?_
      exact ⟨rfl, by rw [← HE.out]; exact (far5 (by omega)).trans P3x.out, gr5 G3x.out (Nat.le_refl _)⟩
    ·
      have hrc : readCall x = (⟨na, nb, nd, false, false⟩, [3, ea, eb, ed]) := by
        unfold readCall; rw [HL.out]; simp only; rw [hbw, HA.out, HBB.out, HD.out]; rfl
      rw [hrc] at HC HE
      obtain rfl := HC.out
      clear HC hrc
      go_enter Tryd.func68, Tryd.ntmps68
      go_wp2_with (go_at_call 92; refine (hp _).mono ?_)
      rintro q1 w1 v1 rfl o1 b1
      obtain ⟨pb, po, pc, rfl, l1, l2, l3, hc⟩ := (ownS_in o1).open (by simp)
      have x3 : w1.cell? ⟨pb, po + 3, none⟩ = some (str wd) := hc 3 _ rfl 0 _ rfl
      have hpb : w.heap.size < pb := by have := (World.ownsRow.lt o1 pb rfl).1; omega
      have hs1 : w.heap.size < w1.heap.size := by have := b1.size; simp at this; omega
      have S0 := Lib.hid (show w1.cell? ⟨pb, po, none⟩ = some (str a) from hc 0 _ rfl 0 _ rfl)
      have S1 := Lib.hid (show w1.cell? ⟨pb, po + 1, none⟩ = some (str b) from hc 1 _ rfl 0 _ rfl)
      have S2 := Lib.hid (show w1.cell? ⟨pb, po + 2, none⟩ = some (str d) from hc 2 _ rfl 0 _ rfl)
      have P1 : Hid (PAt g u e m vc w1) := blk_bl HP.out (bl_next (bl_alloc (bl_refl _) _) b1)
      have G1 : Hid (Gr g w w1) := gr_bl (bl_next (bl_alloc (bl_refl _) _) b1)
      have R1 := Lib.hid (blk_bl (heap_alloc_new w _) b1)
      clear hc o1 b1
      go_wp2_with (go_at_call 41; refine (fail_c g u e 3 _ rfl m vc _ (blk_bl P1.out (bl_alloc (bl_refl _) _))).mono ?_)
      rintro q2 wx ⟨rfl, p2, g2⟩
      have PX : Hid (PAt g u (fe e 3) m vc wx) := p2
      have GX := Lib.hid (gr_next G1.out (gr_next (gr_bl (bl_alloc (bl_refl _) _)) g2))
      have CX := Lib.hid ((gr_blk g2 (by simp) (by omega)).trans (heap_alloc_new w1 (.cells #[.int .i64 0, .int .i64 0, .int .i64 0, .bool false, .bool false] 46)))
      have KX := Lib.hid ((gr_blk g2 (by simp; omega) (by omega)).trans (Below.heap_alloc w1 _ pb l3))
      have RX := Lib.hid ((gr_blk g2 (by simp; omega) (by omega)).trans ((Below.heap_alloc w1 _ w.heap.size hs1).trans R1.out))
      clear p2 g2 P1 G1 R1 x3
      obtain ⟨cb, hcb⟩ : ∃ cb, w1.heap.size = cb := ⟨_, rfl⟩
      rw [hcb] at CX l3 hs1 ⊢
      have hcr : w.heap.size < cb := hs1
      have s0 : wx.cell? ⟨pb, po, none⟩ = some (str a) := (World.cell?_of_block KX.out).trans S0.out
      go_wp2_with fail
      go_region_held3 (fun w' => w'.cell? ⟨pb, po, none⟩ = some (str a))
        (first | exact s0 | exact t0 | exact z0 _)
        ((go_at_call 65; refine (integer_c g _ _ _ _ _ a HA hla rfl _ _ _ (pat_drew PX.out)).mono ?_; rintro r0 y0 ⟨rfl, pp0, gg0⟩; have cc0 := Lib.hid ((gr_blk gg0 (lt_of_block CX.out) (by omega)).trans CX.out); have kk0 := Lib.hid ((gr_blk gg0 (Nat.lt_trans l3 (lt_of_block CX.out)) (by omega)).trans KX.out); have t0 : y0.cell? ⟨pb, po, none⟩ = some (str a) := (World.cell?_of_block kk0.out).trans S0.out; have c0 := blk_cell cc0.out 0 _ rfl; have f0 := Lib.frozen_of_heap cc0.out 0; have z0 : ∀ v, (y0.setCell ⟨cb, 0, none⟩ v).cell? ⟨pb, po, none⟩ = some (str a) := fun v => (World.cell?_of_block (Below.heap_setCell _ _ _ pb (by simp; omega))).trans t0))
      have P1x : Hid (PAt g u (fe (fe e 3) ea) m vc (y0.setCell ⟨cb, 0, none⟩ (.int .i64 na))) := (Below.heap_setCell _ _ _ g (by simp; omega)).trans pp0
      have G1x : Hid (Gr g w (y0.setCell ⟨cb, 0, none⟩ (.int .i64 na))) := gr_setNew (gr_next GX.out (gr_next (gr_bl (bl_drew (bl_refl _))) gg0)) (by omega) _ _
      have C1x : Hid ((y0.setCell ⟨cb, 0, none⟩ (.int .i64 na)).heap[cb]? = some (.cells #[.int .i64 na, .int .i64 0, .int .i64 0, .bool false, .bool false] 46 (0, 0))) := blk_set cc0.out 0 _
      have K1x : Hid ((y0.setCell ⟨cb, 0, none⟩ (.int .i64 na)).heap[pb]? = w1.heap[pb]?) := (Below.heap_setCell _ _ _ pb (by simp; omega)).trans kk0.out
      have R1x := Lib.hid (show (y0.setCell ⟨cb, 0, none⟩ (.int .i64 na)).heap[w.heap.size]? = _ from (Below.heap_setCell _ _ _ w.heap.size (by simp; omega)).trans ((gr_blk gg0 (Nat.lt_trans hcr (lt_of_block CX.out)) (by omega)).trans RX.out))
      clear PX GX CX KX RX pp0 gg0 cc0 kk0 t0 c0 f0 z0 s0
      generalize (y0.setCell ⟨cb, 0, none⟩ (.int .i64 na)) = W1 at P1x G1x C1x K1x R1x ⊢
      have s1 : W1.cell? ⟨pb, po + 1, none⟩ = some (str b) := (World.cell?_of_block K1x.out).trans S1.out
      go_wp2_with fail
      go_region_held3 (fun w' => w'.cell? ⟨pb, po + 1, none⟩ = some (str b))
        (first | exact s1 | exact t1 | exact z1 _)
        ((go_at_call 65; refine (integer_c g _ _ _ _ _ b HBB hlb rfl _ _ _ (pat_drew P1x.out)).mono ?_; rintro r1 y1 ⟨rfl, pp1, gg1⟩; have cc1 := Lib.hid ((gr_blk gg1 (lt_of_block C1x.out) (by omega)).trans C1x.out); have kk1 := Lib.hid ((gr_blk gg1 (Nat.lt_trans l3 (lt_of_block C1x.out)) (by omega)).trans K1x.out); have t1 : y1.cell? ⟨pb, po + 1, none⟩ = some (str b) := (World.cell?_of_block kk1.out).trans S1.out; have c1 := blk_cell cc1.out 1 _ rfl; have f1 := Lib.frozen_of_heap cc1.out 1; have z1 : ∀ v, (y1.setCell ⟨cb, 1, none⟩ v).cell? ⟨pb, po + 1, none⟩ = some (str b) := fun v => (World.cell?_of_block (Below.heap_setCell _ _ _ pb (by simp; omega))).trans t1))
      have P2x : Hid (PAt g u (fe (fe (fe e 3) ea) eb) m vc (y1.setCell ⟨cb, 1, none⟩ (.int .i64 nb))) := (Below.heap_setCell _ _ _ g (by simp; omega)).trans pp1
      have G2x : Hid (Gr g w (y1.setCell ⟨cb, 1, none⟩ (.int .i64 nb))) := gr_setNew (gr_next G1x.out (gr_next (gr_bl (bl_drew (bl_refl _))) gg1)) (by omega) _ _
      have C2x : Hid ((y1.setCell ⟨cb, 1, none⟩ (.int .i64 nb)).heap[cb]? = some (.cells #[.int .i64 na, .int .i64 nb, .int .i64 0, .bool false, .bool false] 46 (0, 0))) := blk_set cc1.out 1 _
      have K2x : Hid ((y1.setCell ⟨cb, 1, none⟩ (.int .i64 nb)).heap[pb]? = w1.heap[pb]?) := (Below.heap_setCell _ _ _ pb (by simp; omega)).trans kk1.out
      have R2x := Lib.hid (show (y1.setCell ⟨cb, 1, none⟩ (.int .i64 nb)).heap[w.heap.size]? = _ from (Below.heap_setCell _ _ _ w.heap.size (by simp; omega)).trans ((gr_blk gg1 (Nat.lt_trans hcr (lt_of_block C1x.out)) (by omega)).trans R1x.out))
      clear P1x G1x C1x K1x R1x pp1 gg1 cc1 kk1 t1 c1 f1 z1 s1
      generalize (y1.setCell ⟨cb, 1, none⟩ (.int .i64 nb)) = W2 at P2x G2x C2x K2x R2x ⊢
      have s2 : W2.cell? ⟨pb, po + 2, none⟩ = some (str d) := (World.cell?_of_block K2x.out).trans S2.out
      go_wp2_with fail
      go_region_held3 (fun w' => w'.cell? ⟨pb, po + 2, none⟩ = some (str d))
        (first | exact s2 | exact t2 | exact z2 _)
        ((go_at_call 65; refine (integer_c g _ _ _ _ _ d HD hld rfl _ _ _ (pat_drew P2x.out)).mono ?_; rintro r2 y2 ⟨rfl, pp2, gg2⟩; have cc2 := Lib.hid ((gr_blk gg2 (lt_of_block C2x.out) (by omega)).trans C2x.out); have kk2 := Lib.hid ((gr_blk gg2 (Nat.lt_trans l3 (lt_of_block C2x.out)) (by omega)).trans K2x.out); have t2 : y2.cell? ⟨pb, po + 2, none⟩ = some (str d) := (World.cell?_of_block kk2.out).trans S2.out; have c2 := blk_cell cc2.out 2 _ rfl; have f2 := Lib.frozen_of_heap cc2.out 2; have z2 : ∀ v, (y2.setCell ⟨cb, 2, none⟩ v).cell? ⟨pb, po + 2, none⟩ = some (str d) := fun v => (World.cell?_of_block (Below.heap_setCell _ _ _ pb (by simp; omega))).trans t2))
      have P3x : Hid (PAt g u (fe (fe (fe (fe e 3) ea) eb) ed) m vc (y2.setCell ⟨cb, 2, none⟩ (.int .i64 nd))) := (Below.heap_setCell _ _ _ g (by simp; omega)).trans pp2
      have G3x : Hid (Gr g w (y2.setCell ⟨cb, 2, none⟩ (.int .i64 nd))) := gr_setNew (gr_next G2x.out (gr_next (gr_bl (bl_drew (bl_refl _))) gg2)) (by omega) _ _
      have C3x : Hid ((y2.setCell ⟨cb, 2, none⟩ (.int .i64 nd)).heap[cb]? = some (.cells #[.int .i64 na, .int .i64 nb, .int .i64 nd, .bool false, .bool false] 46 (0, 0))) := blk_set cc2.out 2 _
      have K3x : Hid ((y2.setCell ⟨cb, 2, none⟩ (.int .i64 nd)).heap[pb]? = w1.heap[pb]?) := (Below.heap_setCell _ _ _ pb (by simp; omega)).trans kk2.out
      have R3x := Lib.hid (show (y2.setCell ⟨cb, 2, none⟩ (.int .i64 nd)).heap[w.heap.size]? = _ from (Below.heap_setCell _ _ _ w.heap.size (by simp; omega)).trans ((gr_blk gg2 (Nat.lt_trans hcr (lt_of_block C2x.out)) (by omega)).trans R2x.out))
      clear P2x G2x C2x K2x R2x pp2 gg2 cc2 kk2 t2 c2 f2 z2 s2
      generalize (y2.setCell ⟨cb, 2, none⟩ (.int .i64 nd)) = W3 at P3x G3x C3x K3x R3x ⊢
      have d0 := blk_cell C3x.out 0 _ rfl
      have d1 := blk_cell C3x.out 1 _ rfl
      have d2 := blk_cell C3x.out 2 _ rfl
      have d3 := blk_cell C3x.out 3 _ rfl
      have d4 := blk_cell C3x.out 4 _ rfl
      have rf := Lib.frozen_of_heap R3x.out
      have j0 := blk_cell R3x.out 0 _ rfl
      have j1 := blk_cell R3x.out 1 _ rfl
      have j2 := blk_cell R3x.out 2 _ rfl
      have j3 := blk_cell R3x.out 3 _ rfl
      have j4 := blk_cell R3x.out 4 _ rfl
      go_wp2_with fail
      refine bodyPost_ret (results_cell_row rfl _ _ w.heap.size 46 _ (0, 0) _ rfl (store5 R3x.out) Tryd.underlying46 rfl (by kernel_rfl)) rfl ?_
      exact ⟨rfl, by rw [← HE.out]; exact (far5 (by omega)).trans P3x.out, gr5 G3x.out (Nat.le_refl _)⟩
  · have hrc : readCall x = (⟨0, 0, 0, false, false⟩, [3]) := by
      unfold readCall
      rw [HL.out]
      split
      · rename_i hh; exact absurd (by simp) h4
      · rfl
    rw [hrc] at HC HE
    obtain rfl := HC.out
    have h4' : ((l.length : Int) != 4) = true := by rw [bne_iff_ne]; omega
    have hg := HP.out.lt
    clear HC hrc
    go_enter Tryd.func68, Tryd.ntmps68
    go_wp2_with (go_at_call 92; refine (hp _).mono ?_)
    rintro q1 w1 v1 rfl o1 b1
    obtain ⟨a1, c1, rfl⟩ := ownS_form o1
    have hs1 : w.heap.size < w1.heap.size := by have := b1.size; simp at this; omega
    have P1 : Hid (PAt g u e m vc w1) := blk_bl HP.out (bl_next (bl_alloc (bl_refl _) _) b1)
    have G1 : Hid (Gr g w w1) := gr_bl (bl_next (bl_alloc (bl_refl _) _) b1)
    have R1 := Lib.hid (blk_bl (heap_alloc_new w _) b1)
    clear o1 b1
    go_wp2_with (go_at_call 41; refine (fail_c g u e 3 _ rfl m vc _ (blk_bl P1.out (bl_alloc (bl_refl _) _))).mono ?_)
    rintro q2 wx ⟨rfl, p2, g2⟩
    have CX := Lib.hid ((gr_blk g2 (by simp) (by omega)).trans (heap_alloc_new w1 (.cells #[.int .i64 0, .int .i64 0, .int .i64 0, .bool false, .bool false] 46)))
    have RX := Lib.hid ((gr_blk g2 (by simp; omega) (by omega)).trans ((Below.heap_alloc w1 _ w.heap.size hs1).trans R1.out))
    have GX := Lib.hid (gr_next G1.out (gr_next (gr_bl (bl_alloc (bl_refl _) _)) g2))
    have d0 := blk_cell CX.out 0 _ rfl
    have d1 := blk_cell CX.out 1 _ rfl
    have d2 := blk_cell CX.out 2 _ rfl
    have d3 := blk_cell CX.out 3 _ rfl
    have d4 := blk_cell CX.out 4 _ rfl
    have rf := Lib.frozen_of_heap RX.out
    have j0 := blk_cell RX.out 0 _ rfl
    have j1 := blk_cell RX.out 1 _ rfl
    have j2 := blk_cell RX.out 2 _ rfl
    have j3 := blk_cell RX.out 3 _ rfl
    have j4 := blk_cell RX.out 4 _ rfl
    go_wp2_with fail
    refine bodyPost_ret (results_cell_row rfl _ _ w.heap.size 46 _ (0, 0) _ rfl (store5 RX.out) Tryd.underlying46 rfl (by kernel_rfl)) rfl ?_
    exact ⟨rfl, by rw [← HE.out]; exact (far5 (by omega)).trans p2, gr5 GX.out (Nat.le_refl _)⟩
end Go.Proofs.YthdadalmgldppaaDoor
namespace Go.Proofs.YthdadalmgldppaaDoor
open Go.RowKit
open Msg Num Fld Dat

theorem info_call : (Tryd.prog.info? 46).map (fun i => (i.zero, i.size, i.bytes)) = some (some (.agg #[.int .i64 0, .int .i64 0, .int .i64 0, .bool false, .bool false]), 5, 32) := by kernel_rfl
/-- A row of calls of the call's own. -/
def OwnC (B : Nat) (v : Value) (cs : List CallD) (w : World) : Prop := w.ownsRow B 46 5 v cs.length (cs.flatMap callCells)
theorem ownC_in {B : Nat} {v : Value} {cs : List CallD} {w : World} (h : OwnC B v cs w) : CallsIn w.heap.size w v cs := slIn_own callCells_len h
theorem ownC_nil (B : Nat) (w : World) : OwnC B (.slice none 0 0) [] w := World.ownsRow_nil w B _ 5
theorem ownC_kept {B g : Nat} {v : Value} {cs : List CallD} {w w' : World} (h : OwnC B v cs w) (hg : Gr g w w') (hB : g < B) : OwnC B v cs w' := by
  refine World.ownsRow.kept h hg ?_
  cases hv : v.ownBlock with
  | none => exact .inl rfl
  | some k => exact .inr (fun e => by have := (World.ownsRow.lt h k hv).1; simp only [Option.some.injEq] at e; omega)
theorem ownC_set {B g i : Nat} {v u : Value} {cs : List CallD} {w : World} (h : OwnC B v cs w) (hB : g < B) : OwnC B v cs (w.setCell ⟨g, i, none⟩ u) := ownC_kept h (gr_set g w i u) hB
theorem ownC_app {B : Nat} {v' : Value} {cs : List CallD} {c : CallD} {w : World} {n : Nat} {xs : List Value} (h : w.ownsRow B 46 5 v' n xs) (hn : n = cs.length + 1) (hx : xs = cs.flatMap callCells ++ callCells c) : OwnC B v' (cs ++ [c]) w := by
  unfold OwnC
  rw [List.length_append, List.flatMap_append]
  subst hn hx
  simpa using h
theorem blk_growC {B g : Nat} {v : Value} {cs : List CallD} {w w' : World} {C : Array Value} {T : TypeId} (hu : w.heap[g]? = some (.cells C T (0, 0))) (h : OwnC B v cs w) (hg : w.grownBy w' v.ownBlock) (hT : T ≠ 46) : w'.heap[g]? = some (.cells C T (0, 0)) := by
  refine (hg.block g (lt_of_block hu) fun e => ?_).trans hu
  rcases h.2 with ⟨rfl, _⟩ | ⟨k, cap, cur, rfl, _, hk, _⟩
  · simp [Value.ownBlock] at e
  · simp only [Value.ownBlock, Option.some.injEq] at e
    rw [← e, hu, Option.some.injEq, Obj.cells.injEq] at hk
    exact hT hk.2.1
theorem gr_grow {g : Nat} {w a b : World} {row : Option Nat} (h : Gr g w a) (hg : a.grownBy b row) (hr : ∀ k, row = some k → w.heap.size ≤ k) : Gr g w b :=
  ⟨hg.os.trans h.os, hg.tape.trans h.tape, hg.output.trans h.output, Nat.le_trans h.size hg.size, fun k hk hne => (hg.block k (Nat.lt_of_lt_of_le hk h.size) (fun e => by have := hr k e.symm; omega)).trans (h.block k hk hne)⟩
theorem callsE_snoc (l : List (List UInt8)) (x : List UInt8) : callsE (l ++ [x]) = callsE l ++ (readCall x).2 := by
  unfold callsE
  rw [List.flatMap_append]
  simp
theorem feL_app (e : Int) (a b : List Int) : feL e (a ++ b) = feL (feL e a) b := by
  unfold feL
  rw [List.foldl_append]
/-- The fields that are left, by the parser's first cell. -/
def leftN (g : Nat) (w : World) : Nat := match w.cell? ⟨g, 0, none⟩ with
  | some (.slice _ n _) => n
  | _ => 0
theorem leftN_at {g : Nat} {w : World} {a : Option Addr} {n c : Nat} (h : w.cell? ⟨g, 0, none⟩ = some (.slice a n c)) : leftN g w = n := by
  unfold leftN
  rw [h]
set_option maxRecDepth 20000 in
set_option maxHeartbeats 8000000 in
theorem tail_none (g : Nat) (u : Value) (e E : Int) (m : MsgD)  (hb1 : uCall m.kind = false) (hb2 : uSecs m.kind = false) (hb3 : uRoute m.kind = false) (hb4 : uCalls m.kind = false)
    (HE : Hid (e = E))
    (B : Nat) (w : World) (h : PAt g u e m (.slice none 0 0) w) (hu : StrsIn B w u []) (hB : B ≤ g) :
    Calls Tryd.prog 40 #[.pointer (some ⟨g, 0, none⟩)] w fun q w' => q = .returned (.tuple #[]) ∧ ∃ u' vc', PAt g u' E m vc' w' ∧ CallsIn w'.heap.size w' vc' [] ∧ Gr g w w' := by
  have HP := Lib.hid h
  have HU := Lib.hid hu
  have hg := h.lt
  have c6 : w.cell? ⟨g, 6, none⟩ = some (.int .i64 m.kind) := h.cell 6 _ rfl
  clear h hu
  go_enter Tryd.func40, Tryd.ntmps40
  go_wp2_with (go_at_call 27; refine (used_c m.kind _).mono ?_)
  rintro q1 w1 ⟨rfl, b1⟩
  rw [show usesV m.kind = .agg #[.bool false, .bool false, .bool false, .bool false, .bool false] by simp only [usesV, hb1, hb2, hb3, hb4]]
  clear hb1 hb2 hb3 hb4 c6
  go_wp2_with fail
  have P1 : Hid (PAt g u e m (.slice none 0 0) (w1.alloc (.cells #[.bool false, .bool false, .bool false, .bool false, .bool false] 41))) := blk_bl HP.out (bl_next b1 (bl_alloc (bl_refl _) _))
  have G1 : Hid (Gr g w (w1.alloc (.cells #[.bool false, .bool false, .bool false, .bool false, .bool false] 41))) := gr_bl (bl_next b1 (bl_alloc (bl_refl _) _))
  have U1 := Lib.hid (HU.out.below ((bl_next b1 (bl_alloc (bl_refl w1) (.cells #[.bool false, .bool false, .bool false, .bool false, .bool false] 41))).mono (by omega)))
  have X1 := Lib.hid (heap_alloc_new w1 (.cells #[.bool false, .bool false, .bool false, .bool false, .bool false] 41))
  have hgu : g < w1.heap.size := Nat.lt_of_lt_of_le hg b1.size
  have hwu : w.heap.size ≤ w1.heap.size := b1.size
  generalize w1.alloc (.cells #[.bool false, .bool false, .bool false, .bool false, .bool false] 41) = w2 at P1 G1 U1 X1 ⊢
  generalize w1.heap.size = ub at X1 hgu hwu ⊢
  clear b1 HP HU
  have q0 : w2.cell? ⟨ub, 0, none⟩ = some (.bool false) := blk_cell X1.out 0 _ rfl
  have q1 : w2.cell? ⟨ub, 1, none⟩ = some (.bool false) := blk_cell X1.out 1 _ rfl
  have q2 : w2.cell? ⟨ub, 2, none⟩ = some (.bool false) := blk_cell X1.out 2 _ rfl
  have q3 : w2.cell? ⟨ub, 3, none⟩ = some (.bool false) := blk_cell X1.out 3 _ rfl
  have q4 : w2.cell? ⟨ub, 4, none⟩ = some (.bool false) := blk_cell X1.out 4 _ rfl
  go_wp2_with fail
  refine wp_loop_rounds 1 ?_
  rw [rounds_succ]
  go_wp2
  go_end0
  exact ⟨rfl, _, _, by rw [← HE.out]; exact P1.out, slIn_nil, G1.out⟩
set_option maxRecDepth 20000 in
set_option maxHeartbeats 8000000 in
theorem tail_skip (g : Nat) (u : Value) (e E : Int) (m : MsgD) (f8 : List UInt8) (n8 e8 : Int) (hb1 : uCall m.kind = true) (hb2 : uSecs m.kind = false) (hb3 : uRoute m.kind = false) (hb4 : uCalls m.kind = false)
    (H8 : Hid (parse f8 = (n8, e8))) (hl8 : f8.length ≤ 9223372036854775807) (HE : Hid (fe e e8 = E))
    (B : Nat) (w : World) (h : PAt g u e m (.slice none 0 0) w) (hu : StrsIn B w u [f8]) (hB : B ≤ g) :
    Calls Tryd.prog 40 #[.pointer (some ⟨g, 0, none⟩)] w fun q w' => q = .returned (.tuple #[]) ∧ ∃ u' vc', PAt g u' E { m with call := n8 } vc' w' ∧ CallsIn w'.heap.size w' vc' [] ∧ Gr g w w' := by
  have HP := Lib.hid h
  have HU := Lib.hid hu
  have hg := h.lt
  have c6 : w.cell? ⟨g, 6, none⟩ = some (.int .i64 m.kind) := h.cell 6 _ rfl
  clear h hu
  go_enter Tryd.func40, Tryd.ntmps40
  go_wp2_with (go_at_call 27; refine (used_c m.kind _).mono ?_)
  rintro q1 w1 ⟨rfl, b1⟩
  rw [show usesV m.kind = .agg #[.bool true, .bool false, .bool false, .bool false, .bool false] by simp only [usesV, hb1, hb2, hb3, hb4]]
  clear hb1 hb2 hb3 hb4 c6
  go_wp2_with fail
  have P1 : Hid (PAt g u e m (.slice none 0 0) (w1.alloc (.cells #[.bool true, .bool false, .bool false, .bool false, .bool false] 41))) := blk_bl HP.out (bl_next b1 (bl_alloc (bl_refl _) _))
  have G1 : Hid (Gr g w (w1.alloc (.cells #[.bool true, .bool false, .bool false, .bool false, .bool false] 41))) := gr_bl (bl_next b1 (bl_alloc (bl_refl _) _))
  have U1 := Lib.hid (HU.out.below ((bl_next b1 (bl_alloc (bl_refl w1) (.cells #[.bool true, .bool false, .bool false, .bool false, .bool false] 41))).mono (by omega)))
  have X1 := Lib.hid (heap_alloc_new w1 (.cells #[.bool true, .bool false, .bool false, .bool false, .bool false] 41))
  have hgu : g < w1.heap.size := Nat.lt_of_lt_of_le hg b1.size
  have hwu : w.heap.size ≤ w1.heap.size := b1.size
  generalize w1.alloc (.cells #[.bool true, .bool false, .bool false, .bool false, .bool false] 41) = w2 at P1 G1 U1 X1 ⊢
  generalize w1.heap.size = ub at X1 hgu hwu ⊢
  clear b1 HP HU
  go_region_held3 (fun w' => True) (exact trivial)
    (first
      | (go_at_call 66; refine (next_c g _ _ _ _ _ _ B _ (pat_drew P1.out) (strs_drew U1.out) hB).mono ?_; rintro q8 v8 ⟨rfl, u8, s8, p8, g8⟩)
      | (go_at_call 65; refine (integer_c g _ _ _ _ _ _ H8 hl8 rfl _ _ _ p8).mono ?_; rintro r8 y8 ⟨rfl, pp8, gg8⟩; have cc8 := pp8.cell 10 _ rfl; have ff8 := pp8.free 10))
  have P8a : Hid (PAt g u8 (fe e e8) { m with call := n8 } (.slice none 0 0) (y8.setCell ⟨g, 10, none⟩ (.int .i64 n8))) := blk_set pp8 10 _
  have G8a : Hid (Gr g w (y8.setCell ⟨g, 10, none⟩ (.int .i64 n8))) := gr_next G1.out (gr_next (gr_bl (bl_drew (bl_refl _))) (gr_next g8 (gr_next gg8 (gr_set g _ 10 _))))
  have U8a := Lib.hid (s8.below (gr_below (gr_next gg8 (gr_set g _ 10 (.int .i64 n8))) p8.lt hB))
  have X8a : Hid ((y8.setCell ⟨g, 10, none⟩ (.int .i64 n8)).heap[ub]? = some (.cells #[.bool true, .bool false, .bool false, .bool false, .bool false] 41 (0, 0))) := (Below.heap_setCell y8 ⟨g, 10, none⟩ (.int .i64 n8) ub (by simp; omega)).trans ((gr_blk gg8 (Nat.lt_of_lt_of_le (show ub < w2.heap.size from lt_of_block X1.out) g8.size) (by omega)).trans ((gr_blk g8 (show ub < w2.heap.size from lt_of_block X1.out) (by omega)).trans X1.out))
  generalize y8.setCell ⟨g, 10, none⟩ (.int .i64 n8) = W8 at P8a G8a U8a X8a ⊢
  clear cc8 ff8 s8 p8 g8 pp8 gg8 P1 G1 U1 X1
  have q1 : W8.cell? ⟨ub, 1, none⟩ = some (.bool false) := blk_cell X8a.out 1 _ rfl
  have q2 : W8.cell? ⟨ub, 2, none⟩ = some (.bool false) := blk_cell X8a.out 2 _ rfl
  have q3 : W8.cell? ⟨ub, 3, none⟩ = some (.bool false) := blk_cell X8a.out 3 _ rfl
  have q4 : W8.cell? ⟨ub, 4, none⟩ = some (.bool false) := blk_cell X8a.out 4 _ rfl
  go_wp2_with fail
  refine wp_loop_rounds 1 ?_
  rw [rounds_succ]
  go_wp2
  go_end0
  exact ⟨rfl, _, _, by rw [← HE.out]; exact P8a.out, slIn_nil, G8a.out⟩
set_option maxRecDepth 20000 in
set_option maxHeartbeats 8000000 in
theorem tail_delay (g : Nat) (u : Value) (e E : Int) (m : MsgD) (f8 : List UInt8) (n8 e8 : Int) (f9 : List UInt8) (n9 e9 : Int) (hb1 : uCall m.kind = true) (hb2 : uSecs m.kind = true) (hb3 : uRoute m.kind = false) (hb4 : uCalls m.kind = false)
    (H8 : Hid (parse f8 = (n8, e8))) (hl8 : f8.length ≤ 9223372036854775807) (H9 : Hid (parse f9 = (n9, e9))) (hl9 : f9.length ≤ 9223372036854775807) (HE : Hid (fe (fe e e8) e9 = E))
    (B : Nat) (w : World) (h : PAt g u e m (.slice none 0 0) w) (hu : StrsIn B w u [f8, f9]) (hB : B ≤ g) :
    Calls Tryd.prog 40 #[.pointer (some ⟨g, 0, none⟩)] w fun q w' => q = .returned (.tuple #[]) ∧ ∃ u' vc', PAt g u' E { { m with call := n8 } with secs := n9 } vc' w' ∧ CallsIn w'.heap.size w' vc' [] ∧ Gr g w w' := by
  have HP := Lib.hid h
  have HU := Lib.hid hu
  have hg := h.lt
  have c6 : w.cell? ⟨g, 6, none⟩ = some (.int .i64 m.kind) := h.cell 6 _ rfl
  clear h hu
  go_enter Tryd.func40, Tryd.ntmps40
  go_wp2_with (go_at_call 27; refine (used_c m.kind _).mono ?_)
  rintro q1 w1 ⟨rfl, b1⟩
  rw [show usesV m.kind = .agg #[.bool true, .bool true, .bool false, .bool false, .bool false] by simp only [usesV, hb1, hb2, hb3, hb4]]
  clear hb1 hb2 hb3 hb4 c6
  go_wp2_with fail
  have P1 : Hid (PAt g u e m (.slice none 0 0) (w1.alloc (.cells #[.bool true, .bool true, .bool false, .bool false, .bool false] 41))) := blk_bl HP.out (bl_next b1 (bl_alloc (bl_refl _) _))
  have G1 : Hid (Gr g w (w1.alloc (.cells #[.bool true, .bool true, .bool false, .bool false, .bool false] 41))) := gr_bl (bl_next b1 (bl_alloc (bl_refl _) _))
  have U1 := Lib.hid (HU.out.below ((bl_next b1 (bl_alloc (bl_refl w1) (.cells #[.bool true, .bool true, .bool false, .bool false, .bool false] 41))).mono (by omega)))
  have X1 := Lib.hid (heap_alloc_new w1 (.cells #[.bool true, .bool true, .bool false, .bool false, .bool false] 41))
  have hgu : g < w1.heap.size := Nat.lt_of_lt_of_le hg b1.size
  have hwu : w.heap.size ≤ w1.heap.size := b1.size
  generalize w1.alloc (.cells #[.bool true, .bool true, .bool false, .bool false, .bool false] 41) = w2 at P1 G1 U1 X1 ⊢
  generalize w1.heap.size = ub at X1 hgu hwu ⊢
  clear b1 HP HU
  go_region_held3 (fun w' => True) (exact trivial)
    (first
      | (go_at_call 66; refine (next_c g _ _ _ _ _ _ B _ (pat_drew P1.out) (strs_drew U1.out) hB).mono ?_; rintro q8 v8 ⟨rfl, u8, s8, p8, g8⟩)
      | (go_at_call 65; refine (integer_c g _ _ _ _ _ _ H8 hl8 rfl _ _ _ p8).mono ?_; rintro r8 y8 ⟨rfl, pp8, gg8⟩; have cc8 := pp8.cell 10 _ rfl; have ff8 := pp8.free 10))
  have P8a : Hid (PAt g u8 (fe e e8) { m with call := n8 } (.slice none 0 0) (y8.setCell ⟨g, 10, none⟩ (.int .i64 n8))) := blk_set pp8 10 _
  have G8a : Hid (Gr g w (y8.setCell ⟨g, 10, none⟩ (.int .i64 n8))) := gr_next G1.out (gr_next (gr_bl (bl_drew (bl_refl _))) (gr_next g8 (gr_next gg8 (gr_set g _ 10 _))))
  have U8a := Lib.hid (s8.below (gr_below (gr_next gg8 (gr_set g _ 10 (.int .i64 n8))) p8.lt hB))
  have X8a : Hid ((y8.setCell ⟨g, 10, none⟩ (.int .i64 n8)).heap[ub]? = some (.cells #[.bool true, .bool true, .bool false, .bool false, .bool false] 41 (0, 0))) := (Below.heap_setCell y8 ⟨g, 10, none⟩ (.int .i64 n8) ub (by simp; omega)).trans ((gr_blk gg8 (Nat.lt_of_lt_of_le (show ub < w2.heap.size from lt_of_block X1.out) g8.size) (by omega)).trans ((gr_blk g8 (show ub < w2.heap.size from lt_of_block X1.out) (by omega)).trans X1.out))
  generalize y8.setCell ⟨g, 10, none⟩ (.int .i64 n8) = W8 at P8a G8a U8a X8a ⊢
  clear cc8 ff8 s8 p8 g8 pp8 gg8 P1 G1 U1 X1
  have q1 : W8.cell? ⟨ub, 1, none⟩ = some (.bool true) := blk_cell X8a.out 1 _ rfl
  have q2 : W8.cell? ⟨ub, 2, none⟩ = some (.bool false) := blk_cell X8a.out 2 _ rfl
  have q3 : W8.cell? ⟨ub, 3, none⟩ = some (.bool false) := blk_cell X8a.out 3 _ rfl
  go_wp2_with fail
  go_region_held3 (fun w' => True) (exact trivial)
    (first
      | (go_at_call 66; refine (next_c g _ _ _ _ _ _ B _ (pat_drew P8a.out) (strs_drew U8a.out) hB).mono ?_; rintro q9 v9 ⟨rfl, u9, s9, p9, g9⟩)
      | (go_at_call 65; refine (integer_c g _ _ _ _ _ _ H9 hl9 rfl _ _ _ p9).mono ?_; rintro r9 y9 ⟨rfl, pp9, gg9⟩; have cc9 := pp9.cell 11 _ rfl; have ff9 := pp9.free 11))
  have P9a : Hid (PAt g u9 (fe (fe e e8) e9) { { m with call := n8 } with secs := n9 } (.slice none 0 0) (y9.setCell ⟨g, 11, none⟩ (.int .i64 n9))) := blk_set pp9 11 _
  have G9a : Hid (Gr g w (y9.setCell ⟨g, 11, none⟩ (.int .i64 n9))) := gr_next G8a.out (gr_next (gr_bl (bl_drew (bl_refl _))) (gr_next g9 (gr_next gg9 (gr_set g _ 11 _))))
  have U9a := Lib.hid (s9.below (gr_below (gr_next gg9 (gr_set g _ 11 (.int .i64 n9))) p9.lt hB))
  have X9a : Hid ((y9.setCell ⟨g, 11, none⟩ (.int .i64 n9)).heap[ub]? = some (.cells #[.bool true, .bool true, .bool false, .bool false, .bool false] 41 (0, 0))) := (Below.heap_setCell y9 ⟨g, 11, none⟩ (.int .i64 n9) ub (by simp; omega)).trans ((gr_blk gg9 (Nat.lt_of_lt_of_le (show ub < W8.heap.size from lt_of_block X8a.out) g9.size) (by omega)).trans ((gr_blk g9 (show ub < W8.heap.size from lt_of_block X8a.out) (by omega)).trans X8a.out))
  generalize y9.setCell ⟨g, 11, none⟩ (.int .i64 n9) = W9 at P9a G9a U9a X9a ⊢
  clear cc9 ff9 s9 p9 g9 pp9 gg9 P8a G8a U8a X8a
  have q2 : W9.cell? ⟨ub, 2, none⟩ = some (.bool false) := blk_cell X9a.out 2 _ rfl
  have q3 : W9.cell? ⟨ub, 3, none⟩ = some (.bool false) := blk_cell X9a.out 3 _ rfl
  have q4 : W9.cell? ⟨ub, 4, none⟩ = some (.bool false) := blk_cell X9a.out 4 _ rfl
  go_wp2_with fail
  refine wp_loop_rounds 1 ?_
  rw [rounds_succ]
  go_wp2
  go_end0
  exact ⟨rfl, _, _, by rw [← HE.out]; exact P9a.out, slIn_nil, G9a.out⟩
set_option maxRecDepth 20000 in
set_option maxHeartbeats 8000000 in
theorem tail_reroute (g : Nat) (u : Value) (e E : Int) (m : MsgD) (r : List (List UInt8)) (cs : List CallD) (hb1 : uCall m.kind = false) (hb2 : uSecs m.kind = false) (hb3 : uRoute m.kind = false) (hb4 : uCalls m.kind = true)
    (HC : Hid ((r.map fun s => (readCall s).1) = cs)) (hr : r.length ≤ 100) (hl : Hid (∀ x ∈ r, x.length ≤ 131072)) (HE : Hid (feL e (callsE r) = E))
    (B : Nat) (w : World) (h : PAt g u e m (.slice none 0 0) w) (hu : StrsIn B w u r) (hB : B ≤ g) :
    Calls Tryd.prog 40 #[.pointer (some ⟨g, 0, none⟩)] w fun q w' => q = .returned (.tuple #[]) ∧ ∃ u' vc', PAt g u' E m vc' w' ∧ CallsIn w'.heap.size w' vc' cs ∧ Gr g w w' := by
  obtain ⟨i0, hi, hz0, hz1, hz2⟩ := info_parts info_call
  have HP := Lib.hid h
  have HU := Lib.hid hu
  have hg := h.lt
  have c6 : w.cell? ⟨g, 6, none⟩ = some (.int .i64 m.kind) := h.cell 6 _ rfl
  clear h hu
  go_enter Tryd.func40, Tryd.ntmps40
  go_wp2_with (go_at_call 27; refine (used_c m.kind _).mono ?_)
  rintro q1 w1 ⟨rfl, b1⟩
  rw [show usesV m.kind = .agg #[.bool false, .bool false, .bool false, .bool false, .bool true] by simp only [usesV, hb1, hb2, hb3, hb4]]
  clear hb1 hb2 hb3 hb4 c6
  go_wp2_with fail
  have P1 : Hid (PAt g u e m (.slice none 0 0) (w1.alloc (.cells #[.bool false, .bool false, .bool false, .bool false, .bool true] 41))) := blk_bl HP.out (bl_next b1 (bl_alloc (bl_refl _) _))
  have G1 : Hid (Gr g w (w1.alloc (.cells #[.bool false, .bool false, .bool false, .bool false, .bool true] 41))) := gr_bl (bl_next b1 (bl_alloc (bl_refl _) _))
  have U1 := Lib.hid (HU.out.below ((bl_next b1 (bl_alloc (bl_refl w1) (.cells #[.bool false, .bool false, .bool false, .bool false, .bool true] 41))).mono (by omega)))
  have X1 := Lib.hid (heap_alloc_new w1 (.cells #[.bool false, .bool false, .bool false, .bool false, .bool true] 41))
  have hgu : g < w1.heap.size := Nat.lt_of_lt_of_le hg b1.size
  have hwu : w.heap.size ≤ w1.heap.size := b1.size
  generalize w1.alloc (.cells #[.bool false, .bool false, .bool false, .bool false, .bool true] 41) = w2 at P1 G1 U1 X1 ⊢
  generalize w1.heap.size = ub at X1 hgu hwu ⊢
  clear b1 HP HU
  go_loopw [84] (fun _ wr => ∃ (j : Nat) (u' vo : Value) (e' : Int), j ≤ r.length ∧ Hid (PAt g u' e' m vo wr) ∧ Hid (StrsIn B wr u' (r.drop j)) ∧ Hid (OwnC w.heap.size vo ((r.take j).map fun s => (readCall s).1) wr) ∧ Hid (feL e (callsE (r.take j)) = e') ∧ Hid (wr.heap[ub]? = some (.cells #[.bool false, .bool false, .bool false, .bool false, .bool true] 41 (0, 0))) ∧ Hid (Gr g w wr)) (fun _ wr => leftN g wr)
  case atStart => exact ⟨0, u, _, e, Nat.zero_le _, P1, U1, ownC_nil _ _, by show _ = _; rfl, X1, G1⟩
  case round =>
    obtain ⟨j, u', vo, e', hj, HPr, HUr, HOr, HEr, HXr, HGr⟩ := hrel
    by_cases hlt : j < r.length
    · obtain ⟨x, hx⟩ : ∃ x, r[j]? = some x := ⟨_, List.getElem?_eq_getElem hlt⟩
      have hdr : r.drop j = x :: r.drop (j + 1) := by
        obtain ⟨hk, rfl⟩ := List.getElem?_eq_some_iff.1 hx
        exact List.drop_eq_getElem_cons hk
      have hxl := hl.out x (List.mem_of_getElem? hx)
      rw [hdr] at HUr
      obtain ⟨⟨c, es⟩, HRC⟩ : ∃ p, Hid (readCall x = p) := ⟨_, rfl⟩
      have HT := Lib.hid (show (r.take (j + 1)).map (fun s => (readCall s).1) = (r.take j).map (fun s => (readCall s).1) ++ [c] by rw [take_next hx, List.map_append, ← (show (readCall x).1 = c by rw [HRC.out])]; rfl)
      have HE2 := Lib.hid (show feL e (callsE (r.take (j + 1))) = feL e' es by rw [take_next hx, callsE_snoc, feL_app, HEr.out, HRC.out])
      have hcl : ((r.take j).map fun s => (readCall s).1).length = j := by rw [List.length_map, List.length_take]; omega
      obtain ⟨cl, hcl2⟩ : ∃ cl, (r.take j).map (fun s => (readCall s).1) = cl := ⟨_, rfl⟩
      rw [hcl2] at HT hcl HOr
      clear hcl2 hdr hx
      have hub := lt_of_block HXr.out
      obtain ⟨pb, po, pc, rfl, l1, l2, l3, -⟩ := HUr.out.open (by simp)
      have k0 : wr.cell? ⟨g, 0, none⟩ = _ := HPr.out.cell 0 _ rfl
      have k14 : wr.cell? ⟨g, 14, none⟩ = some vo := HPr.out.cell 14 _ rfl
      have q4 : wr.cell? ⟨ub, 4, none⟩ = some (.bool true) := blk_cell HXr.out 4 _ rfl
      have hlp : (0 : Int) < ((r.drop (j + 1)).length : Int) + 1 := by omega
      have hML := leftN_at k0
      simp only [List.length_cons] at k0 l1 hML
      go_wp2_with fail
      have hgl := HPr.out.lt
      have OD := Lib.hid (show OwnC w.heap.size vo cl wr.drew from ownC_kept HOr.out (gr_bl (bl_drew (bl_refl _))) hg)
      subst hcl
      go_region_law (first
        | (refine step_append_lies _ (by rfl) _ _ _ (by rfl) w.heap.size 46 i0 _ 5 32 Tryd.underlying22 hi hz0 hz1 hz2 rfl (by omega) vo cl.length (cl.flatMap callCells) (by rfl) (World.ownsRow.alloc (ownC_kept (ownC_kept OD.out g2 hg) g3 hg) _) ⟨w3.heap.size, 0, none⟩ 1 1 (callCells c) (by rfl) (by rfl) (World.news_of_block (cs := #[.int .i64 c.stop, .int .i64 c.arrive, .int .i64 c.depart, .bool c.board, .bool c.alight]) (heap_alloc_new w3 _)) (by simp [callCells, Value.oneCell']) (by omega) (by unfold maxLen; omega) (by omega) (Nat.le_trans HGr.out.size (Nat.le_trans g2.size (Nat.le_trans g3.size (by simp)))) (w3.heap.size + 1) (by simp) ?_; intro gg cap w5 hown5 hgrow5 hat5 hlt5; have p5 := blk_growC (blk_bl p3 (bl_alloc (bl_refl _) _)) (World.ownsRow.alloc (ownC_kept (ownC_kept OD.out g2 hg) g3 hg) _) hgrow5 (by decide); have m14 := blk_cell p5 14 _ rfl; have n14 := Lib.frozen_of_heap p5 14)
        | (go_simp; go_at_call 66; refine (next_c g _ _ _ _ _ _ B _ (pat_drew HPr.out) (strs_drew HUr.out) hB).mono ?_; rintro y2 w2 ⟨rfl, u2, s2, p2, g2⟩; have k14b := p2.cell 14 _ rfl)
        | (go_simp; go_at_call 68; refine (call_c g _ _ _ _ _ x hxl c (by show _ = _; rw [HRC.out]) rfl _ p2).mono ?_; rintro y3 w3 ⟨rfl, p3, g3⟩; have k14c := p3.cell 14 _ rfl; have hg3 := p3.lt))
      all_goals
        have hsz3 : w.heap.size ≤ w3.heap.size := Nat.le_trans HGr.out.size (Nat.le_trans g2.size g3.size)
        have o3 := ownC_kept (ownC_kept OD.out g2 hg) g3 hg
        have PF : Hid (PAt g u2 (feL e' (readCall x).2) m (.slice (some ⟨gg, 0, none⟩) (cl.length + 1) cap) (w5.setCell ⟨g, 14, none⟩ (.slice (some ⟨gg, 0, none⟩) (cl.length + 1) cap))) := blk_set p5 14 _
        have OF := Lib.hid (ownC_set (g := g) (i := 14) (u := (.slice (some ⟨gg, 0, none⟩) (cl.length + 1) cap)) (ownC_app (c := c) hown5 rfl rfl) hg)
        have XF := Lib.hid ((Below.heap_setCell w5 ⟨g, 14, none⟩ (.slice (some ⟨gg, 0, none⟩) (cl.length + 1) cap) ub (by simp; omega)).trans (blk_growC (blk_bl ((gr_blk g3 (Nat.lt_of_lt_of_le hub g2.size) (by omega)).trans ((gr_blk g2 hub (by omega)).trans HXr.out)) (bl_alloc (bl_refl w3) _)) (World.ownsRow.alloc o3 _) hgrow5 (by decide)))
        have GF : Hid (Gr g w (w5.setCell ⟨g, 14, none⟩ (.slice (some ⟨gg, 0, none⟩) (cl.length + 1) cap))) := gr_next (gr_grow (gr_next HGr.out (gr_next (gr_bl (bl_drew (bl_refl _))) (gr_next g2 (gr_next g3 (gr_bl (bl_alloc (bl_refl _) _)))))) hgrow5 (fun k hk => (World.ownsRow.lt o3 k hk).1)) (gr_set g _ 14 _)
        have SF := Lib.hid (s2.below (Below.setCell (((gr_below g3 p2.lt hB).alloc (by have := p3.lt; omega) _).grown hgrow5 (by have := p3.lt; simp; omega) (fun k hk => by have := (World.ownsRow.lt o3 k hk).1; omega)) (p := ⟨g, 14, none⟩) hB (.slice (some ⟨gg, 0, none⟩) (cl.length + 1) cap)))
        have hlf : leftN g (w5.setCell ⟨g, 14, none⟩ (.slice (some ⟨gg, 0, none⟩) (cl.length + 1) cap)) = (r.drop (cl.length + 1)).length := by
          obtain ⟨au, cu, rfl, -⟩ := s2
          exact leftN_at (PF.out.cell 0 _ rfl)
        have HE3 := Lib.hid (show feL e (callsE (r.take (cl.length + 1))) = feL e' (readCall x).2 by rw [HE2.out, HRC.out])
        clear hown5 hgrow5 hat5 hlt5 p5 m14 n14 p3 g3 p2 s2 k14b k14c o3
        go_wp2
        go_roundw
        case rel => exact ⟨cl.length + 1, u2, _, _, by omega, PF, SF, by rw [HT.out]; exact OF, HE3, XF, GF⟩
        case measure => rw [hML, hlf]; omega
    · have HN := Lib.hid (show (r.take j) = r from List.take_of_length_le (by omega))
      rw [HN.out] at HEr HOr
      have hdl : r.drop j = [] := List.drop_eq_nil_of_le (by omega)
      rw [hdl] at HUr
      obtain ⟨a0, c0, rfl, -⟩ := HUr.out
      have k0 : wr.cell? ⟨g, 0, none⟩ = _ := HPr.out.cell 0 _ rfl
      have q4 : wr.cell? ⟨ub, 4, none⟩ = some (.bool true) := blk_cell HXr.out 4 _ rfl
      simp only [List.length_nil] at k0
      go_wp2
      go_end0
      exact ⟨rfl, _, vo, by rw [← HE.out, HEr.out]; exact HPr.out, by rw [← HC.out]; exact ownC_in HOr.out, HGr.out⟩
set_option maxRecDepth 20000 in
set_option maxHeartbeats 8000000 in
theorem tail_add_yes (g : Nat) (u : Value) (e E : Int) (m : MsgD) (f8 : List UInt8) (n8 e8 : Int) (r : List (List UInt8)) (cs : List CallD) (hb1 : uCall m.kind = false) (hb2 : uSecs m.kind = false) (hb3 : uRoute m.kind = true) (hb4 : uCalls m.kind = true)
    (H8 : Hid (parse f8 = (n8, e8))) (hl8 : f8.length ≤ 9223372036854775807) (HC : Hid ((r.map fun s => (readCall s).1) = cs)) (hr : r.length ≤ 100) (hl : Hid (∀ x ∈ r, x.length ≤ 131072)) (HE : Hid (feL (fe (fe e e8) 0) (callsE r) = E))
    (B : Nat) (w : World) (h : PAt g u e m (.slice none 0 0) w) (hu : StrsIn B w u (f8 :: [121, 101, 115] :: r)) (hB : B ≤ g) :
    Calls Tryd.prog 40 #[.pointer (some ⟨g, 0, none⟩)] w fun q w' => q = .returned (.tuple #[]) ∧ ∃ u' vc', PAt g u' E { { m with route := n8 } with step := true } vc' w' ∧ CallsIn w'.heap.size w' vc' cs ∧ Gr g w w' := by
  obtain ⟨i0, hi, hz0, hz1, hz2⟩ := info_parts info_call
  have HP := Lib.hid h
  have HU := Lib.hid hu
  have hg := h.lt
  have c6 : w.cell? ⟨g, 6, none⟩ = some (.int .i64 m.kind) := h.cell 6 _ rfl
  clear h hu
  go_enter Tryd.func40, Tryd.ntmps40
  go_wp2_with (go_at_call 27; refine (used_c m.kind _).mono ?_)
  rintro q1 w1 ⟨rfl, b1⟩
  rw [show usesV m.kind = .agg #[.bool false, .bool false, .bool true, .bool true, .bool true] by simp only [usesV, hb1, hb2, hb3, hb4]]
  clear hb1 hb2 hb3 hb4 c6
  go_wp2_with fail
  have P1 : Hid (PAt g u e m (.slice none 0 0) (w1.alloc (.cells #[.bool false, .bool false, .bool true, .bool true, .bool true] 41))) := blk_bl HP.out (bl_next b1 (bl_alloc (bl_refl _) _))
  have G1 : Hid (Gr g w (w1.alloc (.cells #[.bool false, .bool false, .bool true, .bool true, .bool true] 41))) := gr_bl (bl_next b1 (bl_alloc (bl_refl _) _))
  have U1 := Lib.hid (HU.out.below ((bl_next b1 (bl_alloc (bl_refl w1) (.cells #[.bool false, .bool false, .bool true, .bool true, .bool true] 41))).mono (by omega)))
  have X1 := Lib.hid (heap_alloc_new w1 (.cells #[.bool false, .bool false, .bool true, .bool true, .bool true] 41))
  have hgu : g < w1.heap.size := Nat.lt_of_lt_of_le hg b1.size
  have hwu : w.heap.size ≤ w1.heap.size := b1.size
  generalize w1.alloc (.cells #[.bool false, .bool false, .bool true, .bool true, .bool true] 41) = w2 at P1 G1 U1 X1 ⊢
  generalize w1.heap.size = ub at X1 hgu hwu ⊢
  clear b1 HP HU
  go_region_held3 (fun w' => True) (exact trivial)
    (first
      | (go_at_call 66; refine (next_c g _ _ _ _ _ _ B _ (pat_drew P1.out) (strs_drew U1.out) hB).mono ?_; rintro q8 v8 ⟨rfl, u8, s8, p8, g8⟩)
      | (go_at_call 65; refine (integer_c g _ _ _ _ _ _ H8 hl8 rfl _ _ _ p8).mono ?_; rintro r8 y8 ⟨rfl, pp8, gg8⟩; have cc8 := pp8.cell 12 _ rfl; have ff8 := pp8.free 12))
  have P8a : Hid (PAt g u8 (fe e e8) { m with route := n8 } (.slice none 0 0) (y8.setCell ⟨g, 12, none⟩ (.int .i64 n8))) := blk_set pp8 12 _
  have G8a : Hid (Gr g w (y8.setCell ⟨g, 12, none⟩ (.int .i64 n8))) := gr_next G1.out (gr_next (gr_bl (bl_drew (bl_refl _))) (gr_next g8 (gr_next gg8 (gr_set g _ 12 _))))
  have U8a := Lib.hid (s8.below (gr_below (gr_next gg8 (gr_set g _ 12 (.int .i64 n8))) p8.lt hB))
  have X8a : Hid ((y8.setCell ⟨g, 12, none⟩ (.int .i64 n8)).heap[ub]? = some (.cells #[.bool false, .bool false, .bool true, .bool true, .bool true] 41 (0, 0))) := (Below.heap_setCell y8 ⟨g, 12, none⟩ (.int .i64 n8) ub (by simp; omega)).trans ((gr_blk gg8 (Nat.lt_of_lt_of_le (show ub < w2.heap.size from lt_of_block X1.out) g8.size) (by omega)).trans ((gr_blk g8 (show ub < w2.heap.size from lt_of_block X1.out) (by omega)).trans X1.out))
  generalize y8.setCell ⟨g, 12, none⟩ (.int .i64 n8) = W8 at P8a G8a U8a X8a ⊢
  clear cc8 ff8 s8 p8 g8 pp8 gg8 P1 G1 U1 X1
  have q3 : W8.cell? ⟨ub, 3, none⟩ = some (.bool true) := blk_cell X8a.out 3 _ rfl
  go_wp2_with fail
  go_wp2_with (go_at_call 66; refine (next_c g _ _ _ _ _ _ B _ P8a.out U8a.out hB).mono ?_)
  rintro q9 w9 ⟨rfl, u9, s9, p9, g9⟩
  have c13 := p9.cell 13 _ rfl
  have f13 := p9.free 13
  have P9a : Hid (PAt g u9 (fe e e8) { { m with route := n8 } with step := true } (.slice none 0 0) (w9.setCell ⟨g, 13, none⟩ (.bool true))) := blk_set p9 13 _
  have G9a : Hid (Gr g w (w9.setCell ⟨g, 13, none⟩ (.bool true))) := gr_next G8a.out (gr_next g9 (gr_set g _ 13 _))
  have U9a := Lib.hid (s9.below (gr_below (gr_set g _ 13 (.bool true)) p9.lt hB))
  have X9a : Hid ((w9.setCell ⟨g, 13, none⟩ (.bool true)).heap[ub]? = some (.cells #[.bool false, .bool false, .bool true, .bool true, .bool true] 41 (0, 0))) := (Below.heap_setCell w9 ⟨g, 13, none⟩ (.bool true) ub (by simp; omega)).trans ((gr_blk g9 (show ub < W8.heap.size from lt_of_block X8a.out) (by omega)).trans X8a.out)
  clear s9 p9 g9 P8a G8a U8a X8a
  go_wp2_with fail
  have hE9 : fe (fe e e8) 0 = (fe e e8) := by generalize (fe e e8) = z; unfold fe; split <;> simp_all
  rw [← hE9] at P9a
  clear hE9
  generalize (w9.setCell ⟨g, 13, none⟩ (.bool true)) = W9 at P9a G9a U9a X9a ⊢
  go_loopw [84] (fun _ wr => ∃ (j : Nat) (u' vo : Value) (e' : Int), j ≤ r.length ∧ Hid (PAt g u' e' { { m with route := n8 } with step := true } vo wr) ∧ Hid (StrsIn B wr u' (r.drop j)) ∧ Hid (OwnC w.heap.size vo ((r.take j).map fun s => (readCall s).1) wr) ∧ Hid (feL (fe (fe e e8) 0) (callsE (r.take j)) = e') ∧ Hid (wr.heap[ub]? = some (.cells #[.bool false, .bool false, .bool true, .bool true, .bool true] 41 (0, 0))) ∧ Hid (Gr g w wr)) (fun _ wr => leftN g wr)
  case atStart => exact ⟨0, u9, _, (fe (fe e e8) 0), Nat.zero_le _, P9a, U9a, ownC_nil _ _, by show _ = _; rfl, X9a, G9a⟩
  case round =>
    obtain ⟨j, u', vo, e', hj, HPr, HUr, HOr, HEr, HXr, HGr⟩ := hrel
    by_cases hlt : j < r.length
    · obtain ⟨x, hx⟩ : ∃ x, r[j]? = some x := ⟨_, List.getElem?_eq_getElem hlt⟩
      have hdr : r.drop j = x :: r.drop (j + 1) := by
        obtain ⟨hk, rfl⟩ := List.getElem?_eq_some_iff.1 hx
        exact List.drop_eq_getElem_cons hk
      have hxl := hl.out x (List.mem_of_getElem? hx)
      rw [hdr] at HUr
      obtain ⟨⟨c, es⟩, HRC⟩ : ∃ p, Hid (readCall x = p) := ⟨_, rfl⟩
      have HT := Lib.hid (show (r.take (j + 1)).map (fun s => (readCall s).1) = (r.take j).map (fun s => (readCall s).1) ++ [c] by rw [take_next hx, List.map_append, ← (show (readCall x).1 = c by rw [HRC.out])]; rfl)
      have HE2 := Lib.hid (show feL (fe (fe e e8) 0) (callsE (r.take (j + 1))) = feL e' es by rw [take_next hx, callsE_snoc, feL_app, HEr.out, HRC.out])
      have hcl : ((r.take j).map fun s => (readCall s).1).length = j := by rw [List.length_map, List.length_take]; omega
      obtain ⟨cl, hcl2⟩ : ∃ cl, (r.take j).map (fun s => (readCall s).1) = cl := ⟨_, rfl⟩
      rw [hcl2] at HT hcl HOr
      clear hcl2 hdr hx
      have hub := lt_of_block HXr.out
      obtain ⟨pb, po, pc, rfl, l1, l2, l3, -⟩ := HUr.out.open (by simp)
      have k0 : wr.cell? ⟨g, 0, none⟩ = _ := HPr.out.cell 0 _ rfl
      have k14 : wr.cell? ⟨g, 14, none⟩ = some vo := HPr.out.cell 14 _ rfl
      have q4 : wr.cell? ⟨ub, 4, none⟩ = some (.bool true) := blk_cell HXr.out 4 _ rfl
      have hlp : (0 : Int) < ((r.drop (j + 1)).length : Int) + 1 := by omega
      have hML := leftN_at k0
      simp only [List.length_cons] at k0 l1 hML
      go_wp2_with fail
      have hgl := HPr.out.lt
      have OD := Lib.hid (show OwnC w.heap.size vo cl wr.drew from ownC_kept HOr.out (gr_bl (bl_drew (bl_refl _))) hg)
      subst hcl
      go_region_law (first
        | (refine step_append_lies _ (by rfl) _ _ _ (by rfl) w.heap.size 46 i0 _ 5 32 Tryd.underlying22 hi hz0 hz1 hz2 rfl (by omega) vo cl.length (cl.flatMap callCells) (by rfl) (World.ownsRow.alloc (ownC_kept (ownC_kept OD.out g2 hg) g3 hg) _) ⟨w3.heap.size, 0, none⟩ 1 1 (callCells c) (by rfl) (by rfl) (World.news_of_block (cs := #[.int .i64 c.stop, .int .i64 c.arrive, .int .i64 c.depart, .bool c.board, .bool c.alight]) (heap_alloc_new w3 _)) (by simp [callCells, Value.oneCell']) (by omega) (by unfold maxLen; omega) (by omega) (Nat.le_trans HGr.out.size (Nat.le_trans g2.size (Nat.le_trans g3.size (by simp)))) (w3.heap.size + 1) (by simp) ?_; intro gg cap w5 hown5 hgrow5 hat5 hlt5; have p5 := blk_growC (blk_bl p3 (bl_alloc (bl_refl _) _)) (World.ownsRow.alloc (ownC_kept (ownC_kept OD.out g2 hg) g3 hg) _) hgrow5 (by decide); have m14 := blk_cell p5 14 _ rfl; have n14 := Lib.frozen_of_heap p5 14)
        | (go_simp; go_at_call 66; refine (next_c g _ _ _ _ _ _ B _ (pat_drew HPr.out) (strs_drew HUr.out) hB).mono ?_; rintro y2 w2 ⟨rfl, u2, s2, p2, g2⟩; have k14b := p2.cell 14 _ rfl)
        | (go_simp; go_at_call 68; refine (call_c g _ _ _ _ _ x hxl c (by show _ = _; rw [HRC.out]) rfl _ p2).mono ?_; rintro y3 w3 ⟨rfl, p3, g3⟩; have k14c := p3.cell 14 _ rfl; have hg3 := p3.lt))
      all_goals
        have hsz3 : w.heap.size ≤ w3.heap.size := Nat.le_trans HGr.out.size (Nat.le_trans g2.size g3.size)
        have o3 := ownC_kept (ownC_kept OD.out g2 hg) g3 hg
        have PF : Hid (PAt g u2 (feL e' (readCall x).2) { { m with route := n8 } with step := true } (.slice (some ⟨gg, 0, none⟩) (cl.length + 1) cap) (w5.setCell ⟨g, 14, none⟩ (.slice (some ⟨gg, 0, none⟩) (cl.length + 1) cap))) := blk_set p5 14 _
        have OF := Lib.hid (ownC_set (g := g) (i := 14) (u := (.slice (some ⟨gg, 0, none⟩) (cl.length + 1) cap)) (ownC_app (c := c) hown5 rfl rfl) hg)
        have XF := Lib.hid ((Below.heap_setCell w5 ⟨g, 14, none⟩ (.slice (some ⟨gg, 0, none⟩) (cl.length + 1) cap) ub (by simp; omega)).trans (blk_growC (blk_bl ((gr_blk g3 (Nat.lt_of_lt_of_le hub g2.size) (by omega)).trans ((gr_blk g2 hub (by omega)).trans HXr.out)) (bl_alloc (bl_refl w3) _)) (World.ownsRow.alloc o3 _) hgrow5 (by decide)))
        have GF : Hid (Gr g w (w5.setCell ⟨g, 14, none⟩ (.slice (some ⟨gg, 0, none⟩) (cl.length + 1) cap))) := gr_next (gr_grow (gr_next HGr.out (gr_next (gr_bl (bl_drew (bl_refl _))) (gr_next g2 (gr_next g3 (gr_bl (bl_alloc (bl_refl _) _)))))) hgrow5 (fun k hk => (World.ownsRow.lt o3 k hk).1)) (gr_set g _ 14 _)
        have SF := Lib.hid (s2.below (Below.setCell (((gr_below g3 p2.lt hB).alloc (by have := p3.lt; omega) _).grown hgrow5 (by have := p3.lt; simp; omega) (fun k hk => by have := (World.ownsRow.lt o3 k hk).1; omega)) (p := ⟨g, 14, none⟩) hB (.slice (some ⟨gg, 0, none⟩) (cl.length + 1) cap)))
        have hlf : leftN g (w5.setCell ⟨g, 14, none⟩ (.slice (some ⟨gg, 0, none⟩) (cl.length + 1) cap)) = (r.drop (cl.length + 1)).length := by
          obtain ⟨au, cu, rfl, -⟩ := s2
          exact leftN_at (PF.out.cell 0 _ rfl)
        have HE3 := Lib.hid (show feL (fe (fe e e8) 0) (callsE (r.take (cl.length + 1))) = feL e' (readCall x).2 by rw [HE2.out, HRC.out])
        clear hown5 hgrow5 hat5 hlt5 p5 m14 n14 p3 g3 p2 s2 k14b k14c o3
        go_wp2
        go_roundw
        case rel => exact ⟨cl.length + 1, u2, _, _, by omega, PF, SF, by rw [HT.out]; exact OF, HE3, XF, GF⟩
        case measure => rw [hML, hlf]; omega
    · have HN := Lib.hid (show (r.take j) = r from List.take_of_length_le (by omega))
      rw [HN.out] at HEr HOr
      have hdl : r.drop j = [] := List.drop_eq_nil_of_le (by omega)
      rw [hdl] at HUr
      obtain ⟨a0, c0, rfl, -⟩ := HUr.out
      have k0 : wr.cell? ⟨g, 0, none⟩ = _ := HPr.out.cell 0 _ rfl
      have q4 : wr.cell? ⟨ub, 4, none⟩ = some (.bool true) := blk_cell HXr.out 4 _ rfl
      simp only [List.length_nil] at k0
      go_wp2
      go_end0
      exact ⟨rfl, _, vo, by rw [← HE.out, HEr.out]; exact HPr.out, by rw [← HC.out]; exact ownC_in HOr.out, HGr.out⟩
set_option maxRecDepth 20000 in
set_option maxHeartbeats 8000000 in
theorem tail_add_no (g : Nat) (u : Value) (e E : Int) (m : MsgD) (f8 : List UInt8) (n8 e8 : Int) (r : List (List UInt8)) (cs : List CallD) (hb1 : uCall m.kind = false) (hb2 : uSecs m.kind = false) (hb3 : uRoute m.kind = true) (hb4 : uCalls m.kind = true)
    (H8 : Hid (parse f8 = (n8, e8))) (hl8 : f8.length ≤ 9223372036854775807) (HC : Hid ((r.map fun s => (readCall s).1) = cs)) (hr : r.length ≤ 100) (hl : Hid (∀ x ∈ r, x.length ≤ 131072)) (HE : Hid (feL (fe (fe e e8) 0) (callsE r) = E))
    (B : Nat) (w : World) (h : PAt g u e m (.slice none 0 0) w) (hu : StrsIn B w u (f8 :: [110, 111] :: r)) (hB : B ≤ g) :
    Calls Tryd.prog 40 #[.pointer (some ⟨g, 0, none⟩)] w fun q w' => q = .returned (.tuple #[]) ∧ ∃ u' vc', PAt g u' E { { m with route := n8 } with step := false } vc' w' ∧ CallsIn w'.heap.size w' vc' cs ∧ Gr g w w' := by
  obtain ⟨i0, hi, hz0, hz1, hz2⟩ := info_parts info_call
  have HP := Lib.hid h
  have HU := Lib.hid hu
  have hg := h.lt
  have c6 : w.cell? ⟨g, 6, none⟩ = some (.int .i64 m.kind) := h.cell 6 _ rfl
  clear h hu
  go_enter Tryd.func40, Tryd.ntmps40
  go_wp2_with (go_at_call 27; refine (used_c m.kind _).mono ?_)
  rintro q1 w1 ⟨rfl, b1⟩
  rw [show usesV m.kind = .agg #[.bool false, .bool false, .bool true, .bool true, .bool true] by simp only [usesV, hb1, hb2, hb3, hb4]]
  clear hb1 hb2 hb3 hb4 c6
  go_wp2_with fail
  have P1 : Hid (PAt g u e m (.slice none 0 0) (w1.alloc (.cells #[.bool false, .bool false, .bool true, .bool true, .bool true] 41))) := blk_bl HP.out (bl_next b1 (bl_alloc (bl_refl _) _))
  have G1 : Hid (Gr g w (w1.alloc (.cells #[.bool false, .bool false, .bool true, .bool true, .bool true] 41))) := gr_bl (bl_next b1 (bl_alloc (bl_refl _) _))
  have U1 := Lib.hid (HU.out.below ((bl_next b1 (bl_alloc (bl_refl w1) (.cells #[.bool false, .bool false, .bool true, .bool true, .bool true] 41))).mono (by omega)))
  have X1 := Lib.hid (heap_alloc_new w1 (.cells #[.bool false, .bool false, .bool true, .bool true, .bool true] 41))
  have hgu : g < w1.heap.size := Nat.lt_of_lt_of_le hg b1.size
  have hwu : w.heap.size ≤ w1.heap.size := b1.size
  generalize w1.alloc (.cells #[.bool false, .bool false, .bool true, .bool true, .bool true] 41) = w2 at P1 G1 U1 X1 ⊢
  generalize w1.heap.size = ub at X1 hgu hwu ⊢
  clear b1 HP HU
  go_region_held3 (fun w' => True) (exact trivial)
    (first
      | (go_at_call 66; refine (next_c g _ _ _ _ _ _ B _ (pat_drew P1.out) (strs_drew U1.out) hB).mono ?_; rintro q8 v8 ⟨rfl, u8, s8, p8, g8⟩)
      | (go_at_call 65; refine (integer_c g _ _ _ _ _ _ H8 hl8 rfl _ _ _ p8).mono ?_; rintro r8 y8 ⟨rfl, pp8, gg8⟩; have cc8 := pp8.cell 12 _ rfl; have ff8 := pp8.free 12))
  have P8a : Hid (PAt g u8 (fe e e8) { m with route := n8 } (.slice none 0 0) (y8.setCell ⟨g, 12, none⟩ (.int .i64 n8))) := blk_set pp8 12 _
  have G8a : Hid (Gr g w (y8.setCell ⟨g, 12, none⟩ (.int .i64 n8))) := gr_next G1.out (gr_next (gr_bl (bl_drew (bl_refl _))) (gr_next g8 (gr_next gg8 (gr_set g _ 12 _))))
  have U8a := Lib.hid (s8.below (gr_below (gr_next gg8 (gr_set g _ 12 (.int .i64 n8))) p8.lt hB))
  have X8a : Hid ((y8.setCell ⟨g, 12, none⟩ (.int .i64 n8)).heap[ub]? = some (.cells #[.bool false, .bool false, .bool true, .bool true, .bool true] 41 (0, 0))) := (Below.heap_setCell y8 ⟨g, 12, none⟩ (.int .i64 n8) ub (by simp; omega)).trans ((gr_blk gg8 (Nat.lt_of_lt_of_le (show ub < w2.heap.size from lt_of_block X1.out) g8.size) (by omega)).trans ((gr_blk g8 (show ub < w2.heap.size from lt_of_block X1.out) (by omega)).trans X1.out))
  generalize y8.setCell ⟨g, 12, none⟩ (.int .i64 n8) = W8 at P8a G8a U8a X8a ⊢
  clear cc8 ff8 s8 p8 g8 pp8 gg8 P1 G1 U1 X1
  have q3 : W8.cell? ⟨ub, 3, none⟩ = some (.bool true) := blk_cell X8a.out 3 _ rfl
  go_wp2_with fail
  go_wp2_with (go_at_call 66; refine (next_c g _ _ _ _ _ _ B _ P8a.out U8a.out hB).mono ?_)
  rintro q9 w9 ⟨rfl, u9, s9, p9, g9⟩
  have c13 := p9.cell 13 _ rfl
  have f13 := p9.free 13
  have P9a : Hid (PAt g u9 (fe e e8) { { m with route := n8 } with step := false } (.slice none 0 0) (w9.setCell ⟨g, 13, none⟩ (.bool false))) := blk_set p9 13 _
  have G9a : Hid (Gr g w (w9.setCell ⟨g, 13, none⟩ (.bool false))) := gr_next G8a.out (gr_next g9 (gr_set g _ 13 _))
  have U9a := Lib.hid (s9.below (gr_below (gr_set g _ 13 (.bool false)) p9.lt hB))
  have X9a : Hid ((w9.setCell ⟨g, 13, none⟩ (.bool false)).heap[ub]? = some (.cells #[.bool false, .bool false, .bool true, .bool true, .bool true] 41 (0, 0))) := (Below.heap_setCell w9 ⟨g, 13, none⟩ (.bool false) ub (by simp; omega)).trans ((gr_blk g9 (show ub < W8.heap.size from lt_of_block X8a.out) (by omega)).trans X8a.out)
  clear s9 p9 g9 P8a G8a U8a X8a
  go_wp2_with fail
  have hE9 : fe (fe e e8) 0 = (fe e e8) := by generalize (fe e e8) = z; unfold fe; split <;> simp_all
  rw [← hE9] at P9a
  clear hE9
  generalize (w9.setCell ⟨g, 13, none⟩ (.bool false)) = W9 at P9a G9a U9a X9a ⊢
  go_loopw [84] (fun _ wr => ∃ (j : Nat) (u' vo : Value) (e' : Int), j ≤ r.length ∧ Hid (PAt g u' e' { { m with route := n8 } with step := false } vo wr) ∧ Hid (StrsIn B wr u' (r.drop j)) ∧ Hid (OwnC w.heap.size vo ((r.take j).map fun s => (readCall s).1) wr) ∧ Hid (feL (fe (fe e e8) 0) (callsE (r.take j)) = e') ∧ Hid (wr.heap[ub]? = some (.cells #[.bool false, .bool false, .bool true, .bool true, .bool true] 41 (0, 0))) ∧ Hid (Gr g w wr)) (fun _ wr => leftN g wr)
  case atStart => exact ⟨0, u9, _, (fe (fe e e8) 0), Nat.zero_le _, P9a, U9a, ownC_nil _ _, by show _ = _; rfl, X9a, G9a⟩
  case round =>
    obtain ⟨j, u', vo, e', hj, HPr, HUr, HOr, HEr, HXr, HGr⟩ := hrel
    by_cases hlt : j < r.length
    · obtain ⟨x, hx⟩ : ∃ x, r[j]? = some x := ⟨_, List.getElem?_eq_getElem hlt⟩
      have hdr : r.drop j = x :: r.drop (j + 1) := by
        obtain ⟨hk, rfl⟩ := List.getElem?_eq_some_iff.1 hx
        exact List.drop_eq_getElem_cons hk
      have hxl := hl.out x (List.mem_of_getElem? hx)
      rw [hdr] at HUr
      obtain ⟨⟨c, es⟩, HRC⟩ : ∃ p, Hid (readCall x = p) := ⟨_, rfl⟩
      have HT := Lib.hid (show (r.take (j + 1)).map (fun s => (readCall s).1) = (r.take j).map (fun s => (readCall s).1) ++ [c] by rw [take_next hx, List.map_append, ← (show (readCall x).1 = c by rw [HRC.out])]; rfl)
      have HE2 := Lib.hid (show feL (fe (fe e e8) 0) (callsE (r.take (j + 1))) = feL e' es by rw [take_next hx, callsE_snoc, feL_app, HEr.out, HRC.out])
      have hcl : ((r.take j).map fun s => (readCall s).1).length = j := by rw [List.length_map, List.length_take]; omega
      obtain ⟨cl, hcl2⟩ : ∃ cl, (r.take j).map (fun s => (readCall s).1) = cl := ⟨_, rfl⟩
      rw [hcl2] at HT hcl HOr
      clear hcl2 hdr hx
      have hub := lt_of_block HXr.out
      obtain ⟨pb, po, pc, rfl, l1, l2, l3, -⟩ := HUr.out.open (by simp)
      have k0 : wr.cell? ⟨g, 0, none⟩ = _ := HPr.out.cell 0 _ rfl
      have k14 : wr.cell? ⟨g, 14, none⟩ = some vo := HPr.out.cell 14 _ rfl
      have q4 : wr.cell? ⟨ub, 4, none⟩ = some (.bool true) := blk_cell HXr.out 4 _ rfl
      have hlp : (0 : Int) < ((r.drop (j + 1)).length : Int) + 1 := by omega
      have hML := leftN_at k0
      simp only [List.length_cons] at k0 l1 hML
      go_wp2_with fail
      have hgl := HPr.out.lt
      have OD := Lib.hid (show OwnC w.heap.size vo cl wr.drew from ownC_kept HOr.out (gr_bl (bl_drew (bl_refl _))) hg)
      subst hcl
      go_region_law (first
        | (refine step_append_lies _ (by rfl) _ _ _ (by rfl) w.heap.size 46 i0 _ 5 32 Tryd.underlying22 hi hz0 hz1 hz2 rfl (by omega) vo cl.length (cl.flatMap callCells) (by rfl) (World.ownsRow.alloc (ownC_kept (ownC_kept OD.out g2 hg) g3 hg) _) ⟨w3.heap.size, 0, none⟩ 1 1 (callCells c) (by rfl) (by rfl) (World.news_of_block (cs := #[.int .i64 c.stop, .int .i64 c.arrive, .int .i64 c.depart, .bool c.board, .bool c.alight]) (heap_alloc_new w3 _)) (by simp [callCells, Value.oneCell']) (by omega) (by unfold maxLen; omega) (by omega) (Nat.le_trans HGr.out.size (Nat.le_trans g2.size (Nat.le_trans g3.size (by simp)))) (w3.heap.size + 1) (by simp) ?_; intro gg cap w5 hown5 hgrow5 hat5 hlt5; have p5 := blk_growC (blk_bl p3 (bl_alloc (bl_refl _) _)) (World.ownsRow.alloc (ownC_kept (ownC_kept OD.out g2 hg) g3 hg) _) hgrow5 (by decide); have m14 := blk_cell p5 14 _ rfl; have n14 := Lib.frozen_of_heap p5 14)
        | (go_simp; go_at_call 66; refine (next_c g _ _ _ _ _ _ B _ (pat_drew HPr.out) (strs_drew HUr.out) hB).mono ?_; rintro y2 w2 ⟨rfl, u2, s2, p2, g2⟩; have k14b := p2.cell 14 _ rfl)
        | (go_simp; go_at_call 68; refine (call_c g _ _ _ _ _ x hxl c (by show _ = _; rw [HRC.out]) rfl _ p2).mono ?_; rintro y3 w3 ⟨rfl, p3, g3⟩; have k14c := p3.cell 14 _ rfl; have hg3 := p3.lt))
      all_goals
        have hsz3 : w.heap.size ≤ w3.heap.size := Nat.le_trans HGr.out.size (Nat.le_trans g2.size g3.size)
        have o3 := ownC_kept (ownC_kept OD.out g2 hg) g3 hg
        have PF : Hid (PAt g u2 (feL e' (readCall x).2) { { m with route := n8 } with step := false } (.slice (some ⟨gg, 0, none⟩) (cl.length + 1) cap) (w5.setCell ⟨g, 14, none⟩ (.slice (some ⟨gg, 0, none⟩) (cl.length + 1) cap))) := blk_set p5 14 _
        have OF := Lib.hid (ownC_set (g := g) (i := 14) (u := (.slice (some ⟨gg, 0, none⟩) (cl.length + 1) cap)) (ownC_app (c := c) hown5 rfl rfl) hg)
        have XF := Lib.hid ((Below.heap_setCell w5 ⟨g, 14, none⟩ (.slice (some ⟨gg, 0, none⟩) (cl.length + 1) cap) ub (by simp; omega)).trans (blk_growC (blk_bl ((gr_blk g3 (Nat.lt_of_lt_of_le hub g2.size) (by omega)).trans ((gr_blk g2 hub (by omega)).trans HXr.out)) (bl_alloc (bl_refl w3) _)) (World.ownsRow.alloc o3 _) hgrow5 (by decide)))
        have GF : Hid (Gr g w (w5.setCell ⟨g, 14, none⟩ (.slice (some ⟨gg, 0, none⟩) (cl.length + 1) cap))) := gr_next (gr_grow (gr_next HGr.out (gr_next (gr_bl (bl_drew (bl_refl _))) (gr_next g2 (gr_next g3 (gr_bl (bl_alloc (bl_refl _) _)))))) hgrow5 (fun k hk => (World.ownsRow.lt o3 k hk).1)) (gr_set g _ 14 _)
        have SF := Lib.hid (s2.below (Below.setCell (((gr_below g3 p2.lt hB).alloc (by have := p3.lt; omega) _).grown hgrow5 (by have := p3.lt; simp; omega) (fun k hk => by have := (World.ownsRow.lt o3 k hk).1; omega)) (p := ⟨g, 14, none⟩) hB (.slice (some ⟨gg, 0, none⟩) (cl.length + 1) cap)))
        have hlf : leftN g (w5.setCell ⟨g, 14, none⟩ (.slice (some ⟨gg, 0, none⟩) (cl.length + 1) cap)) = (r.drop (cl.length + 1)).length := by
          obtain ⟨au, cu, rfl, -⟩ := s2
          exact leftN_at (PF.out.cell 0 _ rfl)
        have HE3 := Lib.hid (show feL (fe (fe e e8) 0) (callsE (r.take (cl.length + 1))) = feL e' (readCall x).2 by rw [HE2.out, HRC.out])
        clear hown5 hgrow5 hat5 hlt5 p5 m14 n14 p3 g3 p2 s2 k14b k14c o3
        go_wp2
        go_roundw
        case rel => exact ⟨cl.length + 1, u2, _, _, by omega, PF, SF, by rw [HT.out]; exact OF, HE3, XF, GF⟩
        case measure => rw [hML, hlf]; omega
    · have HN := Lib.hid (show (r.take j) = r from List.take_of_length_le (by omega))
      rw [HN.out] at HEr HOr
      have hdl : r.drop j = [] := List.drop_eq_nil_of_le (by omega)
      rw [hdl] at HUr
      obtain ⟨a0, c0, rfl, -⟩ := HUr.out
      have k0 : wr.cell? ⟨g, 0, none⟩ = _ := HPr.out.cell 0 _ rfl
      have q4 : wr.cell? ⟨ub, 4, none⟩ = some (.bool true) := blk_cell HXr.out 4 _ rfl
      simp only [List.length_nil] at k0
      go_wp2
      go_end0
      exact ⟨rfl, _, vo, by rw [← HE.out, HEr.out]; exact HPr.out, by rw [← HC.out]; exact ownC_in HOr.out, HGr.out⟩
set_option maxRecDepth 20000 in
set_option maxHeartbeats 8000000 in
theorem tail_add_other (g : Nat) (u : Value) (e E : Int) (m : MsgD) (f8 : List UInt8) (n8 e8 : Int) (r : List (List UInt8)) (cs : List CallD) (f9 : List UInt8) (ny : (f9 == [121, 101, 115]) = false) (nn : (f9 == [110, 111]) = false) (hb1 : uCall m.kind = false) (hb2 : uSecs m.kind = false) (hb3 : uRoute m.kind = true) (hb4 : uCalls m.kind = true)
    (H8 : Hid (parse f8 = (n8, e8))) (hl8 : f8.length ≤ 9223372036854775807) (HC : Hid ((r.map fun s => (readCall s).1) = cs)) (hr : r.length ≤ 100) (hl : Hid (∀ x ∈ r, x.length ≤ 131072)) (HE : Hid (feL (fe (fe e e8) 3) (callsE r) = E))
    (B : Nat) (w : World) (h : PAt g u e m (.slice none 0 0) w) (hu : StrsIn B w u (f8 :: f9 :: r)) (hB : B ≤ g) :
    Calls Tryd.prog 40 #[.pointer (some ⟨g, 0, none⟩)] w fun q w' => q = .returned (.tuple #[]) ∧ ∃ u' vc', PAt g u' E { { m with route := n8 } with step := false } vc' w' ∧ CallsIn w'.heap.size w' vc' cs ∧ Gr g w w' := by
  obtain ⟨i0, hi, hz0, hz1, hz2⟩ := info_parts info_call
  have HP := Lib.hid h
  have HU := Lib.hid hu
  have hg := h.lt
  have c6 : w.cell? ⟨g, 6, none⟩ = some (.int .i64 m.kind) := h.cell 6 _ rfl
  clear h hu
  go_enter Tryd.func40, Tryd.ntmps40
  go_wp2_with (go_at_call 27; refine (used_c m.kind _).mono ?_)
  rintro q1 w1 ⟨rfl, b1⟩
  rw [show usesV m.kind = .agg #[.bool false, .bool false, .bool true, .bool true, .bool true] by simp only [usesV, hb1, hb2, hb3, hb4]]
  clear hb1 hb2 hb3 hb4 c6
  go_wp2_with fail
  have P1 : Hid (PAt g u e m (.slice none 0 0) (w1.alloc (.cells #[.bool false, .bool false, .bool true, .bool true, .bool true] 41))) := blk_bl HP.out (bl_next b1 (bl_alloc (bl_refl _) _))
  have G1 : Hid (Gr g w (w1.alloc (.cells #[.bool false, .bool false, .bool true, .bool true, .bool true] 41))) := gr_bl (bl_next b1 (bl_alloc (bl_refl _) _))
  have U1 := Lib.hid (HU.out.below ((bl_next b1 (bl_alloc (bl_refl w1) (.cells #[.bool false, .bool false, .bool true, .bool true, .bool true] 41))).mono (by omega)))
  have X1 := Lib.hid (heap_alloc_new w1 (.cells #[.bool false, .bool false, .bool true, .bool true, .bool true] 41))
  have hgu : g < w1.heap.size := Nat.lt_of_lt_of_le hg b1.size
  have hwu : w.heap.size ≤ w1.heap.size := b1.size
  generalize w1.alloc (.cells #[.bool false, .bool false, .bool true, .bool true, .bool true] 41) = w2 at P1 G1 U1 X1 ⊢
  generalize w1.heap.size = ub at X1 hgu hwu ⊢
  clear b1 HP HU
  go_region_held3 (fun w' => True) (exact trivial)
    (first
      | (go_at_call 66; refine (next_c g _ _ _ _ _ _ B _ (pat_drew P1.out) (strs_drew U1.out) hB).mono ?_; rintro q8 v8 ⟨rfl, u8, s8, p8, g8⟩)
      | (go_at_call 65; refine (integer_c g _ _ _ _ _ _ H8 hl8 rfl _ _ _ p8).mono ?_; rintro r8 y8 ⟨rfl, pp8, gg8⟩; have cc8 := pp8.cell 12 _ rfl; have ff8 := pp8.free 12))
  have P8a : Hid (PAt g u8 (fe e e8) { m with route := n8 } (.slice none 0 0) (y8.setCell ⟨g, 12, none⟩ (.int .i64 n8))) := blk_set pp8 12 _
  have G8a : Hid (Gr g w (y8.setCell ⟨g, 12, none⟩ (.int .i64 n8))) := gr_next G1.out (gr_next (gr_bl (bl_drew (bl_refl _))) (gr_next g8 (gr_next gg8 (gr_set g _ 12 _))))
  have U8a := Lib.hid (s8.below (gr_below (gr_next gg8 (gr_set g _ 12 (.int .i64 n8))) p8.lt hB))
  have X8a : Hid ((y8.setCell ⟨g, 12, none⟩ (.int .i64 n8)).heap[ub]? = some (.cells #[.bool false, .bool false, .bool true, .bool true, .bool true] 41 (0, 0))) := (Below.heap_setCell y8 ⟨g, 12, none⟩ (.int .i64 n8) ub (by simp; omega)).trans ((gr_blk gg8 (Nat.lt_of_lt_of_le (show ub < w2.heap.size from lt_of_block X1.out) g8.size) (by omega)).trans ((gr_blk g8 (show ub < w2.heap.size from lt_of_block X1.out) (by omega)).trans X1.out))
  generalize y8.setCell ⟨g, 12, none⟩ (.int .i64 n8) = W8 at P8a G8a U8a X8a ⊢
  clear cc8 ff8 s8 p8 g8 pp8 gg8 P1 G1 U1 X1
  have q3 : W8.cell? ⟨ub, 3, none⟩ = some (.bool true) := blk_cell X8a.out 3 _ rfl
  go_wp2_with fail
  go_wp2_with (go_at_call 66; refine (next_c g _ _ _ _ _ _ B _ P8a.out U8a.out hB).mono ?_)
  rintro q9 w9 ⟨rfl, u9, s9, p9, g9⟩
  have c13 := p9.cell 13 _ rfl
  have f13 := p9.free 13
  have P9a : Hid (PAt g u9 (fe e e8) { { m with route := n8 } with step := false } (.slice none 0 0) (w9.setCell ⟨g, 13, none⟩ (.bool false))) := blk_set p9 13 _
  have G9a : Hid (Gr g w (w9.setCell ⟨g, 13, none⟩ (.bool false))) := gr_next G8a.out (gr_next g9 (gr_set g _ 13 _))
  have U9a := Lib.hid (s9.below (gr_below (gr_set g _ 13 (.bool false)) p9.lt hB))
  have X9a : Hid ((w9.setCell ⟨g, 13, none⟩ (.bool false)).heap[ub]? = some (.cells #[.bool false, .bool false, .bool true, .bool true, .bool true] 41 (0, 0))) := (Below.heap_setCell w9 ⟨g, 13, none⟩ (.bool false) ub (by simp; omega)).trans ((gr_blk g9 (show ub < W8.heap.size from lt_of_block X8a.out) (by omega)).trans X8a.out)
  clear s9 p9 g9 P8a G8a U8a X8a
  go_wp2_with (go_at_call 41; refine (fail_c g _ _ 3 _ rfl _ _ _ P9a.out).mono ?_)
  rintro q8 W9 ⟨rfl, p8, g8⟩
  have U9b := Lib.hid (U9a.out.below (gr_below g8 P9a.out.lt hB))
  have X9b := Lib.hid ((gr_blk g8 (lt_of_block X9a.out) (by omega)).trans X9a.out)
  have G9b := Lib.hid (gr_next G9a.out g8)
  have P9b := Lib.hid p8
  clear P9a G9a U9a X9a p8 g8
  go_wp2_with fail
  go_loopw [84] (fun _ wr => ∃ (j : Nat) (u' vo : Value) (e' : Int), j ≤ r.length ∧ Hid (PAt g u' e' { { m with route := n8 } with step := false } vo wr) ∧ Hid (StrsIn B wr u' (r.drop j)) ∧ Hid (OwnC w.heap.size vo ((r.take j).map fun s => (readCall s).1) wr) ∧ Hid (feL (fe (fe e e8) 3) (callsE (r.take j)) = e') ∧ Hid (wr.heap[ub]? = some (.cells #[.bool false, .bool false, .bool true, .bool true, .bool true] 41 (0, 0))) ∧ Hid (Gr g w wr)) (fun _ wr => leftN g wr)
  case atStart => exact ⟨0, u9, _, (fe (fe e e8) 3), Nat.zero_le _, P9b, U9b, ownC_nil _ _, by show _ = _; rfl, X9b, G9b⟩
  case round =>
    obtain ⟨j, u', vo, e', hj, HPr, HUr, HOr, HEr, HXr, HGr⟩ := hrel
    by_cases hlt : j < r.length
    · obtain ⟨x, hx⟩ : ∃ x, r[j]? = some x := ⟨_, List.getElem?_eq_getElem hlt⟩
      have hdr : r.drop j = x :: r.drop (j + 1) := by
        obtain ⟨hk, rfl⟩ := List.getElem?_eq_some_iff.1 hx
        exact List.drop_eq_getElem_cons hk
      have hxl := hl.out x (List.mem_of_getElem? hx)
      rw [hdr] at HUr
      obtain ⟨⟨c, es⟩, HRC⟩ : ∃ p, Hid (readCall x = p) := ⟨_, rfl⟩
      have HT := Lib.hid (show (r.take (j + 1)).map (fun s => (readCall s).1) = (r.take j).map (fun s => (readCall s).1) ++ [c] by rw [take_next hx, List.map_append, ← (show (readCall x).1 = c by rw [HRC.out])]; rfl)
      have HE2 := Lib.hid (show feL (fe (fe e e8) 3) (callsE (r.take (j + 1))) = feL e' es by rw [take_next hx, callsE_snoc, feL_app, HEr.out, HRC.out])
      have hcl : ((r.take j).map fun s => (readCall s).1).length = j := by rw [List.length_map, List.length_take]; omega
      obtain ⟨cl, hcl2⟩ : ∃ cl, (r.take j).map (fun s => (readCall s).1) = cl := ⟨_, rfl⟩
      rw [hcl2] at HT hcl HOr
      clear hcl2 hdr hx
      have hub := lt_of_block HXr.out
      obtain ⟨pb, po, pc, rfl, l1, l2, l3, -⟩ := HUr.out.open (by simp)
      have k0 : wr.cell? ⟨g, 0, none⟩ = _ := HPr.out.cell 0 _ rfl
      have k14 : wr.cell? ⟨g, 14, none⟩ = some vo := HPr.out.cell 14 _ rfl
      have q4 : wr.cell? ⟨ub, 4, none⟩ = some (.bool true) := blk_cell HXr.out 4 _ rfl
      have hlp : (0 : Int) < ((r.drop (j + 1)).length : Int) + 1 := by omega
      have hML := leftN_at k0
      simp only [List.length_cons] at k0 l1 hML
      go_wp2_with fail
      have hgl := HPr.out.lt
      have OD := Lib.hid (show OwnC w.heap.size vo cl wr.drew from ownC_kept HOr.out (gr_bl (bl_drew (bl_refl _))) hg)
      subst hcl
      go_region_law (first
        | (refine step_append_lies _ (by rfl) _ _ _ (by rfl) w.heap.size 46 i0 _ 5 32 Tryd.underlying22 hi hz0 hz1 hz2 rfl (by omega) vo cl.length (cl.flatMap callCells) (by rfl) (World.ownsRow.alloc (ownC_kept (ownC_kept OD.out g2 hg) g3 hg) _) ⟨w3.heap.size, 0, none⟩ 1 1 (callCells c) (by rfl) (by rfl) (World.news_of_block (cs := #[.int .i64 c.stop, .int .i64 c.arrive, .int .i64 c.depart, .bool c.board, .bool c.alight]) (heap_alloc_new w3 _)) (by simp [callCells, Value.oneCell']) (by omega) (by unfold maxLen; omega) (by omega) (Nat.le_trans HGr.out.size (Nat.le_trans g2.size (Nat.le_trans g3.size (by simp)))) (w3.heap.size + 1) (by simp) ?_; intro gg cap w5 hown5 hgrow5 hat5 hlt5; have p5 := blk_growC (blk_bl p3 (bl_alloc (bl_refl _) _)) (World.ownsRow.alloc (ownC_kept (ownC_kept OD.out g2 hg) g3 hg) _) hgrow5 (by decide); have m14 := blk_cell p5 14 _ rfl; have n14 := Lib.frozen_of_heap p5 14)
        | (go_simp; go_at_call 66; refine (next_c g _ _ _ _ _ _ B _ (pat_drew HPr.out) (strs_drew HUr.out) hB).mono ?_; rintro y2 w2 ⟨rfl, u2, s2, p2, g2⟩; have k14b := p2.cell 14 _ rfl)
        | (go_simp; go_at_call 68; refine (call_c g _ _ _ _ _ x hxl c (by show _ = _; rw [HRC.out]) rfl _ p2).mono ?_; rintro y3 w3 ⟨rfl, p3, g3⟩; have k14c := p3.cell 14 _ rfl; have hg3 := p3.lt))
      all_goals
        have hsz3 : w.heap.size ≤ w3.heap.size := Nat.le_trans HGr.out.size (Nat.le_trans g2.size g3.size)
        have o3 := ownC_kept (ownC_kept OD.out g2 hg) g3 hg
        have PF : Hid (PAt g u2 (feL e' (readCall x).2) { { m with route := n8 } with step := false } (.slice (some ⟨gg, 0, none⟩) (cl.length + 1) cap) (w5.setCell ⟨g, 14, none⟩ (.slice (some ⟨gg, 0, none⟩) (cl.length + 1) cap))) := blk_set p5 14 _
        have OF := Lib.hid (ownC_set (g := g) (i := 14) (u := (.slice (some ⟨gg, 0, none⟩) (cl.length + 1) cap)) (ownC_app (c := c) hown5 rfl rfl) hg)
        have XF := Lib.hid ((Below.heap_setCell w5 ⟨g, 14, none⟩ (.slice (some ⟨gg, 0, none⟩) (cl.length + 1) cap) ub (by simp; omega)).trans (blk_growC (blk_bl ((gr_blk g3 (Nat.lt_of_lt_of_le hub g2.size) (by omega)).trans ((gr_blk g2 hub (by omega)).trans HXr.out)) (bl_alloc (bl_refl w3) _)) (World.ownsRow.alloc o3 _) hgrow5 (by decide)))
        have GF : Hid (Gr g w (w5.setCell ⟨g, 14, none⟩ (.slice (some ⟨gg, 0, none⟩) (cl.length + 1) cap))) := gr_next (gr_grow (gr_next HGr.out (gr_next (gr_bl (bl_drew (bl_refl _))) (gr_next g2 (gr_next g3 (gr_bl (bl_alloc (bl_refl _) _)))))) hgrow5 (fun k hk => (World.ownsRow.lt o3 k hk).1)) (gr_set g _ 14 _)
        have SF := Lib.hid (s2.below (Below.setCell (((gr_below g3 p2.lt hB).alloc (by have := p3.lt; omega) _).grown hgrow5 (by have := p3.lt; simp; omega) (fun k hk => by have := (World.ownsRow.lt o3 k hk).1; omega)) (p := ⟨g, 14, none⟩) hB (.slice (some ⟨gg, 0, none⟩) (cl.length + 1) cap)))
        have hlf : leftN g (w5.setCell ⟨g, 14, none⟩ (.slice (some ⟨gg, 0, none⟩) (cl.length + 1) cap)) = (r.drop (cl.length + 1)).length := by
          obtain ⟨au, cu, rfl, -⟩ := s2
          exact leftN_at (PF.out.cell 0 _ rfl)
        have HE3 := Lib.hid (show feL (fe (fe e e8) 3) (callsE (r.take (cl.length + 1))) = feL e' (readCall x).2 by rw [HE2.out, HRC.out])
        clear hown5 hgrow5 hat5 hlt5 p5 m14 n14 p3 g3 p2 s2 k14b k14c o3
        go_wp2
        go_roundw
        case rel => exact ⟨cl.length + 1, u2, _, _, by omega, PF, SF, by rw [HT.out]; exact OF, HE3, XF, GF⟩
        case measure => rw [hML, hlf]; omega
    · have HN := Lib.hid (show (r.take j) = r from List.take_of_length_le (by omega))
      rw [HN.out] at HEr HOr
      have hdl : r.drop j = [] := List.drop_eq_nil_of_le (by omega)
      rw [hdl] at HUr
      obtain ⟨a0, c0, rfl, -⟩ := HUr.out
      have k0 : wr.cell? ⟨g, 0, none⟩ = _ := HPr.out.cell 0 _ rfl
      have q4 : wr.cell? ⟨ub, 4, none⟩ = some (.bool true) := blk_cell HXr.out 4 _ rfl
      simp only [List.length_nil] at k0
      go_wp2
      go_end0
      exact ⟨rfl, _, vo, by rw [← HE.out, HEr.out]; exact HPr.out, by rw [← HC.out]; exact ownC_in HOr.out, HGr.out⟩
end Go.Proofs.YthdadalmgldppaaDoor
namespace Go.Proofs.YthdadalmgldppaaDoor
open Go.RowKit
open Msg Num Fld Dat

theorem shaped_c (k : Int) (n : Nat) (r : Bool) (H : Hid (shapedN k n = r)) (w : World) :
    Calls Tryd.prog 38 #[.int .i64 k, .int .i64 n] w fun q w' => q = .returned (.bool r) ∧ w = w' := by
  go_enter Tryd.func38, Tryd.ntmps38
  go_wp2
  all_goals
    go_ret
    refine ⟨ret_bool ?_, rfl⟩
    rw [← H.out]
    unfold shapedN
    simp_all
    try first
      | omega
      | (rw [Bool.eq_iff_iff, beq_iff_eq, beq_iff_eq]; omega)
/-- The kind that the first k words give. -/
def kindK (a4 : List UInt8) : Nat → Int
  | 0 => 0
  | k + 1 => if 0 < k ∧ a4 = wordS k then (k : Int) else kindK a4 k
theorem kindK_all (a4 : List UInt8) : kindK a4 7 = kindOf a4 := by
  have e : kindK a4 7 = if a4 = wRestore then 6 else if a4 = wAdd then 5 else if a4 = wReroute then 4 else if a4 = wSkip then 3 else if a4 = wCancel then 2 else if a4 = wDelay then 1 else 0 := by
    simp [kindK, wordS]
  rw [e]
  unfold kindOf
  by_cases h1 : a4 = wDelay
  · subst h1; decide
  by_cases h2 : a4 = wCancel
  · subst h2; decide
  by_cases h3 : a4 = wSkip
  · subst h3; decide
  by_cases h4 : a4 = wReroute
  · subst h4; decide
  by_cases h5 : a4 = wAdd
  · subst h5; decide
  by_cases h6 : a4 = wRestore
  · subst h6; decide
  simp [h1, h2, h3, h4, h5, h6]
theorem results_cell_slot {P : Program} {fn : Func} {p u : Tmp} {ty : TypeId} (h : fn.results = #[.cell p ty, .tmp u]) (tmps : Array Value) (w : World) (g : Nat) (t : TypeId) (cs : Array Value) (fr : Nat × Nat) (d : TypeDesc) (x : Value)
    (hp : tmps.getD p undef = .pointer (some ⟨g, 0, none⟩)) (hx : tmps.getD u undef = x) (hg : w.heap[g]? = some (.cells cs t fr))
    (hu : P.underlying ty = some d) (hd : (match d with | .struct _ | .array _ _ => true | _ => false) = true) (hi : (P.info? ty).map (·.size) = some cs.size) :
    (results fn tmps).run P w = .ok (.tuple #[.agg cs, x]) w := by
  have hp' : tmps[p]?.getD undef = .pointer (some ⟨g, 0, none⟩) := by simpa using hp
  have hx' : tmps[u]?.getD undef = x := by simpa using hx
  simp [results, h, hp', hx', asAddr, run_loadVar_row w g t ty cs fr d hg hu hd hi]
theorem pat_same {g : Nat} {u : Value} {e e' : Int} {m m' : MsgD} {vc : Value} {w : World} (h : PAt g u e m vc w) (he : e = e') (hm : pCells u e m vc = pCells u e m' vc) : PAt g u e' m' vc w := by
  subst he
  unfold PAt at h ⊢
  rw [← hm]
  exact h
/-- The error behind the fields that hang on the kind. -/
abbrev tailE (K : Int) (l : List (List UInt8)) : List Int := midE K l ++ (if uCalls K then callsE (l.drop (restN K)) else [])
set_option maxHeartbeats 4000000 in
theorem tail_all (g : Nat) (u : Value) (E : Int) (K : Int) (a0 a1 a2 a3 a4 a5 a6 a7 : List UInt8) (r : List (List UInt8)) (hk : 1 ≤ K ∧ K ≤ 6) (hsh : shapedN K (a0 :: a1 :: a2 :: a3 :: a4 :: a5 :: a6 :: a7 :: r).length = true)
    (hr : r.length ≤ 64) (hl : Hid (∀ x ∈ r, x.length ≤ 131072)) (B : Nat) (w : World)
    (h : PAt g u E ⟨(parse a0).1, (parse a1).1, (parse a2).1, (parse a3).1, K, a5, (dayR a6).1, (parse a7).1, 0, 0, 0, false, []⟩ (.slice none 0 0) w) (hu : StrsIn B w u r) (hB : B ≤ g) :
    Calls Tryd.prog 40 #[.pointer (some ⟨g, 0, none⟩)] w fun q w' => q = .returned (.tuple #[]) ∧ ∃ u' vc', PAt g u' (feL E (tailE K (a0 :: a1 :: a2 :: a3 :: a4 :: a5 :: a6 :: a7 :: r))) (readM K (a0 :: a1 :: a2 :: a3 :: a4 :: a5 :: a6 :: a7 :: r)) vc' w' ∧ CallsIn w'.heap.size w' vc' (readM K (a0 :: a1 :: a2 :: a3 :: a4 :: a5 :: a6 :: a7 :: r)).calls ∧ Gr g w w' := by
  have big : ∀ x ∈ r, x.length ≤ 9223372036854775807 := fun x hx => by have := hl.out x hx; omega
  rcases kinds hk with rfl | rfl | rfl | rfl | rfl | rfl
  · have hn : r.length = 2 := by simp [shapedN] at hsh; omega
    obtain ⟨f8, f9, rfl⟩ : ∃ f8 f9, r = [f8, f9] := by
      match r, hn with
      | [f8, f9], _ => exact ⟨f8, f9, rfl⟩
    refine (tail_delay g u E _ _ f8 _ _ f9 _ _ rfl rfl rfl rfl (rfl : parse f8 = ((parse f8).1, (parse f8).2)) (big _ (by simp)) (rfl : parse f9 = ((parse f9).1, (parse f9).2)) (big _ (by simp)) rfl B w h hu hB).mono ?_
    rintro q w' ⟨rfl, u', vc', p, c, gr⟩
    exact ⟨rfl, u', vc', pat_same p rfl rfl, c, gr⟩
  · obtain rfl : r = [] := by simpa [shapedN] using hsh
    refine (tail_none g u E _ _ rfl rfl rfl rfl rfl B w h hu hB).mono ?_
    rintro q w' ⟨rfl, u', vc', p, c, gr⟩
    exact ⟨rfl, u', vc', pat_same p rfl rfl, c, gr⟩
  · have hn : r.length = 1 := by simp [shapedN] at hsh; omega
    obtain ⟨f8, rfl⟩ := List.length_eq_one_iff.1 hn
    refine (tail_skip g u E _ _ f8 _ _ rfl rfl rfl rfl (rfl : parse f8 = ((parse f8).1, (parse f8).2)) (big _ (by simp)) rfl B w h hu hB).mono ?_
    rintro q w' ⟨rfl, u', vc', p, c, gr⟩
    exact ⟨rfl, u', vc', pat_same p rfl rfl, c, gr⟩
  · refine (tail_reroute g u E _ _ r _ rfl rfl rfl rfl rfl (by omega) hl rfl B w h hu hB).mono ?_
    rintro q w' ⟨rfl, u', vc', p, c, gr⟩
    exact ⟨rfl, u', vc', pat_same p rfl rfl, c, gr⟩
  · have hn : 2 ≤ r.length := by simp [shapedN] at hsh; omega
    obtain ⟨f8, f9, rr, rfl⟩ : ∃ f8 f9 rr, r = f8 :: f9 :: rr := by
      match r, hn with
      | f8 :: f9 :: rr, _ => exact ⟨f8, f9, rr, rfl⟩
    have hrr : rr.length ≤ 100 := by simp only [List.length_cons] at hr; omega
    have hlr := Lib.hid (show ∀ x ∈ rr, x.length ≤ 131072 from fun x hx => hl.out x (List.mem_cons_of_mem _ (List.mem_cons_of_mem _ hx)))
    by_cases hy : f9 = [121, 101, 115]
    · subst hy
      refine (tail_add_yes g u E _ _ f8 _ _ rr _ rfl rfl rfl rfl (rfl : parse f8 = ((parse f8).1, (parse f8).2)) (big _ (by simp)) rfl hrr hlr rfl B w h hu hB).mono ?_
      rintro q w' ⟨rfl, u', vc', p, c, gr⟩
      exact ⟨rfl, u', vc', pat_same p rfl rfl, c, gr⟩
    by_cases hn : f9 = [110, 111]
    · subst hn
      refine (tail_add_no g u E _ _ f8 _ _ rr _ rfl rfl rfl rfl (rfl : parse f8 = ((parse f8).1, (parse f8).2)) (big _ (by simp)) rfl hrr hlr rfl B w h hu hB).mono ?_
      rintro q w' ⟨rfl, u', vc', p, c, gr⟩
      exact ⟨rfl, u', vc', pat_same p rfl rfl, c, gr⟩
    · refine (tail_add_other g u E _ _ f8 _ _ rr _ f9 (beq_eq_false_iff_ne.2 hy) (beq_eq_false_iff_ne.2 hn) rfl rfl rfl rfl (rfl : parse f8 = ((parse f8).1, (parse f8).2)) (big _ (by simp)) rfl hrr hlr rfl B w h hu hB).mono ?_
      rintro q w' ⟨rfl, u', vc', p, c, gr⟩
      have e9 : (if f9 = wYes ∨ f9 = wNo then (0 : Int) else 3) = 3 := if_neg (by rintro (k | k) <;> contradiction)
      have es : (f9 == wYes) = false := beq_eq_false_iff_ne.2 hy
      refine ⟨rfl, u', vc', pat_same p ?_ ?_, c, gr⟩
      · show feL _ _ = feL E ([(parse f8).2, if f9 = wYes ∨ f9 = wNo then 0 else 3] ++ callsE rr)
        rw [e9]
        rfl
      · show _ = pCells _ _ { src := (parse a0).1, seq := (parse a1).1, iss := (parse a2).1, exp := (parse a3).1, kind := 5, trip := a5, day := (dayR a6).1, inst := (parse a7).1, call := 0, secs := 0, route := (parse f8).1, step := f9 == wYes, calls := _ } _
        rw [es]
        rfl
  · obtain rfl : r = [] := by simpa [shapedN] using hsh
    refine (tail_none g u E _ _ rfl rfl rfl rfl rfl B w h hu hB).mono ?_
    rintro q w' ⟨rfl, u', vc', p, c, gr⟩
    exact ⟨rfl, u', vc', pat_same p rfl rfl, c, gr⟩
abbrev zeroV : Value := msgV zeroM (.slice none 0 0)
end Go.Proofs.YthdadalmgldppaaDoor
namespace Go.Proofs.YthdadalmgldppaaDoor
open Go.RowKit
open Msg Num Fld Dat

theorem splitF_count : ∀ (n : Nat) (s : List UInt8), (splitF n s).1.length ≤ n
  | 0, s => by simp [splitF]
  | n + 1, s => by
    simp only [splitF]
    split
    · simp
    · split
      · simp
      · split
        · split
          · simp only [List.length_cons]
            have := splitF_count n (by assumption)
            omega
          · have := splitF_count n (by assumption)
            omega
        · simp
theorem splitS_count {s : List UInt8} {l : List (List UInt8)} {e : Int} (h : splitS s = (l, e)) : l.length ≤ 64 := by
  unfold splitS at h
  split at h
  · rw [Prod.mk.injEq] at h; rw [← h.1]; simp
  · split at h
    · rw [Prod.mk.injEq] at h; rw [← h.1]; simp
    · have := splitF_count 64 s
      rw [h] at this
      exact this
/-- The thirteen stores of a message into a block. -/
abbrev put13 (w : World) (r : Nat) (v0 v1 v2 v3 v4 v5 v6 v7 v8 v9 v10 v11 v12 : Value) : World := ((((((((((((w.setCell ⟨r, 0, none⟩ v0).setCell ⟨r, 1, none⟩ v1).setCell ⟨r, 2, none⟩ v2).setCell ⟨r, 3, none⟩ v3).setCell ⟨r, 4, none⟩ v4).setCell ⟨r, 5, none⟩ v5).setCell ⟨r, 6, none⟩ v6).setCell ⟨r, 7, none⟩ v7).setCell ⟨r, 8, none⟩ v8).setCell ⟨r, 9, none⟩ v9).setCell ⟨r, 10, none⟩ v10).setCell ⟨r, 11, none⟩ v11).setCell ⟨r, 12, none⟩ v12
theorem store13 {w : World} {r : Nat} {a0 a1 a2 a3 a4 a5 a6 a7 a8 a9 a10 a11 a12 v0 v1 v2 v3 v4 v5 v6 v7 v8 v9 v10 v11 v12 : Value} {T : TypeId} (h : w.heap[r]? = some (.cells #[a0, a1, a2, a3, a4, a5, a6, a7, a8, a9, a10, a11, a12] T (0, 0))) :
    (put13 w r v0 v1 v2 v3 v4 v5 v6 v7 v8 v9 v10 v11 v12).heap[r]? = some (.cells #[v0, v1, v2, v3, v4, v5, v6, v7, v8, v9, v10, v11, v12] T (0, 0)) := by
  have h0 : (w.setCell ⟨r, 0, none⟩ v0).heap[r]? = some (.cells #[v0, a1, a2, a3, a4, a5, a6, a7, a8, a9, a10, a11, a12] T (0, 0)) := blk_set h 0 v0
  have h1 : ((w.setCell ⟨r, 0, none⟩ v0).setCell ⟨r, 1, none⟩ v1).heap[r]? = some (.cells #[v0, v1, a2, a3, a4, a5, a6, a7, a8, a9, a10, a11, a12] T (0, 0)) := blk_set h0 1 v1
  have h2 : (((w.setCell ⟨r, 0, none⟩ v0).setCell ⟨r, 1, none⟩ v1).setCell ⟨r, 2, none⟩ v2).heap[r]? = some (.cells #[v0, v1, v2, a3, a4, a5, a6, a7, a8, a9, a10, a11, a12] T (0, 0)) := blk_set h1 2 v2
  have h3 : ((((w.setCell ⟨r, 0, none⟩ v0).setCell ⟨r, 1, none⟩ v1).setCell ⟨r, 2, none⟩ v2).setCell ⟨r, 3, none⟩ v3).heap[r]? = some (.cells #[v0, v1, v2, v3, a4, a5, a6, a7, a8, a9, a10, a11, a12] T (0, 0)) := blk_set h2 3 v3
  have h4 : (((((w.setCell ⟨r, 0, none⟩ v0).setCell ⟨r, 1, none⟩ v1).setCell ⟨r, 2, none⟩ v2).setCell ⟨r, 3, none⟩ v3).setCell ⟨r, 4, none⟩ v4).heap[r]? = some (.cells #[v0, v1, v2, v3, v4, a5, a6, a7, a8, a9, a10, a11, a12] T (0, 0)) := blk_set h3 4 v4
  have h5 : ((((((w.setCell ⟨r, 0, none⟩ v0).setCell ⟨r, 1, none⟩ v1).setCell ⟨r, 2, none⟩ v2).setCell ⟨r, 3, none⟩ v3).setCell ⟨r, 4, none⟩ v4).setCell ⟨r, 5, none⟩ v5).heap[r]? = some (.cells #[v0, v1, v2, v3, v4, v5, a6, a7, a8, a9, a10, a11, a12] T (0, 0)) := blk_set h4 5 v5
  have h6 : (((((((w.setCell ⟨r, 0, none⟩ v0).setCell ⟨r, 1, none⟩ v1).setCell ⟨r, 2, none⟩ v2).setCell ⟨r, 3, none⟩ v3).setCell ⟨r, 4, none⟩ v4).setCell ⟨r, 5, none⟩ v5).setCell ⟨r, 6, none⟩ v6).heap[r]? = some (.cells #[v0, v1, v2, v3, v4, v5, v6, a7, a8, a9, a10, a11, a12] T (0, 0)) := blk_set h5 6 v6
  have h7 : ((((((((w.setCell ⟨r, 0, none⟩ v0).setCell ⟨r, 1, none⟩ v1).setCell ⟨r, 2, none⟩ v2).setCell ⟨r, 3, none⟩ v3).setCell ⟨r, 4, none⟩ v4).setCell ⟨r, 5, none⟩ v5).setCell ⟨r, 6, none⟩ v6).setCell ⟨r, 7, none⟩ v7).heap[r]? = some (.cells #[v0, v1, v2, v3, v4, v5, v6, v7, a8, a9, a10, a11, a12] T (0, 0)) := blk_set h6 7 v7
  have h8 : (((((((((w.setCell ⟨r, 0, none⟩ v0).setCell ⟨r, 1, none⟩ v1).setCell ⟨r, 2, none⟩ v2).setCell ⟨r, 3, none⟩ v3).setCell ⟨r, 4, none⟩ v4).setCell ⟨r, 5, none⟩ v5).setCell ⟨r, 6, none⟩ v6).setCell ⟨r, 7, none⟩ v7).setCell ⟨r, 8, none⟩ v8).heap[r]? = some (.cells #[v0, v1, v2, v3, v4, v5, v6, v7, v8, a9, a10, a11, a12] T (0, 0)) := blk_set h7 8 v8
  have h9 : ((((((((((w.setCell ⟨r, 0, none⟩ v0).setCell ⟨r, 1, none⟩ v1).setCell ⟨r, 2, none⟩ v2).setCell ⟨r, 3, none⟩ v3).setCell ⟨r, 4, none⟩ v4).setCell ⟨r, 5, none⟩ v5).setCell ⟨r, 6, none⟩ v6).setCell ⟨r, 7, none⟩ v7).setCell ⟨r, 8, none⟩ v8).setCell ⟨r, 9, none⟩ v9).heap[r]? = some (.cells #[v0, v1, v2, v3, v4, v5, v6, v7, v8, v9, a10, a11, a12] T (0, 0)) := blk_set h8 9 v9
  have h10 : (((((((((((w.setCell ⟨r, 0, none⟩ v0).setCell ⟨r, 1, none⟩ v1).setCell ⟨r, 2, none⟩ v2).setCell ⟨r, 3, none⟩ v3).setCell ⟨r, 4, none⟩ v4).setCell ⟨r, 5, none⟩ v5).setCell ⟨r, 6, none⟩ v6).setCell ⟨r, 7, none⟩ v7).setCell ⟨r, 8, none⟩ v8).setCell ⟨r, 9, none⟩ v9).setCell ⟨r, 10, none⟩ v10).heap[r]? = some (.cells #[v0, v1, v2, v3, v4, v5, v6, v7, v8, v9, v10, a11, a12] T (0, 0)) := blk_set h9 10 v10
  have h11 : ((((((((((((w.setCell ⟨r, 0, none⟩ v0).setCell ⟨r, 1, none⟩ v1).setCell ⟨r, 2, none⟩ v2).setCell ⟨r, 3, none⟩ v3).setCell ⟨r, 4, none⟩ v4).setCell ⟨r, 5, none⟩ v5).setCell ⟨r, 6, none⟩ v6).setCell ⟨r, 7, none⟩ v7).setCell ⟨r, 8, none⟩ v8).setCell ⟨r, 9, none⟩ v9).setCell ⟨r, 10, none⟩ v10).setCell ⟨r, 11, none⟩ v11).heap[r]? = some (.cells #[v0, v1, v2, v3, v4, v5, v6, v7, v8, v9, v10, v11, a12] T (0, 0)) := blk_set h10 11 v11
  have h12 : (((((((((((((w.setCell ⟨r, 0, none⟩ v0).setCell ⟨r, 1, none⟩ v1).setCell ⟨r, 2, none⟩ v2).setCell ⟨r, 3, none⟩ v3).setCell ⟨r, 4, none⟩ v4).setCell ⟨r, 5, none⟩ v5).setCell ⟨r, 6, none⟩ v6).setCell ⟨r, 7, none⟩ v7).setCell ⟨r, 8, none⟩ v8).setCell ⟨r, 9, none⟩ v9).setCell ⟨r, 10, none⟩ v10).setCell ⟨r, 11, none⟩ v11).setCell ⟨r, 12, none⟩ v12).heap[r]? = some (.cells #[v0, v1, v2, v3, v4, v5, v6, v7, v8, v9, v10, v11, v12] T (0, 0)) := blk_set h11 12 v12
  exact h12
theorem bl13 {w a : World} (h : Bl w a) {r : Nat} (hr : w.heap.size ≤ r) {v0 v1 v2 v3 v4 v5 v6 v7 v8 v9 v10 v11 v12 : Value} : Bl w (put13 a r v0 v1 v2 v3 v4 v5 v6 v7 v8 v9 v10 v11 v12) :=
  bl_set (bl_set (bl_set (bl_set (bl_set (bl_set (bl_set (bl_set (bl_set (bl_set (bl_set (bl_set (bl_set h hr _) hr _) hr _) hr _) hr _) hr _) hr _) hr _) hr _) hr _) hr _) hr _) hr _
theorem kindK_yes {a4 : List UInt8} (k : Nat) (hk : 0 < k) (h : (a4 == wordS k) = true) : (k : Int) = kindK a4 (k + 1) := (if_pos ⟨hk, by simpa using h⟩).symm
theorem kindK_no {a4 : List UInt8} (k : Nat) (h : (a4 == wordS k) = false) : kindK a4 k = kindK a4 (k + 1) := (if_neg (fun x => by rw [x.2] at h; simp at h)).symm
theorem far13 {w : World} {r k : Nat} {v0 v1 v2 v3 v4 v5 v6 v7 v8 v9 v10 v11 v12 : Value} (h : k ≠ r) : (put13 w r v0 v1 v2 v3 v4 v5 v6 v7 v8 v9 v10 v11 v12).heap[k]? = w.heap[k]? := by
  have f : ∀ (w : World) (i : Nat) (v : Value), (w.setCell ⟨r, i, none⟩ v).heap[k]? = w.heap[k]? := fun w i v => Below.heap_setCell w ⟨r, i, none⟩ v k h
  exact (f _ 12 _).trans ((f _ 11 _).trans ((f _ 10 _).trans ((f _ 9 _).trans ((f _ 8 _).trans ((f _ 7 _).trans ((f _ 6 _).trans ((f _ 5 _).trans ((f _ 4 _).trans ((f _ 3 _).trans ((f _ 2 _).trans ((f _ 1 _).trans (f _ 0 _))))))))))))
theorem far13_cell {w : World} {r g o : Nat} {u : Value} {v0 v1 v2 v3 v4 v5 v6 v7 v8 v9 v10 v11 v12 : Value} (h : g ≠ r) (k : w.cell? ⟨g, o, none⟩ = some u) : (put13 w r v0 v1 v2 v3 v4 v5 v6 v7 v8 v9 v10 v11 v12).cell? ⟨g, o, none⟩ = some u := (World.cell?_of_block (far13 h)).trans k
theorem bl_gr {w a b : World} {g : Nat} (h : Bl w a) (k : Gr g a b) (hg : w.heap.size ≤ g) : Bl w b := h.grown k h.size (fun i hi => by cases hi; exact hg)
/-- A block in which no two flags stand side by side holds no call. -/
theorem calls_far {B g : Nat} {w w' : World} {vc : Value} {cs : List CallD} {C : Array Value} {T : TypeId} (h : CallsIn B w vc cs) (hB : B ≤ w.heap.size) (hC : w.heap[g]? = some (.cells C T (0, 0)))
    (hno : ∀ (i : Nat) (x y : Bool), C[i]? = some (.bool x) → C[i + 1]? = some (.bool y) → False) (hw : ∀ k, k < w.heap.size → k ≠ g → w'.heap[k]? = w.heap[k]?) : CallsIn B w' vc cs := by
  obtain ⟨a, cap, hv, h1, h2, h3⟩ := h
  refine ⟨a, cap, hv, h1, h2, fun h0 => ?_⟩
  obtain ⟨b, o, ha, hb, hc⟩ := h3 h0
  have hne : b ≠ g := by
    rintro rfl
    obtain ⟨x0, hx0⟩ : ∃ x0, cs[0]? = some x0 := ⟨_, List.getElem?_eq_getElem h0⟩
    have k3 := hc 0 x0 hx0 3 _ rfl
    have k4 := hc 0 x0 hx0 4 _ rfl
    rw [cell_of_row w b _ C T (0, 0) hC] at k3 k4
    exact hno _ _ _ k3 k4
  exact ⟨b, o, ha, hb, fun i x hx j u hu => (World.cell?_of_block (hw b (by omega) hne)).trans (hc i x hx j u hu)⟩
theorem no_two_p (u : Value) (e : Int) (m : MsgD) (vc : Value) (av : Option Addr) (nv cv : Nat) (hv : vc = .slice av nv cv) (i : Nat) (x y : Bool) (h1 : (pCells u e m vc)[i]? = some (.bool x)) (h2 : (pCells u e m vc)[i + 1]? = some (.bool y)) : False := by
  subst hv
  match i, h1, h2 with
  | 0, _, h2 => simp at h2
  | 1, h1, _ | 2, h1, _ | 3, h1, _ | 4, h1, _ | 5, h1, _ | 6, h1, _ | 7, h1, _ | 8, h1, _ | 9, h1, _ | 10, h1, _ | 11, h1, _ | 12, h1, _ => simp at h1
  | 13, _, h2 => simp at h2
  | i + 14, _, h2 => simp at h2
theorem no_two_z (i : Nat) (x y : Bool) (h1 : (msgCells zeroM (.slice none 0 0))[i]? = some (.bool x)) (h2 : (msgCells zeroM (.slice none 0 0))[i + 1]? = some (.bool y)) : False := by
  match i, h1, h2 with
  | 0, h1, _ | 1, h1, _ | 2, h1, _ | 3, h1, _ | 4, h1, _ | 5, h1, _ | 6, h1, _ | 7, h1, _ | 8, h1, _ | 9, h1, _ | 10, h1, _ => simp [msgCells] at h1
  | 11, _, h2 => simp [msgCells] at h2
  | i + 12, _, h2 => simp [msgCells] at h2
/-- A message's zero cells. -/
abbrev zeroC : Array Value := msgCells zeroM (.slice none 0 0)
set_option maxRecDepth 20000 in
set_option maxHeartbeats 8000000 in
theorem mparse_c (s : ByteArray) (hs : s.size ≤ 131072) (m : MsgD) (e : Int) (H : Hid (parseM s.data.toList = (m, e))) (w : World) (hw : WordsAt w) :
    Calls Tryd.prog 15 #[.string s] w fun r w' => ∃ vc, r = .returned (.tuple #[msgV m vc, .int .i64 e]) ∧ CallsIn w'.heap.size w' vc m.calls ∧ Bl w w' := by
  obtain ⟨⟨l, es⟩, hsp⟩ : ∃ p, splitS s.data.toList = p := ⟨_, rfl⟩
  have HSP := Lib.hid hsp
  have hsc := fun w => split_c s (by omega) l es HSP w
  have HR0 := Lib.hid (heap_alloc_new w (.cells zeroC 24))
  by_cases hes : es = 0
  · subst hes
    have hlen := splitS_count hsp
    have hlens := Lib.hid (show ∀ x ∈ l, x.length ≤ 131072 from fun x hx => by have := splitS_len hsp x hx; simp at this; omega)
    have HW := Lib.hid hw
    clear hsp hw
    go_enter Tryd.func15, Tryd.ntmps15
    go_wp2_with (go_at_call 37; refine (hsc _).mono ?_)
    rintro q1 w1 ⟨v1, rfl, o1, b1⟩
    obtain ⟨a1, c1, rfl⟩ := ownS_form o1
    have HW1 := Lib.hid (HW.out.next (bl_next (bl_alloc (bl_refl w) _) b1))
    have R1 := Lib.hid (blk_bl HR0.out b1)
    have B1 := Lib.hid (bl_next (bl_alloc (bl_refl w) _) b1)
    have O1 := Lib.hid o1
    have g0 : w1.cell? ⟨0, 0, none⟩ = some (str []) := HW1.out.1 0 (by decide)
    have g1 : w1.cell? ⟨0, 1, none⟩ = some (str [100, 101, 108, 97, 121]) := HW1.out.1 1 (by decide)
    have g2 : w1.cell? ⟨0, 2, none⟩ = some (str [99, 97, 110, 99, 101, 108]) := HW1.out.1 2 (by decide)
    have g3 : w1.cell? ⟨0, 3, none⟩ = some (str [115, 107, 105, 112]) := HW1.out.1 3 (by decide)
    have g4 : w1.cell? ⟨0, 4, none⟩ = some (str [114, 101, 114, 111, 117, 116, 101]) := HW1.out.1 4 (by decide)
    have g5 : w1.cell? ⟨0, 5, none⟩ = some (str [97, 100, 100]) := HW1.out.1 5 (by decide)
    have g6 : w1.cell? ⟨0, 6, none⟩ = some (str [114, 101, 115, 116, 111, 114, 101]) := HW1.out.1 6 (by decide)
    clear b1 o1 hsc HW
    have y0 : ∀ w : World, (Instr.index 50 (.agg #[str [], str [100, 101, 108, 97, 121], str [99, 97, 110, 99, 101, 108], str [115, 107, 105, 112], str [114, 101, 114, 111, 117, 116, 101], str [97, 100, 100], str [114, 101, 115, 116, 111, 114, 101]]) (.int .i64 0)).run Tryd.prog w = .ok (str []) w := fun _ => by kernel_rfl
    have y1 : ∀ w : World, (Instr.index 50 (.agg #[str [], str [100, 101, 108, 97, 121], str [99, 97, 110, 99, 101, 108], str [115, 107, 105, 112], str [114, 101, 114, 111, 117, 116, 101], str [97, 100, 100], str [114, 101, 115, 116, 111, 114, 101]]) (.int .i64 1)).run Tryd.prog w = .ok (str [100, 101, 108, 97, 121]) w := fun _ => by kernel_rfl
    have y2 : ∀ w : World, (Instr.index 50 (.agg #[str [], str [100, 101, 108, 97, 121], str [99, 97, 110, 99, 101, 108], str [115, 107, 105, 112], str [114, 101, 114, 111, 117, 116, 101], str [97, 100, 100], str [114, 101, 115, 116, 111, 114, 101]]) (.int .i64 2)).run Tryd.prog w = .ok (str [99, 97, 110, 99, 101, 108]) w := fun _ => by kernel_rfl
    have y3 : ∀ w : World, (Instr.index 50 (.agg #[str [], str [100, 101, 108, 97, 121], str [99, 97, 110, 99, 101, 108], str [115, 107, 105, 112], str [114, 101, 114, 111, 117, 116, 101], str [97, 100, 100], str [114, 101, 115, 116, 111, 114, 101]]) (.int .i64 3)).run Tryd.prog w = .ok (str [115, 107, 105, 112]) w := fun _ => by kernel_rfl
    have y4 : ∀ w : World, (Instr.index 50 (.agg #[str [], str [100, 101, 108, 97, 121], str [99, 97, 110, 99, 101, 108], str [115, 107, 105, 112], str [114, 101, 114, 111, 117, 116, 101], str [97, 100, 100], str [114, 101, 115, 116, 111, 114, 101]]) (.int .i64 4)).run Tryd.prog w = .ok (str [114, 101, 114, 111, 117, 116, 101]) w := fun _ => by kernel_rfl
    have y5 : ∀ w : World, (Instr.index 50 (.agg #[str [], str [100, 101, 108, 97, 121], str [99, 97, 110, 99, 101, 108], str [115, 107, 105, 112], str [114, 101, 114, 111, 117, 116, 101], str [97, 100, 100], str [114, 101, 115, 116, 111, 114, 101]]) (.int .i64 5)).run Tryd.prog w = .ok (str [97, 100, 100]) w := fun _ => by kernel_rfl
    have y6 : ∀ w : World, (Instr.index 50 (.agg #[str [], str [100, 101, 108, 97, 121], str [99, 97, 110, 99, 101, 108], str [115, 107, 105, 112], str [114, 101, 114, 111, 117, 116, 101], str [97, 100, 100], str [114, 101, 115, 116, 111, 114, 101]]) (.int .i64 6)).run Tryd.prog w = .ok (str [114, 101, 115, 116, 111, 114, 101]) w := fun _ => by kernel_rfl
    by_cases h8 : 8 ≤ l.length
    · obtain ⟨b8, o8, c8, e8, l1, l2, l3, hc8⟩ := (ownS_in O1.out).open (by omega)
      rw [Value.slice.injEq] at e8
      obtain ⟨rfl, -, rfl⟩ := e8
      obtain ⟨a4, ha4⟩ : ∃ a4, at' l 4 = a4 := ⟨_, rfl⟩
      have x4 : w1.cell? ⟨b8, o8 + 4, none⟩ = some (str a4) := hc8 4 a4 (by rw [← ha4]; unfold at'; rw [List.getD_eq_getElem?_getD, List.getElem?_eq_getElem (by omega)]; rfl) 0 _ rfl
      have h8I : (8 : Int) ≤ (l.length : Int) := by omega
      have HC8 := Lib.hid hc8
      have HA4 := Lib.hid ha4
      clear hc8 ha4
      go_wp2_with fail
      go_loop [6, 20] (fun s6 s20 => ∃ k : Nat, k ≤ 7 ∧ s20 = .int .i64 k ∧ s6 = .int .i64 (kindK a4 k)) (fun _ i => 7 - (intOf i).toNat)
      case atStart => exact ⟨0, by omega, rfl, rfl⟩
      case round =>
        obtain ⟨k, hk, rfl, rfl⟩ := hrel
        by_cases hlt : k < 7
        · obtain rfl | rfl | rfl | rfl | rfl | rfl | rfl : k = 0 ∨ k = 1 ∨ k = 2 ∨ k = 3 ∨ k = 4 ∨ k = 5 ∨ k = 6 := by omega
          all_goals
            go_wp2
          all_goals first
            | (refine ⟨⟨1, by decide, rfl, ?_⟩, by simp [intOf]⟩; exact congrArg (Value.int .i64) rfl)
            | (refine ⟨⟨2, by decide, rfl, ?_⟩, by simp [intOf]⟩; exact congrArg (Value.int .i64) (kindK_yes 1 (by decide) (by assumption)))
            | (refine ⟨⟨2, by decide, rfl, ?_⟩, by simp [intOf]⟩; exact congrArg (Value.int .i64) (kindK_no 1 (by assumption)))
            | (refine ⟨⟨3, by decide, rfl, ?_⟩, by simp [intOf]⟩; exact congrArg (Value.int .i64) (kindK_yes 2 (by decide) (by assumption)))
            | (refine ⟨⟨3, by decide, rfl, ?_⟩, by simp [intOf]⟩; exact congrArg (Value.int .i64) (kindK_no 2 (by assumption)))
            | (refine ⟨⟨4, by decide, rfl, ?_⟩, by simp [intOf]⟩; exact congrArg (Value.int .i64) (kindK_yes 3 (by decide) (by assumption)))
            | (refine ⟨⟨4, by decide, rfl, ?_⟩, by simp [intOf]⟩; exact congrArg (Value.int .i64) (kindK_no 3 (by assumption)))
            | (refine ⟨⟨5, by decide, rfl, ?_⟩, by simp [intOf]⟩; exact congrArg (Value.int .i64) (kindK_yes 4 (by decide) (by assumption)))
            | (refine ⟨⟨5, by decide, rfl, ?_⟩, by simp [intOf]⟩; exact congrArg (Value.int .i64) (kindK_no 4 (by assumption)))
            | (refine ⟨⟨6, by decide, rfl, ?_⟩, by simp [intOf]⟩; exact congrArg (Value.int .i64) (kindK_yes 5 (by decide) (by assumption)))
            | (refine ⟨⟨6, by decide, rfl, ?_⟩, by simp [intOf]⟩; exact congrArg (Value.int .i64) (kindK_no 5 (by assumption)))
            | (refine ⟨⟨7, by decide, rfl, ?_⟩, by simp [intOf]⟩; exact congrArg (Value.int .i64) (kindK_yes 6 (by decide) (by assumption)))
            | (refine ⟨⟨7, by decide, rfl, ?_⟩, by simp [intOf]⟩; exact congrArg (Value.int .i64) (kindK_no 6 (by assumption)))
        · obtain rfl : k = 7 := by omega
          obtain ⟨K, hK⟩ : ∃ K, kindK a4 7 = K := ⟨_, rfl⟩
          have HK := Lib.hid ((kindK_all a4).symm.trans hK)
          rw [hK]
          clear hK g0 g1 g2 g3 g4 g5 g6 y0 y1 y2 y3 y4 y5 y6 x4
          by_cases hk0 : K = 0
          · subst hk0
            have HF := Lib.hid (show (zeroM, (3 : Int)) = (m, e) by rw [← H.out]; unfold parseM; rw [HSP.out]; simp only [HA4.out, HK.out]; simp)
            obtain ⟨rfl, rfl⟩ := Prod.mk.inj HF.out
            clear H HF
            have rf := Lib.frozen_of_heap R1.out
            have j0 := blk_cell R1.out 0 _ rfl
            have j1 := blk_cell R1.out 1 _ rfl
            have j2 := blk_cell R1.out 2 _ rfl
            have j3 := blk_cell R1.out 3 _ rfl
            have j4 := blk_cell R1.out 4 _ rfl
            have j5 := blk_cell R1.out 5 _ rfl
            have j6 := blk_cell R1.out 6 _ rfl
            have j7 := blk_cell R1.out 7 _ rfl
            have j8 := blk_cell R1.out 8 _ rfl
            have j9 := blk_cell R1.out 9 _ rfl
            have j10 := blk_cell R1.out 10 _ rfl
            have j11 := blk_cell R1.out 11 _ rfl
            have j12 := blk_cell R1.out 12 _ rfl
            go_wp2_with fail
            refine bodyPost_ret (results_cell_slot rfl _ _ w.heap.size 24 _ (0, 0) _ _ rfl rfl (store13 R1.out) Tryd.underlying24 rfl (by kernel_rfl)) rfl ?_
            exact ⟨_, rfl, slIn_nil, bl13 B1.out (Nat.le_refl _)⟩
          · have k0 : (K == 0) = false := by rw [beq_eq_false_iff_ne]; exact hk0
            obtain ⟨sh, hsh⟩ : ∃ sh, shapedN K l.length = sh := ⟨_, rfl⟩
            have hshc := fun w => shaped_c K l.length sh hsh w
            have HSH := Lib.hid hsh
            clear hsh
            cases sh with
            | false =>
              have HF := Lib.hid (show (zeroM, (3 : Int)) = (m, e) by rw [← H.out]; unfold parseM; rw [HSP.out]; simp only [HA4.out, HK.out, HSH.out]; simp)
              obtain ⟨rfl, rfl⟩ := Prod.mk.inj HF.out
              clear H HF
              have rf := Lib.frozen_of_heap R1.out
              have j0 := blk_cell R1.out 0 _ rfl
              have j1 := blk_cell R1.out 1 _ rfl
              have j2 := blk_cell R1.out 2 _ rfl
              have j3 := blk_cell R1.out 3 _ rfl
              have j4 := blk_cell R1.out 4 _ rfl
              have j5 := blk_cell R1.out 5 _ rfl
              have j6 := blk_cell R1.out 6 _ rfl
              have j7 := blk_cell R1.out 7 _ rfl
              have j8 := blk_cell R1.out 8 _ rfl
              have j9 := blk_cell R1.out 9 _ rfl
              have j10 := blk_cell R1.out 10 _ rfl
              have j11 := blk_cell R1.out 11 _ rfl
              have j12 := blk_cell R1.out 12 _ rfl
              go_wp2_with (go_at_call 38; refine (hshc _).mono ?_)
              refine bodyPost_ret (results_cell_slot rfl _ _ w.heap.size 24 _ (0, 0) _ _ rfl rfl (store13 R1.out) Tryd.underlying24 rfl (by kernel_rfl)) rfl ?_
              exact ⟨_, rfl, slIn_nil, bl13 B1.out (Nat.le_refl _)⟩
            | true =>
              have HF := Lib.hid (show takeM K l = (m, e) by rw [← H.out]; unfold parseM; rw [HSP.out]; simp only [HA4.out, HK.out, HSH.out]; simp [hk0, Nat.not_lt.2 h8])
              obtain ⟨a0, a1, a2, a3, a4', a5, a6, a7, r, hL⟩ := len8 h8
              have HL := Lib.hid hL
              have hla : ∀ x ∈ l, x.length ≤ 9223372036854775807 := fun x hx => by have := hlens.out x hx; omega
              have hl8 := Lib.hid (show ∀ x ∈ [a0, a1, a2, a3, a4', a5, a6, a7], x.length ≤ 9223372036854775807 from fun x hx => hla x (by rw [hL]; simp only [List.mem_cons, List.not_mem_nil, or_false] at hx; simp only [List.mem_cons]; rcases hx with h | h | h | h | h | h | h | h <;> simp [h]))
              have hlr := Lib.hid (show ∀ x ∈ r, x.length ≤ 131072 from fun x hx => hlens.out x (by rw [hL]; simp [hx]))
              have hr64 : r.length ≤ 64 := by have := congrArg List.length hL; simp at this; omega
              have hkk : 1 ≤ K ∧ K ≤ 6 := by have := (word_kind (w := a4) (by rw [HK.out]; exact hk0)).2; rw [HK.out] at this; exact this
              have HU1 := Lib.hid (show StrsIn w1.heap.size w1 (.slice (some ⟨b8, o8, none⟩) l.length c1) (a0 :: a1 :: a2 :: a3 :: a4' :: a5 :: a6 :: a7 :: r) by rw [← hL]; exact ownS_in O1.out)
              have HSH2 := Lib.hid (show shapedN K (a0 :: a1 :: a2 :: a3 :: a4' :: a5 :: a6 :: a7 :: r).length = true by rw [← hL]; exact HSH.out)
              obtain ⟨⟨n0, e0⟩, H0⟩ : ∃ p, Hid (parse a0 = p) := ⟨_, rfl⟩
              obtain ⟨⟨n1, e1⟩, H1⟩ : ∃ p, Hid (parse a1 = p) := ⟨_, rfl⟩
              obtain ⟨⟨n2, e2⟩, H2⟩ : ∃ p, Hid (parse a2 = p) := ⟨_, rfl⟩
              obtain ⟨⟨n3, e3⟩, H3⟩ : ∃ p, Hid (parse a3 = p) := ⟨_, rfl⟩
              obtain ⟨⟨n6, e6⟩, H6'⟩ : ∃ p, Hid (dayR a6 = p) := ⟨_, rfl⟩
              obtain ⟨⟨n7, e7⟩, H7⟩ : ∃ p, Hid (parse a7 = p) := ⟨_, rfl⟩
              have H6 : Hid (Day a6 n6 e6) := by have := dayR_day a6; rw [H6'.out] at this; exact this
              obtain ⟨E1, HE1⟩ : ∃ E1, Hid (fe (fe (fe (fe (fe (fe 0 e0) e1) e2) e3) e6) e7 = E1) := ⟨_, rfl⟩
              obtain ⟨M, HM⟩ : ∃ M, Hid (readM K (a0 :: a1 :: a2 :: a3 :: a4' :: a5 :: a6 :: a7 :: r) = M) := ⟨_, rfl⟩
              obtain ⟨E2, HE2⟩ : ∃ E2, Hid (feL E1 (tailE K (a0 :: a1 :: a2 :: a3 :: a4' :: a5 :: a6 :: a7 :: r)) = E2) := ⟨_, rfl⟩
              obtain ⟨rc, HRC⟩ : ∃ rc, Hid (checkM M = rc) := ⟨_, rfl⟩
              obtain ⟨E3, HE3⟩ : ∃ E3, Hid (fe E2 rc = E3) := ⟨_, rfl⟩
              have HFE := Lib.hid (show (if E3 = 0 then (M, (0 : Int)) else (zeroM, E3)) = (m, e) by
                have ee : firstE (readE K l ++ [checkM (readM K l)]) = E3 := by
                  have h1 : firstE (readE K l ++ [checkM (readM K l)]) = feL 0 (readE K l ++ [checkM (readM K l)]) := by rw [feL_first]; exact (if_pos rfl).symm
                  have h2 : feL 0 (headE l) = E1 := by
                    rw [← HE1.out, hL]
                    show fe (fe (fe (fe (fe (fe 0 (parse a0).2) (parse a1).2) (parse a2).2) (parse a3).2) (dayR a6).2) (parse a7).2 = _
                    rw [H0.out, H1.out, H2.out, H3.out, H6'.out, H7.out]
                  rw [h1, feL_app, show readE K l = headE l ++ tailE K l from rfl, feL_app, h2, hL, HE2.out, HM.out]
                  show fe E2 (checkM M) = E3
                  rw [HRC.out, HE3.out]
                rw [← HF.out]
                unfold takeM
                simp only [ee]
                rw [hL, HM.out])
              have htr : M.trip.length ≤ 9223372036854775807 := by rw [← HM.out]; exact hl8.out a5 (by simp)
              have hrb : w.heap.size < w1.heap.size := lt_of_block R1.out
              clear hL hla H HF HA4 HK HSP HSH hlens h8 h8I O1 HC8
              go_wp2_with (first
                | (go_at_call 38; refine (hshc _).mono ?_; rintro q2 w2 ⟨rfl, rfl⟩)
                | (go_at_call 39; refine (head_c w1.heap.size _ _ a0 a1 a2 a3 a4' a5 a6 a7 r n0 n1 n2 n3 n6 n7 e0 e1 e2 e3 e6 e7 E1 w1.heap.size K H0 H1 H2 H3 H6 H7 HE1 hl8 _ (heap_alloc_new w1 _) (HU1.out.below (bl_alloc (bl_refl _) _)) (Nat.le_refl _)).mono ?_))
              rintro q3 w3 ⟨rfl, u3, s3, p3, g3⟩
              have R3 := Lib.hid ((gr_blk g3 (by simp; omega) (by omega)).trans ((Below.heap_alloc w1 _ w.heap.size hrb).trans R1.out))
              have B3 := Lib.hid (bl_gr (bl_alloc B1.out _) g3 (Nat.le_of_lt hrb))
              have P3 : Hid (PAt w1.heap.size u3 E1 ⟨(parse a0).1, (parse a1).1, (parse a2).1, (parse a3).1, K, a5, (dayR a6).1, (parse a7).1, 0, 0, 0, false, []⟩ (.slice none 0 0) w3) := by rw [H0.out, H1.out, H2.out, H3.out, H6'.out, H7.out]; exact p3
              have S3 := Lib.hid s3
              clear p3 s3 g3 R1 B1 HU1
              go_wp2_with (go_at_call 40; refine (tail_all w1.heap.size u3 E1 K a0 a1 a2 a3 a4' a5 a6 a7 r hkk HSH2.out hr64 hlr w1.heap.size w3 P3.out S3.out (Nat.le_refl _)).mono ?_)
              rintro q4 w4 ⟨rfl, u4, vc, p4, c4, g4⟩
              rw [HE2.out, HM.out] at p4
              rw [HM.out] at c4
              obtain ⟨va, vcap, hvc, -⟩ := id c4
              have HVC := Lib.hid hvc
              clear hvc
              have R4 := Lib.hid ((gr_blk g4 (lt_of_block R3.out) (by omega)).trans R3.out)
              have B4 := Lib.hid (bl_gr B3.out g4 (Nat.le_of_lt hrb))
              have P4 := Lib.hid p4
              have C4 := Lib.hid c4
              clear p4 c4 g4 P3 S3 R3 B3
              have k2 : w4.cell? ⟨w1.heap.size, 2, none⟩ = some (.int .i64 M.src) := P4.out.cell 2 _ rfl
              have k3 : w4.cell? ⟨w1.heap.size, 3, none⟩ = some (.int .i64 M.seq) := P4.out.cell 3 _ rfl
              have k4 : w4.cell? ⟨w1.heap.size, 4, none⟩ = some (.int .i64 M.iss) := P4.out.cell 4 _ rfl
              have k5 : w4.cell? ⟨w1.heap.size, 5, none⟩ = some (.int .i64 M.exp) := P4.out.cell 5 _ rfl
              have k6 : w4.cell? ⟨w1.heap.size, 6, none⟩ = some (.int .i64 M.kind) := P4.out.cell 6 _ rfl
              have k7 : w4.cell? ⟨w1.heap.size, 7, none⟩ = some (str M.trip) := P4.out.cell 7 _ rfl
              have k8 : w4.cell? ⟨w1.heap.size, 8, none⟩ = some (.int .i64 M.day) := P4.out.cell 8 _ rfl
              have k9 : w4.cell? ⟨w1.heap.size, 9, none⟩ = some (.int .i64 M.inst) := P4.out.cell 9 _ rfl
              have k10 : w4.cell? ⟨w1.heap.size, 10, none⟩ = some (.int .i64 M.call) := P4.out.cell 10 _ rfl
              have k11 : w4.cell? ⟨w1.heap.size, 11, none⟩ = some (.int .i64 M.secs) := P4.out.cell 11 _ rfl
              have k12 : w4.cell? ⟨w1.heap.size, 12, none⟩ = some (.int .i64 M.route) := P4.out.cell 12 _ rfl
              have k13 : w4.cell? ⟨w1.heap.size, 13, none⟩ = some (.bool M.step) := P4.out.cell 13 _ rfl
              have k14 : w4.cell? ⟨w1.heap.size, 14, none⟩ = some (vc) := P4.out.cell 14 _ rfl
              go_wp2_with (go_at_call 10; refine (check_c M vc rc HRC htr w4.heap.size w4 C4.out (Nat.le_refl _)).mono ?_)
              rintro q5 w5 ⟨rfl, b5⟩
              have P5 : Hid (PAt w1.heap.size u4 E2 M vc w5) := blk_bl P4.out b5
              have R5 := Lib.hid (blk_bl R4.out b5)
              have B5 := Lib.hid (bl_next B4.out b5)
              have C5 := Lib.hid (C4.out.below b5)
              have h45 : w4.heap.size ≤ w5.heap.size := b5.size
              clear b5 P4 R4 B4 C4 k2 k3 k4 k5 k6 k7 k8 k9 k10 k11 k12 k13 k14
              go_wp2_with (go_at_call 41; refine (fail_c w1.heap.size u4 E2 rc E3 HE3 M vc w5 P5.out).mono ?_)
              rintro q6 w6 ⟨rfl, p6, g6⟩
              have P6 := Lib.hid p6
              have R6 := Lib.hid ((gr_blk g6 (lt_of_block R5.out) (by omega)).trans R5.out)
              have B6 := Lib.hid (bl_gr B5.out g6 (Nat.le_of_lt hrb))
              have C6 := Lib.hid (calls_far C5.out h45 P5.out (no_two_p u4 E2 M vc va _ vcap HVC.out) (fun k hk hne => gr_blk g6 hk hne))
              have h46 : w4.heap.size ≤ w6.heap.size := Nat.le_trans h45 g6.size
              clear p6 g6 P5 R5 B5 C5
              have k1 : w6.cell? ⟨w1.heap.size, 1, none⟩ = some (.int .i64 E3) := P6.out.cell 1 _ rfl
              have rf := Lib.frozen_of_heap R6.out
              have j0 := blk_cell R6.out 0 _ rfl
              have j1 := blk_cell R6.out 1 _ rfl
              have j2 := blk_cell R6.out 2 _ rfl
              have j3 := blk_cell R6.out 3 _ rfl
              have j4 := blk_cell R6.out 4 _ rfl
              have j5 := blk_cell R6.out 5 _ rfl
              have j6 := blk_cell R6.out 6 _ rfl
              have j7 := blk_cell R6.out 7 _ rfl
              have j8 := blk_cell R6.out 8 _ rfl
              have j9 := blk_cell R6.out 9 _ rfl
              have j10 := blk_cell R6.out 10 _ rfl
              have j11 := blk_cell R6.out 11 _ rfl
              have j12 := blk_cell R6.out 12 _ rfl
              by_cases hE3 : E3 = 0
              · have HG := Lib.hid (show (M, (0 : Int)) = (m, e) by rw [← HFE.out]; exact (if_pos hE3).symm)
                obtain ⟨e1', e2'⟩ := Prod.mk.inj HG.out
                have f0 : (E3 != 0) = false := by rw [hE3]; rfl
                have hvc := HVC.out
                clear HG HFE HVC
                subst e1' e2' hvc
                have k2 : w6.cell? ⟨w1.heap.size, 2, none⟩ = some (.int .i64 M.src) := P6.out.cell 2 _ rfl
                have k3 : w6.cell? ⟨w1.heap.size, 3, none⟩ = some (.int .i64 M.seq) := P6.out.cell 3 _ rfl
                have k4 : w6.cell? ⟨w1.heap.size, 4, none⟩ = some (.int .i64 M.iss) := P6.out.cell 4 _ rfl
                have k5 : w6.cell? ⟨w1.heap.size, 5, none⟩ = some (.int .i64 M.exp) := P6.out.cell 5 _ rfl
                have k6 : w6.cell? ⟨w1.heap.size, 6, none⟩ = some (.int .i64 M.kind) := P6.out.cell 6 _ rfl
                have k7 : w6.cell? ⟨w1.heap.size, 7, none⟩ = some (str M.trip) := P6.out.cell 7 _ rfl
                have k8 : w6.cell? ⟨w1.heap.size, 8, none⟩ = some (.int .i64 M.day) := P6.out.cell 8 _ rfl
                have k9 : w6.cell? ⟨w1.heap.size, 9, none⟩ = some (.int .i64 M.inst) := P6.out.cell 9 _ rfl
                have k10 : w6.cell? ⟨w1.heap.size, 10, none⟩ = some (.int .i64 M.call) := P6.out.cell 10 _ rfl
                have k11 : w6.cell? ⟨w1.heap.size, 11, none⟩ = some (.int .i64 M.secs) := P6.out.cell 11 _ rfl
                have k12 : w6.cell? ⟨w1.heap.size, 12, none⟩ = some (.int .i64 M.route) := P6.out.cell 12 _ rfl
                have k13 : w6.cell? ⟨w1.heap.size, 13, none⟩ = some (.bool M.step) := P6.out.cell 13 _ rfl
                have k14 : w6.cell? ⟨w1.heap.size, 14, none⟩ = some (.slice va M.calls.length vcap) := P6.out.cell 14 _ rfl
                go_wp2_with fail
                refine bodyPost_ret (results_cell_slot rfl _ _ w.heap.size 24 _ (0, 0) _ _ rfl rfl (store13 R6.out) Tryd.underlying24 rfl (by kernel_rfl)) rfl ?_
                refine ⟨_, rfl, ?_, bl13 B6.out (Nat.le_refl _)⟩
                refine (calls_far C6.out h46 R6.out no_two_z (fun k hk hne => far13 hne)).mono ?_
                simp
                omega
              · have HG := Lib.hid (show (zeroM, E3) = (m, e) by rw [← HFE.out]; exact (if_neg hE3).symm)
                obtain ⟨e1', e2'⟩ := Prod.mk.inj HG.out
                have f0 : (E3 != 0) = true := by rw [bne_iff_ne]; exact hE3
                clear HG HFE
                subst e1' e2'
                go_wp2_with fail
                go_region
                have RF : (put13 w6 w.heap.size (.int .i64 0) (.int .i64 0) (.int .i64 0) (.int .i64 0) (.int .i64 0) (.string ⟨#[]⟩) (.int .i64 0) (.int .i64 0) (.int .i64 0) (.int .i64 0) (.int .i64 0) (.bool false) (.slice none 0 0)).heap[w.heap.size]? = some (.cells zeroC 24 (0, 0)) := store13 R6.out
                have BF : Bl w (put13 w6 w.heap.size (.int .i64 0) (.int .i64 0) (.int .i64 0) (.int .i64 0) (.int .i64 0) (.string ⟨#[]⟩) (.int .i64 0) (.int .i64 0) (.int .i64 0) (.int .i64 0) (.int .i64 0) (.bool false) (.slice none 0 0)) := bl13 B6.out (Nat.le_refl _)
                obtain ⟨WF, hWF⟩ : ∃ WF, WF = put13 w6 w.heap.size (.int .i64 0) (.int .i64 0) (.int .i64 0) (.int .i64 0) (.int .i64 0) (.string ⟨#[]⟩) (.int .i64 0) (.int .i64 0) (.int .i64 0) (.int .i64 0) (.int .i64 0) (.bool false) (.slice none 0 0) := ⟨_, rfl⟩
                rw [← hWF] at RF BF
                dsimp only [put13] at hWF
                rw [← hWF]
                have HRF := Lib.hid RF
                have HBF := Lib.hid BF
                clear hWF RF BF rf j0 j1 j2 j3 j4 j5 j6 j7 j8 j9 j10 j11 j12 k1
                go_wp2_with fail
                refine bodyPost_ret (results_cell_slot rfl _ WF.drew w.heap.size 24 zeroC (0, 0) _ _ rfl rfl HRF.out Tryd.underlying24 rfl (by kernel_rfl)) rfl ?_
                exact ⟨_, rfl, slIn_nil, bl_drew HBF.out⟩
    · have h8I : ¬ (8 : Int) ≤ (l.length : Int) := by omega
      have HF := Lib.hid (show (zeroM, (3 : Int)) = (m, e) by rw [← H.out]; unfold parseM; rw [HSP.out, if_neg (by simp), if_pos (.inl (by show l.length < 8; omega))])
      obtain ⟨rfl, rfl⟩ := Prod.mk.inj HF.out
      clear H HF
      have rf := Lib.frozen_of_heap R1.out
      have j0 := blk_cell R1.out 0 _ rfl
      have j1 := blk_cell R1.out 1 _ rfl
      have j2 := blk_cell R1.out 2 _ rfl
      have j3 := blk_cell R1.out 3 _ rfl
      have j4 := blk_cell R1.out 4 _ rfl
      have j5 := blk_cell R1.out 5 _ rfl
      have j6 := blk_cell R1.out 6 _ rfl
      have j7 := blk_cell R1.out 7 _ rfl
      have j8 := blk_cell R1.out 8 _ rfl
      have j9 := blk_cell R1.out 9 _ rfl
      have j10 := blk_cell R1.out 10 _ rfl
      have j11 := blk_cell R1.out 11 _ rfl
      have j12 := blk_cell R1.out 12 _ rfl
      go_wp2_with fail
      go_loop [6, 20] (fun s6 s20 => ∃ k : Nat, k ≤ 7 ∧ s20 = .int .i64 k ∧ s6 = .int .i64 0) (fun _ i => 7 - (intOf i).toNat)
      case atStart => exact ⟨0, by omega, rfl, rfl⟩
      case round =>
        obtain ⟨k, hk, rfl, rfl⟩ := hrel
        by_cases hlt : k < 7
        · obtain rfl | rfl | rfl | rfl | rfl | rfl | rfl : k = 0 ∨ k = 1 ∨ k = 2 ∨ k = 3 ∨ k = 4 ∨ k = 5 ∨ k = 6 := by omega
          all_goals
            go_wp2
          all_goals first
            | exact ⟨⟨1, by decide, rfl, rfl⟩, by simp [intOf]⟩
            | exact ⟨⟨2, by decide, rfl, rfl⟩, by simp [intOf]⟩
            | exact ⟨⟨3, by decide, rfl, rfl⟩, by simp [intOf]⟩
            | exact ⟨⟨4, by decide, rfl, rfl⟩, by simp [intOf]⟩
            | exact ⟨⟨5, by decide, rfl, rfl⟩, by simp [intOf]⟩
            | exact ⟨⟨6, by decide, rfl, rfl⟩, by simp [intOf]⟩
            | exact ⟨⟨7, by decide, rfl, rfl⟩, by simp [intOf]⟩
        · obtain rfl : k = 7 := by omega
          go_wp2_with fail
          refine bodyPost_ret (results_cell_slot rfl _ _ w.heap.size 24 _ (0, 0) _ _ rfl rfl (store13 R1.out) Tryd.underlying24 rfl (by kernel_rfl)) rfl ?_
          exact ⟨_, rfl, slIn_nil, bl13 B1.out (Nat.le_refl _)⟩
  · have HF := Lib.hid (show (zeroM, es) = (m, e) by rw [← H.out]; unfold parseM; rw [HSP.out]; exact (if_pos hes).symm)
    obtain ⟨rfl, rfl⟩ := Prod.mk.inj HF.out
    have f1 : (es != 0) = true := by rw [bne_iff_ne]; exact hes
    clear H HF HSP hsp hw
    go_enter Tryd.func15, Tryd.ntmps15
    go_wp2_with (go_at_call 37; refine (hsc _).mono ?_)
    rintro q1 w1 ⟨v1, rfl, o1, b1⟩
    have R1 := Lib.hid (blk_bl HR0.out b1)
    have rf := Lib.frozen_of_heap R1.out
    have j0 := blk_cell R1.out 0 _ rfl
    have j1 := blk_cell R1.out 1 _ rfl
    have j2 := blk_cell R1.out 2 _ rfl
    have j3 := blk_cell R1.out 3 _ rfl
    have j4 := blk_cell R1.out 4 _ rfl
    have j5 := blk_cell R1.out 5 _ rfl
    have j6 := blk_cell R1.out 6 _ rfl
    have j7 := blk_cell R1.out 7 _ rfl
    have j8 := blk_cell R1.out 8 _ rfl
    have j9 := blk_cell R1.out 9 _ rfl
    have j10 := blk_cell R1.out 10 _ rfl
    have j11 := blk_cell R1.out 11 _ rfl
    have j12 := blk_cell R1.out 12 _ rfl
    have B1 := Lib.hid (bl_next (bl_alloc (bl_refl w) _) b1)
    clear b1 o1
    go_wp2_with fail
    refine bodyPost_ret (results_cell_slot rfl _ _ w.heap.size 24 _ (0, 0) _ _ rfl rfl (store13 R1.out) Tryd.underlying24 rfl (by kernel_rfl)) rfl ?_
    exact ⟨_, rfl, slIn_nil, bl13 B1.out (Nat.le_refl _)⟩
end Go.Proofs.YthdadalmgldppaaDoor
