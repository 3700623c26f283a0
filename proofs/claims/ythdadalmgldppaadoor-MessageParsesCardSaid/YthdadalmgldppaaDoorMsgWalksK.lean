/-
  THE CONTRACTS OF MESSAGE, PART K: Format of the program. Conditions: those of each contract.
-/
import Derived.Test.YthdadalmgldppaaDoorMsgWalksH
import Derived.Test.YthdadalmgldppaaDoorMsgWalksJ
import Derived.Test.YthdadalmgldppaaDoorDaDatWalksE
import Derived.Deep.RegionHeld3
import Derived.Deep.AppendLies
import Derived.Laws.AppendOwnNone
namespace Go.Proofs.YthdadalmgldppaaDoor
open Go.RowKit
open Msg Num Dat Fld

/-- The laid words of the kinds. -/
def WordsAt (w : World) : Prop := (∀ k : Nat, k < 7 → w.cell? ⟨0, k, none⟩ = some (str (wordS k))) ∧ 0 < w.heap.size
theorem WordsAt.next {w w' : World} (h : WordsAt w) (hb : Bl w w') : WordsAt w' := ⟨fun k hk => by rw [(bl_cell hb).1 _ _ h.2]; exact h.1 k hk, Nat.lt_of_lt_of_le h.2 hb.size⟩
theorem flat_strs : ∀ l : List (List UInt8), l.flatMap strCells = l.map str
  | [] => rfl
  | x :: l => by rw [List.flatMap_cons, List.map_cons, flat_strs l]; rfl
theorem news_of {b o : Nat} {l : List (List UInt8)} {w : World} (h : ∀ (i : Nat) (x : List UInt8), l[i]? = some x → ∀ (j : Nat) (u : Value), (strCells x)[j]? = some u → w.cell? ⟨b, o + i * 1 + j, none⟩ = some u) :
    ∀ (j : Nat) (u : Value), (l.flatMap strCells)[j]? = some u → w.cell? ((⟨b, o, none⟩ : Addr).add j) = some u := by
  intro j u hu
  rw [flat_strs, List.getElem?_map] at hu
  obtain ⟨x, hx, rfl⟩ := Option.map_eq_some_iff.1 hu
  have := h j x hx 0 _ rfl
  unfold Addr.add
  split
  · rename_i k; rw [show o + j * 1 + 0 = o by omega] at this; exact this
  · rw [show o + j * 1 + 0 = o + j by omega] at this; exact this
theorem flat_one (l : List (List UInt8)) : ∀ u ∈ l.flatMap strCells, u.oneCell' = true := by
  intro u hu
  rw [flat_strs] at hu
  obtain ⟨x, -, rfl⟩ := List.mem_map.1 hu
  rfl
/-- The first eight fields. -/
abbrev eight (m : MsgD) : List (List UInt8) := [itoa m.src, itoa m.seq, itoa m.iss, itoa m.exp, wordS m.kind, m.trip, dtext m.day, itoa m.inst]
theorem ownS_base {B B' : Nat} {v : Value} {l : List (List UInt8)} {w : World} (h : OwnS B v l w) (hB : B' ≤ B) : OwnS B' v l w := by
  refine ⟨h.1, ?_⟩
  rcases h.2 with k | ⟨g, cap, cur, hv, hg, r⟩
  · exact .inl k
  · exact .inr ⟨g, cap, cur, hv, by omega, r⟩
theorem MsgAt.all {g : Nat} {m : MsgD} {v : Value} {w : World} (h : MsgAt g 0 m v w) : (w.cell? ⟨g, 0, none⟩ = some (.int .i64 m.src) ∧ w.cell? ⟨g, 1, none⟩ = some (.int .i64 m.seq) ∧ w.cell? ⟨g, 2, none⟩ = some (.int .i64 m.iss) ∧ w.cell? ⟨g, 3, none⟩ = some (.int .i64 m.exp) ∧ w.cell? ⟨g, 4, none⟩ = some (.int .i64 m.kind) ∧ w.cell? ⟨g, 5, none⟩ = some (str m.trip) ∧ w.cell? ⟨g, 6, none⟩ = some (.int .i64 m.day) ∧ w.cell? ⟨g, 7, none⟩ = some (.int .i64 m.inst) ∧ w.cell? ⟨g, 8, none⟩ = some (.int .i64 m.call) ∧ w.cell? ⟨g, 9, none⟩ = some (.int .i64 m.secs) ∧ w.cell? ⟨g, 10, none⟩ = some (.int .i64 m.route) ∧ w.cell? ⟨g, 11, none⟩ = some (.bool m.step) ∧ w.cell? ⟨g, 12, none⟩ = some v) := by
  unfold MsgAt at h
  simp only [Nat.zero_add] at h
  exact ⟨h 0 _ rfl, h 1 _ rfl, h 2 _ rfl, h 3 _ rfl, h 4 _ rfl, h 5 _ rfl, h 6 _ rfl, h 7 _ rfl, h 8 _ rfl, h 9 _ rfl, h 10 _ rfl, h 11 _ rfl, h 12 _ rfl⟩
theorem blk_bl {w w' : World} {g : Nat} {o : Obj} (hu : w.heap[g]? = some o) (hb : Bl w w') : w'.heap[g]? = some o := (hb.block g (lt_of_block hu)).trans hu
theorem blk_grow {B g : Nat} {v : Value} {l : List (List UInt8)} {w w' : World} {C : Array Value} {T : TypeId} (hu : w.heap[g]? = some (.cells C T (0, 0))) (h : OwnS B v l w) (hg : w.grownBy w' v.ownBlock) (hT : T ≠ 9) : w'.heap[g]? = some (.cells C T (0, 0)) := by
  refine (hg.block g (lt_of_block hu) fun e => ?_).trans hu
  rcases h.2 with ⟨rfl, _⟩ | ⟨k, cap, cur, rfl, _, hk, _⟩
  · simp [Value.ownBlock] at e
  · simp only [Value.ownBlock, Option.some.injEq] at e
    rw [← e, hu, Option.some.injEq, Obj.cells.injEq] at hk
    exact hT hk.2.1
theorem blk_cell {g : Nat} {w : World} {C : Array Value} {T : TypeId} (hu : w.heap[g]? = some (.cells C T (0, 0))) (i : Nat) (u : Value) (hi : C[i]? = some u) : w.cell? ⟨g, i, none⟩ = some u := by
  rw [cell_of_row w g i C T (0, 0) hu]
  exact hi
theorem kind_check {m : MsgD} (h : checkM m = 0) : kindErr m = 0 := by
  unfold checkM at h
  repeat' split at h
  all_goals first
    | exact absurd h (by decide)
    | exact h
theorem kindsOf {k : Int} (h : 1 ≤ k ∧ k ≤ 6) : (uCall k = true ∧ uSecs k = true ∧ uRoute k = false ∧ uCalls k = false) ∨ (uCall k = true ∧ uSecs k = false ∧ uRoute k = false ∧ uCalls k = false) ∨ (uCall k = false ∧ uSecs k = false ∧ uRoute k = false ∧ uCalls k = true) ∨ (uCall k = false ∧ uSecs k = false ∧ uRoute k = true ∧ uCalls k = true) ∨ (uCall k = false ∧ uSecs k = false ∧ uRoute k = false ∧ uCalls k = false) := by
  rcases kinds h with rfl | rfl | rfl | rfl | rfl | rfl <;> decide
theorem news4 {W : World} {T : TypeId} {a b c d : Value} {g : Nat} (hg : g = W.heap.size) : ∀ (j : Nat) (u : Value), [a, b, c, d][j]? = some u → (W.alloc (.cells #[a, b, c, d] T)).cell? ((⟨g, 0, none⟩ : Addr).add j) = some u := cells_new _ _ hg (fun j u h => by simpa using h)
set_option maxRecDepth 20000 in
set_option maxHeartbeats 8000000 in
theorem format_c (m : MsgD) (v : Value) (s : List UInt8) (e : Int) (H : Hid (formatM m = (s, e))) (ho : Hid (OkM m)) (ht : m.trip.length ≤ 9223372036854775807) (B : Nat) (w : World) (hw : WordsAt w) (hv : CallsIn B w v m.calls) (hB : B ≤ w.heap.size) :
    Calls Tryd.prog 13 #[msgV m v] w fun r w' => r = .returned (.tuple #[str s, .int .i64 e]) ∧ Bl w w' := by
  obtain ⟨i0, hi, hz0, hz1, hz2⟩ := info_parts info_str
  obtain ⟨r, hr⟩ : ∃ r, checkM m = r := ⟨_, rfl⟩
  have HR := Lib.hid hr
  have hbl : Bl w (w.alloc (.cells (msgCells m v) 24)) := bl_alloc (bl_refl _) _
  have hcheck := check_c m v r HR ht B (w.alloc (.cells (msgCells m v) 24)) (hv.below (hbl.mono hB)) (by simp; omega)
  by_cases hr0 : r = 0
  · subst hr0
    have hg := Lib.hid (check_good HR.out)
    have hdf := fun w => Da.dFormat_c m.day (dtext m.day) 0 (by show _ = _; unfold dfmt; rw [if_pos hg.out.day]) w
    have HF := Lib.hid (show joinR (fieldsM m) = (s, e) by rw [← H.out]; unfold formatM; rw [if_pos HR.out])
    have hk0 : 0 ≤ m.kind := by have := hg.out.kind; omega
    have hk7 : m.kind < 7 := by have := hg.out.kind; omega
    have hm := msgAt_new m v w
    have hsz : w.heap.size < (w.alloc (.cells (msgCells m v) 24)).heap.size := by simp
    have HV := Lib.hid (hv.below (hbl.mono hB))
    have HW := Lib.hid (hw.next hbl)
    clear hr H hv hw
    go_enter Tryd.func13, Tryd.ntmps13
    go_wp2_with (first
      | (go_at_call 10; refine hcheck.mono ?_))
    rintro x2 w2 ⟨rfl, b2⟩
    have hB2 : B ≤ w2.heap.size := by have := b2.size; simp at this; omega
    have HM2 := Lib.hid (hm.next b2 hsz)
    have HB2 := Lib.hid (bl_next hbl b2)
    have HV2 := Lib.hid (HV.out.below (b2.mono (by simp; omega)))
    have HW2 := Lib.hid (HW.out.next b2)
    have hs2 : w.heap.size < w2.heap.size := by have := b2.size; simp at this; omega
    clear hm hbl HV HW b2 hcheck hsz
    have m6 : w2.cell? ⟨w.heap.size, 6, none⟩ = some (.int .i64 m.day) := by obtain ⟨_, _, _, _, _, _, c6, _⟩ := HM2.out.all; exact c6
    go_wp2_with (first
      | (go_at_call 30; refine (hdf _).mono ?_))
    rintro x3 w3 ⟨rfl, b3⟩
    have hB3 : B ≤ w3.heap.size := by have := b3.size; omega
    have HM3 := Lib.hid (HM2.out.next b3 hs2)
    have HB3 := Lib.hid (bl_next HB2.out b3)
    have HV3 := Lib.hid (HV2.out.below (b3.mono hB2))
    have HW3 := Lib.hid (HW2.out.next b3)
    have hs3 : w.heap.size < w3.heap.size := by have := b3.size; omega
    clear b3 HM2 HB2 HV2 HW2 hB2 hs2 hdf m6
    have hold : ∀ w', Bl w3 w' → (w'.cell? ⟨w.heap.size, 0, none⟩ = some (.int .i64 m.src) ∧ w'.cell? ⟨w.heap.size, 1, none⟩ = some (.int .i64 m.seq) ∧ w'.cell? ⟨w.heap.size, 2, none⟩ = some (.int .i64 m.iss) ∧ w'.cell? ⟨w.heap.size, 3, none⟩ = some (.int .i64 m.exp) ∧ w'.cell? ⟨w.heap.size, 4, none⟩ = some (.int .i64 m.kind) ∧ w'.cell? ⟨w.heap.size, 5, none⟩ = some (str m.trip) ∧ w'.cell? ⟨w.heap.size, 7, none⟩ = some (.int .i64 m.inst) ∧ w'.cell? ⟨0, m.kind.toNat, none⟩ = some (str (wordS m.kind))) := fun w' hb => by
      obtain ⟨c0, c1, c2, c3, c4, c5, c6, c7, _⟩ := (HM3.out.next hb hs3).all
      exact ⟨c0, c1, c2, c3, c4, c5, c7, by have := (HW3.out.next hb).1 m.kind.toNat (by omega); rw [Int.toNat_of_nonneg hk0] at this; exact this⟩
    have HO := ho
    have HX4 := Lib.hid (show ∀ n ∈ [m.src, m.seq, m.iss, m.exp], isI n by
      intro n hn
      simp only [List.mem_cons, List.not_mem_nil, or_false] at hn
      rcases hn with rfl | rfl | rfl | rfl
      · exact ho.out.src
      · exact ho.out.seq
      · exact ho.out.iss
      · exact ho.out.exp)
    have hints := fun (W : World) => ints_new [m.src, m.seq, m.iss, m.exp] (C := #[.int .i64 m.src, .int .i64 m.seq, .int .i64 m.iss, .int .i64 m.exp]) rfl 3 W (n := 4) (cap := 4) rfl (by omega) (by unfold maxLen; omega)
    have hfmt := fun w => Nu.format_c m.inst ho.out.inst.1 ho.out.inst.2 w
    have own4 : ∀ {X : Nat} {u : Value} {W : World}, w3.heap.size ≤ X → OwnS X u ([m.src, m.seq, m.iss, m.exp].map itoa) W → OwnS w3.heap.size u ([m.src, m.seq, m.iss, m.exp].map itoa) W := fun h k => ownS_base k h
    go_wp2_with fail
    skip
    go_region_held3 (fun w' => w'.cell? ⟨w.heap.size, 0, none⟩ = some (.int .i64 m.src) ∧ w'.cell? ⟨w.heap.size, 1, none⟩ = some (.int .i64 m.seq) ∧ w'.cell? ⟨w.heap.size, 2, none⟩ = some (.int .i64 m.iss) ∧ w'.cell? ⟨w.heap.size, 3, none⟩ = some (.int .i64 m.exp) ∧ w'.cell? ⟨w.heap.size, 4, none⟩ = some (.int .i64 m.kind) ∧ w'.cell? ⟨w.heap.size, 5, none⟩ = some (str m.trip) ∧ w'.cell? ⟨w.heap.size, 7, none⟩ = some (.int .i64 m.inst) ∧ w'.cell? ⟨0, m.kind.toNat, none⟩ = some (str (wordS m.kind)))
        (first
          | exact hold _ (bl_drew (bl_refl _))
          | exact hold _ (bl_alloc (bl_drew (bl_refl _)) _)
          | exact hold _ (bl_next (bl_alloc (bl_drew (bl_refl _)) _) b4)
          | exact hold _ (bl_next (bl_next (bl_alloc (bl_drew (bl_refl _)) _) b4) b5)
          | exact hold _ (bl_alloc (bl_next (bl_next (bl_alloc (bl_drew (bl_refl _)) _) b4) b5) _)
          | exact hold _ ((bl_alloc (bl_next (bl_next (bl_alloc (bl_drew (bl_refl _)) _) b4) b5) _).grown hgrow6 (bl_alloc (bl_next (bl_next (bl_alloc (bl_drew (bl_refl _)) _) b4) b5) _).size (fun k hk => (World.ownsRow.lt (own4 (by simp) O4) k hk).1)))
        (first
          | (go_at_call 31; refine (numbers_c _ [m.src, m.seq, m.iss, m.exp] HX4 (by simp) (by simp) (w3.heap.size + 1) _ (hints w3.drew) (by simp)).mono ?_; rintro e w4 ⟨u4, rfl, O4, b4⟩)
          | (go_at_call 32; refine (hfmt _).mono ?_; rintro e w5 ⟨rfl, b5⟩)
          | (refine step_append_lies _ (by rfl) _ _ _ (by rfl) w3.heap.size 9 i0 _ 1 16 Tryd.underlying48 hi hz0 hz1 hz2 rfl (by omega) u4 4 [str (itoa m.src), str (itoa m.seq), str (itoa m.iss), str (itoa m.exp)] (by rfl) (ownS_alloc (ownS_bl (own4 (by simp) O4) b5) _) ⟨w5.heap.size, 0, none⟩ 4 4 [str (wordS m.kind), str m.trip, str (dtext m.day), str (itoa m.inst)] (by rfl) (by rfl) (news4 rfl) (by simp [Value.oneCell']) (by omega) (by unfold maxLen; omega) (by omega) (bl_alloc (bl_next (bl_next (bl_alloc (bl_drew (bl_refl _)) _) b4) b5) _).size (w5.heap.size + 1) (by simp) ?_; intro gg cap w6 hown6 hgrow6 hat6 hlt6))

    have b6 : Bl w3 w6 := (bl_alloc (bl_next (bl_next (bl_alloc (bl_drew (bl_refl _)) _) b4) b5) _).grown hgrow6 (bl_alloc (bl_next (bl_next (bl_alloc (bl_drew (bl_refl _)) _) b4) b5) _).size (fun k hk => (World.ownsRow.lt (own4 (by simp) O4) k hk).1)
    have O6 := Lib.hid (show OwnS w3.heap.size (.slice (some ⟨gg, 0, none⟩) 8 cap) (eight m) w6 from hown6)
    have B6 := Lib.hid b6
    clear hown6 hgrow6 hat6 hlt6 O4 b4 b5 b6 hints hfmt own4 hold HX4
    have m4 : w6.cell? ⟨w.heap.size, 4, none⟩ = some (.int .i64 m.kind) := by obtain ⟨_, _, _, _, c4, _⟩ := (HM3.out.next B6.out hs3).all; exact c4
    go_wp2_with (first
      | (go_at_call 27; refine (used_c m.kind _).mono ?_))
    rintro x7 w7 ⟨rfl, b7⟩
    have B7 := Lib.hid (bl_next B6.out b7)
    have O7 := Lib.hid (ownS_bl O6.out b7)
    have hold2 : ∀ w', Bl w3 w' → (w'.cell? ⟨w.heap.size, 8, none⟩ = some (.int .i64 m.call) ∧ w'.cell? ⟨w.heap.size, 9, none⟩ = some (.int .i64 m.secs) ∧ w'.cell? ⟨w.heap.size, 10, none⟩ = some (.int .i64 m.route) ∧ w'.cell? ⟨w.heap.size, 11, none⟩ = some (.bool m.step) ∧ w'.cell? ⟨w.heap.size, 12, none⟩ = some v) := fun w' hb => by
      obtain ⟨_, _, _, _, _, _, _, _, c8, c9, c10, c11, c12⟩ := (HM3.out.next hb hs3).all
      exact ⟨c8, c9, c10, c11, c12⟩
    have hs7 : w.heap.size < w7.heap.size := Nat.lt_of_lt_of_le hs3 B7.out.size
    have hlc : m.calls.length ≤ 100 := by have := hg.out.many; omega
    have HXC := Lib.hid ho.out.calls
    have HL := Lib.hid (show ∀ x ∈ fieldsM m, x.length ≤ 131072 from fun x hx => by have := field_len hg.out ho.out x hx; omega)
    have hpos : uCalls m.kind = true → 0 < m.calls.length := fun h => by
      have hce := kindErr_ok (kind_check HR.out)
      have := hce.2.2.2.2.2 h
      unfold callsErr at this
      split at this
      · exact absurd this (by decide)
      · omega
    obtain ⟨m8, m9, m10, m11, m12⟩ := hold2 _ B7.out
    clear b7 m4
    have nocall : uCalls m.kind = false → m.calls = [] := hg.out.calls
    rcases kindsOf hg.out.kind with ⟨hb1, hb2, hb3, hb4⟩ | ⟨hb1, hb2, hb3, hb4⟩ | ⟨hb1, hb2, hb3, hb4⟩ | ⟨hb1, hb2, hb3, hb4⟩ | ⟨hb1, hb2, hb3, hb4⟩
    · have hcs := nocall hb4
      clear nocall hpos
      rw [show usesV m.kind = .agg #[.bool true, .bool true, .bool false, .bool false, .bool false] by simp only [usesV, hb1, hb2, hb3, hb4]]
      have HFE := Lib.hid (show fieldsM m = eight m ++ [itoa (m.call)] ++ [itoa (m.secs)] by unfold fieldsM midS; rw [hb1, hb2, hb3, hcs]; simp)
      clear hb1 hb2 hb3 hb4
      have hx0 := Lib.hid (show ∀ n ∈ [m.call], isI n from fun n hn => by rw [List.mem_singleton.1 hn]; exact ho.out.call)
      go_wp2_with (go_at_call 31; refine (numbers_c _ [m.call] hx0 (by simp) (by simp) ((w7.alloc (.cells #[.bool true, .bool true, .bool false, .bool false, .bool false] 41)).heap.size + 1) _ ?hv0 ?hB0).mono ?_)
      case hv0 => have := ints_new [m.call] rfl 3 (w7.alloc (.cells #[.bool true, .bool true, .bool false, .bool false, .bool false] 41)) (n := 1) (cap := 1) rfl (by decide) (by unfold maxLen; omega); simpa using this
      case hB0 => simp
      rintro xa0 wa0 ⟨ua0, rfl, oa0, ba0⟩
      have na0 : Bl (w7.alloc (.cells #[.bool true, .bool true, .bool false, .bool false, .bool false] 41)) wa0 := bl_next (bl_alloc (bl_refl _) _) ba0
      have Ua0 := Lib.hid (blk_bl (heap_alloc_new w7 _) na0)
      have Ba0 := Lib.hid (bl_next (bl_alloc B7.out _) na0)
      have Oa0 := Lib.hid (ownS_bl (ownS_alloc O7.out _) na0)
      obtain ⟨bn0, on0, cn0, rfl, l10, l20, l30, hc0⟩ := (ownS_in oa0).open (by simp)
      have Hc0 := Lib.hid hc0
      clear hc0 oa0 ba0 na0 hx0
      go_wp2_with (at_builtin; refine wpList_append_own _ rfl _ _ 48 rfl w3.heap.size 9 i0 (.string ByteArray.empty) 1 16 Tryd.underlying48 hi hz0 hz1 hz2 rfl (by decide) _ _ _ rfl Oa0.out ⟨bn0, on0, none⟩ 1 cn0 [str (itoa (m.call))] rfl rfl ?c10 ?c20 ?c30 ?c40 ?c50 ?_)
      case c10 => exact news_of (l := [itoa (m.call)]) Hc0.out
      case c20 => simp [Value.oneCell']
      case c30 => unfold maxLen; simp
      case c40 => simp
      case c50 => exact Ba0.out.size
      intro vb0 wb0 hown0 hgrow0 _
      have Ub0 := Lib.hid (blk_grow Ua0.out Oa0.out hgrow0 (by decide))
      have Bb0 : Hid (Bl w3 wb0) := Ba0.out.grown hgrow0 Ba0.out.size (fun k hk => (World.ownsRow.lt Oa0.out k hk).1)
      have Ob0 := Lib.hid (ownS_app' (l := eight m) (m := [itoa (m.call)]) (r := eight m ++ [itoa (m.call)]) hown0 rfl rfl rfl)
      clear hown0 hgrow0 m8 m9 m10 m11 m12
      obtain ⟨av0, cv0, rfl⟩ := ownS_form Ob0.out
      have q0 : wb0.cell? ⟨w7.heap.size, 0, none⟩ = some (.bool true) := blk_cell Ub0.out 0 _ rfl
      have q1 : wb0.cell? ⟨w7.heap.size, 1, none⟩ = some (.bool true) := blk_cell Ub0.out 1 _ rfl
      have q2 : wb0.cell? ⟨w7.heap.size, 2, none⟩ = some (.bool false) := blk_cell Ub0.out 2 _ rfl
      have q3 : wb0.cell? ⟨w7.heap.size, 3, none⟩ = some (.bool false) := blk_cell Ub0.out 3 _ rfl
      have q4 : wb0.cell? ⟨w7.heap.size, 4, none⟩ = some (.bool false) := blk_cell Ub0.out 4 _ rfl
      obtain ⟨m8, m9, m10, m11, m12⟩ := hold2 _ Bb0.out
      have hx1 := Lib.hid (show ∀ n ∈ [m.secs], isI n from fun n hn => by rw [List.mem_singleton.1 hn]; exact ho.out.secs)
      go_wp2_with (go_at_call 31; refine (numbers_c _ [m.secs] hx1 (by simp) (by simp) (wb0.heap.size + 1) _ ?hv1 ?hB1).mono ?_)
      case hv1 => have := ints_new [m.secs] rfl 3 wb0 (n := 1) (cap := 1) rfl (by decide) (by unfold maxLen; omega); simpa using this
      case hB1 => simp
      rintro xa1 wa1 ⟨ua1, rfl, oa1, ba1⟩
      have na1 : Bl wb0 wa1 := bl_next (bl_alloc (bl_refl _) _) ba1
      have Ua1 := Lib.hid (blk_bl Ub0.out na1)
      have Ba1 := Lib.hid (bl_next Bb0.out na1)
      have Oa1 := Lib.hid (ownS_bl Ob0.out na1)
      obtain ⟨bn1, on1, cn1, rfl, l11, l21, l31, hc1⟩ := (ownS_in oa1).open (by simp)
      have Hc1 := Lib.hid hc1
      clear hc1 oa1 ba1 na1 hx1
      go_wp2_with (at_builtin; refine wpList_append_own _ rfl _ _ 48 rfl w3.heap.size 9 i0 (.string ByteArray.empty) 1 16 Tryd.underlying48 hi hz0 hz1 hz2 rfl (by decide) _ _ _ rfl Oa1.out ⟨bn1, on1, none⟩ 1 cn1 [str (itoa (m.secs))] rfl rfl ?c11 ?c21 ?c31 ?c41 ?c51 ?_)
      case c11 => exact news_of (l := [itoa (m.secs)]) Hc1.out
      case c21 => simp [Value.oneCell']
      case c31 => unfold maxLen; simp
      case c41 => simp
      case c51 => exact Ba1.out.size
      intro vb1 wb1 hown1 hgrow1 _
      have Ub1 := Lib.hid (blk_grow Ua1.out Oa1.out hgrow1 (by decide))
      have Bb1 : Hid (Bl w3 wb1) := Ba1.out.grown hgrow1 Ba1.out.size (fun k hk => (World.ownsRow.lt Oa1.out k hk).1)
      have Ob1 := Lib.hid (ownS_app' (l := eight m ++ [itoa (m.call)]) (m := [itoa (m.secs)]) (r := eight m ++ [itoa (m.call)] ++ [itoa (m.secs)]) hown1 rfl rfl rfl)
      clear hown1 hgrow1 m8 m9 m10 m11 m12
      obtain ⟨av1, cv1, rfl⟩ := ownS_form Ob1.out
      have q0 : wb1.cell? ⟨w7.heap.size, 0, none⟩ = some (.bool true) := blk_cell Ub1.out 0 _ rfl
      have q1 : wb1.cell? ⟨w7.heap.size, 1, none⟩ = some (.bool true) := blk_cell Ub1.out 1 _ rfl
      have q2 : wb1.cell? ⟨w7.heap.size, 2, none⟩ = some (.bool false) := blk_cell Ub1.out 2 _ rfl
      have q3 : wb1.cell? ⟨w7.heap.size, 3, none⟩ = some (.bool false) := blk_cell Ub1.out 3 _ rfl
      have q4 : wb1.cell? ⟨w7.heap.size, 4, none⟩ = some (.bool false) := blk_cell Ub1.out 4 _ rfl
      obtain ⟨m8, m9, m10, m11, m12⟩ := hold2 _ Bb1.out
      go_wp2_with (go_at_call 34; refine (callFields_c v m.calls HXC hlc B _ (HV3.out.below (Bb1.out.mono hB3)) (Nat.le_trans hB3 Bb1.out.size)).mono ?_)
      rintro xf wf ⟨uf, rfl, of, hnf, bf⟩
      have Of := Lib.hid (ownS_bl Ob1.out bf)
      have Bf := Lib.hid (bl_next Bb1.out bf)
      obtain rfl := hnf hcs
      clear bf of hnf m8 m9 m10 m11 m12
      go_wp2_with (at_builtin; refine wpList_append_own_none rfl _ _ 48 rfl w3.heap.size 9 i0 1 Tryd.underlying48 hi _ _ _ rfl Of.out rfl ?_)
      rw [HFE.out] at HF HL
      go_wp2_with (go_at_call 33; refine (join_c _ _ s e HF HL wf.heap.size wf (ownS_in Of.out) (Nat.le_refl _)).mono ?_)
      rintro xj wj ⟨rfl, bj⟩
      go_wp2
      go_ret2
      exact ⟨rfl, bl_next HB3.out (bl_next Bf.out bj)⟩
    · have hcs := nocall hb4
      clear nocall hpos
      rw [show usesV m.kind = .agg #[.bool true, .bool false, .bool false, .bool false, .bool false] by simp only [usesV, hb1, hb2, hb3, hb4]]
      have HFE := Lib.hid (show fieldsM m = eight m ++ [itoa (m.call)] by unfold fieldsM midS; rw [hb1, hb2, hb3, hcs]; simp)
      clear hb1 hb2 hb3 hb4
      have hx0 := Lib.hid (show ∀ n ∈ [m.call], isI n from fun n hn => by rw [List.mem_singleton.1 hn]; exact ho.out.call)
      go_wp2_with (go_at_call 31; refine (numbers_c _ [m.call] hx0 (by simp) (by simp) ((w7.alloc (.cells #[.bool true, .bool false, .bool false, .bool false, .bool false] 41)).heap.size + 1) _ ?hv0 ?hB0).mono ?_)
      case hv0 => have := ints_new [m.call] rfl 3 (w7.alloc (.cells #[.bool true, .bool false, .bool false, .bool false, .bool false] 41)) (n := 1) (cap := 1) rfl (by decide) (by unfold maxLen; omega); simpa using this
      case hB0 => simp
      rintro xa0 wa0 ⟨ua0, rfl, oa0, ba0⟩
      have na0 : Bl (w7.alloc (.cells #[.bool true, .bool false, .bool false, .bool false, .bool false] 41)) wa0 := bl_next (bl_alloc (bl_refl _) _) ba0
      have Ua0 := Lib.hid (blk_bl (heap_alloc_new w7 _) na0)
      have Ba0 := Lib.hid (bl_next (bl_alloc B7.out _) na0)
      have Oa0 := Lib.hid (ownS_bl (ownS_alloc O7.out _) na0)
      obtain ⟨bn0, on0, cn0, rfl, l10, l20, l30, hc0⟩ := (ownS_in oa0).open (by simp)
      have Hc0 := Lib.hid hc0
      clear hc0 oa0 ba0 na0 hx0
      go_wp2_with (at_builtin; refine wpList_append_own _ rfl _ _ 48 rfl w3.heap.size 9 i0 (.string ByteArray.empty) 1 16 Tryd.underlying48 hi hz0 hz1 hz2 rfl (by decide) _ _ _ rfl Oa0.out ⟨bn0, on0, none⟩ 1 cn0 [str (itoa (m.call))] rfl rfl ?c10 ?c20 ?c30 ?c40 ?c50 ?_)
      case c10 => exact news_of (l := [itoa (m.call)]) Hc0.out
      case c20 => simp [Value.oneCell']
      case c30 => unfold maxLen; simp
      case c40 => simp
      case c50 => exact Ba0.out.size
      intro vb0 wb0 hown0 hgrow0 _
      have Ub0 := Lib.hid (blk_grow Ua0.out Oa0.out hgrow0 (by decide))
      have Bb0 : Hid (Bl w3 wb0) := Ba0.out.grown hgrow0 Ba0.out.size (fun k hk => (World.ownsRow.lt Oa0.out k hk).1)
      have Ob0 := Lib.hid (ownS_app' (l := eight m) (m := [itoa (m.call)]) (r := eight m ++ [itoa (m.call)]) hown0 rfl rfl rfl)
      clear hown0 hgrow0 m8 m9 m10 m11 m12
      obtain ⟨av0, cv0, rfl⟩ := ownS_form Ob0.out
      have q0 : wb0.cell? ⟨w7.heap.size, 0, none⟩ = some (.bool true) := blk_cell Ub0.out 0 _ rfl
      have q1 : wb0.cell? ⟨w7.heap.size, 1, none⟩ = some (.bool false) := blk_cell Ub0.out 1 _ rfl
      have q2 : wb0.cell? ⟨w7.heap.size, 2, none⟩ = some (.bool false) := blk_cell Ub0.out 2 _ rfl
      have q3 : wb0.cell? ⟨w7.heap.size, 3, none⟩ = some (.bool false) := blk_cell Ub0.out 3 _ rfl
      have q4 : wb0.cell? ⟨w7.heap.size, 4, none⟩ = some (.bool false) := blk_cell Ub0.out 4 _ rfl
      obtain ⟨m8, m9, m10, m11, m12⟩ := hold2 _ Bb0.out
      go_wp2_with (go_at_call 34; refine (callFields_c v m.calls HXC hlc B _ (HV3.out.below (Bb0.out.mono hB3)) (Nat.le_trans hB3 Bb0.out.size)).mono ?_)
      rintro xf wf ⟨uf, rfl, of, hnf, bf⟩
      have Of := Lib.hid (ownS_bl Ob0.out bf)
      have Bf := Lib.hid (bl_next Bb0.out bf)
      obtain rfl := hnf hcs
      clear bf of hnf m8 m9 m10 m11 m12
      go_wp2_with (at_builtin; refine wpList_append_own_none rfl _ _ 48 rfl w3.heap.size 9 i0 1 Tryd.underlying48 hi _ _ _ rfl Of.out rfl ?_)
      rw [HFE.out] at HF HL
      go_wp2_with (go_at_call 33; refine (join_c _ _ s e HF HL wf.heap.size wf (ownS_in Of.out) (Nat.le_refl _)).mono ?_)
      rintro xj wj ⟨rfl, bj⟩
      go_wp2
      go_ret2
      exact ⟨rfl, bl_next HB3.out (bl_next Bf.out bj)⟩
    · have hcp := hpos hb4
      clear nocall hpos
      rw [show usesV m.kind = .agg #[.bool false, .bool false, .bool false, .bool false, .bool true] by simp only [usesV, hb1, hb2, hb3, hb4]]
      have HFE := Lib.hid (show fieldsM m = eight m ++ m.calls.map callText by unfold fieldsM midS; rw [hb1, hb2, hb3]; simp)
      clear hb1 hb2 hb3 hb4
      go_wp2_with (go_at_call 34; refine (callFields_c v m.calls HXC hlc B _ (HV3.out.below ((bl_alloc B7.out _).mono hB3)) (Nat.le_trans hB3 (bl_alloc B7.out _).size)).mono ?_)
      rintro xf wf ⟨uf, rfl, of, hnf, bf⟩
      have Of := Lib.hid (ownS_bl (ownS_alloc O7.out _) bf)
      have Bf := Lib.hid (bl_next (bl_alloc B7.out _) bf)
      obtain ⟨bn, on, cn, rfl, l1, l2, l3, hc⟩ := (ownS_in of).open (by simpa using hcp)
      have Hc := Lib.hid hc
      obtain ⟨N, hN⟩ : ∃ N, (m.calls.map callText).length = N := ⟨_, rfl⟩
      have hNl : m.calls.length = N := by rw [← hN, List.length_map]
      rw [hN]
      clear bf of hnf hc m8 m9 m10 m11 m12 hN
      go_wp2_with (at_builtin; refine wpList_append_own _ rfl _ _ 48 rfl w3.heap.size 9 i0 (.string ByteArray.empty) 1 16 Tryd.underlying48 hi hz0 hz1 hz2 rfl (by decide) _ _ _ rfl Of.out ⟨bn, on, none⟩ N cn ((m.calls.map callText).flatMap strCells) rfl (by rw [flat_strs]; simp [hNl]) ?c1 ?c2 ?c3 ?c4 ?c5 ?_)
      case c1 => exact news_of Hc.out
      case c2 => exact flat_one _
      case c3 => unfold maxLen; simp; omega
      case c4 => simp; omega
      case c5 => exact Bf.out.size
      intro vg wg hown hgrow _
      have Og := Lib.hid (ownS_app' (l := eight m) (m := m.calls.map callText) (r := fieldsM m) hown HFE.out.symm (by rw [HFE.out]; simp [hNl]; try omega) rfl)
      have Bg : Hid (Bl w3 wg) := Bf.out.grown hgrow Bf.out.size (fun k hk => (World.ownsRow.lt Of.out k hk).1)
      clear hown hgrow
      obtain ⟨ag, cg, rfl⟩ := ownS_form Og.out
      go_wp2_with (go_at_call 33; refine (join_c _ _ s e HF HL wg.heap.size wg (ownS_in Og.out) (Nat.le_refl _)).mono ?_)
      rintro xj wj ⟨rfl, bj⟩
      go_wp2
      go_ret2
      exact ⟨rfl, bl_next HB3.out (bl_next Bg.out bj)⟩
    · cases hstep : m.step with
      | true =>
        have hcp := hpos hb4
        clear nocall hpos
        rw [show usesV m.kind = .agg #[.bool false, .bool false, .bool true, .bool true, .bool true] by simp only [usesV, hb1, hb2, hb3, hb4]]
        have HFE := Lib.hid (show fieldsM m = eight m ++ [itoa (m.route)] ++ [wYes] ++ m.calls.map callText by unfold fieldsM midS; rw [hb1, hb2, hb3, hstep]; simp)
        clear hb1 hb2 hb3 hb4
        rw [hstep] at m11 hold2
        clear hstep
        have hx0 := Lib.hid (show ∀ n ∈ [m.route], isI n from fun n hn => by rw [List.mem_singleton.1 hn]; exact ho.out.route)
        go_wp2_with (go_at_call 31; refine (numbers_c _ [m.route] hx0 (by simp) (by simp) ((w7.alloc (.cells #[.bool false, .bool false, .bool true, .bool true, .bool true] 41)).heap.size + 1) _ ?hv0 ?hB0).mono ?_)
        case hv0 => have := ints_new [m.route] rfl 3 (w7.alloc (.cells #[.bool false, .bool false, .bool true, .bool true, .bool true] 41)) (n := 1) (cap := 1) rfl (by decide) (by unfold maxLen; omega); simpa using this
        case hB0 => simp
        rintro xa0 wa0 ⟨ua0, rfl, oa0, ba0⟩
        have na0 : Bl (w7.alloc (.cells #[.bool false, .bool false, .bool true, .bool true, .bool true] 41)) wa0 := bl_next (bl_alloc (bl_refl _) _) ba0
        have Ua0 := Lib.hid (blk_bl (heap_alloc_new w7 _) na0)
        have Ba0 := Lib.hid (bl_next (bl_alloc B7.out _) na0)
        have Oa0 := Lib.hid (ownS_bl (ownS_alloc O7.out _) na0)
        obtain ⟨bn0, on0, cn0, rfl, l10, l20, l30, hc0⟩ := (ownS_in oa0).open (by simp)
        have Hc0 := Lib.hid hc0
        clear hc0 oa0 ba0 na0 hx0
        go_wp2_with (at_builtin; refine wpList_append_own _ rfl _ _ 48 rfl w3.heap.size 9 i0 (.string ByteArray.empty) 1 16 Tryd.underlying48 hi hz0 hz1 hz2 rfl (by decide) _ _ _ rfl Oa0.out ⟨bn0, on0, none⟩ 1 cn0 [str (itoa (m.route))] rfl rfl ?c10 ?c20 ?c30 ?c40 ?c50 ?_)
        case c10 => exact news_of (l := [itoa (m.route)]) Hc0.out
        case c20 => simp [Value.oneCell']
        case c30 => unfold maxLen; simp
        case c40 => simp
        case c50 => exact Ba0.out.size
        intro vb0 wb0 hown0 hgrow0 _
        have Ub0 := Lib.hid (blk_grow Ua0.out Oa0.out hgrow0 (by decide))
        have Bb0 : Hid (Bl w3 wb0) := Ba0.out.grown hgrow0 Ba0.out.size (fun k hk => (World.ownsRow.lt Oa0.out k hk).1)
        have Ob0 := Lib.hid (ownS_app' (l := eight m) (m := [itoa (m.route)]) (r := eight m ++ [itoa (m.route)]) hown0 rfl rfl rfl)
        clear hown0 hgrow0 m8 m9 m10 m11 m12
        obtain ⟨av0, cv0, rfl⟩ := ownS_form Ob0.out
        have q0 : wb0.cell? ⟨w7.heap.size, 0, none⟩ = some (.bool false) := blk_cell Ub0.out 0 _ rfl
        have q1 : wb0.cell? ⟨w7.heap.size, 1, none⟩ = some (.bool false) := blk_cell Ub0.out 1 _ rfl
        have q2 : wb0.cell? ⟨w7.heap.size, 2, none⟩ = some (.bool true) := blk_cell Ub0.out 2 _ rfl
        have q3 : wb0.cell? ⟨w7.heap.size, 3, none⟩ = some (.bool true) := blk_cell Ub0.out 3 _ rfl
        have q4 : wb0.cell? ⟨w7.heap.size, 4, none⟩ = some (.bool true) := blk_cell Ub0.out 4 _ rfl
        obtain ⟨m8, m9, m10, m11, m12⟩ := hold2 _ Bb0.out
        go_wp2_with (at_builtin; refine wpList_append_own _ rfl _ _ 48 rfl w3.heap.size 9 i0 (.string ByteArray.empty) 1 16 Tryd.underlying48 hi hz0 hz1 hz2 rfl (by decide) _ _ _ rfl (ownS_alloc Ob0.out _) ⟨wb0.heap.size, 0, none⟩ 1 1 [str wYes] rfl rfl ?c11 ?c21 ?c31 ?c41 ?c51 ?_)
        case c11 => exact cells_of_lit _ (fun j u h => by simpa [wYes] using h)
        case c21 => simp [Value.oneCell']
        case c31 => unfold maxLen; simp
        case c41 => simp
        case c51 => exact (bl_alloc Bb0.out _).size
        intro vb1 wb1 hown1 hgrow1 _
        have Ub1 := Lib.hid (blk_grow (blk_bl Ub0.out (bl_alloc (bl_refl _) _)) (ownS_alloc Ob0.out _) hgrow1 (by decide))
        have Bb1 : Hid (Bl w3 wb1) := (bl_alloc Bb0.out _).grown hgrow1 (bl_alloc Bb0.out _).size (fun k hk => (World.ownsRow.lt Ob0.out k hk).1)
        have Ob1 := Lib.hid (ownS_app' (l := eight m ++ [itoa (m.route)]) (m := [wYes]) (r := eight m ++ [itoa (m.route)] ++ [wYes]) hown1 rfl rfl rfl)
        clear hown1 hgrow1 m8 m9 m10 m11 m12
        obtain ⟨av1, cv1, rfl⟩ := ownS_form Ob1.out
        have q0 : wb1.cell? ⟨w7.heap.size, 0, none⟩ = some (.bool false) := blk_cell Ub1.out 0 _ rfl
        have q1 : wb1.cell? ⟨w7.heap.size, 1, none⟩ = some (.bool false) := blk_cell Ub1.out 1 _ rfl
        have q2 : wb1.cell? ⟨w7.heap.size, 2, none⟩ = some (.bool true) := blk_cell Ub1.out 2 _ rfl
        have q3 : wb1.cell? ⟨w7.heap.size, 3, none⟩ = some (.bool true) := blk_cell Ub1.out 3 _ rfl
        have q4 : wb1.cell? ⟨w7.heap.size, 4, none⟩ = some (.bool true) := blk_cell Ub1.out 4 _ rfl
        obtain ⟨m8, m9, m10, m11, m12⟩ := hold2 _ Bb1.out
        go_wp2_with (go_at_call 34; refine (callFields_c v m.calls HXC hlc B _ (HV3.out.below (Bb1.out.mono hB3)) (Nat.le_trans hB3 Bb1.out.size)).mono ?_)
        rintro xf wf ⟨uf, rfl, of, hnf, bf⟩
        have Of := Lib.hid (ownS_bl Ob1.out bf)
        have Bf := Lib.hid (bl_next Bb1.out bf)
        obtain ⟨bn, on, cn, rfl, l1, l2, l3, hc⟩ := (ownS_in of).open (by simpa using hcp)
        have Hc := Lib.hid hc
        obtain ⟨N, hN⟩ : ∃ N, (m.calls.map callText).length = N := ⟨_, rfl⟩
        have hNl : m.calls.length = N := by rw [← hN, List.length_map]
        rw [hN]
        clear bf of hnf hc m8 m9 m10 m11 m12 hN
        go_wp2_with (at_builtin; refine wpList_append_own _ rfl _ _ 48 rfl w3.heap.size 9 i0 (.string ByteArray.empty) 1 16 Tryd.underlying48 hi hz0 hz1 hz2 rfl (by decide) _ _ _ rfl Of.out ⟨bn, on, none⟩ N cn ((m.calls.map callText).flatMap strCells) rfl (by rw [flat_strs]; simp [hNl]) ?c1 ?c2 ?c3 ?c4 ?c5 ?_)
        case c1 => exact news_of Hc.out
        case c2 => exact flat_one _
        case c3 => unfold maxLen; simp; omega
        case c4 => simp; omega
        case c5 => exact Bf.out.size
        intro vg wg hown hgrow _
        have Og := Lib.hid (ownS_app' (l := eight m ++ [itoa (m.route)] ++ [wYes]) (m := m.calls.map callText) (r := fieldsM m) hown HFE.out.symm (by rw [HFE.out]; simp [hNl]; try omega) rfl)
        have Bg : Hid (Bl w3 wg) := Bf.out.grown hgrow Bf.out.size (fun k hk => (World.ownsRow.lt Of.out k hk).1)
        clear hown hgrow
        obtain ⟨ag, cg, rfl⟩ := ownS_form Og.out
        go_wp2_with (go_at_call 33; refine (join_c _ _ s e HF HL wg.heap.size wg (ownS_in Og.out) (Nat.le_refl _)).mono ?_)
        rintro xj wj ⟨rfl, bj⟩
        go_wp2
        go_ret2
        exact ⟨rfl, bl_next HB3.out (bl_next Bg.out bj)⟩
      | false =>
        have hcp := hpos hb4
        clear nocall hpos
        rw [show usesV m.kind = .agg #[.bool false, .bool false, .bool true, .bool true, .bool true] by simp only [usesV, hb1, hb2, hb3, hb4]]
        have HFE := Lib.hid (show fieldsM m = eight m ++ [itoa (m.route)] ++ [wNo] ++ m.calls.map callText by unfold fieldsM midS; rw [hb1, hb2, hb3, hstep]; simp)
        clear hb1 hb2 hb3 hb4
        rw [hstep] at m11 hold2
        clear hstep
        have hx0 := Lib.hid (show ∀ n ∈ [m.route], isI n from fun n hn => by rw [List.mem_singleton.1 hn]; exact ho.out.route)
        go_wp2_with (go_at_call 31; refine (numbers_c _ [m.route] hx0 (by simp) (by simp) ((w7.alloc (.cells #[.bool false, .bool false, .bool true, .bool true, .bool true] 41)).heap.size + 1) _ ?hv0 ?hB0).mono ?_)
        case hv0 => have := ints_new [m.route] rfl 3 (w7.alloc (.cells #[.bool false, .bool false, .bool true, .bool true, .bool true] 41)) (n := 1) (cap := 1) rfl (by decide) (by unfold maxLen; omega); simpa using this
        case hB0 => simp
        rintro xa0 wa0 ⟨ua0, rfl, oa0, ba0⟩
        have na0 : Bl (w7.alloc (.cells #[.bool false, .bool false, .bool true, .bool true, .bool true] 41)) wa0 := bl_next (bl_alloc (bl_refl _) _) ba0
        have Ua0 := Lib.hid (blk_bl (heap_alloc_new w7 _) na0)
        have Ba0 := Lib.hid (bl_next (bl_alloc B7.out _) na0)
        have Oa0 := Lib.hid (ownS_bl (ownS_alloc O7.out _) na0)
        obtain ⟨bn0, on0, cn0, rfl, l10, l20, l30, hc0⟩ := (ownS_in oa0).open (by simp)
        have Hc0 := Lib.hid hc0
        clear hc0 oa0 ba0 na0 hx0
        go_wp2_with (at_builtin; refine wpList_append_own _ rfl _ _ 48 rfl w3.heap.size 9 i0 (.string ByteArray.empty) 1 16 Tryd.underlying48 hi hz0 hz1 hz2 rfl (by decide) _ _ _ rfl Oa0.out ⟨bn0, on0, none⟩ 1 cn0 [str (itoa (m.route))] rfl rfl ?c10 ?c20 ?c30 ?c40 ?c50 ?_)
        case c10 => exact news_of (l := [itoa (m.route)]) Hc0.out
        case c20 => simp [Value.oneCell']
        case c30 => unfold maxLen; simp
        case c40 => simp
        case c50 => exact Ba0.out.size
        intro vb0 wb0 hown0 hgrow0 _
        have Ub0 := Lib.hid (blk_grow Ua0.out Oa0.out hgrow0 (by decide))
        have Bb0 : Hid (Bl w3 wb0) := Ba0.out.grown hgrow0 Ba0.out.size (fun k hk => (World.ownsRow.lt Oa0.out k hk).1)
        have Ob0 := Lib.hid (ownS_app' (l := eight m) (m := [itoa (m.route)]) (r := eight m ++ [itoa (m.route)]) hown0 rfl rfl rfl)
        clear hown0 hgrow0 m8 m9 m10 m11 m12
        obtain ⟨av0, cv0, rfl⟩ := ownS_form Ob0.out
        have q0 : wb0.cell? ⟨w7.heap.size, 0, none⟩ = some (.bool false) := blk_cell Ub0.out 0 _ rfl
        have q1 : wb0.cell? ⟨w7.heap.size, 1, none⟩ = some (.bool false) := blk_cell Ub0.out 1 _ rfl
        have q2 : wb0.cell? ⟨w7.heap.size, 2, none⟩ = some (.bool true) := blk_cell Ub0.out 2 _ rfl
        have q3 : wb0.cell? ⟨w7.heap.size, 3, none⟩ = some (.bool true) := blk_cell Ub0.out 3 _ rfl
        have q4 : wb0.cell? ⟨w7.heap.size, 4, none⟩ = some (.bool true) := blk_cell Ub0.out 4 _ rfl
        obtain ⟨m8, m9, m10, m11, m12⟩ := hold2 _ Bb0.out
        go_wp2_with (at_builtin; refine wpList_append_own _ rfl _ _ 48 rfl w3.heap.size 9 i0 (.string ByteArray.empty) 1 16 Tryd.underlying48 hi hz0 hz1 hz2 rfl (by decide) _ _ _ rfl (ownS_alloc Ob0.out _) ⟨wb0.heap.size, 0, none⟩ 1 1 [str wNo] rfl rfl ?c11 ?c21 ?c31 ?c41 ?c51 ?_)
        case c11 => exact cells_of_lit _ (fun j u h => by simpa [wNo] using h)
        case c21 => simp [Value.oneCell']
        case c31 => unfold maxLen; simp
        case c41 => simp
        case c51 => exact (bl_alloc Bb0.out _).size
        intro vb1 wb1 hown1 hgrow1 _
        have Ub1 := Lib.hid (blk_grow (blk_bl Ub0.out (bl_alloc (bl_refl _) _)) (ownS_alloc Ob0.out _) hgrow1 (by decide))
        have Bb1 : Hid (Bl w3 wb1) := (bl_alloc Bb0.out _).grown hgrow1 (bl_alloc Bb0.out _).size (fun k hk => (World.ownsRow.lt Ob0.out k hk).1)
        have Ob1 := Lib.hid (ownS_app' (l := eight m ++ [itoa (m.route)]) (m := [wNo]) (r := eight m ++ [itoa (m.route)] ++ [wNo]) hown1 rfl rfl rfl)
        clear hown1 hgrow1 m8 m9 m10 m11 m12
        obtain ⟨av1, cv1, rfl⟩ := ownS_form Ob1.out
        have q0 : wb1.cell? ⟨w7.heap.size, 0, none⟩ = some (.bool false) := blk_cell Ub1.out 0 _ rfl
        have q1 : wb1.cell? ⟨w7.heap.size, 1, none⟩ = some (.bool false) := blk_cell Ub1.out 1 _ rfl
        have q2 : wb1.cell? ⟨w7.heap.size, 2, none⟩ = some (.bool true) := blk_cell Ub1.out 2 _ rfl
        have q3 : wb1.cell? ⟨w7.heap.size, 3, none⟩ = some (.bool true) := blk_cell Ub1.out 3 _ rfl
        have q4 : wb1.cell? ⟨w7.heap.size, 4, none⟩ = some (.bool true) := blk_cell Ub1.out 4 _ rfl
        obtain ⟨m8, m9, m10, m11, m12⟩ := hold2 _ Bb1.out
        go_wp2_with (go_at_call 34; refine (callFields_c v m.calls HXC hlc B _ (HV3.out.below (Bb1.out.mono hB3)) (Nat.le_trans hB3 Bb1.out.size)).mono ?_)
        rintro xf wf ⟨uf, rfl, of, hnf, bf⟩
        have Of := Lib.hid (ownS_bl Ob1.out bf)
        have Bf := Lib.hid (bl_next Bb1.out bf)
        obtain ⟨bn, on, cn, rfl, l1, l2, l3, hc⟩ := (ownS_in of).open (by simpa using hcp)
        have Hc := Lib.hid hc
        obtain ⟨N, hN⟩ : ∃ N, (m.calls.map callText).length = N := ⟨_, rfl⟩
        have hNl : m.calls.length = N := by rw [← hN, List.length_map]
        rw [hN]
        clear bf of hnf hc m8 m9 m10 m11 m12 hN
        go_wp2_with (at_builtin; refine wpList_append_own _ rfl _ _ 48 rfl w3.heap.size 9 i0 (.string ByteArray.empty) 1 16 Tryd.underlying48 hi hz0 hz1 hz2 rfl (by decide) _ _ _ rfl Of.out ⟨bn, on, none⟩ N cn ((m.calls.map callText).flatMap strCells) rfl (by rw [flat_strs]; simp [hNl]) ?c1 ?c2 ?c3 ?c4 ?c5 ?_)
        case c1 => exact news_of Hc.out
        case c2 => exact flat_one _
        case c3 => unfold maxLen; simp; omega
        case c4 => simp; omega
        case c5 => exact Bf.out.size
        intro vg wg hown hgrow _
        have Og := Lib.hid (ownS_app' (l := eight m ++ [itoa (m.route)] ++ [wNo]) (m := m.calls.map callText) (r := fieldsM m) hown HFE.out.symm (by rw [HFE.out]; simp [hNl]; try omega) rfl)
        have Bg : Hid (Bl w3 wg) := Bf.out.grown hgrow Bf.out.size (fun k hk => (World.ownsRow.lt Of.out k hk).1)
        clear hown hgrow
        obtain ⟨ag, cg, rfl⟩ := ownS_form Og.out
        go_wp2_with (go_at_call 33; refine (join_c _ _ s e HF HL wg.heap.size wg (ownS_in Og.out) (Nat.le_refl _)).mono ?_)
        rintro xj wj ⟨rfl, bj⟩
        go_wp2
        go_ret2
        exact ⟨rfl, bl_next HB3.out (bl_next Bg.out bj)⟩
    · have hcs := nocall hb4
      clear nocall hpos
      rw [show usesV m.kind = .agg #[.bool false, .bool false, .bool false, .bool false, .bool false] by simp only [usesV, hb1, hb2, hb3, hb4]]
      have HFE := Lib.hid (show fieldsM m = eight m by unfold fieldsM midS; rw [hb1, hb2, hb3, hcs]; simp)
      clear hb1 hb2 hb3 hb4
      go_wp2_with (go_at_call 34; refine (callFields_c v m.calls HXC hlc B _ (HV3.out.below ((bl_alloc B7.out _).mono hB3)) (Nat.le_trans hB3 (bl_alloc B7.out _).size)).mono ?_)
      rintro xf wf ⟨uf, rfl, of, hnf, bf⟩
      have Of := Lib.hid (ownS_bl (ownS_alloc O7.out _) bf)
      have Bf := Lib.hid (bl_next (bl_alloc B7.out _) bf)
      obtain rfl := hnf hcs
      clear bf of hnf m8 m9 m10 m11 m12
      go_wp2_with (at_builtin; refine wpList_append_own_none rfl _ _ 48 rfl w3.heap.size 9 i0 1 Tryd.underlying48 hi _ _ _ rfl Of.out rfl ?_)
      rw [HFE.out] at HF HL
      go_wp2_with (go_at_call 33; refine (join_c _ _ s e HF HL wf.heap.size wf (ownS_in Of.out) (Nat.le_refl _)).mono ?_)
      rintro xj wj ⟨rfl, bj⟩
      go_wp2
      go_ret2
      exact ⟨rfl, bl_next HB3.out (bl_next Bf.out bj)⟩
  · have HF := Lib.hid (show (([] : List UInt8), r) = (s, e) by rw [← H.out]; unfold formatM; rw [if_neg (by rw [HR.out]; exact hr0), HR.out])
    obtain ⟨e1, e2⟩ := Prod.mk.inj HF.out
    have f0 : (r != 0) = true := by rw [bne_iff_ne]; exact hr0
    clear H HF HR hr
    subst e1 e2
    go_enter Tryd.func13, Tryd.ntmps13
    go_wp2_with (first
      | (go_at_call 10; refine hcheck.mono ?_))
    rintro x2 w2 ⟨rfl, b2⟩
    go_wp2
    go_ret2
    exact ⟨rfl, bl_next hbl b2⟩
end Go.Proofs.YthdadalmgldppaaDoor
