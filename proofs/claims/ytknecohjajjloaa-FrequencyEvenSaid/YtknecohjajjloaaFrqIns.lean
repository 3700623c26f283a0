/-
  INSERTION FROM THE RIGHT: the closure merge of Instances. Conditions: those of each contract.
-/
import Derived.Test.YtknecohjajjloaaFrqIter
import Derived.StillTailTactics
namespace Go.Proofs.Ytknecohjajjloaa
open Go.RowKit Go.Shelf
open Frq

def goK (L : List Int) (t : Int) : Nat → Nat
  | 0 => 0
  | k + 1 => if (match L[k]? with | some x => decide (t < x) | none => false) then goK L t k else k + 1
def rowK (L : List Int) (z : Int) (k : Nat) : List Int := L.take k ++ z :: L.drop k
def ins (L : List Int) (t : Int) : List Int := rowK L t (goK L t L.length)
theorem goK_gt {L : List Int} {t x : Int} {k : Nat} (h : L[k]? = some x) (h1 : t < x) : goK L t (k + 1) = goK L t k := by
  show (if _ then _ else _) = _
  rw [h]
  simp only [decide_eq_true h1, if_true]
theorem goK_le {L : List Int} {t x : Int} {k : Nat} (h : L[k]? = some x) (h1 : x ≤ t) : goK L t (k + 1) = k + 1 := by
  show (if _ then _ else _) = _
  rw [h]
  simp only [decide_eq_false (show ¬ t < x by omega), Bool.false_eq_true, if_false]
theorem rowK_len (L : List Int) (z : Int) {k : Nat} (h : k ≤ L.length) : (rowK L z k).length = L.length + 1 := by simp [rowK]; omega
theorem rowK_set (L : List Int) (z y : Int) {k : Nat} (h : k ≤ L.length) : (rowK L z k).set k y = rowK L y k := by
  unfold rowK
  have e : (L.take k).length = k := by rw [List.length_take]; omega
  rw [List.set_append_right _ _ (by omega), e, Nat.sub_self]
  rfl
theorem rowK_step {L : List Int} {x : Int} {k : Nat} (h : L[k]? = some x) : rowK L x (k + 1) = rowK L x k := by
  obtain ⟨hk, rfl⟩ := List.getElem?_eq_some_iff.1 h
  unfold rowK
  rw [show L.drop k = L[k] :: L.drop (k + 1) from List.drop_eq_getElem_cons hk, List.take_succ_eq_append_getElem hk, List.append_assoc]
  rfl
theorem rowK_at {L : List Int} {x z : Int} {k : Nat} (h : L[k]? = some x) : (rowK L z (k + 1))[k]? = some x := by
  have hk := (List.getElem?_eq_some_iff.1 h).1
  unfold rowK
  rw [List.getElem?_append_left (by rw [List.length_take]; omega), List.getElem?_take_of_lt (by omega)]
  exact h
theorem rowK_here (L : List Int) (z : Int) {k : Nat} (h : k ≤ L.length) : (rowK L z k)[k]? = some z := by
  unfold rowK
  have e : (L.take k).length = k := by rw [List.length_take]; omega
  rw [List.getElem?_append_right (by omega), e, Nat.sub_self]
  rfl
theorem rowK_end (L : List Int) (t : Int) : rowK L t L.length = L ++ [t] := by simp [rowK]

theorem not_rowT {W : World} {B : Nat} {c : Array Value} {T : TypeId} (h : W.heap[B]? = some (.cells c T (0, 0))) {e : TypeId} (hte : T ≠ e) {base size k : Nat} {v : Value} {xs : List Value} (hr : W.ownsRow base e size v k xs) : some B ≠ v.ownBlock := by
  rcases hr.2 with ⟨rfl, _⟩ | ⟨g, cap, cur, rfl, _, hgb, _⟩
  · simp [Value.ownBlock]
  · intro e'
    obtain rfl : B = g := by simpa [Value.ownBlock] using e'
    have := h.symm.trans hgb
    simp at this
    exact hte this.2
/-- What the merge leaves: all that is no cells; all below n₀; the blocks of frequencies. -/
structure MK (n₀ : Nat) (W w' : World) : Prop where
  others : KeepsOthers W w'
  below : Below n₀ W w'
  fb : ∀ (b : Nat) (c : Array Value) (T : TypeId), T ≠ 3 → T ≠ 40 → W.heap[b]? = some (.cells c T (0, 0)) → w'.heap[b]? = some (.cells c T (0, 0))
theorem MK.refl (n₀ : Nat) (W : World) : MK n₀ W W := ⟨KeepsOthers.refl W, Below.refl _ _, fun _ _ _ _ _ h => h⟩
theorem MK.trans {n₀ : Nat} {A B C : World} (h : MK n₀ A B) (k : MK n₀ B C) : MK n₀ A C := ⟨h.others.trans k.others, h.below.trans k.below, fun b c T h1 h2 hb => k.fb b c T h1 h2 (h.fb b c T h1 h2 hb)⟩
theorem MK.setCell {n₀ : Nat} {W : World} {p : Addr} (hp : n₀ ≤ p.block) (hne : ∀ (c : Array Value) (T : TypeId), T ≠ 3 → T ≠ 40 → W.heap[p.block]? ≠ some (.cells c T (0, 0))) (v : Value) : MK n₀ W (W.setCell p v) :=
  ⟨KeepsOthers.setCell _ _ _, (Below.refl _ _).setCell hp v, fun b c T h1 h2 hb => (Below.heap_setCell _ _ _ _ (fun e => hne c T h1 h2 (by rw [← e]; exact hb))).trans hb⟩
theorem MK.drew (n₀ : Nat) (W : World) : MK n₀ W W.drew := ⟨KeepsOthers.drew W, Below.drew (Below.refl _ _), fun _ _ _ _ _ h => h⟩

set_option maxRecDepth 100000 in
set_option maxHeartbeats 4000000 in
theorem merge_c (L : List Int) (t : Int) (hL : L.length ≤ 20000000) (O n₀ : Nat) (v : Value) (W : World) (hv : Boxed W O 40 v) (hrow : W.ownsRow n₀ 3 1 v L.length (L.map (Value.int .i64))) (hn : n₀ ≤ W.heap.size) (hO : n₀ ≤ O) :
    Calls Try.prog 33 #[.int .i64 t, .pointer (some ⟨O, 0, none⟩)] W fun e w' => (∃ r, e = .returned r) ∧
      (∃ v', Boxed w' O 40 v' ∧ w'.ownsRow n₀ 3 1 v' (L.length + 1) ((ins L t).map (Value.int .i64))) ∧ MK n₀ W w' := by
  obtain ⟨i0, hi, hz0, hz1, hz2⟩ := info_parts info_int
  have hc := hv.cell
  have HR := Lib.hid hrow
  have HV := Lib.hid hv
  have hlenv : ∃ a cap, v = .slice a L.length cap := by
    rcases hrow.2 with ⟨rfl, h0⟩ | ⟨g, cap, _, rfl, _⟩
    · exact ⟨none, 0, by rw [h0]⟩
    · exact ⟨_, _, rfl⟩
  obtain ⟨a, cap, rfl⟩ := hlenv
  clear hrow hv
  go_enter Try.func33, Try.ntmps33
  go_wp2_with (at_builtin; refine wpList_append_own _ rfl _ _ 40 rfl n₀ 3 i0 (.int .i64 0) 1 8 Try.underlying40 hi hz0 hz1 hz2 rfl (by decide) _ _ _ rfl (HR.out.alloc _) ⟨W.heap.size, 0, none⟩ 1 1 [.int .i64 t] rfl rfl (cell_one_new _ _ _) (by simp [Value.oneCell']) (by unfold maxLen; omega) (by omega) (by simp; omega) ?_; intro v' w1 hown' hgrow _; obtain ⟨g', cap', rfl⟩ := ownsRow_succ hown'; obtain ⟨hv1, hv2, hr2, hk2, hb2⟩ := HV.out.appended (by decide) HR.out hn hO hown' hgrow; have hc1 := hv1.cell; have hf1 := hv1.frozen)
  have O5 : Hid (20000001 ≥ L.length + 1) := by show _ ≥ _; omega
  obtain ⟨w2, hw2⟩ : ∃ w2, w1.setCell ⟨O, 0, none⟩ (.slice (some ⟨g', 0, none⟩) (L.length + 1) cap') = w2 := ⟨_, rfl⟩
  rw [hw2] at hv2 hr2 hk2 hb2
  rw [hw2]
  have HFB : Hid (MK n₀ W w2) := ⟨hk2, hb2, fun b c T hT1 hT2 hb => by
    have hbl : b < W.heap.size := (Array.getElem?_eq_some_iff.1 hb).1
    have h1 : w1.heap[b]? = some (.cells c T (0, 0)) := (hgrow.block _ (by simp; omega) (not_rowT hb hT1 HR.out)).trans ((Below.heap_alloc _ _ _ hbl).trans hb)
    rw [← hw2]
    refine (Below.heap_setCell _ _ _ _ ?_).trans h1
    intro e
    have hx := hv1.symm.trans (e ▸ h1)
    simp at hx
    exact hT2 hx.2.symm⟩
  have HV2 := Lib.hid hv2
  have hr2' : w2.ownsRow n₀ 3 1 (.slice (some ⟨g', 0, none⟩) (L.length + 1) cap') (L.length + 1) ((rowK L t L.length).map (Value.int .i64)) := by rw [rowK_end]; simpa using hr2
  have HR2 := Lib.hid hr2'
  have hOg : O ≠ g' := fun e => HV2.out.not_row (by decide) HR2.out (by rw [e]; rfl)
  have hnf : ∀ (wr : World) (xs : List Value), wr.ownsRow n₀ 3 1 (.slice (some ⟨g', 0, none⟩) (L.length + 1) cap') (L.length + 1) xs → n₀ ≤ g' ∧ ∀ (c : Array Value) (T : TypeId), T ≠ 3 → T ≠ 40 → wr.heap[g']? ≠ some (.cells c T (0, 0)) := fun wr xs h => by
    refine ⟨(World.ownsRow.lt h g' rfl).1, fun c T hT _ hb => not_rowT hb hT h rfl⟩
  have HNF := Lib.hid hnf
  clear hv1 hv2 hr2 hk2 hb2 hgrow hown' hc1 hf1 hw2 hr2' hnf hc
  go_loopw [3] (fun i wr => ∃ (k : Nat) (z : Int), k ≤ L.length ∧ i = .int .i64 k ∧ Hid (goK L t k = goK L t L.length) ∧ Hid (Boxed wr O 40 (.slice (some ⟨g', 0, none⟩) (L.length + 1) cap')) ∧
    Hid (wr.ownsRow n₀ 3 1 (.slice (some ⟨g', 0, none⟩) (L.length + 1) cap') (L.length + 1) ((rowK L z k).map (Value.int .i64))) ∧ Hid (MK n₀ W wr)) (fun i _ => (intOf i).toNat)
  case atStart => exact ⟨L.length, t, Nat.le_refl _, rfl, rfl, HV2, HR2, HFB⟩
  case round =>
    obtain ⟨k, z, hk, rfl, HK, HVr, HRr, HM⟩ := hrel
    have cO := HVr.out.cell
    obtain ⟨hg0, hnf⟩ := HNF.out wr _ HRr.out
    have HNFr := Lib.hid hnf
    have fg := World.ownsRow.frozenAt HRr.out k
    have cz : wr.cell? ⟨g', k, none⟩ = some (.int .i64 z) := by
      rw [World.ownsRow.cellAt HRr.out k (by omega), List.getElem?_map, rowK_here L z hk]
      rfl
    clear hnf
    cases k with
    | zero =>
      have HKE := Lib.hid (HK.out.symm.trans (show goK L t 0 = 0 from rfl))
      have i1 : (0 : Int) < ((L.length + 1 : Nat) : Int) := by omega
      have HS3 : Hid ((wr.setCell ⟨g', 0, none⟩ (.int .i64 t)).ownsRow n₀ 3 1 (.slice (some ⟨g', 0, none⟩) (L.length + 1) cap') (L.length + 1) ((ins L t).map (Value.int .i64))) := by
        have := (World.ownsRow.stored HRr.out (0) (.int .i64 t)).1
        rw [← List.map_set, rowK_set L z t hk] at this
        show World.ownsRow _ _ _ _ _ _ _
        unfold ins
        rw [HKE.out]
        exact this
      have HV3 : Hid (Boxed (wr.setCell ⟨g', 0, none⟩ (.int .i64 t)) O 40 (.slice (some ⟨g', 0, none⟩) (L.length + 1) cap')) := (Below.heap_setCell _ _ _ _ (by show O ≠ g'; exact hOg)).trans HVr.out
      have HM3 : Hid (MK n₀ W (wr.setCell ⟨g', 0, none⟩ (.int .i64 t))) := HM.out.trans (MK.setCell hg0 HNFr.out _)
      go_wp2
      go_end0
      exact ⟨⟨_, rfl⟩, ⟨_, HV3.out, HS3.out⟩, HM3.out⟩
    | succ k =>
      obtain ⟨x, hx⟩ : ∃ x, L[k]? = some x := ⟨_, List.getElem?_eq_getElem (by omega)⟩
      have HX := Lib.hid hx
      have cx : wr.cell? ⟨g', k, none⟩ = some (.int .i64 x) := by
        rw [World.ownsRow.cellAt HRr.out k (by omega), List.getElem?_map, rowK_at hx]
        rfl
      have wl0 : IntKind.i64.wrap (k : Int) = (k : Int) := IntWalk.i64_in _ (by omega)
      have e1 : IntKind.i64.wrap (((k + 1 : Nat) : Int) - 1) = (k : Int) := by rw [IntWalk.i64_in _ (by omega)]; omega
      have i1 : (k : Int) < ((L.length + 1 : Nat) : Int) := by omega
      have i2 : ((k + 1 : Nat) : Int) < ((L.length + 1 : Nat) : Int) := by omega
      clear hx
      by_cases hgt : t < x
      · have HK2 := Lib.hid ((goK_gt HX.out hgt).symm.trans HK.out)
        go_wp2_with fail
        go_region
        have HS3 : Hid ((wr.setCell ⟨g', k + 1, none⟩ (.int .i64 x)).ownsRow n₀ 3 1 (.slice (some ⟨g', 0, none⟩) (L.length + 1) cap') (L.length + 1) ((rowK L x k).map (Value.int .i64))) := by
          have := (World.ownsRow.stored HRr.out (k + 1) (.int .i64 x)).1
          rw [← List.map_set, rowK_set L z x hk, rowK_step HX.out] at this
          exact this
        have HV3 : Hid (Boxed (wr.setCell ⟨g', k + 1, none⟩ (.int .i64 x)) O 40 (.slice (some ⟨g', 0, none⟩) (L.length + 1) cap')) := (Below.heap_setCell _ _ _ _ (by show O ≠ g'; exact hOg)).trans HVr.out
        have HM3 : Hid (MK n₀ W (wr.setCell ⟨g', k + 1, none⟩ (.int .i64 x))) := HM.out.trans (MK.setCell hg0 HNFr.out _)
        generalize wr.setCell ⟨g', k + 1, none⟩ (.int .i64 x) = wd at *
        go_wp2
        go_roundw
        case rel => exact ⟨k, x, by omega, by go_num, HK2, HV3.out, HS3.out, HM3.out.trans (MK.drew n₀ wd)⟩
        case measure => simp [intOf]
      · have hle : x ≤ t := by omega
        have HKE := Lib.hid (HK.out.symm.trans (goK_le HX.out hle))
        have HS3 : Hid ((wr.setCell ⟨g', k + 1, none⟩ (.int .i64 t)).ownsRow n₀ 3 1 (.slice (some ⟨g', 0, none⟩) (L.length + 1) cap') (L.length + 1) ((ins L t).map (Value.int .i64))) := by
          have := (World.ownsRow.stored HRr.out (k + 1) (.int .i64 t)).1
          rw [← List.map_set, rowK_set L z t hk] at this
          show World.ownsRow _ _ _ _ _ _ _
          unfold ins
          rw [HKE.out]
          exact this
        have HV3 : Hid (Boxed (wr.setCell ⟨g', k + 1, none⟩ (.int .i64 t)) O 40 (.slice (some ⟨g', 0, none⟩) (L.length + 1) cap')) := (Below.heap_setCell _ _ _ _ (by show O ≠ g'; exact hOg)).trans HVr.out
        have HM3 : Hid (MK n₀ W (wr.setCell ⟨g', k + 1, none⟩ (.int .i64 t))) := HM.out.trans (MK.setCell hg0 HNFr.out _)
        go_wp2
        go_end0
        exact ⟨⟨_, rfl⟩, ⟨_, HV3.out, HS3.out⟩, HM3.out⟩
end Go.Proofs.Ytknecohjajjloaa
