/-
  THE CONTRACTS OF FREQUENCY, FOURTH PART: SameInts, SameCalls, Starts of the reference, Repeated, Many. Conditions: those of each contract.
-/
import Derived.Test.YtknecohjajjloaaFrqWalksC
namespace Go.Proofs.Ytknecohjajjloaa
open Go.RowKit
open Frq

def intCells (x : Int) : List Value := [.int .i64 x]
theorem intCells_len (x : Int) : (intCells x).length = 1 := rfl
abbrev IntsIn (B : Nat) (w : World) (v : Value) (xs : List Int) : Prop := SlIn intCells 1 B w v xs
def freqCells (f : FreqD) : List Value := [.int .i64 f.trip, .int .i64 f.frm, .int .i64 f.to, .int .i64 f.every]
theorem freqCells_len (f : FreqD) : (freqCells f).length = 4 := rfl
abbrev FreqsIn (B : Nat) (w : World) (v : Value) (fs : List FreqD) : Prop := SlIn freqCells 4 B w v fs

set_option maxHeartbeats 4000000 in
theorem sameInts_c (a b : Value) (xs : List Int) (B : Nat) (w : World) (ha : IntsIn B w a xs) (hb : IntsIn B w b xs) (hB : B ≤ w.heap.size) :
    Calls Try.prog 19 #[a, b] w fun e w' => e = .returned (.bool true) ∧ Bl w w' := by
  by_cases h0 : 0 < xs.length
  · obtain ⟨b1, o1, cap1, rfl, l1, m1, hb1, hc1⟩ := ha.open h0
    obtain ⟨b2, o2, cap2, rfl, l2, m2, hb2, hc2⟩ := hb.open h0
    have H1 := Lib.hid hc1
    have H2 := Lib.hid hc2
    have q0 : ((xs.length : Int) != (xs.length : Int)) = false := by simp
    clear ha hb hc1 hc2
    go_enter Try.func19, Try.ntmps19
    go_wp2
    go_loopw [5] (fun i wr => ∃ k : Nat, k ≤ xs.length ∧ i = .int .i64 k ∧ Bl w wr) (fun i _ => xs.length - (intOf i).toNat)
    case atStart => exact ⟨0, Nat.zero_le _, rfl, bl_refl _⟩
    case round =>
      obtain ⟨k, hk, rfl, hbl⟩ := hrel
      by_cases hlt : k < xs.length
      · obtain ⟨x, hx⟩ : ∃ x, xs[k]? = some x := ⟨_, List.getElem?_eq_getElem hlt⟩
        have c1 : wr.cell? ⟨b1, o1 + k, none⟩ = some (.int .i64 x) := by rw [(bl_cell hbl).1 _ _ (by omega)]; exact (by have := H1.out k x hx 0 _ rfl; simpa using this)
        have c2 : wr.cell? ⟨b2, o2 + k, none⟩ = some (.int .i64 x) := by rw [(bl_cell hbl).1 _ _ (by omega)]; exact (by have := H2.out k x hx 0 _ rfl; simpa using this)
        have i1 : (k : Int) < (xs.length : Int) := by omega
        have qx : ((x : Int) != x) = false := by simp
        clear hx
        go_wp2_with fail
        go_quiet (fail)
        go_wp2
        go_roundw
        case rel => exact ⟨k + 1, by omega, by go_num, bl_drewN hbl _⟩
        case measure => simp [intOf]; omega
      · go_wp2
        go_ret
        exact ⟨rfl, hbl⟩
  · obtain ⟨a1, c1, rfl, m1, rfl⟩ := ha.empty (by omega)
    obtain ⟨a2, c2, rfl, m2, _⟩ := hb.empty rfl
    go_enter Try.func19, Try.ntmps19
    go_wp2_with fail
    refine wp_loop_rounds 1 ?_
    rw [rounds_succ]
    go_wp2
    go_ret
    exact ⟨rfl, bl_refl _⟩

set_option maxHeartbeats 4000000 in
theorem sameCalls_c (a b : Value) (xs : List CallD) (B : Nat) (w : World) (ha : CallsIn B w a xs) (hb : CallsIn B w b xs) (hB : B ≤ w.heap.size) :
    Calls Try.prog 16 #[a, b] w fun e w' => e = .returned (.bool true) ∧ Bl w w' := by
  by_cases h0 : 0 < xs.length
  · obtain ⟨b1, o1, cap1, rfl, l1, m1, hb1, hc1⟩ := ha.open h0
    obtain ⟨b2, o2, cap2, rfl, l2, m2, hb2, hc2⟩ := hb.open h0
    have H1 := Lib.hid hc1
    have H2 := Lib.hid hc2
    have q0 : ((xs.length : Int) != (xs.length : Int)) = false := by simp
    clear ha hb hc1 hc2
    go_enter Try.func16, Try.ntmps16
    go_wp2
    go_loopw [5] (fun i wr => ∃ k : Nat, k ≤ xs.length ∧ i = .int .i64 k ∧ Bl w wr) (fun i _ => xs.length - (intOf i).toNat)
    case atStart => exact ⟨0, Nat.zero_le _, rfl, bl_refl _⟩
    case round =>
      obtain ⟨k, hk, rfl, hbl⟩ := hrel
      by_cases hlt : k < xs.length
      · obtain ⟨x, hx⟩ : ∃ x, xs[k]? = some x := ⟨_, List.getElem?_eq_getElem hlt⟩
        have c1 : ∀ j u, (callCells x)[j]? = some u → wr.cell? ⟨b1, o1 + k * 5 + j, none⟩ = some u := fun j u hu => by rw [(bl_cell hbl).1 _ _ (by omega)]; exact H1.out k x hx j u hu
        have c2 : ∀ j u, (callCells x)[j]? = some u → wr.cell? ⟨b2, o2 + k * 5 + j, none⟩ = some u := fun j u hu => by rw [(bl_cell hbl).1 _ _ (by omega)]; exact H2.out k x hx j u hu
        have d10 : wr.cell? ⟨b1, o1 + k * 5, none⟩ = some (.int .i64 x.stop) := c1 0 _ rfl
        have d11 := c1 1 _ rfl
        have d12 := c1 2 _ rfl
        have d13 := c1 3 _ rfl
        have d14 := c1 4 _ rfl
        have d20 : wr.cell? ⟨b2, o2 + k * 5, none⟩ = some (.int .i64 x.stop) := c2 0 _ rfl
        have d21 := c2 1 _ rfl
        have d22 := c2 2 _ rfl
        have d23 := c2 3 _ rfl
        have d24 := c2 4 _ rfl
        have i1 : (k : Int) < (xs.length : Int) := by omega
        clear hx c1 c2
        go_wp2_with fail
        go_quiet (fail)
        go_wp2
        go_roundw
        case rel => exact ⟨k + 1, by omega, by go_num, bl_drewN hbl _⟩
        case measure => simp [intOf]; omega
      · go_wp2
        go_ret
        exact ⟨rfl, hbl⟩
  · obtain ⟨a1, c1, rfl, m1, rfl⟩ := ha.empty (by omega)
    obtain ⟨a2, c2, rfl, m2, _⟩ := hb.empty rfl
    go_enter Try.func16, Try.ntmps16
    go_wp2_with fail
    refine wp_loop_rounds 1 ?_
    rw [rounds_succ]
    go_wp2
    go_ret
    exact ⟨rfl, bl_refl _⟩

/-! ### Repeated -/
def repB (fs : List FreqD) (t : Int) : Bool := fs.any fun f => f.trip == t
theorem any_take {α : Type} {p : α → Bool} {l : List α} {k : Nat} {x : α} (h : l[k]? = some x) (h1 : (l.take k).any p = false) : (l.take (k + 1)).any p = p x := by
  rw [take_snoc_at h, List.any_append, h1]
  simp
theorem any_yes {α : Type} {p : α → Bool} {l : List α} {k : Nat} {x : α} (h : l[k]? = some x) (h1 : p x = true) : l.any p = true := List.any_eq_true.2 ⟨x, List.mem_of_getElem? h, h1⟩
set_option maxHeartbeats 4000000 in
theorem rep_b (v : Value) (fs : List FreqD) (t : Int) (r : Bool) (H : Hid (repB fs t = r)) (B : Nat) (w : World) (ha : FreqsIn B w v fs) (hB : B ≤ w.heap.size) :
    Calls Try.prog 23 #[v, .int .i64 t] w fun e w' => e = .returned (.bool r) ∧ Bl w w' := by
  by_cases h0 : 0 < fs.length
  · obtain ⟨b1, o1, cap1, rfl, l1, m1, hb1, hc1⟩ := ha.open h0
    have H1 := Lib.hid hc1
    clear ha hc1
    go_enter Try.func23, Try.ntmps23
    go_wp2
    go_loopw [9] (fun i wr => ∃ k : Nat, k ≤ fs.length ∧ i = .int .i64 k ∧ Hid ((fs.take k).any (fun f => f.trip == t) = false) ∧ Bl w wr) (fun i _ => fs.length - (intOf i).toNat)
    case atStart => exact ⟨0, Nat.zero_le _, rfl, rfl, bl_refl _⟩
    case round =>
      obtain ⟨k, hk, rfl, HA, hbl⟩ := hrel
      by_cases hlt : k < fs.length
      · obtain ⟨x, hx⟩ : ∃ x, fs[k]? = some x := ⟨_, List.getElem?_eq_getElem hlt⟩
        have c1 : ∀ j u, (freqCells x)[j]? = some u → wr.cell? ⟨b1, o1 + k * 4 + j, none⟩ = some u := fun j u hu => by rw [(bl_cell hbl).1 _ _ (by omega)]; exact H1.out k x hx j u hu
        have d10 : wr.cell? ⟨b1, o1 + k * 4, none⟩ = some (.int .i64 x.trip) := c1 0 _ rfl
        have d11 := c1 1 _ rfl
        have d12 := c1 2 _ rfl
        have d13 := c1 3 _ rfl
        have HX := Lib.hid hx
        clear hx c1
        by_cases he : x.trip = t
        · have HR := Lib.hid (show r = true by rw [← H.out]; exact any_yes HX.out (by simp [he]))
          have q : (x.trip == t) = true := by rw [beq_iff_eq]; exact he
          clear he
          go_wp2
          go_ret
          exact ⟨ret_bool HR.out.symm, bl_alloc hbl _⟩
        · have q : (x.trip == t) = false := by rw [beq_eq_false_iff_ne]; exact he
          have HN := Lib.hid ((any_take (p := fun f : FreqD => f.trip == t) HX.out HA.out).trans q)
          clear he
          go_wp2
          go_roundw
          case rel => exact ⟨k + 1, by omega, by go_num, HN, bl_alloc hbl _⟩
          case measure => simp [intOf]; omega
      · have HR := Lib.hid (show r = false by
          have := HA.out
          rw [List.take_of_length_le (by omega)] at this
          rw [← H.out]; exact this)
        go_wp2
        go_ret
        exact ⟨ret_bool HR.out.symm, hbl⟩
  · obtain ⟨a1, c1, rfl, m1, rfl⟩ := ha.empty (by omega)
    obtain rfl : r = false := H.out.symm
    go_enter Try.func23, Try.ntmps23
    go_wp2_with fail
    refine wp_loop_rounds 1 ?_
    rw [rounds_succ]
    go_wp2
    go_ret
    exact ⟨rfl, bl_refl _⟩
set_option maxHeartbeats 4000000 in
theorem rrep_b (v : Value) (fs : List FreqD) (t : Int) (r : Bool) (H : Hid (repB fs t = r)) (B : Nat) (w : World) (ha : FreqsIn B w v fs) (hB : B ≤ w.heap.size) :
    Calls Try.prog 24 #[v, .int .i64 t] w fun e w' => e = .returned (.bool r) ∧ Bl w w' := by
  by_cases h0 : 0 < fs.length
  · obtain ⟨b1, o1, cap1, rfl, l1, m1, hb1, hc1⟩ := ha.open h0
    have H1 := Lib.hid hc1
    clear ha hc1
    go_enter Try.func24, Try.ntmps24
    go_wp2
    go_loopw [5] (fun i wr => ∃ k : Nat, k ≤ fs.length ∧ i = .int .i64 k ∧ Hid ((fs.take k).any (fun f => f.trip == t) = false) ∧ Bl w wr) (fun i _ => fs.length - (intOf i).toNat)
    case atStart => exact ⟨0, Nat.zero_le _, rfl, rfl, bl_refl _⟩
    case round =>
      obtain ⟨k, hk, rfl, HA, hbl⟩ := hrel
      by_cases hlt : k < fs.length
      · obtain ⟨x, hx⟩ : ∃ x, fs[k]? = some x := ⟨_, List.getElem?_eq_getElem hlt⟩
        have c1 : ∀ j u, (freqCells x)[j]? = some u → wr.cell? ⟨b1, o1 + k * 4 + j, none⟩ = some u := fun j u hu => by rw [(bl_cell hbl).1 _ _ (by omega)]; exact H1.out k x hx j u hu
        have d10 : wr.cell? ⟨b1, o1 + k * 4, none⟩ = some (.int .i64 x.trip) := c1 0 _ rfl
        have d11 := c1 1 _ rfl
        have d12 := c1 2 _ rfl
        have d13 := c1 3 _ rfl
        have HX := Lib.hid hx
        clear hx c1
        by_cases he : x.trip = t
        · have HR := Lib.hid (show r = true by rw [← H.out]; exact any_yes HX.out (by simp [he]))
          have q : (x.trip == t) = true := by rw [beq_iff_eq]; exact he
          clear he
          go_wp2
          go_ret
          exact ⟨ret_bool HR.out.symm, hbl⟩
        · have q : (x.trip == t) = false := by rw [beq_eq_false_iff_ne]; exact he
          have HN := Lib.hid ((any_take (p := fun f : FreqD => f.trip == t) HX.out HA.out).trans q)
          clear he
          go_wp2
          go_roundw
          case rel => exact ⟨k + 1, by omega, by go_num, HN, hbl⟩
          case measure => simp [intOf]; omega
      · have HR := Lib.hid (show r = false by
          have := HA.out
          rw [List.take_of_length_le (by omega)] at this
          rw [← H.out]; exact this)
        go_wp2
        go_ret
        exact ⟨ret_bool HR.out.symm, hbl⟩
  · obtain ⟨a1, c1, rfl, m1, rfl⟩ := ha.empty (by omega)
    obtain rfl : r = false := H.out.symm
    go_enter Try.func24, Try.ntmps24
    go_wp2_with fail
    refine wp_loop_rounds 1 ?_
    rw [rounds_succ]
    go_wp2
    go_ret
    exact ⟨rfl, bl_refl _⟩
end Go.Proofs.Ytknecohjajjloaa
