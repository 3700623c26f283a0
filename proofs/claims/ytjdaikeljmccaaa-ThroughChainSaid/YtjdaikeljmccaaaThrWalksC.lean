/-
  THE CONTRACTS OF THROUGH SERVICES, THIRD PART: alighting, boarding, Meets, the reference's Meets. Conditions: those of each contract.
-/
import Derived.Test.YtjdaikeljmccaaaThrWalksA
namespace Go.Proofs.Ytjdaikeljmccaaa
open Go.RowKit
open Frq Thr

theorem alight_yes {stop : Int} {k : Nat} {x : CallD} (h0 : 0 < k) (h1 : x.stop = stop) (h2 : x.alight = true) : alightP stop k x = true := by unfold alightP; simp [h0, h1, h2]
theorem alight_no0 {stop : Int} {k : Nat} {x : CallD} (h0 : ¬ 0 < k) : alightP stop k x = false := by unfold alightP; simp [h0]
theorem alight_no1 {stop : Int} {k : Nat} {x : CallD} (h0 : x.stop ≠ stop) : alightP stop k x = false := by unfold alightP; simp [h0]
theorem alight_no2 {stop : Int} {k : Nat} {x : CallD} (h0 : x.alight = false) : alightP stop k x = false := by unfold alightP; simp [h0]
theorem board_yes {n : Nat} {stop : Int} {k : Nat} {x : CallD} (h0 : k + 1 < n) (h1 : x.stop = stop) (h2 : x.board = true) : boardP n stop k x = true := by unfold boardP; simp [h0, h1, h2]
theorem board_no0 {n : Nat} {stop : Int} {k : Nat} {x : CallD} (h0 : ¬ k + 1 < n) : boardP n stop k x = false := by unfold boardP; simp [h0]
theorem board_no1 {n : Nat} {stop : Int} {k : Nat} {x : CallD} (h0 : x.stop ≠ stop) : boardP n stop k x = false := by unfold boardP; simp [h0]
theorem board_no2 {n : Nat} {stop : Int} {k : Nat} {x : CallD} (h0 : x.board = false) : boardP n stop k x = false := by unfold boardP; simp [h0]
/-- No element before index k has the property. -/
def NoneTo (p : Nat → CallD → Bool) (l : List CallD) (k : Nat) : Prop := ∀ i x, i < k → l[i]? = some x → p i x = false
theorem noneTo_0 (p : Nat → CallD → Bool) (l : List CallD) : NoneTo p l 0 := fun i _ h => absurd h (Nat.not_lt_zero i)
theorem NoneTo.next {p : Nat → CallD → Bool} {l : List CallD} {k : Nat} {x : CallD} (h : NoneTo p l k) (hx : l[k]? = some x) (hp : p k x = false) : NoneTo p l (k + 1) := fun i y hi hy => by
  by_cases e : i < k
  · exact h i y e hy
  · obtain rfl : i = k := by omega
    rw [hx] at hy
    cases hy
    exact hp
theorem NoneTo.next' {p : Nat → CallD → Bool} {l : List CallD} {k : Nat} (h : NoneTo p l k) (hp : ∀ x, p k x = false) : NoneTo p l (k + 1) := fun i y hi hy => by
  by_cases e : i < k
  · exact h i y e hy
  · obtain rfl : i = k := by omega
    exact hp y
theorem NoneTo.all {p : Nat → CallD → Bool} {l : List CallD} {k : Nat} (h : NoneTo p l k) (hk : l.length ≤ k) : findI p l = none := findI_none fun i x hx => h i x (by have := (List.getElem?_eq_some_iff.1 hx).1; omega) hx
set_option maxHeartbeats 4000000 in
theorem alighting_c (v : Value) (l : List CallD) (stop : Int) (B : Nat) (w : World) (ha : CallsIn B w v l) (hB : B ≤ w.heap.size) :
    Calls Try.prog 29 #[v, .int .i64 stop] w fun e w' => e = .returned (.int .i64 (optI (alightS l stop))) ∧ Bl w w' := by
  obtain ⟨a, cap, rfl, hl1, hl2⟩ := ha.val
  have HA := Lib.hid ha
  clear ha
  go_enter Try.func29, Try.ntmps29
  go_wp2
  go_loopw [9] (fun i wr => ∃ k : Nat, k ≤ l.length ∧ i = .int .i64 k ∧ Hid (NoneTo (alightP stop) l k) ∧ Bl w wr) (fun i _ => l.length - (intOf i).toNat)
  case atStart => exact ⟨0, Nat.zero_le _, rfl, noneTo_0 _ _, bl_refl _⟩
  case round =>
    obtain ⟨k, hk, rfl, HN, hbl⟩ := hrel
    by_cases hlt : k < l.length
    · obtain ⟨b, o, x, rfl, hbs, hx, hc⟩ := HA.out.get hlt hbl hB
      have d0 : wr.cell? ⟨b, o + k * 5, none⟩ = some (.int .i64 x.stop) := hc 0 _ rfl
      have d1 := hc 1 _ rfl
      have d2 := hc 2 _ rfl
      have d3 := hc 3 _ rfl
      have d4 := hc 4 _ rfl
      have HX := Lib.hid hx
      clear hx hc
      by_cases h0 : 0 < k
      · have q0 : decide (0 < k) = true := decide_eq_true h0
        by_cases h1 : x.stop = stop
        · have q1 : (x.stop == stop) = true := by rw [beq_iff_eq]; exact h1
          cases h2 : x.alight with
          | true =>
            rw [h2] at d4
            have HR := Lib.hid (show alightS l stop = some k from findI_some HN.out HX.out (alight_yes h0 h1 h2))
            clear h0 h1 h2
            go_wp2
            go_ret
            exact ⟨ret_int (by rw [HR.out]; rfl), bl_alloc hbl _⟩
          | false =>
            rw [h2] at d4
            have HN' := Lib.hid (HN.out.next HX.out (alight_no2 h2))
            clear h0 h1 h2
            go_wp2
            go_roundw
            case rel => exact ⟨k + 1, by omega, by go_num, HN', bl_alloc hbl _⟩
            case measure => simp [intOf]; omega
        · have q1 : (x.stop == stop) = false := by rw [beq_eq_false_iff_ne]; exact h1
          have HN' := Lib.hid (HN.out.next HX.out (alight_no1 h1))
          clear h0 h1
          go_wp2
          go_roundw
          case rel => exact ⟨k + 1, by omega, by go_num, HN', bl_alloc hbl _⟩
          case measure => simp [intOf]; omega
      · have q0 : decide (0 < k) = false := decide_eq_false h0
        have HN' := Lib.hid (HN.out.next HX.out (alight_no0 h0))
        clear h0
        go_wp2
        go_roundw
        case rel => exact ⟨k + 1, by omega, by go_num, HN', bl_alloc hbl _⟩
        case measure => simp [intOf]; omega
    · have HR := Lib.hid (show alightS l stop = none from HN.out.all (by omega))
      go_wp2
      go_ret
      exact ⟨ret_int (by rw [HR.out]; rfl), hbl⟩
set_option maxHeartbeats 4000000 in
theorem boarding_c (v : Value) (l : List CallD) (stop : Int) (B : Nat) (w : World) (ha : CallsIn B w v l) (hB : B ≤ w.heap.size) :
    Calls Try.prog 30 #[v, .int .i64 stop] w fun e w' => e = .returned (.int .i64 (optI (boardS l stop))) ∧ Bl w w' := by
  obtain ⟨a, cap, rfl, hl1, hl2⟩ := ha.val
  have HA := Lib.hid ha
  clear ha
  go_enter Try.func30, Try.ntmps30
  go_wp2
  go_loopw [9] (fun i wr => ∃ k : Nat, k ≤ l.length ∧ i = .int .i64 k ∧ Hid (NoneTo (boardP l.length stop) l k) ∧ Bl w wr) (fun i _ => l.length - (intOf i).toNat)
  case atStart => exact ⟨0, Nat.zero_le _, rfl, noneTo_0 _ _, bl_refl _⟩
  case round =>
    obtain ⟨k, hk, rfl, HN, hbl⟩ := hrel
    by_cases hlt : k < l.length
    · obtain ⟨b, o, x, rfl, hbs, hx, hc⟩ := HA.out.get hlt hbl hB
      have d0 : wr.cell? ⟨b, o + k * 5, none⟩ = some (.int .i64 x.stop) := hc 0 _ rfl
      have d1 := hc 1 _ rfl
      have d2 := hc 2 _ rfl
      have d3 := hc 3 _ rfl
      have d4 := hc 4 _ rfl
      have HX := Lib.hid hx
      clear hx hc
      by_cases h0 : k + 1 < l.length
      · have q0 : decide ((k : Int) + 1 < (l.length : Int)) = true := decide_eq_true (by omega)
        by_cases h1 : x.stop = stop
        · have q1 : (x.stop == stop) = true := by rw [beq_iff_eq]; exact h1
          cases h2 : x.board with
          | true =>
            rw [h2] at d3
            have HR := Lib.hid (show boardS l stop = some k from findI_some HN.out HX.out (board_yes h0 h1 h2))
            clear h0 h1 h2
            go_wp2
            go_ret
            exact ⟨ret_int (by rw [HR.out]; rfl), bl_alloc hbl _⟩
          | false =>
            rw [h2] at d3
            have HN' := Lib.hid (HN.out.next HX.out (board_no2 h2))
            clear h0 h1 h2
            go_wp2
            go_roundw
            case rel => exact ⟨k + 1, by omega, by go_num, HN', bl_alloc hbl _⟩
            case measure => simp [intOf]; omega
        · have q1 : (x.stop == stop) = false := by rw [beq_eq_false_iff_ne]; exact h1
          have HN' := Lib.hid (HN.out.next HX.out (board_no1 h1))
          clear h0 h1
          go_wp2
          go_roundw
          case rel => exact ⟨k + 1, by omega, by go_num, HN', bl_alloc hbl _⟩
          case measure => simp [intOf]; omega
      · have q0 : decide ((k : Int) + 1 < (l.length : Int)) = false := decide_eq_false (by omega)
        have HN' := Lib.hid (HN.out.next HX.out (board_no0 h0))
        clear h0
        go_wp2
        go_roundw
        case rel => exact ⟨k + 1, by omega, by go_num, HN', bl_alloc hbl _⟩
        case measure => simp [intOf]; omega
    · have HR := Lib.hid (show boardS l stop = none from HN.out.all (by omega))
      go_wp2
      go_ret
      exact ⟨ret_int (by rw [HR.out]; rfl), hbl⟩

/-! ### Meets -/
theorem ret_iib {a b a' b' : Int} {c c' : Bool} {r : Int × Int × Bool} (h : r = (a, b, c)) (h' : r = (a', b', c')) : Ending.returned (.tuple #[.int .i64 a, .int .i64 b, .bool c]) = .returned (.tuple #[.int .i64 a', .int .i64 b', .bool c']) := by
  rw [h] at h'
  simp only [Prod.mk.injEq] at h'
  rw [h'.1, h'.2.1, h'.2.2]
set_option maxHeartbeats 4000000 in
theorem meets_c (va vb : Value) (a b : List CallD) (stop : Int) (i0 k0 : Int) (r0 : Bool) (H : Hid (meetsS a b stop = (i0, k0, r0))) (B : Nat) (w : World) (ha : CallsIn B w va a) (hb : CallsIn B w vb b) (hB : B ≤ w.heap.size) :
    Calls Try.prog 20 #[va, vb, .int .i64 stop] w fun e w' => e = .returned (.tuple #[.int .i64 i0, .int .i64 k0, .bool r0]) ∧ Bl w w' := by
  obtain ⟨aa, capa, rfl, la1, la2⟩ := ha.val
  obtain ⟨ab, capb, rfl, lb1, lb2⟩ := hb.val
  have HA := Lib.hid ha
  have HB := Lib.hid hb
  clear ha hb
  go_enter Try.func20, Try.ntmps20
  go_wp2_with fail
  refine (alighting_c _ a stop B w HA.out hB).mono ?_
  rintro e w1 ⟨rfl, b1⟩
  have z1 := b1.size
  have HB1 := Lib.hid b1
  clear b1
  obtain ⟨oa, hoa⟩ : ∃ o, alightS a stop = o := ⟨_, rfl⟩
  rw [hoa]
  have HOA := Lib.hid hoa
  clear hoa
  go_wp2_with fail
  refine (boarding_c _ b stop B w1 (HB.out.out HB1.out hB) (by omega)).mono ?_
  rintro e w2 ⟨rfl, b2⟩
  have HB2 : Hid (Bl w w2) := bl_next HB1.out b2
  obtain ⟨ob, hob⟩ : ∃ o, boardS b stop = o := ⟨_, rfl⟩
  rw [hob]
  have HOB := Lib.hid hob
  clear hob b2
  cases oa with
  | none =>
    have HR := Lib.hid (meetsS_a (b := b) HOA.out)
    rw [show optI none = -1 from rfl]
    go_wp2_with fail
    go_quiet (fail)
    go_wp2
    go_ret3
    exact ⟨ret_iib HR.out H.out, bl_drewN HB2.out _⟩
  | some i =>
    rw [show optI (some i) = (i : Int) from rfl]
    have q1 : decide ((i : Int) < 0) = false := decide_eq_false (by omega)
    cases ob with
    | none =>
      have HR := Lib.hid (meetsS_b (a := a) HOB.out)
      rw [show optI none = -1 from rfl]
      go_wp2_with fail
      go_quiet (fail)
      go_wp2
      go_ret3
      exact ⟨ret_iib HR.out H.out, bl_drewN HB2.out _⟩
    | some k =>
      rw [show optI (some k) = (k : Int) from rfl]
      have q2 : decide ((k : Int) < 0) = false := decide_eq_false (by omega)
      obtain ⟨x, hx, -, -⟩ := findI_of HOA.out
      obtain ⟨y, hy, -, -⟩ := findI_of HOB.out
      have hil := (List.getElem?_eq_some_iff.1 hx).1
      have hkl := (List.getElem?_eq_some_iff.1 hy).1
      obtain ⟨ba, oa, x', rfl, hba, hx', hca⟩ := HA.out.get hil HB2.out hB
      obtain rfl : x = x' := by rw [hx] at hx'; exact Option.some.inj hx'
      obtain ⟨bb, ob, y', rfl, hbb, hy', hcb⟩ := HB.out.get hkl HB2.out hB
      obtain rfl : y = y' := by rw [hy] at hy'; exact Option.some.inj hy'
      have c1 := hca 1 _ rfl
      have c2 := hcb 2 _ rfl
      have HX := Lib.hid hx
      have HY := Lib.hid hy
      have iI : (i : Int) < (a.length : Int) := by omega
      have kI : (k : Int) < (b.length : Int) := by omega
      clear hca hcb hx hy hx' hy'
      by_cases hlt : y.depart < x.arrive
      · have HR := Lib.hid (meetsS_no HOA.out HOB.out HX.out HY.out hlt)
        have q : decide (y.depart < x.arrive) = true := decide_eq_true hlt
        clear hlt
        go_wp2_with fail
        go_quiet (fail)
        go_wp2
        go_ret3
        exact ⟨ret_iib HR.out H.out, bl_drewN HB2.out _⟩
      · have HR := Lib.hid (meetsS_yes HOA.out HOB.out HX.out HY.out (by omega))
        have q : decide (y.depart < x.arrive) = false := decide_eq_false hlt
        clear hlt
        go_wp2_with fail
        go_quiet (fail)
        go_wp2
        go_ret3
        exact ⟨ret_iib HR.out H.out, bl_drewN HB2.out _⟩

/-! ### the reference's Meets -/
set_option maxRecDepth 100000 in
set_option maxHeartbeats 8000000 in
theorem rmeets_c (va vb : Value) (a b : List CallD) (stop : Int) (i0 k0 : Int) (r0 : Bool) (H : Hid (meetsS a b stop = (i0, k0, r0))) (B : Nat) (w : World) (ha : CallsIn B w va a) (hb : CallsIn B w vb b) (hB : B ≤ w.heap.size) :
    Calls Try.prog 21 #[va, vb, .int .i64 stop] w fun e w' => e = .returned (.tuple #[.int .i64 i0, .int .i64 k0, .bool r0]) ∧ Bl w w' := by
  obtain ⟨aa, capa, rfl, la1, la2⟩ := ha.val
  obtain ⟨ab, capb, rfl, lb1, lb2⟩ := hb.val
  have HA := Lib.hid ha
  have HB := Lib.hid hb
  clear ha hb
  go_enter Try.func21, Try.ntmps21
  go_wp2_with fail
  go_loopw [9] (fun i wr => ∃ k : Nat, (1 ≤ k ∧ k ≤ a.length + 1) ∧ i = .int .i64 k ∧ Hid (NoneTo (alightP stop) a k) ∧ w = wr) (fun i _ => a.length + 1 - (intOf i).toNat)
  case atStart => exact ⟨1, by omega, rfl, (noneTo_0 (alightP stop) a).next' (by intro x; exact alight_no0 (by omega)), rfl⟩
  case round =>
    obtain ⟨i, ⟨hi1, hi2⟩, rfl, HN, rfl⟩ := hrel
    by_cases hlt : i < a.length
    · obtain ⟨ba, oa, x, rfl, hba, hx, hca⟩ := HA.out.get hlt (bl_refl _) hB
      have d0 : w.cell? ⟨ba, oa + i * 5, none⟩ = some (.int .i64 x.stop) := hca 0 _ rfl
      have d1 := hca 1 _ rfl
      have d4 := hca 4 _ rfl
      have iI : (i : Int) < (a.length : Int) := by omega
      have HX := Lib.hid hx
      clear hx hca
      by_cases h1 : x.stop = stop
      · have q1 : (x.stop != stop) = false := by rw [h1]; simp
        cases h2 : x.alight with
        | false =>
          rw [h2] at d4
          have HN' := Lib.hid (HN.out.next HX.out (alight_no2 h2))
          clear h1 h2
          go_wp2
          go_roundw
          case rel => exact ⟨i + 1, by omega, by go_num, HN', trivial⟩
          case measure => simp [intOf]; omega
        | true =>
          rw [h2] at d4
          have HOA := Lib.hid (show alightS a stop = some i from findI_some HN.out HX.out (alight_yes (by omega) h1 h2))
          clear h1 h2
          go_wp2_with fail
          go_loopw [10] (fun j wr => ∃ k : Nat, (k ≤ b.length - 1) ∧ j = .int .i64 k ∧ Hid (NoneTo (boardP b.length stop) b k) ∧ w = wr) (fun j _ => b.length - (intOf j).toNat)
          case atStart => exact ⟨0, Nat.zero_le _, rfl, noneTo_0 _ _, rfl⟩
          case round =>
            obtain ⟨k, hk, rfl, HM, rfl⟩ := hrel
            by_cases hkl : k + 1 < b.length
            · obtain ⟨bb, ob, y, rfl, hbb, hy, hcb⟩ := HB.out.get (k := k) (by omega) (bl_refl _) hB
              have e0 : w.cell? ⟨bb, ob + k * 5, none⟩ = some (.int .i64 y.stop) := hcb 0 _ rfl
              have e2 := hcb 2 _ rfl
              have e3 := hcb 3 _ rfl
              have kI : (k : Int) < (b.length : Int) := by omega
              have kI1 : (k : Int) + 1 < (b.length : Int) := by omega
              have HY := Lib.hid hy
              clear hy hcb
              by_cases h3 : y.stop = stop
              · have q3 : (y.stop == stop) = true := by rw [h3]; simp
                cases h4 : y.board with
                | false =>
                  rw [h4] at e3
                  have HM' := Lib.hid (HM.out.next HY.out (board_no2 h4))
                  clear h3 h4
                  go_wp2
                  go_roundw
                  case rel => exact ⟨k + 1, by omega, by go_num, HM', trivial⟩
                  case measure => simp [intOf]; omega
                | true =>
                  rw [h4] at e3
                  have HOB := Lib.hid (show boardS b stop = some k from findI_some HM.out HY.out (board_yes hkl h3 h4))
                  clear h3 h4
                  by_cases h5 : y.depart < x.arrive
                  · have HR := Lib.hid (meetsS_no HOA.out HOB.out HX.out HY.out h5)
                    have q5 : decide (y.depart < x.arrive) = true := decide_eq_true h5
                    clear h5
                    go_wp2_with fail
                    go_quiet (fail)
                    go_wp2
                    go_ret3
                    exact ⟨ret_iib HR.out H.out, bl_drewN (bl_refl _) _⟩
                  · have HR := Lib.hid (meetsS_yes HOA.out HOB.out HX.out HY.out (by omega))
                    have q5 : decide (y.depart < x.arrive) = false := decide_eq_false h5
                    clear h5
                    go_wp2_with fail
                    go_quiet (fail)
                    go_wp2
                    go_ret3
                    exact ⟨ret_iib HR.out H.out, bl_drewN (bl_refl _) _⟩
              · have q3 : (y.stop == stop) = false := by rw [beq_eq_false_iff_ne]; exact h3
                have HM' := Lib.hid (HM.out.next HY.out (board_no1 h3))
                clear h3
                go_wp2
                go_roundw
                case rel => exact ⟨k + 1, by omega, by go_num, HM', trivial⟩
                case measure => simp [intOf]; omega
            · have HR := Lib.hid (meetsS_b (a := a) (b := b) (stop := stop) (findI_none fun j y hy => by
                by_cases hj : j < k
                · exact HM.out j y hj hy
                · exact board_no0 (by omega)))
              go_wp2
              go_ret3
              exact ⟨ret_iib HR.out H.out, bl_refl _⟩
      · have q1 : (x.stop != stop) = true := by simpa using h1
        have HN' := Lib.hid (HN.out.next HX.out (alight_no1 h1))
        clear h1
        go_wp2
        go_roundw
        case rel => exact ⟨i + 1, by omega, by go_num, HN', trivial⟩
        case measure => simp [intOf]; omega
    · have HR := Lib.hid (meetsS_a (b := b) (show alightS a stop = none from HN.out.all (by omega)))
      go_wp2
      go_ret3
      exact ⟨ret_iib HR.out H.out, bl_refl _⟩
end Go.Proofs.Ytjdaikeljmccaaa
