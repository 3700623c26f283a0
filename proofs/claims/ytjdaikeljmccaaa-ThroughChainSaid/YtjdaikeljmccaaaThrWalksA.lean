/-
  THE CONTRACTS OF THROUGH SERVICES, FIRST PART: the searches (in, Has, Same, Repeated, Next). Conditions: those of each contract.
-/
import Derived.Test.YtjdaikeljmccaaaThrMem
namespace Go.Proofs.Ytjdaikeljmccaaa
open Go.RowKit
open Frq Thr

theorem in_c (n lim : Int) (r : Bool) (H : Hid (inB n lim = r)) (w : World) : Calls Try.prog 34 #[.int .i64 n, .int .i64 lim] w fun e w' => e = .returned (.bool r) ∧ w = w' := by
  by_cases h0 : 0 ≤ n
  · by_cases h1 : n < lim
    · obtain rfl : r = true := by rw [← H.out]; unfold inB; simp [h0, h1]
      clear H
      go_enter Try.func34, Try.ntmps34
      go_wp2
      go_ret
      exact ⟨rfl, rfl⟩
    · obtain rfl : r = false := by rw [← H.out]; unfold inB; simp [h1]
      clear H
      have h1' : decide (n < lim) = false := by rw [decide_eq_false_iff_not]; exact h1
      clear h1
      go_enter Try.func34, Try.ntmps34
      go_wp2
      go_ret
      exact ⟨rfl, rfl⟩
  · obtain rfl : r = false := by rw [← H.out]; unfold inB; simp [h0]
    clear H
    have h0' : n < 0 := by omega
    clear h0
    go_enter Try.func34, Try.ntmps34
    go_wp2
    go_ret
    exact ⟨rfl, rfl⟩

/-! ### Has -/
theorem contains_take {l : List Int} {k : Nat} {x n : Int} (h : l[k]? = some x) (h1 : (l.take k).contains n = false) : (l.take (k + 1)).contains n = (x == n) := by
  rw [take_snoc_at h]
  simp only [List.contains_eq_any_beq, List.any_append, List.any_cons, List.any_nil, Bool.or_false] at h1 ⊢
  rw [h1, Bool.false_or, Bool.eq_iff_iff, beq_iff_eq, beq_iff_eq]
  exact eq_comm
theorem contains_at {l : List Int} {k : Nat} {n : Int} (h : l[k]? = some n) : l.contains n = true := List.contains_iff_mem.2 (List.mem_of_getElem? h)
set_option maxHeartbeats 4000000 in
theorem has_c (v : Value) (xs : List Int) (n : Int) (r : Bool) (H : Hid (xs.contains n = r)) (B : Nat) (w : World) (ha : IntsIn B w v xs) (hB : B ≤ w.heap.size) :
    Calls Try.prog 22 #[v, .int .i64 n] w fun e w' => e = .returned (.bool r) ∧ w = w' := by
  obtain ⟨a, cap, rfl, hl1, hl2⟩ := ha.val
  have HA := Lib.hid ha
  clear ha
  go_enter Try.func22, Try.ntmps22
  go_wp2
  go_loop [5] (fun i => ∃ k : Nat, k ≤ xs.length ∧ i = .int .i64 k ∧ Hid ((xs.take k).contains n = false)) (fun i => xs.length - (intOf i).toNat)
  case atStart => exact ⟨0, Nat.zero_le _, rfl, rfl⟩
  case round =>
    obtain ⟨k, hk, rfl, HN⟩ := hrel
    by_cases hlt : k < xs.length
    · obtain ⟨b, o, x, rfl, hbs, hx, hc⟩ := HA.out.get hlt (bl_refl _) hB
      have c0 : w.cell? ⟨b, o + k, none⟩ = some (.int .i64 x) := by have := hc 0 _ rfl; simpa using this
      have hkI : (k : Int) < (xs.length : Int) := by omega
      have HX := Lib.hid hx
      clear hx hc
      by_cases he : x = n
      · have HR := Lib.hid (show r = true by rw [← H.out]; exact contains_at (he ▸ HX.out))
        have q : (x == n) = true := by rw [beq_iff_eq]; exact he
        clear he
        go_wp2
        go_ret
        exact ⟨ret_bool HR.out.symm, rfl⟩
      · have q : (x == n) = false := by rw [beq_eq_false_iff_ne]; exact he
        have HN' := Lib.hid ((contains_take HX.out HN.out).trans q)
        clear he
        go_wp2
        go_round
        case rel => exact ⟨k + 1, by omega, by go_num, HN'⟩
        case measure => simp [intOf]; omega
    · have HR := Lib.hid (show r = false by
        have := HN.out
        rw [List.take_of_length_le (by omega)] at this
        rw [← H.out]; exact this)
      go_wp2
      go_ret
      exact ⟨ret_bool HR.out.symm, rfl⟩

/-! ### Same -/
set_option maxHeartbeats 4000000 in
theorem same_c (a b : Value) (xs : List Int) (B : Nat) (w : World) (ha : IntsIn B w a xs) (hb : IntsIn B w b xs) (hB : B ≤ w.heap.size) :
    Calls Try.prog 17 #[a, b] w fun e w' => e = .returned (.bool true) ∧ Bl w w' := by
  obtain ⟨a1, cap1, rfl, l1, m1⟩ := ha.val
  obtain ⟨a2, cap2, rfl, l2, m2⟩ := hb.val
  have H1 := Lib.hid ha
  have H2 := Lib.hid hb
  have q0 : ((xs.length : Int) != (xs.length : Int)) = false := by simp
  clear ha hb
  go_enter Try.func17, Try.ntmps17
  go_wp2
  go_loopw [5] (fun i wr => ∃ k : Nat, k ≤ xs.length ∧ i = .int .i64 k ∧ Bl w wr) (fun i _ => xs.length - (intOf i).toNat)
  case atStart => exact ⟨0, Nat.zero_le _, rfl, bl_refl _⟩
  case round =>
    obtain ⟨k, hk, rfl, hbl⟩ := hrel
    by_cases hlt : k < xs.length
    · obtain ⟨b1, o1, x, rfl, hb1, hx, hc1⟩ := H1.out.get hlt hbl hB
      obtain ⟨b2, o2, y, rfl, hb2, hy, hc2⟩ := H2.out.get hlt hbl hB
      obtain rfl : y = x := by rw [hx] at hy; exact (Option.some.inj hy).symm
      have c1 : wr.cell? ⟨b1, o1 + k, none⟩ = some (.int .i64 y) := by have := hc1 0 _ rfl; simpa using this
      have c2 : wr.cell? ⟨b2, o2 + k, none⟩ = some (.int .i64 y) := by have := hc2 0 _ rfl; simpa using this
      have i1 : (k : Int) < (xs.length : Int) := by omega
      have qx : ((y : Int) != y) = false := by simp
      clear hx hy hc1 hc2
      go_wp2_with fail
      go_quiet (fail)
      go_wp2
      go_roundw
      case rel => exact ⟨k + 1, by omega, by go_num, bl_drewN hbl _⟩
      case measure => simp [intOf]; omega
    · go_wp2
      go_ret
      exact ⟨rfl, hbl⟩

/-! ### Repeated -/
set_option maxHeartbeats 4000000 in
theorem rep_b (v : Value) (fs : List FreqD) (t : Int) (r : Bool) (H : Hid (repS fs t = r)) (B : Nat) (w : World) (ha : FreqsIn B w v fs) (hB : B ≤ w.heap.size) :
    Calls Try.prog 33 #[v, .int .i64 t] w fun e w' => e = .returned (.bool r) ∧ Bl w w' := by
  obtain ⟨a, cap, rfl, hl1, hl2⟩ := ha.val
  have HA := Lib.hid ha
  clear ha
  go_enter Try.func33, Try.ntmps33
  go_wp2
  go_loopw [9] (fun i wr => ∃ k : Nat, k ≤ fs.length ∧ i = .int .i64 k ∧ Hid ((fs.take k).any (fun f => f.trip == t) = false) ∧ Bl w wr) (fun i _ => fs.length - (intOf i).toNat)
  case atStart => exact ⟨0, Nat.zero_le _, rfl, rfl, bl_refl _⟩
  case round =>
    obtain ⟨k, hk, rfl, HN, hbl⟩ := hrel
    by_cases hlt : k < fs.length
    · obtain ⟨b, o, x, rfl, hbs, hx, hc⟩ := HA.out.get hlt hbl hB
      have d10 : wr.cell? ⟨b, o + k * 4, none⟩ = some (.int .i64 x.trip) := hc 0 _ rfl
      have d11 := hc 1 _ rfl
      have d12 := hc 2 _ rfl
      have d13 := hc 3 _ rfl
      have HX := Lib.hid hx
      clear hx hc
      by_cases he : x.trip = t
      · have HR := Lib.hid (show r = true by rw [← H.out]; exact any_yes HX.out (by simp [he]))
        have q : (x.trip == t) = true := by rw [beq_iff_eq]; exact he
        clear he
        go_wp2
        go_ret
        exact ⟨ret_bool HR.out.symm, bl_alloc hbl _⟩
      · have q : (x.trip == t) = false := by rw [beq_eq_false_iff_ne]; exact he
        have HN' := Lib.hid ((any_take (p := fun f : FreqD => f.trip == t) HX.out HN.out).trans q)
        clear he
        go_wp2
        go_roundw
        case rel => exact ⟨k + 1, by omega, by go_num, HN', bl_alloc hbl _⟩
        case measure => simp [intOf]; omega
    · have HR := Lib.hid (show r = false by
        have := HN.out
        rw [List.take_of_length_le (by omega)] at this
        rw [← H.out]; exact this)
      go_wp2
      go_ret
      exact ⟨ret_bool HR.out.symm, hbl⟩
set_option maxHeartbeats 4000000 in
theorem rrep_b (v : Value) (fs : List FreqD) (t : Int) (r : Bool) (H : Hid (repS fs t = r)) (B : Nat) (w : World) (ha : FreqsIn B w v fs) (hB : B ≤ w.heap.size) :
    Calls Try.prog 35 #[v, .int .i64 t] w fun e w' => e = .returned (.bool r) ∧ w = w' := by
  obtain ⟨a, cap, rfl, hl1, hl2⟩ := ha.val
  have HA := Lib.hid ha
  clear ha
  go_enter Try.func35, Try.ntmps35
  go_wp2
  go_loop [5] (fun i => ∃ k : Nat, k ≤ fs.length ∧ i = .int .i64 k ∧ Hid ((fs.take k).any (fun f => f.trip == t) = false)) (fun i => fs.length - (intOf i).toNat)
  case atStart => exact ⟨0, Nat.zero_le _, rfl, rfl⟩
  case round =>
    obtain ⟨k, hk, rfl, HN⟩ := hrel
    by_cases hlt : k < fs.length
    · obtain ⟨b, o, x, rfl, hbs, hx, hc⟩ := HA.out.get hlt (bl_refl _) hB
      have d10 : w.cell? ⟨b, o + k * 4, none⟩ = some (.int .i64 x.trip) := hc 0 _ rfl
      have HX := Lib.hid hx
      clear hx hc
      by_cases he : x.trip = t
      · have HR := Lib.hid (show r = true by rw [← H.out]; exact any_yes HX.out (by simp [he]))
        have q : (x.trip == t) = true := by rw [beq_iff_eq]; exact he
        clear he
        go_wp2
        go_ret
        exact ⟨ret_bool HR.out.symm, rfl⟩
      · have q : (x.trip == t) = false := by rw [beq_eq_false_iff_ne]; exact he
        have HN' := Lib.hid ((any_take (p := fun f : FreqD => f.trip == t) HX.out HN.out).trans q)
        clear he
        go_wp2
        go_round
        case rel => exact ⟨k + 1, by omega, by go_num, HN'⟩
        case measure => simp [intOf]; omega
    · have HR := Lib.hid (show r = false by
        have := HN.out
        rw [List.take_of_length_le (by omega)] at this
        rw [← H.out]; exact this)
      go_wp2
      go_ret
      exact ⟨ret_bool HR.out.symm, rfl⟩

/-! ### Next -/
theorem find_take {l : List ThrD} {k : Nat} {x : ThrD} {t : Int} (h : l[k]? = some x) (h1 : nextS (l.take k) t = none) (h2 : (x.frm == t) = false) : nextS (l.take (k + 1)) t = none := by
  unfold nextS at *
  rw [take_snoc_at h, List.find?_append, h1]
  simp [h2]
theorem find_at {l : List ThrD} {k : Nat} {x : ThrD} {t : Int} (h : l[k]? = some x) (h1 : nextS (l.take k) t = none) (h2 : (x.frm == t) = true) : nextS l t = some x := by
  unfold nextS at *
  obtain ⟨hk, rfl⟩ := List.getElem?_eq_some_iff.1 h
  have e : (l.take k ++ l.drop k).find? (fun x => x.frm == t) = some l[k] := by
    rw [List.find?_append, h1, List.drop_eq_getElem_cons hk]
    simp only [Option.none_or]
    rw [List.find?_cons_of_pos]
    exact h2
  rwa [List.take_append_drop] at e
theorem ret_ib {a c : Int} {b d : Bool} (h : a = c) (h' : b = d) : Ending.returned (.tuple #[.int .i64 a, .bool b]) = .returned (.tuple #[.int .i64 c, .bool d]) := by rw [h, h']
set_option maxHeartbeats 4000000 in
theorem next_c (v : Value) (l : List ThrD) (t : Int) (B : Nat) (w : World) (ha : ThrIn B w v l) (hB : B ≤ w.heap.size) :
    Calls Try.prog 15 #[v, .int .i64 t] w fun e w' => e = .returned (.tuple #[.int .i64 (nextN l t), .bool (nextB l t)]) ∧ Bl w w' := by
  obtain ⟨a, cap, rfl, hl1, hl2⟩ := ha.val
  have HA := Lib.hid ha
  clear ha
  go_enter Try.func15, Try.ntmps15
  go_wp2
  go_loopw [10] (fun i wr => ∃ k : Nat, k ≤ l.length ∧ i = .int .i64 k ∧ Hid (nextS (l.take k) t = none) ∧ Bl w wr) (fun i _ => l.length - (intOf i).toNat)
  case atStart => exact ⟨0, Nat.zero_le _, rfl, rfl, bl_refl _⟩
  case round =>
    obtain ⟨k, hk, rfl, HN, hbl⟩ := hrel
    by_cases hlt : k < l.length
    · obtain ⟨b, o, x, rfl, hbs, hx, hc⟩ := HA.out.get hlt hbl hB
      have d10 : wr.cell? ⟨b, o + k * 2, none⟩ = some (.int .i64 x.frm) := hc 0 _ rfl
      have d11 := hc 1 _ rfl
      have HX := Lib.hid hx
      clear hx hc
      by_cases he : x.frm = t
      · have q : (x.frm == t) = true := by rw [beq_iff_eq]; exact he
        have HR := Lib.hid (next_some (find_at HX.out HN.out q))
        clear he
        go_wp2
        go_ret2
        exact ⟨ret_ib HR.out.1.symm HR.out.2.symm, bl_alloc hbl _⟩
      · have q : (x.frm == t) = false := by rw [beq_eq_false_iff_ne]; exact he
        have HN' := Lib.hid (find_take HX.out HN.out q)
        clear he
        go_wp2
        go_roundw
        case rel => exact ⟨k + 1, by omega, by go_num, HN', bl_alloc hbl _⟩
        case measure => simp [intOf]; omega
    · have HR := Lib.hid (next_none (l := l) (t := t) (by
        have := HN.out
        rw [List.take_of_length_le (by omega)] at this
        exact this))
      go_wp2
      go_ret2
      exact ⟨ret_ib HR.out.1.symm HR.out.2.symm, hbl⟩
set_option maxHeartbeats 4000000 in
theorem rnext_c (v : Value) (l : List ThrD) (t : Int) (B : Nat) (w : World) (ha : ThrIn B w v l) (hB : B ≤ w.heap.size) :
    Calls Try.prog 16 #[v, .int .i64 t] w fun e w' => e = .returned (.tuple #[.int .i64 (nextN l t), .bool (nextB l t)]) ∧ w = w' := by
  obtain ⟨a, cap, rfl, hl1, hl2⟩ := ha.val
  have HA := Lib.hid ha
  clear ha
  go_enter Try.func16, Try.ntmps16
  go_wp2
  go_loop [6] (fun i => ∃ k : Nat, k ≤ l.length ∧ i = .int .i64 k ∧ Hid (nextS (l.take k) t = none)) (fun i => l.length - (intOf i).toNat)
  case atStart => exact ⟨0, Nat.zero_le _, rfl, rfl⟩
  case round =>
    obtain ⟨k, hk, rfl, HN⟩ := hrel
    by_cases hlt : k < l.length
    · obtain ⟨b, o, x, rfl, hbs, hx, hc⟩ := HA.out.get hlt (bl_refl _) hB
      have d10 : w.cell? ⟨b, o + k * 2, none⟩ = some (.int .i64 x.frm) := hc 0 _ rfl
      have d11 := hc 1 _ rfl
      have HX := Lib.hid hx
      clear hx hc
      by_cases he : x.frm = t
      · have q : (x.frm == t) = true := by rw [beq_iff_eq]; exact he
        have HR := Lib.hid (next_some (find_at HX.out HN.out q))
        clear he
        go_wp2
        go_ret2
        exact ⟨ret_ib HR.out.1.symm HR.out.2.symm, rfl⟩
      · have q : (x.frm == t) = false := by rw [beq_eq_false_iff_ne]; exact he
        have HN' := Lib.hid (find_take HX.out HN.out q)
        clear he
        go_wp2
        go_round
        case rel => exact ⟨k + 1, by omega, by go_num, HN'⟩
        case measure => simp [intOf]; omega
    · have HR := Lib.hid (next_none (l := l) (t := t) (by
        have := HN.out
        rw [List.take_of_length_le (by omega)] at this
        exact this))
      go_wp2
      go_ret2
      exact ⟨ret_ib HR.out.1.symm HR.out.2.symm, rfl⟩
end Go.Proofs.Ytjdaikeljmccaaa
