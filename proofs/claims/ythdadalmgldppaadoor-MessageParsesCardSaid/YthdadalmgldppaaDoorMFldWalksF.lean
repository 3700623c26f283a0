/-
  THE CONTRACTS OF FIELD, SIXTH PART: decode. Conditions: those of each contract.
-/
import Derived.Test.YthdadalmgldppaaDoorMFldWalksE
import Derived.Lib.Strings
namespace Go.Proofs.YthdadalmgldppaaDoor
open Go.RowKit
open Fld

theorem ext_list (s : ByteArray) (i j : Nat) : (s.extract i j).data.toList = (s.data.toList.drop i).take (j - i) := by rw [Lib.extract_data]
theorem ext_tail (s : ByteArray) (k : Nat) : (s.extract k s.size).data.toList = s.data.toList.drop k := by
  rw [ext_list, List.take_of_length_le]
  rw [List.length_drop, Array.length_toList]
  exact Nat.le_refl _
theorem ext_size (s : ByteArray) (i j : Nat) (h : j ≤ s.size) (hij : i ≤ j) : (s.extract i j).size = j - i := by simp; omega
theorem drop_ne {s : ByteArray} {k : Nat} (h : k < s.size) : s.data.toList.drop k ≠ [] := by
  intro e
  have := congrArg List.length e
  rw [List.length_drop, Array.length_toList] at this
  have hh : s.data.size = s.size := rfl
  simp at this
  omega
theorem ext_head (s : ByteArray) (k : Nat) (h : k < s.size) (h' : 0 < (s.extract k s.size).size) : (s.extract k s.size)[0]'h' = s[k]'h := by
  have e0 := bytes_get? (s.extract k s.size) 0 h'
  rw [ext_tail, List.getElem?_drop, Nat.add_zero, bytes_get? s k h] at e0
  exact (Option.some.inj e0).symm
/-- One step of decode. -/
theorem dec_step {l out : List UInt8} {k n : Nat} {b : UInt8} (h : oneS (l.drop k) = some (b, n)) (hr : decS l = (decS (l.drop k)).map (out ++ ·)) : decS l = (decS (l.drop (k + n))).map ((out ++ [b]) ++ ·) := by
  rw [hr, decS_step h, List.drop_drop, Option.map_map]
  congr 1
  funext x
  simp
theorem one_at (s : ByteArray) (k : Nat) (h : k < s.size) (h92 : ¬ (s[k]'h).toNat = 92) : oneS (s.data.toList.drop k) = some (s[k]'h, 1) := by
  have hz : 0 < (s.extract k s.size).size := by rw [ext_size _ _ _ (Nat.le_refl _) (by omega)]; omega
  have := one_plain (s := s.extract k s.size) hz (by rw [ext_head s k h hz]; exact h92)
  rw [ext_tail, ext_head s k h hz] at this
  exact this
theorem pair_some {o : Option (UInt8 × Nat)} {c : UInt8} {n : Nat} (h : o.getD (0, 0) = (c, n)) (hn : ¬ n = 0) : o = some (c, n) := by
  cases o with
  | none => exact absurd (Prod.mk.inj h).2.symm hn
  | some p => exact congrArg some h
theorem pair_none {l : List UInt8} {c : UInt8} (h : (oneS l).getD (0, 0) = (c, 0)) : oneS l = none := by
  cases ho : oneS l with
  | none => rfl
  | some p =>
    obtain ⟨b, k⟩ := p
    rw [ho] at h
    have := (oneS_pos ho).1
    have e : k = 0 := (Prod.mk.inj (show (b, k) = (c, 0) from h)).2
    omega

theorem bl_grown {W W' : World} (hb : Bl W W') : W.grownBy W' none := ⟨hb.os, hb.tape, hb.output, hb.size, fun k hk _ => hb.block k hk⟩
theorem ownB_bl {B : Nat} {v : Value} {l : List UInt8} {w w' : World} (h : OwnB B v l w) (hb : Bl w w') : OwnB B v l w' := World.ownsRow.kept h (bl_grown hb) (by cases v.ownBlock <;> simp)
/-- What decode answers. -/
def decR (r : Option (List UInt8)) : List UInt8 × Bool := match r with
  | some o => (o, true)
  | none => ([], false)
set_option maxRecDepth 20000 in
set_option maxHeartbeats 4000000 in
theorem decode_c (s : ByteArray) (hs : s.size ≤ 34359738368) (o : List UInt8) (ok : Bool) (H : Hid (decR (decS s.data.toList) = (o, ok))) (w : World) :
    Calls Tryd.prog 88 #[.string s] w fun e w' => e = .returned (.tuple #[str o, .bool ok]) ∧ Bl w w' := by
  obtain ⟨i0, hi, hz0, hz1, hz2⟩ := info_parts info_byte
  go_enter Tryd.func88, Tryd.ntmps88
  go_wp2
  go_loopw [4, 5] (fun vo i wr => ∃ (k : Nat) (out : List UInt8), k ≤ s.size ∧ out.length ≤ k ∧ i = .int .i64 k ∧ Hid (OwnB w.heap.size vo out wr) ∧ Hid (decS s.data.toList = (decS (s.data.toList.drop k)).map (out ++ ·)) ∧ Hid (Bl w wr)) (fun _ i _ => s.size - (intOf i).toNat)
  case atStart => exact ⟨0, [], Nat.zero_le _, Nat.le_refl _, rfl, ownB_nil _ _, by show _ = _; simp, bl_refl _⟩
  case round =>
    obtain ⟨k, out, hk, hol, rfl, HO, HD, HB⟩ := hrel
    by_cases hlt : k < s.size
    · by_cases h92 : ((s[k]'hlt).toNat : Int) = 92
      · have hz : 0 < (s.extract k s.size).size := by rw [ext_size _ _ _ (Nat.le_refl _) (by omega)]; omega
        have hm : (s.extract k s.size).size ≤ maxLen := by rw [ext_size _ _ _ (Nat.le_refl _) (by omega)]; unfold maxLen; omega
        obtain ⟨c, n, hcn⟩ : ∃ c n, (oneS (s.data.toList.drop k)).getD (0, 0) = (c, n) := ⟨_, _, rfl⟩
        have HC := Lib.hid hcn
        have HX := Lib.hid (show (oneS (s.extract k s.size).data.toList).getD (0, 0) = (c, n) by rw [ext_tail]; exact hcn)
        have he := escape_c (s.extract k s.size) hm hz (by rw [ext_head s k hlt hz]; omega) c n HX
        clear hcn
        have hlen : (s.data.toList.drop k).length = s.size - k := by rw [List.length_drop, Array.length_toList]; rfl
        go_wp2_with (go_at_call 103; refine (he _).mono ?_)
        rintro e w1 ⟨rfl, b1⟩
        have B1 : Hid (Bl w w1) := bl_next HB.out b1
        have O1 := Lib.hid (ownB_bl HO.out b1)
        clear b1 he
        by_cases hn : n = 0
        · subst hn
          have HN := Lib.hid (show ([], false) = (o, ok) by rw [← H.out, HD.out, decS_bad (drop_ne hlt) (pair_none HC.out)]; rfl)
          obtain ⟨e1, e2⟩ := Prod.mk.inj HN.out
          clear H HN
          subst e1 e2
          go_wp2
          go_ret2
          exact ⟨rfl, B1.out⟩
        · have ho := pair_some HC.out hn
          have hp := oneS_pos ho
          have HS := Lib.hid (dec_step ho HD.out)
          have hnz : ((n : Nat) : Int) ≠ 0 := by omega
          rw [hlen] at hp
          clear ho hlen
          go_wp2_with (at_builtin; refine wpList_append_own _ rfl _ _ 80 rfl w.heap.size 5 i0 (.int .u8 0) 1 1 Tryd.underlying80 hi hz0 hz1 hz2 rfl (by decide) _ _ _ rfl (ownB_alloc O1.out _) ⟨w1.heap.size, 0, none⟩ 1 1 [.int .u8 c.toNat] rfl rfl ?c1 ?c2 ?c3 ?c4 ?c5 ?_)
          case c1 => exact cells_of_lit _ (fun j u h => by simpa using h)
          case c2 => simp [Value.oneCell']
          case c3 => unfold maxLen; omega
          case c4 => omega
          case c5 => have := B1.out.size; simp; omega
          intro v3 w3 hown3 hgrow3 _
          have O3 := Lib.hid (ownB_app (m := [c]) hown3)
          have B3 : Hid (Bl w w3) := (B1.out.alloc B1.out.size _).grown hgrow3 (by have := B1.out.size; simp; omega) (fun k hk => (World.ownsRow.lt O1.out k hk).1)
          clear hown3 hgrow3
          go_wp2
          go_roundw
          case rel => exact ⟨k + n, out ++ [c], by omega, by simp; omega, by go_num, O3, HS, B3⟩
          case measure => simp [intOf]; omega
      · have HS := Lib.hid (dec_step (one_at s k hlt (by omega)) HD.out)
        have f1 : (((s[k]'hlt).toNat : Int) != 92) = true := by rw [bne_iff_ne]; exact h92
        go_wp2_with (at_builtin; refine wpList_append_own _ rfl _ _ 80 rfl w.heap.size 5 i0 (.int .u8 0) 1 1 Tryd.underlying80 hi hz0 hz1 hz2 rfl (by decide) _ _ _ rfl (ownB_alloc HO.out _) ⟨wr.heap.size, 0, none⟩ 1 1 [.int .u8 (s[k]'hlt).toNat] rfl rfl ?c1 ?c2 ?c3 ?c4 ?c5 ?_)
        case c1 => exact cells_of_lit _ (fun j u h => by simpa using h)
        case c2 => simp [Value.oneCell']
        case c3 => unfold maxLen; omega
        case c4 => omega
        case c5 => have := HB.out.size; simp; omega
        intro v3 w3 hown3 hgrow3 _
        have O3 := Lib.hid (ownB_app (m := [s[k]'hlt]) hown3)
        have B3 : Hid (Bl w w3) := (HB.out.alloc HB.out.size _).grown hgrow3 (by have := HB.out.size; simp; omega) (fun k hk => (World.ownsRow.lt HO.out k hk).1)
        clear hown3 hgrow3
        go_wp2
        go_roundw
        case rel => exact ⟨k + 1, out ++ [s[k]'hlt], by omega, by simp; omega, by go_num, O3, HS, B3⟩
        case measure => simp [intOf]; omega
    · have HF := Lib.hid (show (out, true) = (o, ok) by
        rw [← H.out, HD.out, List.drop_eq_nil_of_le (by rw [Array.length_toList]; show s.size ≤ k; omega), decS_nil]
        simp [decR])
      obtain ⟨e1, e2⟩ := Prod.mk.inj HF.out
      clear H HF
      subst e1 e2
      have hcv := ownB_conv HO.out
      go_wp2
      go_ret2
      exact ⟨rfl, HB.out⟩
end Go.Proofs.YthdadalmgldppaaDoor
