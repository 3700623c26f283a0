/-
  THE CONTRACTS OF FIELD, SECOND PART: bytes of the call's own; Quote of the program. Conditions: those of each contract.
-/
import Derived.Test.YthdadalmgldppaaDoorFldWalksA
import Derived.ScopeJumps
import Derived.WalkMore
import Derived.Laws.BytesArg
import Derived.Lib.SmallJoins
import Derived.WideShapes
import Derived.Laws.AppendOwn
import Derived.Deep.QuietTactic
import Derived.BigQuiet
import Derived.Deep.RegionHeld3
import Derived.Deep.AppendLies
import Derived.IntWalk
import Derived.Deep.DeepCutAuto
namespace Go.Proofs.YthdadalmgldppaaDoor
open Go.RowKit
open Fld

/-! ### bytes of the call's own -/
theorem info_byte : (Tryd.prog.info? 5).map (fun i => (i.zero, i.size, i.bytes)) = some (some (.int .u8 0), 1, 1) := by kernel_rfl
/-- A slice value that owns the bytes l in a block from B on. -/
def OwnB (B : Nat) (v : Value) (l : List UInt8) (w : World) : Prop := w.ownsRow B 5 1 v l.length (Lib.byteCells l)
theorem ownB_nil (B : Nat) (w : World) : OwnB B (.slice none 0 0) [] w := World.ownsRow_nil w B _ 1
theorem ownB_alloc {B : Nat} {v : Value} {l : List UInt8} {w : World} (h : OwnB B v l w) (o : Obj) : OwnB B v l (w.alloc o) := World.ownsRow.alloc h o
theorem ownB_drew {B : Nat} {v : Value} {l : List UInt8} {w : World} (h : OwnB B v l w) : OwnB B v l w.drew := World.ownsRow.drew h
theorem len_byteCells (l : List UInt8) : (Lib.byteCells l).length = l.length := by simp [Lib.byteCells]
theorem byteCells_app (a b : List UInt8) : Lib.byteCells (a ++ b) = Lib.byteCells a ++ Lib.byteCells b := by simp [Lib.byteCells]
theorem byteCells_one (l : List UInt8) : ∀ u ∈ Lib.byteCells l, u.oneCell' = true := by
  intro u hu
  simp only [Lib.byteCells, List.mem_map] at hu
  obtain ⟨b, _, rfl⟩ := hu
  rfl
theorem ownB_conv {B : Nat} {v : Value} {l : List UInt8} {w : World} (h : OwnB B v l w) : (convert 80 9 v).run Tryd.prog w = .ok (str l) w := by
  have h' := h
  rcases h.2 with ⟨rfl, h0⟩ | ⟨g, cap, cur, rfl, hg, hb, hn, hc, hs, ht⟩
  · obtain rfl : l = [] := List.length_eq_zero_iff.1 h0
    exact run_convert_bytes_nil w 80 5 Tryd.underlying80 Tryd.underlying5 0 0 9 Tryd.underlying9
  · refine run_convert_bytes_back w 80 9 5 ⟨g, 0, none⟩ cap l Tryd.underlying80 Tryd.underlying5 Tryd.underlying9 ?_
    intro j hj
    exact World.ownsRow.cells h' rfl j _ (by simp [Lib.byteCells, hj])
theorem own_form {B : Nat} {v : Value} {l : List UInt8} {w : World} (h : OwnB B v l w) : ∃ a c, v = .slice a l.length c := by
  rcases h.2 with ⟨rfl, h0⟩ | ⟨g, cap, cur, rfl, _⟩
  · exact ⟨_, _, by rw [h0]⟩
  · exact ⟨_, _, rfl⟩
theorem cells_of_lit {w : World} {T : TypeId} {C : Array Value} (news : List Value) (h : ∀ (j : Nat) (u : Value), news[j]? = some u → C[j]? = some u) : ∀ (j : Nat) (u : Value), news[j]? = some u → (w.alloc (.cells C T)).cell? ((⟨w.heap.size, 0, none⟩ : Addr).add j) = some u := by
  intro j u hj
  have : ((⟨w.heap.size, 0, none⟩ : Addr).add j) = ⟨w.heap.size, j, none⟩ := by simp [Addr.add]; omega
  rw [this, World.cell?_alloc_at (hn := rfl), h j u hj]
/-- A row that has just been laid. -/
theorem ownB_new (B : Nat) (w : World) (hB : B ≤ w.heap.size) (l : List UInt8) (C : Array Value) (hC : C.toList = Lib.byteCells l) (n : Nat) (hn : n = l.length) (h1 : n ≤ 1000) : OwnB B (.slice (some ⟨w.heap.size, 0, none⟩) n n) l (w.alloc (.cells C 5)) := by
  have hsz : C.size = l.length := by rw [← Array.length_toList, hC, len_byteCells]
  refine ⟨by rw [len_byteCells, Nat.mul_one], .inr ⟨w.heap.size, n, C, by rw [hn], hB, ?_, by omega, by unfold maxLen; omega, by omega, ?_⟩⟩
  · exact heap_alloc_new w _
  · rw [hC, List.take_of_length_le (by rw [len_byteCells]; omega)]
/-- What is appended by the call's own hand. -/
theorem ownB_app {B : Nat} {v' : Value} {l m : List UInt8} {w : World} (h : w.ownsRow B 5 1 v' (l.length + m.length) (Lib.byteCells l ++ Lib.byteCells m)) : OwnB B v' (l ++ m) w := by
  unfold OwnB
  rw [byteCells_app, List.length_append]
  exact h

/-! ### Quote -/
theorem inner_snoc (l : List UInt8) (b : UInt8) : inner (l ++ [b]) = inner l ++ escB b := by simp [inner]
theorem inner_take {s : ByteArray} {k : Nat} (h : k < s.size) : inner (s.data.toList.take (k + 1)) = inner (s.data.toList.take k) ++ escB (s[k]'h) := by
  rw [List.take_succ_eq_append_getElem (by simpa using h), inner_snoc, bytes_get s k h]
theorem escB_len (b : UInt8) : (escB b).length ≤ 4 := by
  unfold escB
  split
  · simp
  · split <;> simp
theorem inner_len : ∀ l : List UInt8, (inner l).length ≤ 4 * l.length
  | [] => by simp [inner]
  | b :: l => by
    have e : inner (b :: l) = escB b ++ inner l := by simp [inner]
    have := escB_len b
    have := inner_len l
    rw [e, List.length_append, List.length_cons]
    omega
theorem inner_take_len (s : ByteArray) (k : Nat) (_h : k ≤ s.size) : (inner (s.data.toList.take k)).length ≤ 4 * k := by
  refine Nat.le_trans (inner_len _) ?_
  rw [List.length_take]
  omega
theorem escB_q {b : UInt8} (h : b.toNat = 34 ∨ b.toNat = 92) : escB b = [92, b] := by
  unfold escB
  rw [if_pos (by simpa using h)]
theorem escB_x {b : UInt8} (h1 : ¬ b.toNat = 34) (h2 : ¬ b.toNat = 92) (h : ctl b = true) : escB b = [92, 120, hexd (b.toNat / 16), hexd (b.toNat % 16)] := by
  unfold escB
  rw [if_neg (by simp [h1, h2]), if_pos h]
theorem escB_o {b : UInt8} (h1 : ¬ b.toNat = 34) (h2 : ¬ b.toNat = 92) (h : ctl b = false) : escB b = [b] := by
  unfold escB
  rw [if_neg (by simp [h1, h2]), if_neg (by rw [h]; decide)]
theorem u8_eq (b : UInt8) (n : Nat) (h : b.toNat = n) : b = UInt8.ofNat n := by rw [← h, UInt8.ofNat_toNat]
/-- The digits' constant, indexed. -/
theorem digits_at (n : Nat) (z : Int) (hz : z = n) (hn : n < 16) (W : World) : (Instr.index 9 (.string ⟨#[48, 49, 50, 51, 52, 53, 54, 55, 56, 57, 97, 98, 99, 100, 101, 102]⟩) (.int .u8 z)).run Tryd.prog W = .ok (.int .u8 (hexd n).toNat) W := by
  subst hz
  rw [run_index_string W _ _ _ _ Tryd.underlying9, dif_pos ⟨by omega, by show (n : Int) < 16; omega⟩]
  match n, hn with
  | 0, _ | 1, _ | 2, _ | 3, _ | 4, _ | 5, _ | 6, _ | 7, _ | 8, _ | 9, _ | 10, _ | 11, _ | 12, _ | 13, _ | 14, _ | 15, _ => rfl
  | k + 16, h => omega
theorem ctl_int (b : UInt8) : ((b.toNat : Int) < 32 ∨ (b.toNat : Int) = 127) ↔ ctl b = true := by
  unfold ctl
  simp
  omega
set_option maxRecDepth 10000 in
set_option maxHeartbeats 4000000 in
theorem quote_c (s : ByteArray) (q : List UInt8) (H : Hid (quoteS s.data.toList = q)) (hs : s.size ≤ 34359738368) (w : World) :
    Calls Tryd.prog 56 #[.string s] w fun e w' => e = .returned (str q) ∧ Bl w w' := by
  obtain ⟨i0, hi, hz0, hz1, hz2⟩ := info_parts info_byte
  obtain ⟨p, hp⟩ : ∃ p, plainS s.data.toList = p := ⟨_, rfl⟩
  have HP := Lib.hid hp
  clear hp
  go_enter Tryd.func56, Tryd.ntmps56
  go_wp2_with (go_at_call 79; refine (plain_c s (by unfold maxLen; omega) _).mono ?_)
  rintro e w1 ⟨rfl, b1⟩
  rw [HP.out]
  cases p with
  | true =>
    have HF := Lib.hid ((quote_plain HP.out).symm.trans H.out)
    go_wp2
    go_ret
    exact ⟨by rw [← HF.out]; rfl, b1⟩
  | false =>
    have HF := Lib.hid ((quote_not HP.out).symm.trans H.out)
    go_wp2_with fail
    have b2 : Bl w (w1.alloc (.cells #[.int .u8 34] 5)) := bl_alloc b1 _
    have o2 : OwnB w.heap.size (.slice (some ⟨w1.heap.size, 0, none⟩) 1 1) [34] (w1.alloc (.cells #[.int .u8 34] 5)) := ownB_new _ _ b1.size _ _ rfl 1 rfl (by omega)
    generalize hw2 : w1.alloc (.cells #[.int .u8 34] 5) = w2 at b2 o2
    have B2 := Lib.hid b2
    have O2 := Lib.hid o2
    clear b2 o2 hw2 b1
    go_loopw [3, 12] (fun vo i wr => ∃ k : Nat, k ≤ s.size ∧ i = .int .i64 k ∧ Hid (OwnB w.heap.size vo (34 :: inner (s.data.toList.take k)) wr) ∧ Hid (Bl w wr)) (fun _ i _ => s.size - (intOf i).toNat)
    case atStart => exact ⟨0, Nat.zero_le _, rfl, O2, B2⟩
    case round =>
      obtain ⟨k, hk, rfl, HO, HB⟩ := hrel
      by_cases hlt : k < s.size
      · have HT := Lib.hid (inner_take hlt)
        have HL := inner_take_len s k hk
        by_cases hq : ((s[k]'hlt).toNat : Int) = 34
        · have HE := Lib.hid (show escB (s[k]'hlt) = [92, 34] by rw [escB_q (by omega), u8_eq (s[k]'hlt) 34 (by omega)]; rfl)
          go_wp2_with (at_builtin; refine wpList_append_own _ rfl _ _ 80 rfl w.heap.size 5 i0 (.int .u8 0) 1 1 Tryd.underlying80 hi hz0 hz1 hz2 rfl (by decide) _ _ _ rfl (ownB_alloc HO.out _) ⟨wr.heap.size, 0, none⟩ 2 2 [.int .u8 92, .int .u8 34] rfl rfl ?c1 ?c2 ?c3 ?c4 ?c5 ?_)
          case c1 => exact cells_of_lit _ (fun j u h => by simpa using h)
          case c2 => simp [Value.oneCell']
          case c3 => unfold maxLen; rw [List.length_cons]; omega
          case c4 => rw [List.length_cons]; omega
          case c5 => have := HB.out.size; simp; omega
          intro v' w3 hown3 hgrow3 _
          have O3 := Lib.hid (ownB_app (m := [92, 34]) hown3)
          have B3 : Hid (Bl w w3) := (HB.out.alloc HB.out.size _).grown hgrow3 (by have := HB.out.size; simp; omega) (fun k hk => (World.ownsRow.lt HO.out k hk).1)
          clear hown3 hgrow3
          go_wp2
          go_roundw
          case rel => exact ⟨k + 1, by omega, by go_num, by have := O3.out; rw [HT.out, HE.out]; exact this, B3⟩
          case measure => simp [intOf]; omega
        by_cases hq2 : ((s[k]'hlt).toNat : Int) = 92
        · have HE := Lib.hid (show escB (s[k]'hlt) = [92, 92] by rw [escB_q (by omega), u8_eq (s[k]'hlt) 92 (by omega)]; rfl)
          go_wp2_with (at_builtin; refine wpList_append_own _ rfl _ _ 80 rfl w.heap.size 5 i0 (.int .u8 0) 1 1 Tryd.underlying80 hi hz0 hz1 hz2 rfl (by decide) _ _ _ rfl (ownB_alloc HO.out _) ⟨wr.heap.size, 0, none⟩ 2 2 [.int .u8 92, .int .u8 92] rfl rfl ?c1 ?c2 ?c3 ?c4 ?c5 ?_)
          case c1 => exact cells_of_lit _ (fun j u h => by simpa using h)
          case c2 => simp [Value.oneCell']
          case c3 => unfold maxLen; rw [List.length_cons]; omega
          case c4 => rw [List.length_cons]; omega
          case c5 => have := HB.out.size; simp; omega
          intro v' w3 hown3 hgrow3 _
          have O3 := Lib.hid (ownB_app (m := [92, 92]) hown3)
          have B3 : Hid (Bl w w3) := (HB.out.alloc HB.out.size _).grown hgrow3 (by have := HB.out.size; simp; omega) (fun k hk => (World.ownsRow.lt HO.out k hk).1)
          clear hown3 hgrow3
          go_wp2
          go_roundw
          case rel => exact ⟨k + 1, by omega, by go_num, by have := O3.out; rw [HT.out, HE.out]; exact this, B3⟩
          case measure => simp [intOf]; omega
        have f1 : (((s[k]'hlt).toNat : Int) == 34) = false := by rw [beq_eq_false_iff_ne]; exact hq
        have f2 : (((s[k]'hlt).toNat : Int) == 92) = false := by rw [beq_eq_false_iff_ne]; exact hq2
        by_cases hc : ((s[k]'hlt).toNat : Int) < 32 ∨ ((s[k]'hlt).toNat : Int) = 127
        · have hbl : (s[k]'hlt).toNat < 256 := u8_lt _
          have HE := Lib.hid (escB_x (b := s[k]'hlt) (by omega) (by omega) ((ctl_int _).1 hc))
          have hd1 := fun W => digits_at ((s[k]'hlt).toNat / 16) (((s[k]'hlt).toNat : Int) / 16) (by omega) (by omega) W
          have hd2 := fun W => digits_at ((s[k]'hlt).toNat % 16) (((s[k]'hlt).toNat : Int) % 16) (by omega) (by omega) W
          have f3 : (decide (((s[k]'hlt).toNat : Int) < 32) || (((s[k]'hlt).toNat : Int) == 127)) = true := by simpa using hc
          rcases hc with hc | hc
          · obtain ⟨h1, hh1⟩ : ∃ h1, (hexd ((s[k]'hlt).toNat / 16)) = h1 := ⟨_, rfl⟩
            obtain ⟨h2, hh2⟩ : ∃ h2, (hexd ((s[k]'hlt).toNat % 16)) = h2 := ⟨_, rfl⟩
            rw [hh1] at hd1
            rw [hh2] at hd2
            rw [hh1, hh2] at HE
            clear hh1 hh2
            have n1 : (0 : Int) ≤ ((s[k]'hlt).toNat : Int) / 16 := by omega
            have n2 : ((s[k]'hlt).toNat : Int) / 16 < 16 := by omega
            have n3 : (0 : Int) ≤ ((s[k]'hlt).toNat : Int) % 16 := by omega
            have n4 : ((s[k]'hlt).toNat : Int) % 16 < 16 := by omega
            have e1 : IntKind.u8.wrap (((s[k]'hlt).toNat : Int) / 16) = ((s[k]'hlt).toNat : Int) / 16 := IntWalk.u8_in _ (by omega)
            have e2 : IntKind.u8.wrap (((s[k]'hlt).toNat : Int) % 16) = ((s[k]'hlt).toNat : Int) % 16 := IntWalk.u8_in _ (by omega)
            have e3 : (((s[k]'hlt).toNat : Int).tmod 16) = ((s[k]'hlt).toNat : Int) % 16 := IntWalk.rem_in _ _ (by omega)
            go_wp2_with fail
            go_region_held3 (fun _ => True) (trivial)
              ((refine step_append_lies _ (by rfl) _ _ _ (by rfl) w.heap.size 5 i0 _ 1 1 Tryd.underlying80 hi hz0 hz1 hz2 rfl (by omega) u3 _ _ (by rfl) ((ownB_alloc HO.out _).drew)
                  ⟨wr.heap.size, 0, none⟩ 4 4 [.int .u8 92, .int .u8 120, .int .u8 h1.toNat, .int .u8 h2.toNat] (by rfl) (by rfl) (World.news_of_block (cs := #[.int .u8 92, .int .u8 120, .int .u8 h1.toNat, .int .u8 h2.toNat]) (t := 5) (fr := (0, 0)) (heap_alloc_new wr _)) (by simp [Value.oneCell'])
                  (by omega) (by unfold maxLen; rw [List.length_cons]; omega) (by rw [List.length_cons]; omega) (by have := HB.out.size; simp; omega) (wr.heap.size + 1) (by simp) ?_; intro gg cap w3 hown3 hgrow3 hat hlt3))
            all_goals
              have O3 := Lib.hid (ownB_app (m := [92, 120, h1, h2]) hown3)
              have B3 : Hid (Bl w w3) := (Below.drew (HB.out.alloc HB.out.size _)).grown hgrow3 (by have := HB.out.size; simp; omega) (fun k hk => (World.ownsRow.lt HO.out k hk).1)
              clear hown3 hgrow3 hat hlt3
              go_wp2
              go_roundw
              case rel => exact ⟨k + 1, by omega, by go_num, by have := O3.out; rw [HT.out, HE.out]; exact this, B3⟩
              case measure => simp [intOf]; omega
          · have HE := Lib.hid (show escB (s[k]'hlt) = [92, 120, 55, 102] by rw [HE.out, show (s[k]'hlt).toNat = 127 by omega]; rfl)
            clear hd1 hd2 f1 f2 f3
            go_wp2_with fail
            go_region_held3 (fun _ => True) (trivial)
              ((refine step_append_lies _ (by rfl) _ _ _ (by rfl) w.heap.size 5 i0 _ 1 1 Tryd.underlying80 hi hz0 hz1 hz2 rfl (by omega) u3 _ _ (by rfl) ((ownB_alloc HO.out _).drew)
                  ⟨wr.heap.size, 0, none⟩ 4 4 [.int .u8 92, .int .u8 120, .int .u8 55, .int .u8 102] (by rfl) (by rfl) (World.news_of_block (cs := #[.int .u8 92, .int .u8 120, .int .u8 55, .int .u8 102]) (t := 5) (fr := (0, 0)) (heap_alloc_new wr _)) (by simp [Value.oneCell'])
                  (by omega) (by unfold maxLen; rw [List.length_cons]; omega) (by rw [List.length_cons]; omega) (by have := HB.out.size; simp; omega) (wr.heap.size + 1) (by simp) ?_; intro gg cap w3 hown3 hgrow3 hat hlt3))
            all_goals
              have O3 := Lib.hid (ownB_app (m := [92, 120, 55, 102]) hown3)
              have B3 : Hid (Bl w w3) := (Below.drew (HB.out.alloc HB.out.size _)).grown hgrow3 (by have := HB.out.size; simp; omega) (fun k hk => (World.ownsRow.lt HO.out k hk).1)
              clear hown3 hgrow3 hat hlt3
              go_wp2
              go_roundw
              case rel => exact ⟨k + 1, by omega, by go_num, by have := O3.out; rw [HT.out, HE.out]; exact this, B3⟩
              case measure => simp [intOf]; omega
        have f3 : decide (((s[k]'hlt).toNat : Int) < 32) = false := by rw [decide_eq_false_iff_not]; exact fun e => hc (.inl e)
        have f4 : (((s[k]'hlt).toNat : Int) == 127) = false := by rw [beq_eq_false_iff_ne]; exact fun e => hc (.inr e)
        have HE := Lib.hid (escB_o (b := s[k]'hlt) (by omega) (by omega) (by rw [Bool.eq_false_iff]; exact fun e => hc ((ctl_int _).2 e)))
        clear hc hq hq2
        go_wp2_with (at_builtin; refine wpList_append_own _ rfl _ _ 80 rfl w.heap.size 5 i0 (.int .u8 0) 1 1 Tryd.underlying80 hi hz0 hz1 hz2 rfl (by decide) _ _ _ rfl (ownB_alloc HO.out _) ⟨wr.heap.size, 0, none⟩ 1 1 [.int .u8 (s[k]'hlt).toNat] rfl rfl ?c1 ?c2 ?c3 ?c4 ?c5 ?_)
        case c1 => exact cells_of_lit _ (fun j u h => by simpa using h)
        case c2 => simp [Value.oneCell']
        case c3 => unfold maxLen; rw [List.length_cons]; omega
        case c4 => rw [List.length_cons]; omega
        case c5 => have := HB.out.size; simp; omega
        intro v' w3 hown3 hgrow3 _
        have O3 := Lib.hid (ownB_app (m := [s[k]'hlt]) hown3)
        have B3 : Hid (Bl w w3) := (HB.out.alloc HB.out.size _).grown hgrow3 (by have := HB.out.size; simp; omega) (fun k hk => (World.ownsRow.lt HO.out k hk).1)
        clear hown3 hgrow3
        go_wp2
        go_roundw
        case rel => exact ⟨k + 1, by omega, by go_num, by have := O3.out; rw [HT.out, HE.out]; exact this, B3⟩
        case measure => simp [intOf]; omega
      · obtain rfl : k = s.size := by omega
        have hall : s.data.toList.take s.size = s.data.toList := List.take_of_length_le (by simp)
        rw [hall] at HO
        have hcv := ownB_conv HO.out
        have HQ := Lib.hid (show (34 :: inner s.data.toList) ++ [34] = q from HF.out)
        have HL := inner_len s.data.toList
        have hsl : s.data.toList.length = s.size := by simp
        clear hall
        go_wp2_with (go_at_call 55; refine (concat_c wr.heap.size 0 2 (34 :: inner s.data.toList) [34] _ (by rw [World.cell?_alloc_at (hn := rfl)]; rfl) (by rw [World.cell?_alloc_at (hn := rfl)]; rfl) (by simp) (Nat.le_refl _) (by simp; omega)).mono ?_)
        rintro e w5 ⟨rfl, b5⟩
        rw [HQ.out]
        go_wp2
        go_ret
        exact ⟨rfl, bl_next (bl_alloc HB.out _) b5⟩
end Go.Proofs.YthdadalmgldppaaDoor
