/-
  THE CONTRACTS OF DATE, FIFTH PART: digits, put, Format, and the reference's. Conditions: those of each contract.
-/
import Derived.Test.YthdadalmgldppaaDoorDaDatWalksD
import Derived.Test.YthdadalmgldppaaDoorDatText
namespace Go.Proofs.YthdadalmgldppaaDoor.Da
open Go.RowKit
open Num Clk Dat

/-! ### the reference's digits -/
theorem digs_step (n q t j : Nat) (l : List UInt8) (h : digs n (j + (t + 1)) = digs q (t + 1) ++ l) : digs n (j + 1 + t) = digs (q / 10) t ++ (UInt8.ofNat (48 + q % 10) :: l) := by
  rw [show j + 1 + t = j + (t + 1) by omega, h]
  simp [digs]
theorem cat_one (l : List UInt8) (n : Nat) : (⟨#[48 + UInt8.ofNat (n % 10)]⟩ : ByteArray) ++ ⟨l.toArray⟩ = ⟨(UInt8.ofNat (48 + n % 10) :: l).toArray⟩ := by
  apply ByteArray.ext
  simp
set_option maxRecDepth 20000 in
set_option maxHeartbeats 2000000 in
theorem digits_c (n : Int) (k : Nat) (l : List UInt8) (H : Hid (digs n.toNat k = l)) (h0 : 0 ≤ n) (h1 : n ≤ 9999) (hk : k ≤ 4) (w : World) :
    Calls Tryd.prog 84 #[.int .i64 n, .int .i64 (k : Int)] w fun e w' => e = .returned (str l) ∧ Bl w w' := by
  have hcv := conv1
  go_enter Tryd.func84, Tryd.ntmps84
  go_wp2
  go_loopw [0, 5, 6] (fun x s i wr => ∃ j t q : Nat, ∃ m : List UInt8, m.length ≤ j ∧ j + t = k ∧ q ≤ 9999 ∧ Hid (digs n.toNat (j + t) = digs q t ++ m) ∧ i = .int .i64 j ∧ x = .int .i64 q ∧ s = str m ∧ Bl w wr) (fun _ _ i _ => k - (intOf i).toNat)
  case atStart => exact ⟨0, k, n.toNat, [], by simp, by omega, by omega, by show _ = _; simp, rfl, by rw [show ((n.toNat : Nat) : Int) = n by omega], rfl, bl_refl _⟩
  case round =>
    obtain ⟨j, t, q, m, hml, hjt, hq, HD, rfl, rfl, rfl, hb⟩ := hrel
    have HJ := Lib.hid hjt
    clear hjt
    cases t with
    | zero =>
      have hlt : (j : Int) = k := by have := HJ.out; omega
      have HM : Hid (m = l) := by
        show _ = _
        have := HD.out
        rw [HJ.out, H.out] at this
        simpa [digs] using this.symm
      have hge : ¬ ((j : Int) < k) := by omega
      clear hlt
      go_wp2
      go_ret
      exact ⟨ret_str (by rw [HM.out]), hb⟩
    | succ t =>
      have hlt : (j : Int) < k := by have := HJ.out; omega
      have HN := Lib.hid (digs_step n.toNat q t j m HD.out)
      have HC := Lib.hid (cat_one m q)
      have hji : j + 1 ≤ 1000 := by have := HJ.out; omega
      clear HD
      go_wp2
      go_roundw
      case rel => exact ⟨j + 1, t, q / 10, UInt8.ofNat (48 + q % 10) :: m, by simp; omega, by have := HJ.out; omega, by omega, HN, by go_num, by rw [show ((q / 10 : Nat) : Int) = (q : Int) / 10 by omega], by first | rw [HC.out] | exact congrArg Value.string HC.out, bl_alloc hb _⟩
      case measure => simp [intOf]; have := HJ.out; omega

/-! ### put -/
/-- A slice value that owns the bytes l in a block from B on. -/
def OwnB (B : Nat) (v : Value) (l : List UInt8) (w : World) : Prop := w.ownsRow B 5 1 v l.length (Lib.byteCells l)
theorem ownB_nil (B : Nat) (w : World) : OwnB B (.slice none 0 0) [] w := World.ownsRow_nil w B _ 1
theorem ownB_alloc {B : Nat} {v : Value} {l : List UInt8} {w : World} (h : OwnB B v l w) (o : Obj) : OwnB B v l (w.alloc o) := World.ownsRow.alloc h o
theorem len_byteCells (l : List UInt8) : (Lib.byteCells l).length = l.length := by simp [Lib.byteCells]
theorem byteCells_app (a b : List UInt8) : Lib.byteCells (a ++ b) = Lib.byteCells a ++ Lib.byteCells b := by simp [Lib.byteCells]
theorem byteCells_one (l : List UInt8) : ∀ u ∈ Lib.byteCells l, u.oneCell' = true := by
  intro u hu
  simp only [Lib.byteCells, List.mem_map] at hu
  obtain ⟨b, _, rfl⟩ := hu
  rfl
theorem ownB_conv {B : Nat} {v : Value} {l : List UInt8} {w : World} (h : OwnB B v l w) : (convert 80 9 v).run Tryd.prog w = .ok (str l) w := by
  have h' := h
  rcases h.2 with ⟨rfl, h0⟩ | ⟨g, cap, cur, rfl, hg, hb, hn, hc, hs, ht⟩
  · obtain rfl : l = [] := List.length_eq_zero_iff.1 h0
    exact run_convert_bytes_nil w 80 5 Tryd.underlying80 Tryd.underlying5 0 0 9 Tryd.underlying9
  · refine run_convert_bytes_back w 80 9 5 ⟨g, 0, none⟩ cap l Tryd.underlying80 Tryd.underlying5 Tryd.underlying9 ?_
    intro j hj
    exact World.ownsRow.cells h' rfl j _ (by simp [Lib.byteCells, hj])
/-- The first elements of an array of bytes, for the walk to take. -/
theorem slice4 (b : Nat) (k : Nat) (h1 : k ≤ 4) (W : World) :
    (Instr.sliceAt 106 (.pointer (some ⟨b, 0, none⟩)) none (some (.int .i64 (k : Int))) none).run Tryd.prog W = .ok (.slice (some ⟨b, 0, none⟩) k 4) W := by
  have e : Tryd.prog.arrayLen 106 = 4 := by kernel_rfl
  rw [run_sliceAt_array_h W 106 _ (by kernel_rfl) .i64 (k : Int) (by omega) (by rw [e]; omega)]
  have s : (sizeOf (Tryd.prog.elem 106)).run Tryd.prog W = .ok 1 W := by kernel_rfl
  rw [s, e]
  simp [Result.andThen, slicedAt, Addr.add]
theorem digs4_cells (n : Int) (h0 : 0 ≤ n) (h1 : n ≤ 9999) : Lib.byteCells (digs n.toNat 4) = [.int .u8 (48 + n / 10 / 10 / 10 % 10), .int .u8 (48 + n / 10 / 10 % 10), .int .u8 (48 + n / 10 % 10), .int .u8 (48 + n % 10)] := by
  have a := toNat_digit (n.toNat / 10 / 10 / 10 % 10) (by omega)
  have b := toNat_digit (n.toNat / 10 / 10 % 10) (by omega)
  have c := toNat_digit (n.toNat / 10 % 10) (by omega)
  have d := toNat_digit (n.toNat % 10) (by omega)
  simp only [digs, List.nil_append, List.cons_append, Lib.byteCells, List.map_cons, List.map_nil, a, b, c, d]
  rw [show ((48 + n.toNat / 10 / 10 / 10 % 10 : Nat) : Int) = 48 + n / 10 / 10 / 10 % 10 by omega, show ((48 + n.toNat / 10 / 10 % 10 : Nat) : Int) = 48 + n / 10 / 10 % 10 by omega, show ((48 + n.toNat / 10 % 10 : Nat) : Int) = 48 + n / 10 % 10 by omega, show ((48 + n.toNat % 10 : Nat) : Int) = 48 + n % 10 by omega]
theorem digs2_cells (n : Int) (h0 : 0 ≤ n) (h1 : n ≤ 99) : Lib.byteCells (digs n.toNat 2) = [.int .u8 (48 + n / 10 % 10), .int .u8 (48 + n % 10)] := by
  have c := toNat_digit (n.toNat / 10 % 10) (by omega)
  have d := toNat_digit (n.toNat % 10) (by omega)
  simp only [digs, List.nil_append, List.cons_append, Lib.byteCells, List.map_cons, List.map_nil, c, d]
  rw [show ((48 + n.toNat / 10 % 10 : Nat) : Int) = 48 + n / 10 % 10 by omega, show ((48 + n.toNat % 10 : Nat) : Int) = 48 + n % 10 by omega]
theorem cells_of_lit {w : World} {T : TypeId} {C : Array Value} (news : List Value) (h : ∀ (j : Nat) (u : Value), news[j]? = some u → C[j]? = some u) : ∀ (j : Nat) (u : Value), news[j]? = some u → (w.alloc (.cells C T)).cell? ((⟨w.heap.size, 0, none⟩ : Addr).add j) = some u := by
  intro j u hj
  have : ((⟨w.heap.size, 0, none⟩ : Addr).add j) = ⟨w.heap.size, j, none⟩ := by simp [Addr.add]; omega
  rw [this, World.cell?_alloc_at (hn := rfl), h j u hj]

set_option maxRecDepth 20000 in
set_option maxHeartbeats 4000000 in
theorem put4_c (B : Nat) (v : Value) (l : List UInt8) (n : Int) (h0 : 0 ≤ n) (h1 : n ≤ 9999) (w : World) (hown : OwnB B v l w) (hB : B ≤ w.heap.size) (hl : l.length ≤ 100) :
    Calls Tryd.prog 54 #[v, .int .i64 n, .int .i64 4] w fun e w' => ∃ v', e = .returned v' ∧ OwnB B v' (l ++ digs n.toNat 4) w' ∧ Below B w w' := by
  obtain ⟨i0, hi, hz0, hz1, hz2⟩ := info_parts info_byte
  have hsl := fun b W => slice4 b 4 (by omega) W
  have HD := Lib.hid (digs4_cells n h0 h1)
  have HOwn := Lib.hid hown
  clear hown
  go_enter Tryd.func54, Tryd.ntmps54
  go_wp2_with fail
  refine wp_loop_rounds 5 ?_
  rw [rounds_succ]
  go_wp2_with fail
  rw [rounds_succ]
  go_wp2_with fail
  rw [rounds_succ]
  go_wp2_with fail
  rw [rounds_succ]
  go_wp2_with fail
  rw [rounds_succ]
  go_wp2_with (at_builtin; refine wpList_append_own _ rfl _ _ 80 rfl B 5 i0 (.int .u8 0) 1 1 Tryd.underlying80 hi hz0 hz1 hz2 rfl (by decide) _ _ _ rfl (ownB_alloc HOwn.out _) ⟨w.heap.size, 0, none⟩ 4 4 [.int .u8 (48 + n / 10 / 10 / 10 % 10), .int .u8 (48 + n / 10 / 10 % 10), .int .u8 (48 + n / 10 % 10), .int .u8 (48 + n % 10)] rfl rfl ?c1 ?c2 ?c3 ?c4 ?c5 ?_)
  case c1 => exact cells_of_lit _ (fun j u h => by simpa using h)
  case c2 => simp [Value.oneCell']
  case c3 => unfold maxLen; omega
  case c4 => omega
  case c5 => simp; omega
  intro v' w2 hown' hgrow _
  go_wp2
  go_ret
  refine ⟨v', rfl, ?_, ?_⟩
  · have hx := HD.out
    unfold OwnB
    rw [byteCells_app, hx, show (l ++ digs n.toNat 4).length = l.length + 4 by simp [digs]]
    exact hown'
  · exact ((Below.refl B w).alloc hB _).grown hgrow (by simp; omega) (fun k hk => (World.ownsRow.lt HOwn.out k hk).1)

set_option maxRecDepth 20000 in
set_option maxHeartbeats 4000000 in
theorem put2_c (B : Nat) (v : Value) (l : List UInt8) (n : Int) (h0 : 0 ≤ n) (h1 : n ≤ 99) (w : World) (hown : OwnB B v l w) (hB : B ≤ w.heap.size) (hl : l.length ≤ 100) :
    Calls Tryd.prog 54 #[v, .int .i64 n, .int .i64 2] w fun e w' => ∃ v', e = .returned v' ∧ OwnB B v' (l ++ digs n.toNat 2) w' ∧ Below B w w' := by
  obtain ⟨i0, hi, hz0, hz1, hz2⟩ := info_parts info_byte
  have hsl := fun b W => slice4 b 2 (by omega) W
  have HD := Lib.hid (digs2_cells n h0 h1)
  have HOwn := Lib.hid hown
  clear hown
  go_enter Tryd.func54, Tryd.ntmps54
  go_wp2_with fail
  refine wp_loop_rounds 3 ?_
  rw [rounds_succ]
  go_wp2_with fail
  rw [rounds_succ]
  go_wp2_with fail
  rw [rounds_succ]
  go_wp2_with (at_builtin; refine wpList_append_own _ rfl _ _ 80 rfl B 5 i0 (.int .u8 0) 1 1 Tryd.underlying80 hi hz0 hz1 hz2 rfl (by decide) _ _ _ rfl (ownB_alloc HOwn.out _) ⟨w.heap.size, 0, none⟩ 2 4 [.int .u8 (48 + n / 10 % 10), .int .u8 (48 + n % 10)] rfl rfl ?c1 ?c2 ?c3 ?c4 ?c5 ?_)
  case c1 => exact cells_of_lit _ (fun j u h => by
    match j, h with
    | 0, h => simpa using h
    | 1, h => simpa using h)
  case c2 => simp [Value.oneCell']
  case c3 => unfold maxLen; omega
  case c4 => omega
  case c5 => simp; omega
  intro v' w2 hown' hgrow _
  go_wp2
  go_ret
  refine ⟨v', rfl, ?_, ?_⟩
  · have hx := HD.out
    unfold OwnB
    rw [byteCells_app, hx, show (l ++ digs n.toNat 2).length = l.length + 2 by simp [digs]]
    exact hown'
  · exact ((Below.refl B w).alloc hB _).grown hgrow (by simp; omega) (fun k hk => (World.ownsRow.lt HOwn.out k hk).1)

/-! ### Format -/
theorem own_form {B : Nat} {v : Value} {l : List UInt8} {w : World} (h : OwnB B v l w) : ∃ a n c, v = .slice a n c := by
  rcases h.2 with ⟨rfl, _⟩ | ⟨g, cap, cur, rfl, _⟩
  · exact ⟨_, _, _, rfl⟩
  · exact ⟨_, _, _, rfl⟩
theorem dfmt_cases (d : Int) : (0 ≤ d ∧ d ≤ 36524 ∧ dfmt d = (dtext d, 0)) ∨ (¬ (0 ≤ d ∧ d ≤ 36524) ∧ dfmt d = ([], 11)) := by
  unfold dfmt
  by_cases h : 0 ≤ d ∧ d ≤ 36524
  · exact .inl ⟨h.1, h.2, if_pos h⟩
  · exact .inr ⟨h, if_neg h⟩
theorem dtext_digs (d : Int) (h0 : 0 ≤ d) (h1 : d ≤ 36524) : (((([] ++ digs (yearOf d).toNat 4) ++ [45]) ++ digs (monthOf d).toNat 2) ++ [45]) ++ digs (dayOf d).toNat 2 = dtext d := by
  obtain ⟨⟨y0, y1⟩, ⟨m0, m1⟩, ⟨d0, d1⟩⟩ := civil_bd d h0 h1
  have hm := mlen_bd (yearOf d) (monthOf d)
  unfold dtext
  rw [digs_four _ (by omega), digs_two _ (by omega), digs_two _ (by omega)]
  simp
set_option maxRecDepth 20000 in
set_option maxHeartbeats 4000000 in
theorem dFormat_c (d : Int) (l : List UInt8) (e : Int) (H : Hid (dfmt d = (l, e))) (w : World) :
    Calls Tryd.prog 30 #[.int .i64 d] w fun r w' => r = .returned (.tuple #[str l, .int .i64 e]) ∧ Bl w w' := by
  rcases dfmt_cases d with ⟨h0, h1, k⟩ | ⟨h, k⟩
  · obtain ⟨e1, rfl⟩ := Prod.mk.inj (k.symm.trans H.out)
    have HL := Lib.hid e1
    have HT := Lib.hid (dtext_digs d h0 h1)
    clear k H e1
    obtain ⟨⟨y0, y1⟩, ⟨m0, m1⟩, ⟨d0, d1⟩⟩ := civil_bd d h0 h1
    have hm := (mlen_bd (yearOf d) (monthOf d)).2
    have d2 : dayOf d ≤ 99 := by omega
    clear d1 hm
    obtain ⟨i0, hi, hz0, hz1, hz2⟩ := info_parts info_byte
    have HC0 := Lib.hid (rfl : CivRes d (.returned (.tuple #[.int .i64 (yearOf d), .int .i64 (monthOf d), .int .i64 (dayOf d), .bool true])))
    go_enter Tryd.func30, Tryd.ntmps30
    go_wp2_with fail
    refine (civil_yes d h0 h1 _).mono ?_
    rintro e w1 ⟨he, b1⟩
    unfold CivRes at he
    subst he
    generalize yearOf d = y at *
    generalize monthOf d = m at *
    generalize dayOf d = x at *
    go_wp2_with fail
    refine (put4_c w.heap.size _ [] y (by omega) (by omega) _ (ownB_nil _ _) b1.size (by simp)).mono ?_
    rintro e w2 ⟨v2, rfl, o2, b2⟩
    obtain ⟨a2, n2, c2, rfl⟩ := own_form o2
    have O2 := Lib.hid o2
    clear o2
    have b3 := b1.trans b2
    go_wp2_with (at_builtin; refine wpList_append_own _ rfl _ _ 80 rfl w.heap.size 5 i0 (.int .u8 0) 1 1 Tryd.underlying80 hi hz0 hz1 hz2 rfl (by decide) _ _ _ rfl (ownB_alloc O2.out _) ⟨w2.heap.size, 0, none⟩ 1 1 [.int .u8 45] rfl rfl ?c1 ?c2 ?c3 ?c4 ?c5 ?_)
    case c1 => exact cells_of_lit _ (fun j u h => by simpa using h)
    case c2 => simp [Value.oneCell']
    case c3 => unfold maxLen; simp [digs]
    case c4 => simp [digs]
    case c5 => have := b3.size; simp; omega
    intro v3 w3 hown3 hgrow3 _
    have O3 : Hid (OwnB w.heap.size v3 (([] ++ digs y.toNat 4) ++ [45]) w3) := by
      show OwnB _ _ _ _
      unfold OwnB
      rw [byteCells_app, List.length_append]
      exact hown3
    have b4 : Bl w w3 := (b3.alloc b3.size _).grown hgrow3 (by have := b3.size; simp; omega) (fun k hk => (World.ownsRow.lt O2.out k hk).1)
    clear hown3 hgrow3
    go_wp2_with fail
    refine (put2_c w.heap.size v3 (([] ++ digs y.toNat 4) ++ [45]) m (by omega) (by omega) _ O3.out b4.size (by simp [digs])).mono ?_
    rintro e w5 ⟨v5, rfl, o5, b5⟩
    obtain ⟨a5, n5, c5, rfl⟩ := own_form o5
    have O5 := Lib.hid o5
    clear o5
    have b6 := b4.trans b5
    go_wp2_with (at_builtin; refine wpList_append_own _ rfl _ _ 80 rfl w.heap.size 5 i0 (.int .u8 0) 1 1 Tryd.underlying80 hi hz0 hz1 hz2 rfl (by decide) _ _ _ rfl (ownB_alloc O5.out _) ⟨w5.heap.size, 0, none⟩ 1 1 [.int .u8 45] rfl rfl ?c1 ?c2 ?c3 ?c4 ?c5 ?_)
    case c1 => exact cells_of_lit _ (fun j u h => by simpa using h)
    case c2 => simp [Value.oneCell']
    case c3 => unfold maxLen; simp [digs]
    case c4 => simp [digs]
    case c5 => have := b6.size; simp; omega
    intro v7 w7 hown7 hgrow7 _
    have O7 : Hid (OwnB w.heap.size v7 (((([] ++ digs y.toNat 4) ++ [45]) ++ digs m.toNat 2) ++ [45]) w7) := by
      show OwnB _ _ _ _
      unfold OwnB
      rw [byteCells_app, List.length_append]
      exact hown7
    have b8 : Bl w w7 := (b6.alloc b6.size _).grown hgrow7 (by have := b6.size; simp; omega) (fun k hk => (World.ownsRow.lt O5.out k hk).1)
    clear hown7 hgrow7
    go_wp2_with fail
    refine (put2_c w.heap.size v7 (((([] ++ digs y.toNat 4) ++ [45]) ++ digs m.toNat 2) ++ [45]) x (by omega) (by omega) _ O7.out b8.size (by simp [digs])).mono ?_
    rintro e w9 ⟨v9, rfl, o9, b9⟩
    have hcv := ownB_conv o9
    rw [HT.out, HL.out] at hcv
    have b10 := b8.trans b9
    clear o9
    go_wp2
    go_ret2
    exact ⟨rfl, b10⟩
  · obtain ⟨rfl, rfl⟩ := Prod.mk.inj (k.symm.trans H.out)
    have HN := Lib.hid h
    clear h k H
    go_enter Tryd.func30, Tryd.ntmps30
    go_wp2_with fail
    refine (civil_no d HN.out _).mono ?_
    rintro e w1 ⟨rfl, rfl⟩
    go_wp2
    go_ret2
    exact ⟨rfl, bl_refl _⟩

theorem cat_dtext (d : Int) (h0 : 0 ≤ d) (h1 : d ≤ 36524) (l : List UInt8) (h : dtext d = l) (a b c : List UInt8) (ha : digs (yearOf d).toNat 4 = a) (hb : digs (monthOf d).toNat 2 = b) (hc : digs (dayOf d).toNat 2 = c) :
    (⟨a.toArray⟩ ++ ⟨#[45]⟩ ++ ⟨b.toArray⟩ ++ ⟨#[45]⟩ ++ ⟨c.toArray⟩ : ByteArray) = ⟨l.toArray⟩ := by
  have := dtext_digs d h0 h1
  rw [ha, hb, hc, h] at this
  rw [← this]
  apply ByteArray.ext
  simp
theorem digs_len (n k : Nat) : (digs n k).length = k := by
  induction k generalizing n with
  | zero => rfl
  | succ k ih => simp [digs, ih]
set_option maxRecDepth 20000 in
set_option maxHeartbeats 4000000 in
theorem rFormat_c (d : Int) (l : List UInt8) (e : Int) (H : Hid (dfmt d = (l, e))) (w : World) :
    Calls Tryd.prog 59 #[.int .i64 d] w fun r w' => r = .returned (.tuple #[str l, .int .i64 e]) ∧ Bl w w' := by
  rcases dfmt_cases d with ⟨h0, h1, k⟩ | ⟨h, k⟩
  · obtain ⟨e1, rfl⟩ := Prod.mk.inj (k.symm.trans H.out)
    have HT := Lib.hid (cat_dtext d h0 h1 l e1)
    clear k H e1
    obtain ⟨⟨y0, y1⟩, ⟨m0, m1⟩, ⟨d0, d1⟩⟩ := civil_bd d h0 h1
    have hm := (mlen_bd (yearOf d) (monthOf d)).2
    have d2 : dayOf d ≤ 99 := by omega
    clear d1 hm
    go_enter Tryd.func59, Tryd.ntmps59
    go_wp2_with fail
    refine (rCivil_yes d h0 h1 _).mono ?_
    rintro e w1 ⟨he, rfl⟩
    unfold CivRes at he
    subst he
    generalize yearOf d = y at *
    generalize monthOf d = m at *
    generalize dayOf d = x at *
    obtain ⟨A, hA⟩ : ∃ A, digs y.toNat 4 = A := ⟨_, rfl⟩
    obtain ⟨B, hB⟩ : ∃ B, digs m.toNat 2 = B := ⟨_, rfl⟩
    obtain ⟨C, hC⟩ : ∃ C, digs x.toNat 2 = C := ⟨_, rfl⟩
    have lA : A.length ≤ 4 := by rw [← hA, digs_len]; exact Nat.le_refl _
    have lB : B.length ≤ 2 := by rw [← hB, digs_len]; exact Nat.le_refl _
    have lC : C.length ≤ 2 := by rw [← hC, digs_len]; exact Nat.le_refl _
    have HA := Lib.hid hA
    have HB := Lib.hid hB
    have HC := Lib.hid hC
    clear hA hB hC
    go_wp2_with fail
    refine (digits_c y 4 A HA (by omega) (by omega) (by omega) _).mono ?_
    rintro e w1 ⟨rfl, b1⟩
    go_wp2_with fail
    refine (digits_c m 2 B HB (by omega) (by omega) (by omega) _).mono ?_
    rintro e w2 ⟨rfl, b2⟩
    go_wp2_with fail
    refine (digits_c x 2 C HC (by omega) (by omega) (by omega) _).mono ?_
    rintro e w3 ⟨rfl, b3⟩
    go_wp2
    go_ret2
    exact ⟨ret2_str (HT.out A B C HA.out HB.out HC.out), bl_next (bl_next b1 b2) b3⟩
  · obtain ⟨rfl, rfl⟩ := Prod.mk.inj (k.symm.trans H.out)
    have HN := Lib.hid h
    clear h k H
    go_enter Tryd.func59, Tryd.ntmps59
    go_wp2_with fail
    refine (rCivil_no d HN.out _).mono ?_
    rintro e w1 ⟨rfl, rfl⟩
    go_wp2
    go_ret2
    exact ⟨rfl, bl_refl _⟩
end Go.Proofs.YthdadalmgldppaaDoor.Da
