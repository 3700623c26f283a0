/-
  THE CONTRACTS OF CLOCK THAT DATE CALLS: Valid, Split, Format, and the reference's. Conditions: those of each contract.
-/
import Derived.Test.YtlkkkdflafikaaaRows
import Derived.Test.YtlkkkdflafikaaaClkPlain
import Derived.Test.YtlkkkdflafikaaaClkBuilder
import Derived.Test.YtlkkkdflafikaaaBase
import Derived.WalkSpells
import Derived.WalkLawsBesides
import Derived.Laws.BytesArg
import Derived.Lib.Hide
import Derived.Lib.SmallJoins
namespace Go.Proofs.Ytlkkkdflafikaaa
open Go.RowKit
open Num Clk

theorem ret_int {k : IntKind} {a b : Int} (h : a = b) : Ending.returned (.int k a) = .returned (.int k b) := by rw [h]
theorem ret_bool {a b : Bool} (h : a = b) : Ending.returned (.bool a) = .returned (.bool b) := by rw [h]
theorem ret_str {a b : ByteArray} (h : a = b) : Ending.returned (.string a) = .returned (.string b) := by rw [h]
theorem ret2_str {a b : ByteArray} {x : Value} (h : a = b) : Ending.returned (.tuple #[.string a, x]) = .returned (.tuple #[.string b, x]) := by rw [h]
theorem ret2_int {k : IntKind} {a b : Int} {x : Value} (h : a = b) : Ending.returned (.tuple #[.int k a, x]) = .returned (.tuple #[.int k b, x]) := by rw [h]
/-- A string as the list of its bytes. -/
abbrev str (l : List UInt8) : Value := .string ⟨l.toArray⟩
theorem conv1 (W : World) (b : Nat) (x : Int) (h0 : W.cell? ⟨b, 0, none⟩ = some (.int .u8 x)) :
    (convert 51 9 (.slice (some ⟨b, 0, none⟩) 1 1)).run Try.prog W = .ok (.string ⟨#[UInt8.ofNat x.toNat]⟩) W :=
  run_convert_bytes_arg W 51 5 Try.underlying51 Try.underlying5 b 0 1 1 [x] rfl (by
    intro i hi
    match i, hi with
    | 0, _ => simpa using h0) 9 Try.underlying9
theorem conv2 (W : World) (b : Nat) (x y : Int) (h0 : W.cell? ⟨b, 0, none⟩ = some (.int .u8 x)) (h1 : W.cell? ⟨b, 1, none⟩ = some (.int .u8 y)) :
    (convert 51 9 (.slice (some ⟨b, 0, none⟩) 2 2)).run Try.prog W = .ok (.string ⟨#[UInt8.ofNat x.toNat, UInt8.ofNat y.toNat]⟩) W :=
  run_convert_bytes_arg W 51 5 Try.underlying51 Try.underlying5 b 0 2 2 [x, y] rfl (by
    intro i hi
    match i, hi with
    | 0, _ => simpa using h0
    | 1, _ => simpa using h1) 9 Try.underlying9
def validB (t : Int) : Bool := decide (0 ≤ t) && decide (t ≤ 172800)
theorem valid_b (t : Int) (b : Bool) (h : Hid (validB t = b)) (w : World) : Calls Try.prog 47 #[.int .i64 t] w fun e w' => e = .returned (.bool b) ∧ w = w' := by
  by_cases h0 : 0 ≤ t
  · by_cases h1 : t ≤ 172800
    · have HB := Lib.hid (show b = true by rw [← h.out]; simp [validB, h0, h1])
      go_enter Try.func47, Try.ntmps47
      go_wp2
      go_ret
      exact ⟨ret_bool (by rw [HB.out]), rfl⟩
    · have HB := Lib.hid (show b = false by rw [← h.out]; simp [validB, h1])
      go_enter Try.func47, Try.ntmps47
      go_wp2
      go_ret
      exact ⟨ret_bool (by rw [HB.out]), rfl⟩
  · have HB := Lib.hid (show b = false by rw [← h.out]; simp [validB, h0])
    go_enter Try.func47, Try.ntmps47
    go_wp2
    go_ret
    exact ⟨ret_bool (by rw [HB.out]), rfl⟩
theorem refValid_b (t : Int) (b : Bool) (h : Hid (validB t = b)) (w : World) : Calls Try.prog 48 #[.int .i64 t] w fun e w' => e = .returned (.bool b) ∧ w = w' := by
  by_cases h0 : 0 ≤ t
  · by_cases h1 : t ≤ 172800
    · have HB := Lib.hid (show b = true by rw [← h.out]; simp [validB, h0, h1])
      go_enter Try.func48, Try.ntmps48
      go_wp2
      go_ret
      exact ⟨ret_bool (by rw [HB.out]), rfl⟩
    · have HB := Lib.hid (show b = false by rw [← h.out]; simp [validB, h1])
      go_enter Try.func48, Try.ntmps48
      go_wp2
      go_ret
      exact ⟨ret_bool (by rw [HB.out]), rfl⟩
  · have HB := Lib.hid (show b = false by rw [← h.out]; simp [validB, h0])
    go_enter Try.func48, Try.ntmps48
    go_wp2
    go_ret
    exact ⟨ret_bool (by rw [HB.out]), rfl⟩
theorem valid_yes {t : Int} (h0 : 0 ≤ t) (h1 : t ≤ 172800) : Hid (validB t = true) := by show _ = _; simp [validB, h0, h1]
theorem valid_no {t : Int} (h : ¬ (0 ≤ t ∧ t ≤ 172800)) : Hid (validB t = false) := by
  show _ = _
  by_cases h0 : 0 ≤ t
  · have : ¬ t ≤ 172800 := fun k => h ⟨h0, k⟩
    simp [validB, this]
  · simp [validB, h0]
theorem split_yes (t : Int) (h0 : 0 ≤ t) (h1 : t ≤ 172800) (w : World) :
    Calls Try.prog 52 #[.int .i64 t] w fun e w' => e = .returned (.tuple #[.int .i64 (t / 3600), .int .i64 (t % 3600 / 60), .int .i64 (t % 60), .bool true]) ∧ w = w' := by
  go_enter Try.func52, Try.ntmps52
  go_wp2_with (go_at_call 47; refine (valid_b _ true (valid_yes h0 h1) _).mono ?_; rintro e w1 ⟨rfl, rfl⟩)
  refine bodyPost_ret (v := .tuple #[.int .i64 (t / 3600), .int .i64 (t % 3600 / 60), .int .i64 (t % 60), .bool true]) (by simp [results, Try.results52, go_sem]) rfl ⟨rfl, rfl⟩
theorem split_no (t : Int) (h : ¬ (0 ≤ t ∧ t ≤ 172800)) (w : World) :
    Calls Try.prog 52 #[.int .i64 t] w fun e w' => e = .returned (.tuple #[.int .i64 0, .int .i64 0, .int .i64 0, .bool false]) ∧ w = w' := by
  have HV := valid_no h
  clear h
  go_enter Try.func52, Try.ntmps52
  go_wp2_with (go_at_call 47; refine (valid_b _ false HV _).mono ?_; rintro e w1 ⟨rfl, rfl⟩)
  refine bodyPost_ret (v := .tuple #[.int .i64 0, .int .i64 0, .int .i64 0, .bool false]) (by simp [results, Try.results52, go_sem]) rfl ⟨rfl, rfl⟩
theorem two_c (n : Int) (h0 : 0 ≤ n) (h1 : n ≤ 99) (w : World) : Calls Try.prog 54 #[.int .i64 n] w fun e w' => e = .returned (str (two n.toNat)) ∧ Bl w w' := by
  have hcv := conv2
  have HT : Hid ((⟨#[UInt8.ofNat (48 + n / 10).toNat, UInt8.ofNat (48 + n % 10).toNat]⟩ : ByteArray) = ⟨(two n.toNat).toArray⟩) := by
    show _ = _
    unfold two
    rw [show (48 + n / 10).toNat = 48 + n.toNat / 10 by omega, show (48 + n % 10).toNat = 48 + n.toNat % 10 by omega]
  go_enter Try.func54, Try.ntmps54
  go_wp2
  go_ret
  exact ⟨ret_str HT.out, bl_alloc (bl_refl _) _⟩
theorem refTwo_c (n : Int) (h0 : 0 ≤ n) (h1 : n ≤ 99) (w : World) : Calls Try.prog 55 #[.int .i64 n] w fun e w' => e = .returned (str (two n.toNat)) ∧ Bl w w' := by
  have hcv := conv2
  have HT : Hid ((⟨#[UInt8.ofNat (48 + n / 10).toNat, UInt8.ofNat (48 + n % 10).toNat]⟩ : ByteArray) = ⟨(two n.toNat).toArray⟩) := by
    show _ = _
    unfold two
    rw [show (48 + n / 10).toNat = 48 + n.toNat / 10 by omega, show (48 + n % 10).toNat = 48 + n.toNat % 10 by omega]
  go_enter Try.func55, Try.ntmps55
  go_wp2
  go_ret
  exact ⟨ret_str HT.out, bl_alloc (bl_refl _) _⟩
/-- The bytes of some strings, one after the other. -/
def cat (ss : List ByteArray) : List UInt8 := (ss.map fun s => s.data.toList).flatten
theorem cat_snoc (ss : List ByteArray) (k : Nat) (h : k < ss.length) : cat (ss.take (k + 1)) = cat (ss.take k) ++ (ss.getD k ByteArray.empty).data.toList := by
  have e : ss.getD k ByteArray.empty = ss[k] := by simp [List.getD, h]
  unfold cat
  rw [e, List.take_succ_eq_append_getElem h, List.map_append, List.flatten_append]
  simp only [List.map_cons, List.map_nil, List.flatten_cons, List.flatten_nil, List.append_nil]
theorem cat_take_le (ss : List ByteArray) (k : Nat) : (cat (ss.take k)).length ≤ (cat ss).length := by
  have : cat ss = cat (ss.take k) ++ cat (ss.drop k) := by
    unfold cat
    rw [← List.flatten_append, ← List.map_append, List.take_append_drop]
  rw [this, List.length_append]
  omega
set_option maxHeartbeats 1000000 in
theorem cat_c (b0 k : Nat) (ss : List ByteArray) (hk : ss.length = k) (w : World) (hc : ∀ i, i < k → w.cell? ⟨b0, i, none⟩ = some (.string (ss.getD i ByteArray.empty))) (hb0 : b0 < w.heap.size) (hsz : (cat ss).length ≤ 140737488355328) (hkm : k ≤ 1000) :
    Calls Try.prog 53 #[.slice (some ⟨b0, 0, none⟩) k k] w fun e w' => e = .returned (str (cat ss)) ∧ Bl w w' := by
  have HC := Lib.hid hc
  have HK := Lib.hid hk
  clear hc hk
  go_enter Try.func53, Try.ntmps53
  go_wp2
  go_loopw [8] (fun i wr => ∃ j : Nat, j ≤ k ∧ i = .int .i64 j ∧ Lib.IsBuilder 64 5 w.heap.size w.heap.size (Lib.byteCells (cat (ss.take j))) wr ∧ Bl w wr) (fun i _ => k - (intOf i).toNat)
  case atStart => exact ⟨0, Nat.zero_le _, rfl, Lib.fresh_isBuilder _ _ w, bl_alloc (bl_refl _) _⟩
  case round =>
    obtain ⟨j, hj, rfl, hI, hb⟩ := hrel
    have HI := Lib.hid hI
    clear hI
    by_cases hlt : j < k
    · obtain ⟨s, hs⟩ : ∃ s, s = ss.getD j ByteArray.empty := ⟨_, rfl⟩
      have hcx : wr.cell? ⟨b0, j, none⟩ = some (.string s) := by
        rw [hb.cell (p := ⟨b0, j, none⟩) hb0, HC.out j hlt, hs]
      have HS := Lib.hid (cat_snoc ss j (by rw [HK.out]; exact hlt))
      have hle := cat_take_le ss (j + 1)
      rw [HS.out, ← hs, List.length_append] at hle
      have hle' : (cat (ss.take j)).length + s.size ≤ 140737488355328 := by
        have : s.data.toList.length = s.size := by simp
        omega
      have HSS := Lib.hid hs
      clear hs
      go_wp2_with (go_at_call 56; refine (writeString_c w.heap.size w.heap.size _ s _ HI.out (by rw [Lib.byteCells_length]; exact hle') hb.size).mono ?_; rintro e w1 ⟨rfl, h1, b1⟩)
      go_roundw
      case rel => exact ⟨j + 1, by omega, by go_num, .inr (by rw [HS.out, ← HSS.out, Lib.byteCells_append]; exact h1), hb.trans b1⟩
      case measure => simp [intOf]; omega
    · have HE := Lib.hid (show cat (ss.take j) = cat ss by rw [List.take_of_length_le (by rw [HK.out]; omega)])
      go_wp2_with (go_at_call 57; refine (Try.Builder_String_any w.heap.size w.heap.size (cat (ss.take j)) _ HI.out hb.size).mono ?_; rintro e w1 ⟨rfl, b1⟩)
      go_ret
      exact ⟨ret_str (by rw [HE.out]), hb.trans b1⟩
theorem lit_cells (w : World) (ss : List ByteArray) (c : Array Value) (T : TypeId) (h : c = (ss.map Value.string).toArray) : ∀ i, i < ss.length → (w.alloc (.cells c T)).cell? ⟨w.heap.size, i, none⟩ = some (.string (ss.getD i ByteArray.empty)) := by
  intro i hi
  subst h
  rw [World.cell?_alloc_at (hn := rfl)]
  simp [List.getD, hi]
/-- join of some strings in a new block. -/
theorem catNew_c (w : World) (ss : List ByteArray) (c : Array Value) (k : Nat) (h : c = (ss.map Value.string).toArray) (hk : ss.length = k) (l : List UInt8) (hl : cat ss = l) (hsz : l.length ≤ 1000) (hkm : k ≤ 1000) :
    Calls Try.prog 53 #[.slice (some ⟨w.heap.size, 0, none⟩) k k] (w.alloc (.cells c 9)) fun e w' => e = .returned (str l) ∧ Bl w w' := by
  refine (cat_c w.heap.size k ss hk _ (by rw [← hk]; exact lit_cells w ss c _ h) (by simp) (by rw [hl]; omega) hkm).mono ?_
  rintro e w' ⟨rfl, hb⟩
  exact ⟨by rw [hl], bl_next (bl_alloc (bl_refl _) _) hb⟩
theorem cat5 (a b c d e : List UInt8) : cat [⟨a.toArray⟩, ⟨b.toArray⟩, ⟨c.toArray⟩, ⟨d.toArray⟩, ⟨e.toArray⟩] = a ++ (b ++ (c ++ (d ++ e))) := by simp [cat]
set_option maxHeartbeats 2000000 in
theorem fmt_c (t : Int) (l : List UInt8) (e : Int) (H : Hid (fmt t = (l, e))) (w : World) :
    Calls Try.prog 49 #[.int .i64 t] w fun r w' => r = .returned (.tuple #[str l, .int .i64 e]) ∧ Bl w w' := by
  have H' := H.out
  unfold fmt at H'
  by_cases h : 0 ≤ t ∧ t ≤ 172800
  · rw [if_pos h, Prod.mk.injEq] at H'
    obtain ⟨rfl, rfl⟩ := H'
    clear H
    obtain ⟨h0, h1⟩ := h
    go_enter Try.func49, Try.ntmps49
    go_wp2_with fail
    refine (split_yes t h0 h1 _).mono ?_
    rintro e w1 ⟨rfl, rfl⟩
    go_wp2_with fail
    refine (two_c _ (by omega) (by omega) _).mono ?_
    rintro e w1 ⟨rfl, b1⟩
    go_wp2_with fail
    refine (two_c _ (by omega) (by omega) _).mono ?_
    rintro e w2 ⟨rfl, b2⟩
    go_wp2_with fail
    refine (two_c _ (by omega) (by omega) _).mono ?_
    rintro e w3 ⟨rfl, b3⟩
    go_wp2_with fail
    refine (catNew_c w3 [⟨(two (t / 3600).toNat).toArray⟩, ⟨[58].toArray⟩, ⟨(two (t % 3600 / 60).toNat).toArray⟩, ⟨[58].toArray⟩, ⟨(two (t % 60).toNat).toArray⟩] _ 5 rfl rfl (clockText t.toNat) (by
      rw [cat5]
      unfold clockText
      rw [show (t / 3600).toNat = t.toNat / 3600 by omega, show (t % 3600 / 60).toNat = t.toNat / 60 % 60 by omega, show (t % 60).toNat = t.toNat % 60 by omega]
      rfl) (by show 8 ≤ 1000; omega) (by omega)).mono ?_
    rintro e w4 ⟨rfl, b4⟩
    go_wp2
    go_ret2
    exact ⟨rfl, bl_next (bl_next (bl_next b1 b2) b3) b4⟩
  · rw [if_neg h, Prod.mk.injEq] at H'
    obtain ⟨rfl, rfl⟩ := H'
    clear H
    have HN := Lib.hid h
    clear h
    go_enter Try.func49, Try.ntmps49
    go_wp2_with fail
    refine (split_no t HN.out _).mono ?_
    rintro e w1 ⟨rfl, rfl⟩
    go_wp2
    go_ret2
    exact ⟨rfl, bl_refl _⟩
set_option maxHeartbeats 2000000 in
theorem refFmt_c (t : Int) (l : List UInt8) (e : Int) (H : Hid (fmt t = (l, e))) (w : World) :
    Calls Try.prog 50 #[.int .i64 t] w fun r w' => r = .returned (.tuple #[str l, .int .i64 e]) ∧ Bl w w' := by
  have H' := H.out
  unfold fmt at H'
  by_cases h : 0 ≤ t ∧ t ≤ 172800
  · rw [if_pos h, Prod.mk.injEq] at H'
    obtain ⟨rfl, rfl⟩ := H'
    clear H
    obtain ⟨h0, h1⟩ := h
    go_enter Try.func50, Try.ntmps50
    go_wp2_with fail
    refine (refValid_b t true (valid_yes h0 h1) _).mono ?_
    rintro e w1 ⟨rfl, rfl⟩
    go_wp2_with fail
    refine (refTwo_c _ (by omega) (by omega) _).mono ?_
    rintro e w1 ⟨rfl, b1⟩
    go_wp2_with fail
    refine (refTwo_c _ (by omega) (by omega) _).mono ?_
    rintro e w2 ⟨rfl, b2⟩
    go_wp2_with fail
    refine (refTwo_c _ (by omega) (by omega) _).mono ?_
    rintro e w3 ⟨rfl, b3⟩
    go_wp2
    go_ret2
    exact ⟨ret2_str (by
      apply ByteArray.ext
      unfold clockText
      rw [show (t / 3600).toNat = t.toNat / 3600 by omega, show (t / 60 % 60).toNat = t.toNat / 60 % 60 by omega, show (t % 60).toNat = t.toNat % 60 by omega]
      simp), bl_next (bl_next b1 b2) b3⟩
  · rw [if_neg h, Prod.mk.injEq] at H'
    obtain ⟨rfl, rfl⟩ := H'
    clear H
    have HN := Lib.hid h
    clear h
    go_enter Try.func50, Try.ntmps50
    go_wp2_with fail
    refine (refValid_b t false (valid_no HN.out) _).mono ?_
    rintro e w1 ⟨rfl, rfl⟩
    go_wp2
    go_ret2
    exact ⟨rfl, bl_refl _⟩
theorem bytes_get (s : ByteArray) (k : Nat) (h : k < s.size) : s.data.toList[k]'(by simpa using h) = s[k]'h := by simp; rfl
/-- A byte of a string, for the walk to take. -/
theorem idx_c (s : ByteArray) (z : Int) (i : Nat) (hz : z = (i : Int)) (hi : i < s.size) (W : World) :
    (Instr.index 9 (.string s) (.int .i64 z)).run Try.prog W = .ok (.int .u8 ((s[i]'hi).toNat : Int)) W := by
  subst hz
  rw [run_index_string W 9 s .i64 _ Try.underlying9, dif_pos ⟨by omega, by omega⟩]
  rfl
end Go.Proofs.Ytlkkkdflafikaaa
