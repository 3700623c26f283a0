/-
  THE CONTRACTS OF CLOCK, FIRST PART: Valid, Split, Join, two, join, Format. Conditions: those of each contract.
-/
import Derived.Test.YtnmapjflofoflaaRows
import Derived.Test.YtnmapjflofoflaaClkPlain
import Derived.Test.YtnmapjflofoflaaClkBuilder
import Derived.Test.YtnmapjflofoflaaBase
import Derived.WalkSpells
import Derived.WalkLawsBesides
import Derived.Laws.BytesArg
import Derived.Lib.Hide
import Derived.Lib.SmallJoins
namespace Go.Proofs.Ytnmapjflofoflaa
open Go.RowKit
open Num Clk

theorem ret_int {k : IntKind} {a b : Int} (h : a = b) : Ending.returned (.int k a) = .returned (.int k b) := by rw [h]
theorem ret_bool {a b : Bool} (h : a = b) : Ending.returned (.bool a) = .returned (.bool b) := by rw [h]
theorem ret_str {a b : ByteArray} (h : a = b) : Ending.returned (.string a) = .returned (.string b) := by rw [h]
theorem ret2_str {a b : ByteArray} {x : Value} (h : a = b) : Ending.returned (.tuple #[.string a, x]) = .returned (.tuple #[.string b, x]) := by rw [h]
theorem ret2_int {k : IntKind} {a b : Int} {x : Value} (h : a = b) : Ending.returned (.tuple #[.int k a, x]) = .returned (.tuple #[.int k b, x]) := by rw [h]
/-- A string as the list of its bytes. -/
abbrev str (l : List UInt8) : Value := .string ⟨l.toArray⟩

theorem conv1 (W : World) (b : Nat) (x : Int) (h0 : W.cell? ⟨b, 0, none⟩ = some (.int .u8 x)) :
    (convert 51 9 (.slice (some ⟨b, 0, none⟩) 1 1)).run Try.prog W = .ok (.string ⟨#[UInt8.ofNat x.toNat]⟩) W :=
  run_convert_bytes_arg W 51 5 Try.underlying51 Try.underlying5 b 0 1 1 [x] rfl (by
    intro i hi
    match i, hi with
    | 0, _ => simpa using h0) 9 Try.underlying9
theorem conv2 (W : World) (b : Nat) (x y : Int) (h0 : W.cell? ⟨b, 0, none⟩ = some (.int .u8 x)) (h1 : W.cell? ⟨b, 1, none⟩ = some (.int .u8 y)) :
    (convert 51 9 (.slice (some ⟨b, 0, none⟩) 2 2)).run Try.prog W = .ok (.string ⟨#[UInt8.ofNat x.toNat, UInt8.ofNat y.toNat]⟩) W :=
  run_convert_bytes_arg W 51 5 Try.underlying51 Try.underlying5 b 0 2 2 [x, y] rfl (by
    intro i hi
    match i, hi with
    | 0, _ => simpa using h0
    | 1, _ => simpa using h1) 9 Try.underlying9

/-! ### Valid, Split, Join -/
def validB (t : Int) : Bool := decide (0 ≤ t) && decide (t ≤ 172800)
theorem valid_b (t : Int) (b : Bool) (h : Hid (validB t = b)) (w : World) : Calls Try.prog 13 #[.int .i64 t] w fun e w' => e = .returned (.bool b) ∧ w = w' := by
  by_cases h0 : 0 ≤ t
  · by_cases h1 : t ≤ 172800
    · have HB := Lib.hid (show b = true by rw [← h.out]; simp [validB, h0, h1])
      go_enter Try.func13, Try.ntmps13
      go_wp2
      go_ret
      exact ⟨ret_bool (by rw [HB.out]), rfl⟩
    · have HB := Lib.hid (show b = false by rw [← h.out]; simp [validB, h1])
      go_enter Try.func13, Try.ntmps13
      go_wp2
      go_ret
      exact ⟨ret_bool (by rw [HB.out]), rfl⟩
  · have HB := Lib.hid (show b = false by rw [← h.out]; simp [validB, h0])
    go_enter Try.func13, Try.ntmps13
    go_wp2
    go_ret
    exact ⟨ret_bool (by rw [HB.out]), rfl⟩
theorem refValid_b (t : Int) (b : Bool) (h : Hid (validB t = b)) (w : World) : Calls Try.prog 14 #[.int .i64 t] w fun e w' => e = .returned (.bool b) ∧ w = w' := by
  by_cases h0 : 0 ≤ t
  · by_cases h1 : t ≤ 172800
    · have HB := Lib.hid (show b = true by rw [← h.out]; simp [validB, h0, h1])
      go_enter Try.func14, Try.ntmps14
      go_wp2
      go_ret
      exact ⟨ret_bool (by rw [HB.out]), rfl⟩
    · have HB := Lib.hid (show b = false by rw [← h.out]; simp [validB, h1])
      go_enter Try.func14, Try.ntmps14
      go_wp2
      go_ret
      exact ⟨ret_bool (by rw [HB.out]), rfl⟩
  · have HB := Lib.hid (show b = false by rw [← h.out]; simp [validB, h0])
    go_enter Try.func14, Try.ntmps14
    go_wp2
    go_ret
    exact ⟨ret_bool (by rw [HB.out]), rfl⟩
theorem valid_yes {t : Int} (h0 : 0 ≤ t) (h1 : t ≤ 172800) : Hid (validB t = true) := by show _ = _; simp [validB, h0, h1]
theorem valid_no {t : Int} (h : ¬ (0 ≤ t ∧ t ≤ 172800)) : Hid (validB t = false) := by
  show _ = _
  by_cases h0 : 0 ≤ t
  · have : ¬ t ≤ 172800 := fun k => h ⟨h0, k⟩
    simp [validB, this]
  · simp [validB, h0]

theorem split_yes (t : Int) (h0 : 0 ≤ t) (h1 : t ≤ 172800) (w : World) :
    Calls Try.prog 12 #[.int .i64 t] w fun e w' => e = .returned (.tuple #[.int .i64 (t / 3600), .int .i64 (t % 3600 / 60), .int .i64 (t % 60), .bool true]) ∧ w = w' := by
  go_enter Try.func12, Try.ntmps12
  go_wp2_with (go_at_call 13; refine (valid_b _ true (valid_yes h0 h1) _).mono ?_; rintro e w1 ⟨rfl, rfl⟩)
  refine bodyPost_ret (v := .tuple #[.int .i64 (t / 3600), .int .i64 (t % 3600 / 60), .int .i64 (t % 60), .bool true]) (by simp [results, Try.results12, go_sem]) rfl ⟨rfl, rfl⟩
theorem split_no (t : Int) (h : ¬ (0 ≤ t ∧ t ≤ 172800)) (w : World) :
    Calls Try.prog 12 #[.int .i64 t] w fun e w' => e = .returned (.tuple #[.int .i64 0, .int .i64 0, .int .i64 0, .bool false]) ∧ w = w' := by
  have HV := valid_no h
  clear h
  go_enter Try.func12, Try.ntmps12
  go_wp2_with (go_at_call 13; refine (valid_b _ false HV _).mono ?_; rintro e w1 ⟨rfl, rfl⟩)
  refine bodyPost_ret (v := .tuple #[.int .i64 0, .int .i64 0, .int .i64 0, .bool false]) (by simp [results, Try.results12, go_sem]) rfl ⟨rfl, rfl⟩

set_option maxHeartbeats 1000000 in
theorem join_c (h m s n : Int) (ok : Bool) (H : Hid (join h m s = (n, ok))) (w : World) :
    Calls Try.prog 16 #[.int .i64 h, .int .i64 m, .int .i64 s] w fun e w' => e = .returned (.tuple #[.int .i64 n, .bool ok]) ∧ w = w' := by
  cases ok with
  | true =>
    obtain ⟨⟨⟨a0, a1⟩, ⟨b0, b1⟩, ⟨c0, c1⟩, hs⟩, hn⟩ := join_yes H.out
    have HN := Lib.hid hn
    clear hn
    go_enter Try.func16, Try.ntmps16
    go_wp2_with (go_at_call 13; refine (valid_b _ true (valid_yes (by omega) (by omega)) _).mono ?_; rintro e w1 ⟨rfl, rfl⟩)
    go_ret2
    exact ⟨ret2_int (by rw [HN.out]), rfl⟩
  | false =>
    obtain ⟨rfl, hc⟩ := join_no H.out
    rcases (show h < 0 ∨ (0 ≤ h ∧ 48 < h) ∨ (0 ≤ h ∧ h ≤ 48 ∧ m < 0) ∨ (0 ≤ h ∧ h ≤ 48 ∧ 0 ≤ m ∧ 59 < m) ∨ (0 ≤ h ∧ h ≤ 48 ∧ 0 ≤ m ∧ m ≤ 59 ∧ s < 0) ∨ (0 ≤ h ∧ h ≤ 48 ∧ 0 ≤ m ∧ m ≤ 59 ∧ 0 ≤ s ∧ 59 < s) ∨ (0 ≤ h ∧ h ≤ 48 ∧ 0 ≤ m ∧ m ≤ 59 ∧ 0 ≤ s ∧ s ≤ 59 ∧ 172800 < 3600 * h + 60 * m + s) by omega) with
      k | ⟨k1, k2⟩ | ⟨k1, k2, k3⟩ | ⟨k1, k2, k3, k4⟩ | ⟨k1, k2, k3, k4, k5⟩ | ⟨k1, k2, k3, k4, k5, k6⟩ | ⟨k1, k2, k3, k4, k5, k6, k7⟩
    all_goals clear hc
    · go_enter Try.func16, Try.ntmps16
      go_wp2
      go_ret2
      exact ⟨rfl, rfl⟩
    · go_enter Try.func16, Try.ntmps16
      go_wp2
      go_ret2
      exact ⟨rfl, rfl⟩
    · go_enter Try.func16, Try.ntmps16
      go_wp2
      go_ret2
      exact ⟨rfl, rfl⟩
    · go_enter Try.func16, Try.ntmps16
      go_wp2
      go_ret2
      exact ⟨rfl, rfl⟩
    · go_enter Try.func16, Try.ntmps16
      go_wp2
      go_ret2
      exact ⟨rfl, rfl⟩
    · go_enter Try.func16, Try.ntmps16
      go_wp2
      go_ret2
      exact ⟨rfl, rfl⟩
    · go_enter Try.func16, Try.ntmps16
      go_wp2_with (go_at_call 13; refine (valid_b _ false (valid_no (by omega)) _).mono ?_; rintro e w1 ⟨rfl, rfl⟩)
      go_ret2
      exact ⟨rfl, rfl⟩

set_option maxHeartbeats 1000000 in
theorem refJoin_c (h m s n : Int) (ok : Bool) (H : Hid (join h m s = (n, ok))) (w : World) :
    Calls Try.prog 17 #[.int .i64 h, .int .i64 m, .int .i64 s] w fun e w' => e = .returned (.tuple #[.int .i64 n, .bool ok]) ∧ w = w' := by
  cases ok with
  | true =>
    obtain ⟨⟨⟨a0, a1⟩, ⟨b0, b1⟩, ⟨c0, c1⟩, hs⟩, hn⟩ := join_yes H.out
    have HN := Lib.hid (show n = h * 3600 + m * 60 + s by omega)
    clear hn
    go_enter Try.func17, Try.ntmps17
    go_wp2
    go_ret2
    exact ⟨ret2_int (by rw [HN.out]), rfl⟩
  | false =>
    obtain ⟨rfl, hc⟩ := join_no H.out
    rcases (show h < 0 ∨ (0 ≤ h ∧ 48 < h) ∨ (0 ≤ h ∧ h ≤ 48 ∧ m < 0) ∨ (0 ≤ h ∧ h ≤ 48 ∧ 0 ≤ m ∧ 59 < m) ∨ (0 ≤ h ∧ h ≤ 48 ∧ 0 ≤ m ∧ m ≤ 59 ∧ s < 0) ∨ (0 ≤ h ∧ h ≤ 48 ∧ 0 ≤ m ∧ m ≤ 59 ∧ 0 ≤ s ∧ 59 < s) ∨ (0 ≤ h ∧ h ≤ 48 ∧ 0 ≤ m ∧ m ≤ 59 ∧ 0 ≤ s ∧ s ≤ 59 ∧ 172800 < 3600 * h + 60 * m + s) by omega) with
      k | ⟨k1, k2⟩ | ⟨k1, k2, k3⟩ | ⟨k1, k2, k3, k4⟩ | ⟨k1, k2, k3, k4, k5⟩ | ⟨k1, k2, k3, k4, k5, k6⟩ | ⟨k1, k2, k3, k4, k5, k6, k7⟩
    all_goals clear hc
    all_goals
      go_enter Try.func17, Try.ntmps17
      go_wp2
      go_ret2
      exact ⟨rfl, rfl⟩

/-! ### two digits -/
theorem two_c (n : Int) (h0 : 0 ≤ n) (h1 : n ≤ 99) (w : World) : Calls Try.prog 27 #[.int .i64 n] w fun e w' => e = .returned (str (two n.toNat)) ∧ Bl w w' := by
  have hcv := conv2
  have HT : Hid ((⟨#[UInt8.ofNat (48 + n / 10).toNat, UInt8.ofNat (48 + n % 10).toNat]⟩ : ByteArray) = ⟨(two n.toNat).toArray⟩) := by
    show _ = _
    unfold two
    rw [show (48 + n / 10).toNat = 48 + n.toNat / 10 by omega, show (48 + n % 10).toNat = 48 + n.toNat % 10 by omega]
  go_enter Try.func27, Try.ntmps27
  go_wp2
  go_ret
  exact ⟨ret_str HT.out, bl_alloc (bl_refl _) _⟩
theorem refTwo_c (n : Int) (h0 : 0 ≤ n) (h1 : n ≤ 99) (w : World) : Calls Try.prog 28 #[.int .i64 n] w fun e w' => e = .returned (str (two n.toNat)) ∧ Bl w w' := by
  have hcv := conv2
  have HT : Hid ((⟨#[UInt8.ofNat (48 + n / 10).toNat, UInt8.ofNat (48 + n % 10).toNat]⟩ : ByteArray) = ⟨(two n.toNat).toArray⟩) := by
    show _ = _
    unfold two
    rw [show (48 + n / 10).toNat = 48 + n.toNat / 10 by omega, show (48 + n % 10).toNat = 48 + n.toNat % 10 by omega]
  go_enter Try.func28, Try.ntmps28
  go_wp2
  go_ret
  exact ⟨ret_str HT.out, bl_alloc (bl_refl _) _⟩
end Go.Proofs.Ytnmapjflofoflaa
