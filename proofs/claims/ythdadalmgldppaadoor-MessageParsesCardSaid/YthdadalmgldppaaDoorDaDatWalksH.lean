/-
  THE CONTRACTS OF DATE, EIGHTH PART: Parse, ParseMoment, and the reference's. Conditions: those of each contract.
-/
import Derived.Test.YthdadalmgldppaaDoorDaDatWalksG
namespace Go.Proofs.YthdadalmgldppaaDoor.Da
open Go.RowKit
open Num Clk Dat

set_option maxRecDepth 20000 in
set_option maxHeartbeats 4000000 in
theorem dParse_c (s : ByteArray) (n e : Int) (H : Day s.data.toList n e) (w : World) :
    Calls Tryd.prog 67 #[.string s] w fun r w' => r = .returned (.tuple #[.int .i64 n, .int .i64 e]) ∧ Bl w w' := by
  generalize hl : s.data.toList = l at H
  cases H with
  | bad h =>
    have HF : Hid (shapedB s.data.toList pat10 = false) := by show _ = _; rw [hl]; exact h
    clear h hl
    go_enter Tryd.func67, Tryd.ntmps67
    go_wp2_with fail
    refine (fields_no s HF _).mono ?_
    rintro e w1 ⟨⟨y, m, d, rfl⟩, rfl⟩
    go_wp2
    go_ret2
    exact ⟨rfl, bl_refl _⟩
  | out h k =>
    rename_i y m d
    have HF : Hid (DF s.data.toList y m d) := by show DF _ _ _ _; rw [hl]; exact h
    have HK := Lib.hid k
    clear h hl k
    go_enter Tryd.func67, Tryd.ntmps67
    go_wp2_with fail
    refine (fields_yes s _ _ _ HF _).mono ?_
    rintro e w1 ⟨rfl, rfl⟩
    go_wp2_with fail
    refine (from_c _ _ _ _ _ HK _).mono ?_
    rintro e w1 ⟨rfl, b1⟩
    go_wp2
    go_ret2
    exact ⟨rfl, b1⟩
  | ok _ h k =>
    rename_i y m d
    have HF : Hid (DF s.data.toList y m d) := by show DF _ _ _ _; rw [hl]; exact h
    have HK := Lib.hid k
    clear h hl k
    go_enter Tryd.func67, Tryd.ntmps67
    go_wp2_with fail
    refine (fields_yes s _ _ _ HF _).mono ?_
    rintro e w1 ⟨rfl, rfl⟩
    go_wp2_with fail
    refine (from_c _ _ _ _ _ HK _).mono ?_
    rintro e w1 ⟨rfl, b1⟩
    go_wp2
    go_ret2
    exact ⟨rfl, b1⟩

theorem pat10_str : (ByteArray.mk #[48, 48, 48, 48, 45, 48, 48, 45, 48, 48]).data.toList = pat10 := rfl
set_option maxRecDepth 20000 in
set_option maxHeartbeats 4000000 in
theorem rParse_c (s : ByteArray) (n e : Int) (H : Day s.data.toList n e) (w : World) :
    Calls Tryd.prog 46 #[.string s] w fun r w' => r = .returned (.tuple #[.int .i64 n, .int .i64 e]) ∧ Bl w w' := by
  generalize hl : s.data.toList = l at H
  cases H with
  | bad h =>
    have HF : Hid (shapedB s.data.toList (ByteArray.mk #[48, 48, 48, 48, 45, 48, 48, 45, 48, 48]).data.toList = false) := by show _ = _; rw [hl, pat10_str]; exact h
    clear h hl
    go_enter Tryd.func46, Tryd.ntmps46
    go_wp2_with fail
    refine (shaped_c s _ _ HF (by decide) _).mono ?_
    rintro e w1 ⟨rfl, b1⟩
    go_wp2
    go_ret2
    exact ⟨rfl, b1⟩
  | out h k =>
    rename_i y m d
    have hd : DF s.data.toList y m d := by rw [hl]; exact h
    have HF : Hid (shapedB s.data.toList (ByteArray.mk #[48, 48, 48, 48, 45, 48, 48, 45, 48, 48]).data.toList = true) := by show _ = _; rw [hl, pat10_str]; exact shaped10_of h
    obtain ⟨h10, h4, h7, n1, n2, n3⟩ := df_parts hd
    have N1 := Lib.hid n1
    have N2 := Lib.hid n2
    have N3 := Lib.hid n3
    have HK := Lib.hid k
    have hs1 : 10 ≤ s.size := by omega
    have hs2 : s.size ≤ 10 := by omega
    clear h hl k hd h4 h7 n1 n2 n3 h10
    go_enter Tryd.func46, Tryd.ntmps46
    go_wp2_with fail
    refine (shaped_c s _ _ HF (by decide) _).mono ?_
    rintro e w1 ⟨rfl, b1⟩
    go_wp2_with fail
    have i4 : (4 : Int) ≤ (s.size : Int) := by omega
    have i7 : (7 : Int) ≤ (s.size : Int) := by omega
    have i8 : (8 : Int) ≤ (s.size : Int) := by omega
    go_quiet ((first
      | (go_at_call 74; with_reducible exact Calls.quiet_of_same ((value_c _ _ N1 (by rw [ext_size _ _ _ (by omega) (by omega)]; omega) _).mono fun _ _ ⟨he, hw⟩ => ⟨he, hw.symm⟩))
      | (go_at_call 74; with_reducible exact Calls.quiet_of_same ((value_c _ _ N2 (by rw [ext_size _ _ _ (by omega) (by omega)]; omega) _).mono fun _ _ ⟨he, hw⟩ => ⟨he, hw.symm⟩))
      | (go_at_call 74; with_reducible exact Calls.quiet_of_same ((value_c _ _ N3 (by rw [ext_size _ _ _ (by omega) (by omega)]; omega) _).mono fun _ _ ⟨he, hw⟩ => ⟨he, hw.symm⟩))
      | (go_at_call 73; with_reducible exact Calls.quiet_of_same ((rFrom_c _ _ _ _ _ HK _).mono fun _ _ ⟨he, hw⟩ => ⟨he, hw.symm⟩))))
    go_wp2
    go_ret2
    exact ⟨rfl, bl_drewN b1 _⟩
  | ok _ h k =>
    rename_i y m d
    have hd : DF s.data.toList y m d := by rw [hl]; exact h
    have HF : Hid (shapedB s.data.toList (ByteArray.mk #[48, 48, 48, 48, 45, 48, 48, 45, 48, 48]).data.toList = true) := by show _ = _; rw [hl, pat10_str]; exact shaped10_of h
    obtain ⟨h10, h4, h7, n1, n2, n3⟩ := df_parts hd
    have N1 := Lib.hid n1
    have N2 := Lib.hid n2
    have N3 := Lib.hid n3
    have HK := Lib.hid k
    have hs1 : 10 ≤ s.size := by omega
    have hs2 : s.size ≤ 10 := by omega
    clear h hl k hd h4 h7 n1 n2 n3 h10
    go_enter Tryd.func46, Tryd.ntmps46
    go_wp2_with fail
    refine (shaped_c s _ _ HF (by decide) _).mono ?_
    rintro e w1 ⟨rfl, b1⟩
    go_wp2_with fail
    have i4 : (4 : Int) ≤ (s.size : Int) := by omega
    have i7 : (7 : Int) ≤ (s.size : Int) := by omega
    have i8 : (8 : Int) ≤ (s.size : Int) := by omega
    go_quiet ((first
      | (go_at_call 74; with_reducible exact Calls.quiet_of_same ((value_c _ _ N1 (by rw [ext_size _ _ _ (by omega) (by omega)]; omega) _).mono fun _ _ ⟨he, hw⟩ => ⟨he, hw.symm⟩))
      | (go_at_call 74; with_reducible exact Calls.quiet_of_same ((value_c _ _ N2 (by rw [ext_size _ _ _ (by omega) (by omega)]; omega) _).mono fun _ _ ⟨he, hw⟩ => ⟨he, hw.symm⟩))
      | (go_at_call 74; with_reducible exact Calls.quiet_of_same ((value_c _ _ N3 (by rw [ext_size _ _ _ (by omega) (by omega)]; omega) _).mono fun _ _ ⟨he, hw⟩ => ⟨he, hw.symm⟩))
      | (go_at_call 73; with_reducible exact Calls.quiet_of_same ((rFrom_c _ _ _ _ _ HK _).mono fun _ _ ⟨he, hw⟩ => ⟨he, hw.symm⟩))))
    go_wp2
    go_ret2
    exact ⟨rfl, bl_drewN b1 _⟩
end Go.Proofs.YthdadalmgldppaaDoor.Da
