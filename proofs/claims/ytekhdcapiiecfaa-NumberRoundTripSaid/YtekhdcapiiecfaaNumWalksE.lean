/-
  THE CONTRACTS OF NUMBER, FIFTH PART: prices. Conditions: those of each contract.
-/
import Derived.Test.YtekhdcapiiecfaaNumWalksD
import Derived.Test.YtekhdcapiiecfaaNumPlain3
import Derived.Deep.RegionWith
import Derived.Deep.QuietTactic
import Derived.BigQuiet
import Derived.Test.YtekhdcapiiecfaaBase
namespace Go.Proofs.Ytekhdcapiiecfaa
open Go.RowKit
open Num

theorem ret2_str {a b : ByteArray} {x : Value} (h : a = b) : Ending.returned (.tuple #[.string a, x]) = .returned (.tuple #[.string b, x]) := by rw [h]

theorem bcell {W w1 : World} (hb : Below W.heap.size W w1) : (∀ b o, b < W.heap.size → w1.cell? ⟨b, o, none⟩ = W.cell? ⟨b, o, none⟩) ∧ (∀ b o, b < W.heap.size → w1.frozen? ⟨b, o, none⟩ = W.frozen? ⟨b, o, none⟩) :=
  ⟨fun b o h => hb.cell (p := ⟨b, o, none⟩) h, fun b o h => hb.frozen (p := ⟨b, o, none⟩) h⟩

theorem conv2 (W : World) (b : Nat) (x y : Int) (h0 : W.cell? ⟨b, 0, none⟩ = some (.int .u8 x)) (h1 : W.cell? ⟨b, 1, none⟩ = some (.int .u8 y)) :
    (convert 41 9 (.slice (some ⟨b, 0, none⟩) 2 2)).run Try.prog W = .ok (.string ⟨#[UInt8.ofNat x.toNat, UInt8.ofNat y.toNat]⟩) W :=
  run_convert_bytes_arg W 41 5 Try.underlying41 Try.underlying5 b 0 2 2 [x, y] rfl (by
    intro i hi
    match i, hi with
    | 0, _ => simpa using h0
    | 1, _ => simpa using h1) 9 Try.underlying9

set_option maxHeartbeats 1000000 in
theorem refFormatPrice_c (c : Int) (t : List UInt8) (e : Int) (H : Hid (fmtPrice c = (t, e))) (w : World) :
    Calls Try.prog 15 #[.int .i64 c] w fun r w' => r = .returned (.tuple #[str t, .int .i64 e]) ∧ w = w' := by
  have H' := H.out
  unfold fmtPrice at H'
  clear H
  by_cases h0 : c < 0
  · rw [if_pos (.inl h0), Prod.mk.injEq] at H'
    obtain ⟨rfl, rfl⟩ := H'
    go_enter Try.func15, Try.ntmps15
    go_wp2
    go_ret2
    exact ⟨rfl, rfl⟩
  by_cases h1 : 1000000 < c
  · rw [if_pos (.inr h1), Prod.mk.injEq] at H'
    obtain ⟨rfl, rfl⟩ := H'
    go_enter Try.func15, Try.ntmps15
    go_wp2
    go_ret2
    exact ⟨rfl, rfl⟩
  rw [if_neg (fun k => k.elim h0 h1), Prod.mk.injEq] at H'
  obtain ⟨rfl, rfl⟩ := H'
  obtain ⟨N, rfl⟩ := Int.eq_ofNat_of_zero_le (show 0 ≤ c by omega)
  have hl := length_19 (N / 100) (by omega)
  have HT := Lib.hid (show itoa ((N : Int) / 100) = decDigits (N / 100) by unfold itoa; rw [if_neg (by omega)]; congr 1)
  go_enter Try.func15, Try.ntmps15
  go_wp2_with (first
    | (go_at_call 12; refine (refFormat_c _ (by omega) (by omega) _).mono ?_; rintro e w1 ⟨rfl, rfl⟩; rw [HT.out])
    | (go_at_call 33; refine (digit_c _ (by omega) (by omega) _).mono ?_; rintro e w1 ⟨rfl, rfl⟩))
  go_ret2
  exact ⟨ret2_str (by
    apply ByteArray.ext
    have e8 : UInt8.ofNat ((N : Int) / 10 % 10).toNat = UInt8.ofNat (N / 10 % 10) := by congr 1
    have e9 : UInt8.ofNat ((N : Int) % 10).toNat = UInt8.ofNat (N % 10) := by congr 1
    simp [priceText]), rfl⟩

set_option maxHeartbeats 1000000 in
theorem formatPrice_c (c : Int) (t : List UInt8) (e : Int) (H : Hid (fmtPrice c = (t, e))) (w : World) :
    Calls Try.prog 14 #[.int .i64 c] w fun r w' => r = .returned (.tuple #[str t, .int .i64 e]) ∧ Below w.heap.size w w' := by
  have H' := H.out
  unfold fmtPrice at H'
  clear H
  by_cases h0 : c < 0
  · rw [if_pos (.inl h0), Prod.mk.injEq] at H'
    obtain ⟨rfl, rfl⟩ := H'
    go_enter Try.func14, Try.ntmps14
    go_wp2
    go_ret2
    exact ⟨rfl, Below.refl _ _⟩
  by_cases h1 : 1000000 < c
  · rw [if_pos (.inr h1), Prod.mk.injEq] at H'
    obtain ⟨rfl, rfl⟩ := H'
    go_enter Try.func14, Try.ntmps14
    go_wp2
    go_ret2
    exact ⟨rfl, Below.refl _ _⟩
  rw [if_neg (fun k => k.elim h0 h1), Prod.mk.injEq] at H'
  obtain ⟨rfl, rfl⟩ := H'
  obtain ⟨N, rfl⟩ := Int.eq_ofNat_of_zero_le (show 0 ≤ c by omega)
  have hl := length_19 (N / 100) (by omega)
  have HT := Lib.hid (show itoa ((N : Int) / 100) = decDigits (N / 100) by unfold itoa; rw [if_neg (by omega)]; congr 1)
  have hcv := conv2
  have ha1 := fun W => run_string_add_sum (P := Try.prog) W ⟨(decDigits (N / 100)).toArray⟩ ⟨#[46]⟩ (by
    show (decDigits (N / 100)).toArray.size + 1 ≤ _
    simp
    omega)
  have ha2 := fun W => run_string_add_sum (P := Try.prog) W (ByteArray.mk (decDigits (N / 100)).toArray ++ ⟨#[46]⟩) ⟨#[UInt8.ofNat (48 + (N : Int) % 100 / 10).toNat, UInt8.ofNat (48 + (N : Int) % 10).toNat]⟩ (by
    rw [ByteArray.size_append]
    show (decDigits (N / 100)).toArray.size + 1 + 2 ≤ _
    simp
    omega)
  have b1 : -9223372036854775808 ≤ (N : Int) / 100 := by omega
  have b2 : (N : Int) / 100 ≤ 9223372036854775807 := by omega
  go_enter Try.func14, Try.ntmps14
  go_wp2
  have e1 : IntKind.i64.wrap ((N : Int) / 100) = (N : Int) / 100 := IntWalk.i64_in _ (by omega)
  have e2 : IntKind.i64.wrap (((N : Int) % 100).tdiv 10) = (N : Int) % 100 / 10 := by rw [Int.tdiv_eq_ediv_of_nonneg (by omega)]; exact IntWalk.i64_in _ (by omega)
  have e3 : ((N : Int) % 100).tmod 10 = (N : Int) % 10 := by rw [Int.tmod_eq_emod_of_nonneg (by omega)]; omega
  have e4 : IntKind.i64.wrap (48 + (N : Int) % 100 / 10) = 48 + (N : Int) % 100 / 10 := IntWalk.i64_in _ (by omega)
  have e5 : IntKind.u8.wrap (48 + (N : Int) % 100 / 10) = 48 + (N : Int) % 100 / 10 := IntWalk.u8_in _ (by omega)
  have e6 : IntKind.i64.wrap (48 + (N : Int) % 10) = 48 + (N : Int) % 10 := IntWalk.i64_in _ (by omega)
  have e7 : IntKind.u8.wrap (48 + (N : Int) % 10) = 48 + (N : Int) % 10 := IntWalk.u8_in _ (by omega)
  go_region_with (go_at_call 10; refine (format_c _ b1 b2 _).mono ?_; rintro e w1 ⟨rfl, hb⟩; rw [HT.out]; obtain ⟨hc, hf⟩ := bcell hb)
  all_goals clear e1 e2 e3 e4 e5 e6 e7
  all_goals go_wp2
  all_goals go_ret2
  all_goals
    refine ⟨ret2_str ?_, ?_⟩
    · apply ByteArray.ext
      have e8 : UInt8.ofNat (48 + (N : Int) % 100 / 10).toNat = UInt8.ofNat (48 + N / 10 % 10) := by congr 1; omega
      have e9 : UInt8.ofNat (48 + (N : Int) % 10).toNat = UInt8.ofNat (48 + N % 10) := by congr 1
      rw [e8, e9]
      simp [priceText]
    · repeat (first | exact bl_refl _ | refine bl_drew ?_ | refine bl_alloc ?_ _ | refine bl_next ?_ hb)
end Go.Proofs.Ytekhdcapiiecfaa
