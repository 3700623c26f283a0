/-
  THE LAWS OF FIELD, SECOND PART: Quotes, Unquotes, Joins, Splits, Lines. Conditions: those of each contract.
-/
import Derived.Test.YtonmfcnkdgdkbaaDoorFldLawsA
namespace Go.Proofs.YtonmfcnkdgdkbaaDoor
open Go.RowKit
open Fld

set_option maxHeartbeats 4000000 in
theorem quotes_law (s : ByteArray) (hs : s.size ≤ maxLen) (m : Int) (w : World) (hm : Ml m w) :
    Calls Tryd.prog 3 #[.string s] w fun e w' => e = .returned (.bool true) ∧ Bl w w' := by
  unfold maxLen at hs
  by_cases hbig : 16384 < s.size
  · go_enter Tryd.func3, Tryd.ntmps3
    go_wp2_with fail
    refine (example_c m _ hm).mono ?_
    rintro e w1 ⟨rfl, b1⟩
    go_wp2
    go_ret
    exact ⟨rfl, b1⟩
  · obtain ⟨q, hq⟩ : ∃ q, quoteS s.data.toList = q := ⟨_, rfl⟩
    have HQ := Lib.hid hq
    have qq : (q == q) = true := by simp
    clear hq
    go_enter Tryd.func3, Tryd.ntmps3
    go_wp2_with fail
    refine (quote_c s q HQ (by omega) _).mono ?_
    rintro e w1 ⟨rfl, b1⟩
    go_wp2_with fail
    refine (rquote_c s q HQ (by omega) _).mono ?_
    rintro e w2 ⟨rfl, b2⟩
    have b12 := bl_next b1 b2
    go_wp2_with fail
    refine (example_c m _ (ml_next hm b12)).mono ?_
    rintro e w3 ⟨rfl, b3⟩
    go_wp2
    go_ret
    exact ⟨rfl, bl_next b12 b3⟩
set_option maxHeartbeats 4000000 in
theorem unquotes_law (s : ByteArray) (hs : s.size ≤ maxLen) (m : Int) (w : World) (hm : Ml m w) :
    Calls Tryd.prog 4 #[.string s] w fun e w' => e = .returned (.bool true) ∧ Bl w w' := by
  unfold maxLen at hs
  by_cases hbig : 16384 < s.size
  · go_enter Tryd.func4, Tryd.ntmps4
    go_wp2_with fail
    refine (example_c m _ hm).mono ?_
    rintro e w1 ⟨rfl, b1⟩
    go_wp2
    go_ret
    exact ⟨rfl, b1⟩
  · obtain ⟨q, f, hq⟩ : ∃ q f, unqR (unquoteS s.data.toList) = (q, f) := ⟨_, _, rfl⟩
    have HQ := Lib.hid hq
    have qq : (q == q) = true := by simp
    have ff : (f == f) = true := by simp
    clear hq
    go_enter Tryd.func4, Tryd.ntmps4
    go_wp2_with fail
    refine (unquote_c s (by omega) q f HQ _).mono ?_
    rintro e w1 ⟨rfl, b1⟩
    go_wp2_with fail
    refine (runquote_c s (by omega) q f HQ _).mono ?_
    rintro e w2 ⟨rfl, b2⟩
    have b12 := bl_next b1 b2
    go_wp2_with fail
    refine (example_c m _ (ml_next hm b12)).mono ?_
    rintro e w3 ⟨rfl, b3⟩
    go_wp2
    go_ret
    exact ⟨rfl, bl_next b12 b3⟩
set_option maxHeartbeats 4000000 in
theorem splits_law (s : ByteArray) (hs : s.size ≤ maxLen) (m : Int) (w : World) (hm : Ml m w) :
    Calls Tryd.prog 7 #[.string s] w fun e w' => e = .returned (.bool true) ∧ Bl w w' := by
  unfold maxLen at hs
  by_cases hbig : 131072 < s.size
  · go_enter Tryd.func7, Tryd.ntmps7
    go_wp2_with fail
    refine (example_c m _ hm).mono ?_
    rintro e w1 ⟨rfl, b1⟩
    go_wp2
    go_ret
    exact ⟨rfl, b1⟩
  · obtain ⟨l, f, hq⟩ : ∃ l f, splitS s.data.toList = (l, f) := ⟨_, _, rfl⟩
    have HQ := Lib.hid hq
    have ff : (f == f) = true := by simp
    clear hq
    go_enter Tryd.func7, Tryd.ntmps7
    go_wp2_with fail
    refine (split_c s (by omega) l f HQ _).mono ?_
    rintro e w1 ⟨v1, rfl, o1, b1⟩
    have O1 := Lib.hid (ownS_in o1)
    clear o1
    go_wp2_with fail
    refine (rsplit_c s (by omega) l f HQ _).mono ?_
    rintro e w2 ⟨v2, rfl, o2, b2⟩
    have O2 := Lib.hid (ownS_in o2)
    have b12 := bl_next b1 b2
    clear o2
    go_wp2_with fail
    refine (same_c _ _ l _ _ (SlIn.bl O1.out b2) O2.out (Nat.le_refl _)).mono ?_
    rintro e w3 ⟨rfl, b3⟩
    have b13 := bl_next b12 b3
    go_wp2_with fail
    refine (example_c m _ (ml_next hm b13)).mono ?_
    rintro e w4 ⟨rfl, b4⟩
    go_wp2
    go_ret
    exact ⟨rfl, bl_next b13 b4⟩
set_option maxHeartbeats 4000000 in
theorem lines_law (s : ByteArray) (hs : s.size ≤ maxLen) (m : Int) (w : World) (hm : Ml m w) :
    Calls Tryd.prog 8 #[.string s] w fun e w' => e = .returned (.bool true) ∧ Bl w w' := by
  unfold maxLen at hs
  by_cases hbig : 131072 < s.size
  · go_enter Tryd.func8, Tryd.ntmps8
    go_wp2_with fail
    refine (example_c m _ hm).mono ?_
    rintro e w1 ⟨rfl, b1⟩
    go_wp2
    go_ret
    exact ⟨rfl, b1⟩
  · obtain ⟨l, f, hq⟩ : ∃ l f, linesS s.data.toList = (l, f) := ⟨_, _, rfl⟩
    have HQ := Lib.hid hq
    have ff : (f == f) = true := by simp
    clear hq
    go_enter Tryd.func8, Tryd.ntmps8
    go_wp2_with fail
    refine (lines_c s (by omega) m l f HQ _ hm).mono ?_
    rintro e w1 ⟨v1, rfl, o1, b1⟩
    have O1 := Lib.hid o1
    clear o1
    go_wp2_with fail
    refine (rlines_c s (by omega) l f HQ _).mono ?_
    rintro e w2 ⟨v2, rfl, o2, b2⟩
    have O2 := Lib.hid (ownS_in o2)
    have b12 := bl_next b1 b2
    clear o2
    go_wp2_with fail
    refine (same_c _ _ l _ _ (SlIn.bl O1.out b2) O2.out (Nat.le_refl _)).mono ?_
    rintro e w3 ⟨rfl, b3⟩
    have b13 := bl_next b12 b3
    go_wp2_with fail
    refine (example_c m _ (ml_next hm b13)).mono ?_
    rintro e w4 ⟨rfl, b4⟩
    go_wp2
    go_ret
    exact ⟨rfl, bl_next b13 b4⟩
set_option maxHeartbeats 4000000 in
theorem joins_law (v : Value) (l : List (List UInt8)) (B : Nat) (m : Int) (w : World) (hm : Ml m w) (hv : StrsIn B w v l) (hB : B ≤ w.heap.size) :
    Calls Tryd.prog 6 #[v] w fun e w' => e = .returned (.bool true) ∧ Bl w w' := by
  obtain ⟨r, hr⟩ : ∃ r, smallS l = r := ⟨_, rfl⟩
  have HR := Lib.hid hr
  have HV := Lib.hid hv
  clear hr
  cases r with
  | false =>
    go_enter Tryd.func6, Tryd.ntmps6
    go_wp2_with fail
    refine (small_c v l _ HR B w hv).mono ?_
    rintro e w1 ⟨rfl, b1⟩
    go_wp2_with fail
    refine (example_c m _ (ml_next hm b1)).mono ?_
    rintro e w2 ⟨rfl, b2⟩
    go_wp2
    go_ret
    exact ⟨rfl, bl_next b1 b2⟩
  | true =>
    have HL := Lib.hid (show ∀ x ∈ l, x.length ≤ 131072 from fun x hx => by have := (small_facts HR.out).2 x hx; omega)
    obtain ⟨q, f, hq⟩ : ∃ q f, joinR l = (q, f) := ⟨_, _, rfl⟩
    have HQ := Lib.hid hq
    have qq : (q == q) = true := by simp
    have ff : (f == f) = true := by simp
    clear hq
    go_enter Tryd.func6, Tryd.ntmps6
    go_wp2_with fail
    refine (small_c v l _ HR B w hv).mono ?_
    rintro e w1 ⟨rfl, b1⟩
    clear hv
    have z1 := b1.size
    go_wp2_with fail
    refine (join_c v l q f HQ HL B w1 (HV.out.out b1 hB) (by omega)).mono ?_
    rintro e w2 ⟨rfl, b2⟩
    have b12 := bl_next b1 b2
    have z2 := b12.size
    go_wp2_with fail
    refine (rjoin_c v l q f HQ HL B w2 (HV.out.out b12 hB) (by omega)).mono ?_
    rintro e w3 ⟨rfl, b3⟩
    have b13 := bl_next b12 b3
    go_wp2_with fail
    refine (example_c m _ (ml_next hm b13)).mono ?_
    rintro e w4 ⟨rfl, b4⟩
    go_wp2
    go_ret
    exact ⟨rfl, bl_next b13 b4⟩
end Go.Proofs.YtonmfcnkdgdkbaaDoor
