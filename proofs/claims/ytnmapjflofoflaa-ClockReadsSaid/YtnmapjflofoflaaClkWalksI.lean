/-
  THE CONTRACTS OF CLOCK, NINTH PART: parts, ParseDuration. Conditions: those of each contract.
-/
import Derived.Test.YtnmapjflofoflaaClkWalksH
import Derived.LoopN
namespace Go.Proofs.Ytnmapjflofoflaa
open Go.RowKit
open Num Clk

theorem cutSuffix_c (s p : ByteArray) (a : List UInt8) (f : Bool) (Ha : Hid (Lib.trimSuffix s.data.toList p.data.toList = a)) (Hf : Hid (Lib.hasSuffix s.data.toList p.data.toList = f)) (hs : s.size ≤ 9223372036854775807) (w : World) :
    Calls Try.prog 43 #[.string s, .string p] w fun e w' => e = .returned (.tuple #[str a, .bool f]) ∧ w = w' :=
  (Try.strings_CutSuffix s p w hs).mono fun _ _ ⟨he, hw⟩ => ⟨by rw [he, Ha.out, Hf.out], hw.symm⟩
theorem cut_c (s sep : ByteArray) (a b : List UInt8) (f : Bool) (H : Hid (Lib.cut s.data.toList sep.data.toList = (a, b, f))) (m : Int) (w : World) (hs : s.size < 4294967281) (hm : w.cell? ⟨0, 0, none⟩ = some (.int .i64 m)) :
    Calls Try.prog 44 #[.string s, .string sep] w fun e w' => e = .returned (.tuple #[str a, str b, .bool f]) ∧ ∃ n, w.drewN n = w' :=
  (Try.strings_Cut s sep m w hs hm).mono fun _ _ ⟨he, n, hw⟩ => ⟨by rw [he, H.out], n, hw.symm⟩

/-- A slice of new strings. -/
def News (w : World) (ls : List (List UInt8)) (e : Ending) (w' : World) : Prop :=
  ∃ g : Nat, e = .returned (.tuple #[.slice (some ⟨g, 0, none⟩) ls.length ls.length, .bool true]) ∧ g < w'.heap.size ∧ (∀ i, i < ls.length → w'.cell? ⟨g, i, none⟩ = some (str (ls.getD i []))) ∧ Bl w w'

theorem take_len (l : List UInt8) : (Lib.trimSuffix l [115]).length ≤ l.length := by
  unfold Lib.trimSuffix
  split
  · rw [List.length_take]; omega
  · exact Nat.le_refl _
theorem cut_len (l p : List UInt8) : (Lib.cut l p).1.length ≤ l.length := by
  unfold Lib.cut
  split
  · rw [List.length_take]; omega
  · exact Nat.le_refl _

set_option maxHeartbeats 1000000 in
theorem parts_none (s : ByteArray) (H : Hid (partsS s.data.toList = none)) (hs : s.size ≤ 4096) (w : World) :
    Calls Try.prog 35 #[.string s] w fun e w' => e = .returned (.tuple #[.slice none 0 0, .bool false]) ∧ Bl w w' := by
  have HF : Hid (Lib.hasSuffix s.data.toList [115] = false) := by
    have h := H.out
    unfold partsS at h
    show _ = _
    rw [Bool.eq_false_iff]
    intro k
    rw [if_pos k] at h
    split at h
    · split at h <;> simp at h
    · simp at h
  go_enter Try.func35, Try.ntmps35
  go_wp2_with (go_at_call 43; refine (cutSuffix_c s ⟨#[115]⟩ _ false rfl HF (by omega) _).mono ?_; rintro e w1 ⟨rfl, rfl⟩)
  go_ret2
  exact ⟨rfl, bl_refl _⟩

theorem news_at (w w1 : World) (hb : Bl w w1) (hz : w1.heap.size = w.heap.size) (ls : List (List UInt8)) (T : TypeId) (c : Array Value) (hc : c = (ls.map str).toArray) {fn : Func} {a : Act} (n : Nat) (hn : n = ls.length)
    (hr : ∀ W, (results fn a.tmps).run Try.prog W = .ok (.tuple #[.slice (some ⟨w.heap.size, 0, none⟩) n n, .bool true]) W) (hd : a.defers = []) :
    bodyPost Try.prog fn (News w ls) .ret a (w1.alloc (.cells c T)) := by
  subst hn
  refine bodyPost_ret (v := .tuple #[.slice (some ⟨w.heap.size, 0, none⟩) ls.length ls.length, .bool true]) (hr _) hd ⟨w.heap.size, rfl, ?_, ?_, bl_alloc hb _⟩
  · show _ < (w1.heap.push _).size
    rw [Array.size_push, hz]; omega
  · intro i hi
    rw [World.cell?_alloc_at _ _ _ _ hz.symm, hc]
    simp [List.getD, hi]

set_option maxHeartbeats 2000000 in
theorem parts_some (s : ByteArray) (ls : List (List UInt8)) (H : Hid (partsS s.data.toList = some ls)) (hs : s.size ≤ 4096) (m : Int) (w : World) (hm : w.cell? ⟨0, 0, none⟩ = some (.int .i64 m)) :
    Calls Try.prog 35 #[.string s] w (News w ls) := by
  have hl := take_len s.data.toList
  have hsz : s.data.toList.length = s.size := by simp
  obtain ⟨u, hu⟩ : ∃ u, Lib.trimSuffix s.data.toList [115] = u := ⟨_, rfl⟩
  obtain ⟨a, b, f, hc⟩ : ∃ a b f, Lib.cut u [109] = (a, b, f) := ⟨_, _, _, rfl⟩
  obtain ⟨a', b', f', hc'⟩ : ∃ x y z, Lib.cut a [104] = (x, y, z) := ⟨_, _, _, rfl⟩
  have hul : u.length ≤ 4096 := by rw [← hu]; omega
  have hal : a.length ≤ 4096 := by have := cut_len u [109]; rw [hc] at this; dsimp only at this; omega
  have HU := Lib.hid hu
  have HC : Hid (Lib.cut (ByteArray.mk u.toArray).data.toList (ByteArray.mk #[109]).data.toList = (a, b, f)) := by show _ = _; exact hc
  have HC' : Hid (Lib.cut (ByteArray.mk a.toArray).data.toList (ByteArray.mk #[104]).data.toList = (a', b', f')) := by show _ = _; exact hc'
  have hus : (ByteArray.mk u.toArray).size < 4294967281 := by show u.toArray.size < _; simp; omega
  have has : (ByteArray.mk a.toArray).size < 4294967281 := by show a.toArray.size < _; simp; omega
  have h := H.out
  unfold partsS at h
  rw [hu, hc] at h
  cases hf : Lib.hasSuffix s.data.toList [115] with
  | false => rw [hf] at h; simp at h
  | true =>
    rw [if_pos hf] at h
    have HF := Lib.hid hf
    clear hf hu hsz hl
    cases f with
    | false =>
      rw [if_neg (by simp), Option.some.injEq] at h
      subst h
      clear hc hc' HC' H
      go_enter Try.func35, Try.ntmps35
      go_wp2_with (first
        | (go_at_call 43; refine (cutSuffix_c s ⟨#[115]⟩ u true HU HF (by omega) _).mono ?_; rintro e w1 ⟨rfl, rfl⟩)
        | (go_at_call 44; refine (cut_c _ ⟨#[109]⟩ a b false HC m _ hus hm).mono ?_; rintro e w1 ⟨rfl, n1, rfl⟩))
      exact news_at w _ (bl_drewN (bl_refl w) _) (by simp) [u] _ _ rfl 1 rfl (fun W => by simp [results, Try.results35, go_sem]) rfl
    | true =>
      rw [if_pos rfl] at h
      dsimp only at h
      rw [hc'] at h
      dsimp only at h
      have hm' : ∀ n, (w.drewN n).cell? ⟨0, 0, none⟩ = some (.int .i64 m) := fun n => by rw [World.cell?_drewN]; exact hm
      cases f' with
      | false =>
        rw [if_neg (by simp), Option.some.injEq] at h
        subst h
        clear hc hc' H
        go_enter Try.func35, Try.ntmps35
        go_wp2_with fail
        refine (cutSuffix_c s ⟨#[115]⟩ u true HU HF (by omega) _).mono ?_
        rintro e w1 ⟨rfl, rfl⟩
        clear HU HF
        go_wp2_with fail
        refine (cut_c _ ⟨#[109]⟩ a b true HC m _ hus hm).mono ?_
        rintro e w1 ⟨rfl, n1, rfl⟩
        clear HC
        go_wp2_with fail
        refine (cut_c _ ⟨#[104]⟩ a' b' false HC' m _ has (hm' _)).mono ?_
        rintro e w1 ⟨rfl, n2, rfl⟩
        clear HC'
        go_wp2
        exact news_at w _ (bl_drewN (bl_refl w) _) (by simp) [a, b] _ _ rfl 2 rfl (fun W => by simp [results, Try.results35, go_sem]) rfl
      | true =>
        rw [if_pos rfl, Option.some.injEq] at h
        subst h
        clear hc hc' H
        go_enter Try.func35, Try.ntmps35
        go_wp2_with fail
        refine (cutSuffix_c s ⟨#[115]⟩ u true HU HF (by omega) _).mono ?_
        rintro e w1 ⟨rfl, rfl⟩
        clear HU HF
        go_wp2_with fail
        refine (cut_c _ ⟨#[109]⟩ a b true HC m _ hus hm).mono ?_
        rintro e w1 ⟨rfl, n1, rfl⟩
        clear HC
        go_wp2_with fail
        refine (cut_c _ ⟨#[104]⟩ a' b' true HC' m _ has (hm' _)).mono ?_
        rintro e w1 ⟨rfl, n2, rfl⟩
        clear HC'
        go_wp2
        exact news_at w _ (bl_drewN (bl_refl w) _) (by simp) [a', b', b] _ _ rfl 3 rfl (fun W => by simp [results, Try.results35, go_sem]) rfl
end Go.Proofs.Ytnmapjflofoflaa
