/-
  WHAT Check SAYS, AS A PLAIN FUNCTION. Conditions: none.
-/
import Derived.Test.YtknecohjajjloaaFrqWalksF
namespace Go.Proofs.Ytknecohjajjloaa
open Go.RowKit
open Frq

/-- How many starts a frequency's trip has, with those of the frequencies before it. -/
def oneOf (f g : FreqD) : Int := if g.trip == f.trip then cnt g else 0
def sumOf (f : FreqD) (pre : List FreqD) : Int := (pre.map (oneOf f)).sum
theorem sumOf_snoc (f : FreqD) (pre : List FreqD) (g : FreqD) : sumOf f (pre ++ [g]) = sumOf f pre + oneOf f g := by simp [sumOf]
theorem sumOf_bd (f : FreqD) (pre : List FreqD) (h : ∀ g ∈ pre, sound g) : 0 ≤ sumOf f pre ∧ sumOf f pre ≤ 172800 * pre.length := by
  induction pre with
  | nil => exact ⟨Int.le_refl _, by simp [sumOf]⟩
  | cons x l ih =>
    have e : sumOf f (x :: l) = oneOf f x + sumOf f l := by simp [sumOf]
    have := ih fun g hg => h g (List.mem_cons_of_mem _ hg)
    have := cnt_bd x (h x (List.mem_cons_self ..))
    rw [e, List.length_cons]
    unfold oneOf
    split <;> omega
def overlap (f g : FreqD) : Bool := decide (g.frm < f.to) && decide (f.frm < g.to)
def meetB (f g : FreqD) : Bool := (g.trip == f.trip) && overlap f g
def fitAt (ts : List TripD) (f : FreqD) : Bool := match ts[f.trip.toNat]? with
  | some t => fitsB t.calls f
  | none => false
def errAt (ts : List TripD) (pre : List FreqD) (f : FreqD) : Int :=
  if f.trip < 0 ∨ (ts.length : Int) ≤ f.trip then 9 else
  if soundB f && fitAt ts f then (if 256 < cnt f + sumOf f pre then 17 else if pre.any (meetB f) then 8 else 0) else 10
theorem errAt_9 {ts : List TripD} {pre : List FreqD} {f : FreqD} (h : f.trip < 0 ∨ (ts.length : Int) ≤ f.trip) : errAt ts pre f = 9 := by unfold errAt; rw [if_pos h]
theorem errAt_10 {ts : List TripD} {pre : List FreqD} {f : FreqD} (h0 : 0 ≤ f.trip) (h1 : f.trip < ts.length) (h : (soundB f && fitAt ts f) = false) : errAt ts pre f = 10 := by unfold errAt; rw [if_neg (by omega), h]; rfl
theorem errAt_n {ts : List TripD} {pre : List FreqD} {f : FreqD} (h0 : 0 ≤ f.trip) (h1 : f.trip < ts.length) (h : (soundB f && fitAt ts f) = true) : errAt ts pre f = if 256 < cnt f + sumOf f pre then 17 else if pre.any (meetB f) then 8 else 0 := by unfold errAt; rw [if_neg (by omega), h]; rfl
theorem errAt_sound {ts : List TripD} {pre : List FreqD} {f : FreqD} (h : errAt ts pre f = 0) : sound f := by
  unfold errAt at h
  split at h
  · simp at h
  · split at h
    · rename_i hh
      rw [Bool.and_eq_true] at hh
      exact of_decide_eq_true hh.1
    · simp at h
def chk (ts : List TripD) (pre : List FreqD) : List FreqD → Int × Int
  | [] => (0, 0)
  | f :: rest => if errAt ts pre f = 0 then chk ts (pre ++ [f]) rest else (pre.length, errAt ts pre f)
def checkS (l : List FreqD) (ts : List TripD) : Int × Int := if 64 < l.length then (0, 5) else chk ts [] l
theorem chk_end {ts : List TripD} {l : List FreqD} {k : Nat} (h : l.length ≤ k) : chk ts (l.take k) (l.drop k) = (0, 0) := by
  rw [List.drop_of_length_le h]
  rfl
theorem chk_bad {ts : List TripD} {l : List FreqD} {k : Nat} {f : FreqD} {e : Int} (hf : l[k]? = some f) (he : errAt ts (l.take k) f = e) (hne : e ≠ 0) : chk ts (l.take k) (l.drop k) = ((k : Int), e) := by
  obtain ⟨hk, rfl⟩ := List.getElem?_eq_some_iff.1 hf
  rw [List.drop_eq_getElem_cons hk]
  show (if _ then _ else _) = _
  rw [he, if_neg hne, List.length_take, Nat.min_eq_left (by omega)]
theorem chk_good {ts : List TripD} {l : List FreqD} {k : Nat} {f : FreqD} (hf : l[k]? = some f) (he : errAt ts (l.take k) f = 0) : chk ts (l.take k) (l.drop k) = chk ts (l.take (k + 1)) (l.drop (k + 1)) := by
  obtain ⟨hk, rfl⟩ := List.getElem?_eq_some_iff.1 hf
  rw [List.drop_eq_getElem_cons hk]
  show (if _ then _ else _) = _
  rw [he, if_pos rfl, take_snoc_at hf]
/-- The trips, as a slice. -/
structure TripsIn (B : Nat) (w : World) (v : Value) (ts : List TripD) : Prop where
  sl : SlIn tripCells 5 B w v ts
  ok : ∀ t ∈ ts, TripOk B w t
theorem TripsIn.bl {B : Nat} {w w' : World} {v : Value} {ts : List TripD} (h : TripsIn B w v ts) (hb : Bl w w') (hB : B ≤ w.heap.size) : TripsIn B w' v ts :=
  ⟨h.sl.below (hb.mono hB), fun t ht => (h.ok t ht).bl hb hB⟩
theorem ret_ie {a b c d : Int} (h : a = c) (h' : b = d) : Ending.returned (.tuple #[.int .i64 a, .int .i64 b]) = .returned (.tuple #[.int .i64 c, .int .i64 d]) := by rw [h, h']
end Go.Proofs.Ytknecohjajjloaa
