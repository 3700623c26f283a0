/-
  WHAT IS READ IN MEMORY BY THE TEXTS OF THIS SEAT: calls, trips, frequencies, through services, guaranteed changes, lists of ints. Conditions: those of each lemma.
-/
import Derived.Test.YtjdaikeljmccaaaRows
import Derived.Test.YtjdaikeljmccaaaThrPlain2
import Derived.Test.YtjdaikeljmccaaaBase
import Derived.Test.YtjdaikeljmccaaaMem
import Derived.WalkSpells
import Derived.WalkLawsBesides
import Derived.Lib.Hide
import Derived.Lib.SmallJoins
import Derived.Deep.QuietTactic
import Derived.BigQuiet
import Derived.Deep.RegionHeld3
import Derived.Deep.DeepCutAuto
namespace Go.Proofs.Ytjdaikeljmccaaa
open Go.RowKit
open Frq Thr

def isInt (n : Int) : Prop := -9223372036854775808 ≤ n ∧ n ≤ 9223372036854775807
theorem ret_int {k : IntKind} {a b : Int} (h : a = b) : Ending.returned (.int k a) = .returned (.int k b) := by rw [h]
theorem ret_bool {a b : Bool} (h : a = b) : Ending.returned (.bool a) = .returned (.bool b) := by rw [h]
def callCells (c : CallD) : List Value := [.int .i64 c.stop, .int .i64 c.arrive, .int .i64 c.depart, .bool c.board, .bool c.alight]
theorem callCells_len (c : CallD) : (callCells c).length = 5 := rfl
/-- A slice of calls reads as a list. -/
abbrev CallsIn (B : Nat) (w : World) (v : Value) (cs : List CallD) : Prop := SlIn callCells 5 B w v cs
def okT (c : CallD) : Prop := isInt c.arrive ∧ isInt c.depart
theorem flat_snoc {α : Type} (cells : α → List Value) (l : List α) (x : α) : (l ++ [x]).flatMap cells = l.flatMap cells ++ cells x := by simp
theorem take_snoc_at {α : Type} {l : List α} {k : Nat} {x : α} (h : l[k]? = some x) : l.take (k + 1) = l.take k ++ [x] := by
  obtain ⟨hk, rfl⟩ := List.getElem?_eq_some_iff.1 h
  rw [List.take_succ_eq_append_getElem hk]
def intCells (x : Int) : List Value := [.int .i64 x]
theorem intCells_len (x : Int) : (intCells x).length = 1 := rfl
abbrev IntsIn (B : Nat) (w : World) (v : Value) (xs : List Int) : Prop := SlIn intCells 1 B w v xs
def freqCells (f : FreqD) : List Value := [.int .i64 f.trip, .int .i64 f.frm, .int .i64 f.to, .int .i64 f.every]
theorem freqCells_len (f : FreqD) : (freqCells f).length = 4 := rfl
abbrev FreqsIn (B : Nat) (w : World) (v : Value) (fs : List FreqD) : Prop := SlIn freqCells 4 B w v fs
theorem any_take {α : Type} {p : α → Bool} {l : List α} {k : Nat} {x : α} (h : l[k]? = some x) (h1 : (l.take k).any p = false) : (l.take (k + 1)).any p = p x := by
  rw [take_snoc_at h, List.any_append, h1]
  simp
theorem any_yes {α : Type} {p : α → Bool} {l : List α} {k : Nat} {x : α} (h : l[k]? = some x) (h1 : p x = true) : l.any p = true := List.any_eq_true.2 ⟨x, List.mem_of_getElem? h, h1⟩
/-- A trip: its cells, and the list that its calls read as. -/
structure TripD where
  id : ByteArray
  rt : Int
  cal : Int
  step : Bool
  v : Value
  calls : List CallD
def tripCells (t : TripD) : List Value := [.string t.id, .int .i64 t.rt, .int .i64 t.cal, .bool t.step, t.v]
theorem tripCells_len (t : TripD) : (tripCells t).length = 5 := rfl
/-- A slice that the call has just built reads as its list. -/
theorem slIn_new {α : Type} {cells : α → List Value} {sz : Nat} (hsz : ∀ x, (cells x).length = sz) (xs : List α) (w : World) (C : Array Value) (T : TypeId) (n cap : Nat) (hn : xs.length = n) (hc : n ≤ cap) (hcap : cap ≤ maxLen) (hC : C.toList = xs.flatMap cells) :
    SlIn cells sz (w.alloc (.cells C T)).heap.size (w.alloc (.cells C T)) (.slice (some ⟨w.heap.size, 0, none⟩) n cap) xs := by
  refine ⟨_, cap, by rw [hn], by omega, hcap, fun _ => ⟨w.heap.size, 0, rfl, by simp, fun i x hx j u hu => ?_⟩⟩
  rw [World.cell?_alloc_at (hn := rfl)]
  have := flat_get hsz hx hu
  rw [← hC, Array.getElem?_toList] at this
  rw [show 0 + i * sz + j = i * sz + j by omega]
  exact this
/-- What every law knows of a trip that it is given. -/
structure TripRd (B : Nat) (w : World) (t : TripD) : Prop where
  calls : CallsIn B w t.v t.calls
  ok : ∀ c ∈ t.calls, okT c
structure TripsRd (B : Nat) (w : World) (v : Value) (ts : List TripD) : Prop where
  sl : SlIn tripCells 5 B w v ts
  ok : ∀ t ∈ ts, TripRd B w t
theorem TripRd.bl {B : Nat} {w w' : World} {t : TripD} (h : TripRd B w t) (hb : Bl w w') (hB : B ≤ w.heap.size) : TripRd B w' t := ⟨h.calls.below (hb.mono hB), h.ok⟩
theorem TripsRd.bl {B : Nat} {w w' : World} {v : Value} {ts : List TripD} (h : TripsRd B w v ts) (hb : Bl w w') (hB : B ≤ w.heap.size) : TripsRd B w' v ts :=
  ⟨h.sl.below (hb.mono hB), fun t ht => (h.ok t ht).bl hb hB⟩

def thrCells (x : ThrD) : List Value := [.int .i64 x.frm, .int .i64 x.to]
theorem thrCells_len (x : ThrD) : (thrCells x).length = 2 := rfl
abbrev ThrIn (B : Nat) (w : World) (v : Value) (xs : List ThrD) : Prop := SlIn thrCells 2 B w v xs
def guaCells (x : GuaD) : List Value := [.int .i64 x.frm, .int .i64 x.to, .int .i64 x.stop]
theorem guaCells_len (x : GuaD) : (guaCells x).length = 3 := rfl
abbrev GuaIn (B : Nat) (w : World) (v : Value) (xs : List GuaD) : Prop := SlIn guaCells 3 B w v xs
section
variable {α : Type} {cells : α → List Value} {sz B : Nat} {w : World} {v : Value} {xs : List α}
/-- A slice's value. -/
theorem SlIn.val (h : SlIn cells sz B w v xs) : ∃ (a : Option Addr) (cap : Nat), v = .slice a xs.length cap ∧ xs.length ≤ cap ∧ cap ≤ 9223372036854775807 := by
  obtain ⟨a, cap, rfl, h1, h2, -⟩ := h
  exact ⟨a, cap, rfl, h1, by unfold maxLen at h2; exact h2⟩
/-- One element's cells, in a later world. -/
theorem SlIn.get {a : Option Addr} {n cap : Nat} (h : SlIn cells sz B w (.slice a n cap) xs) {k : Nat} (hk : k < xs.length) {w' : World} (hb : Bl w w') (hB : B ≤ w.heap.size) :
    ∃ (b o : Nat) (x : α), a = some ⟨b, o, none⟩ ∧ b < w'.heap.size ∧ xs[k]? = some x ∧ ∀ (j : Nat) (u : Value), (cells x)[j]? = some u → w'.cell? ⟨b, o + k * sz + j, none⟩ = some u := by
  obtain ⟨b, o, cap', x, hv, -, -, hbB, hx, hc⟩ := h.at hk
  simp only [Value.slice.injEq] at hv
  have := hb.size
  exact ⟨b, o, x, hv.1, by omega, hx, fun j u hu => ((bl_cell hb).1 _ _ (by omega)).trans (hc j u hu)⟩
/-- The beginning of a slice. -/
theorem SlIn.take {a : Option Addr} {n cap : Nat} (h : SlIn cells sz B w (.slice a n cap) xs) {k : Nat} (hk : k ≤ xs.length) : SlIn cells sz B w (.slice a k cap) (xs.take k) := by
  obtain ⟨a', cap', hv, h1, h2, h3⟩ := h
  simp only [Value.slice.injEq] at hv
  obtain ⟨rfl, -, rfl⟩ := hv
  have hl : (xs.take k).length = k := by rw [List.length_take]; omega
  refine ⟨a, cap, by rw [hl], by omega, h2, fun h0 => ?_⟩
  obtain ⟨b, o, ha, hbB, hc⟩ := h3 (by omega)
  refine ⟨b, o, ha, hbB, fun i x hx => ?_⟩
  have hik : i < (xs.take k).length := (List.getElem?_eq_some_iff.1 hx).1
  rw [List.getElem?_take_of_lt (by omega)] at hx
  exact hc i x hx
theorem SlIn.out (h : SlIn cells sz B w v xs) {w' : World} (hb : Bl w w') (hB : B ≤ w.heap.size) : SlIn cells sz B w' v xs := h.below (hb.mono hB)
end
/-- The trips as the checks look at them. -/
def trpOf (t : TripD) : TrpD := ⟨t.cal, t.calls⟩
theorem atT_of {ts : List TripD} {k : Int} {t : TripD} (h : ts[k.toNat]? = some t) : atT (ts.map trpOf) k = trpOf t := by
  unfold atT
  rw [List.getElem?_map, h]
  rfl
end Go.Proofs.Ytjdaikeljmccaaa
