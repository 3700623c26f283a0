/-
  THE CONTRACTS OF CLOCK THAT DATE CALLS: Valid, Split, Format, and the reference's. Conditions: those of each contract.
-/
import Derived.Test.YthdadalmgldppaaDoorRows
import Derived.Test.YthdadalmgldppaaDoorClkPlain
import Derived.Test.YthdadalmgldppaaDoorBase
import Derived.WalkSpells
import Derived.WalkLawsBesides
import Derived.Laws.BytesArg
import Derived.Lib.Hide
import Derived.Lib.SmallJoins
namespace Go.Proofs.YthdadalmgldppaaDoor.Da
open Go.RowKit
open Num Clk

theorem ret_int {k : IntKind} {a b : Int} (h : a = b) : Ending.returned (.int k a) = .returned (.int k b) := by rw [h]
theorem ret_bool {a b : Bool} (h : a = b) : Ending.returned (.bool a) = .returned (.bool b) := by rw [h]
theorem ret_str {a b : ByteArray} (h : a = b) : Ending.returned (.string a) = .returned (.string b) := by rw [h]
theorem ret2_str {a b : ByteArray} {x : Value} (h : a = b) : Ending.returned (.tuple #[.string a, x]) = .returned (.tuple #[.string b, x]) := by rw [h]
theorem ret2_int {k : IntKind} {a b : Int} {x : Value} (h : a = b) : Ending.returned (.tuple #[.int k a, x]) = .returned (.tuple #[.int k b, x]) := by rw [h]
/-- A string as the list of its bytes. -/
abbrev str (l : List UInt8) : Value := .string ⟨l.toArray⟩
theorem conv1 (W : World) (b : Nat) (x : Int) (h0 : W.cell? ⟨b, 0, none⟩ = some (.int .u8 x)) :
    (convert 80 9 (.slice (some ⟨b, 0, none⟩) 1 1)).run Tryd.prog W = .ok (.string ⟨#[UInt8.ofNat x.toNat]⟩) W :=
  run_convert_bytes_arg W 80 5 Tryd.underlying80 Tryd.underlying5 b 0 1 1 [x] rfl (by
    intro i hi
    match i, hi with
    | 0, _ => simpa using h0) 9 Tryd.underlying9
theorem conv2 (W : World) (b : Nat) (x y : Int) (h0 : W.cell? ⟨b, 0, none⟩ = some (.int .u8 x)) (h1 : W.cell? ⟨b, 1, none⟩ = some (.int .u8 y)) :
    (convert 80 9 (.slice (some ⟨b, 0, none⟩) 2 2)).run Tryd.prog W = .ok (.string ⟨#[UInt8.ofNat x.toNat, UInt8.ofNat y.toNat]⟩) W :=
  run_convert_bytes_arg W 80 5 Tryd.underlying80 Tryd.underlying5 b 0 2 2 [x, y] rfl (by
    intro i hi
    match i, hi with
    | 0, _ => simpa using h0
    | 1, _ => simpa using h1) 9 Tryd.underlying9
def validB (t : Int) : Bool := decide (0 ≤ t) && decide (t ≤ 172800)
theorem valid_yes {t : Int} (h0 : 0 ≤ t) (h1 : t ≤ 172800) : Hid (validB t = true) := by show _ = _; simp [validB, h0, h1]
theorem valid_no {t : Int} (h : ¬ (0 ≤ t ∧ t ≤ 172800)) : Hid (validB t = false) := by
  show _ = _
  by_cases h0 : 0 ≤ t
  · have : ¬ t ≤ 172800 := fun k => h ⟨h0, k⟩
    simp [validB, this]
  · simp [validB, h0]
/-- The bytes of some strings, one after the other. -/
def cat (ss : List ByteArray) : List UInt8 := (ss.map fun s => s.data.toList).flatten
theorem cat_snoc (ss : List ByteArray) (k : Nat) (h : k < ss.length) : cat (ss.take (k + 1)) = cat (ss.take k) ++ (ss.getD k ByteArray.empty).data.toList := by
  have e : ss.getD k ByteArray.empty = ss[k] := by simp [List.getD, h]
  unfold cat
  rw [e, List.take_succ_eq_append_getElem h, List.map_append, List.flatten_append]
  simp only [List.map_cons, List.map_nil, List.flatten_cons, List.flatten_nil, List.append_nil]
theorem cat_take_le (ss : List ByteArray) (k : Nat) : (cat (ss.take k)).length ≤ (cat ss).length := by
  have : cat ss = cat (ss.take k) ++ cat (ss.drop k) := by
    unfold cat
    rw [← List.flatten_append, ← List.map_append, List.take_append_drop]
  rw [this, List.length_append]
  omega
theorem lit_cells (w : World) (ss : List ByteArray) (c : Array Value) (T : TypeId) (h : c = (ss.map Value.string).toArray) : ∀ i, i < ss.length → (w.alloc (.cells c T)).cell? ⟨w.heap.size, i, none⟩ = some (.string (ss.getD i ByteArray.empty)) := by
  intro i hi
  subst h
  rw [World.cell?_alloc_at (hn := rfl)]
  simp [List.getD, hi]
theorem cat5 (a b c d e : List UInt8) : cat [⟨a.toArray⟩, ⟨b.toArray⟩, ⟨c.toArray⟩, ⟨d.toArray⟩, ⟨e.toArray⟩] = a ++ (b ++ (c ++ (d ++ e))) := by simp [cat]
theorem bytes_get (s : ByteArray) (k : Nat) (h : k < s.size) : s.data.toList[k]'(by simpa using h) = s[k]'h := by simp; rfl
/-- A byte of a string, for the walk to take. -/
theorem idx_c (s : ByteArray) (z : Int) (i : Nat) (hz : z = (i : Int)) (hi : i < s.size) (W : World) :
    (Instr.index 9 (.string s) (.int .i64 z)).run Tryd.prog W = .ok (.int .u8 ((s[i]'hi).toNat : Int)) W := by
  subst hz
  rw [run_index_string W 9 s .i64 _ Tryd.underlying9, dif_pos ⟨by omega, by omega⟩]
  rfl
theorem info_byte : (Tryd.prog.info? 5).map (fun i => (i.zero, i.size, i.bytes)) = some (some (.int .u8 0), 1, 1) := by kernel_rfl
end Go.Proofs.YthdadalmgldppaaDoor.Da
