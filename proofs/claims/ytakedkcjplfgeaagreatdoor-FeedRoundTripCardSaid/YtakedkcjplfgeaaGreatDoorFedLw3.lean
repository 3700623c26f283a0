/-
  THE LAWS OF FEED, THIRD PART: Parse with its parts laid open. Conditions: those of each contract.
-/
import Derived.Test.YtakedkcjplfgeaaGreatDoorExtra
import Derived.Test.YtakedkcjplfgeaaGreatDoorPkLw
import Derived.Test.YtakedkcjplfgeaaGreatDoorPkRecB
import Derived.Test.YtakedkcjplfgeaaGreatDoorFedEqC
namespace Go.Proofs.YtakedkcjplfgeaaGreatDoor
open Go.RowKit
open Frq Thr Tt Num Clk Dat Fld

/-- What Parse returns, the parts laid open. -/
def ParseO (w : World) (t : TtD) (n e : Int) (q : Ending) (w' : World) : Prop := ∃ (ts : List TripD) (a0 a1 a2 a3 a4 a5 a6 a7 a8 a9 : Option Addr) (k0 k1 k2 k3 k4 k5 k6 k7 k8 k9 : Nat),
  q = .returned (.tuple #[.agg #[.slice a0 t.stops.length k0, .slice a1 t.routes.length k1, .slice a2 t.cals.length k2, .slice a3 t.excs.length k3, .slice a4 ts.length k4, .slice a5 t.freqs.length k5, .slice a6 t.thrus.length k6, .slice a7 t.guars.length k7, .slice a8 t.paths.length k8, .slice a9 t.fares.prods.length k9, .int .i64 t.fares.disc, .int .i64 t.fares.within, .int .i64 t.fares.cap], .int .i64 n, .int .i64 e]) ∧ Hid (TtRd w'.heap.size w' ⟨.slice a0 t.stops.length k0, .slice a1 t.routes.length k1, .slice a2 t.cals.length k2, .slice a3 t.excs.length k3, .slice a4 ts.length k4, .slice a5 t.freqs.length k5, .slice a6 t.thrus.length k6, .slice a7 t.guars.length k7, .slice a8 t.paths.length k8, .slice a9 t.fares.prods.length k9⟩ ts t) ∧ (TtOk t ∧ Hid (TtLo w.heap.size ⟨.slice a0 t.stops.length k0, .slice a1 t.routes.length k1, .slice a2 t.cals.length k2, .slice a3 t.excs.length k3, .slice a4 ts.length k4, .slice a5 t.freqs.length k5, .slice a6 t.thrus.length k6, .slice a7 t.guars.length k7, .slice a8 t.paths.length k8, .slice a9 t.fares.prods.length k9⟩ ts)) ∧ Hid (Bl w w')
theorem fparse_o (txt : ByteArray) (hs : txt.size ≤ 4294967280) (m : Int) (t : TtD) (n e : Int) (H : Hid (parseF txt.data.toList = (t, n, e))) (w : World) (env : Env m w) :
    Calls Tryz.prog 10 #[.string txt] w fun q w' => ParseO w t n e q w' := (fparse_x txt hs m t n e H w env).mono fun q w' hq => by
  obtain ⟨V, ts, rfl, rd, ⟨ok, lo⟩, b⟩ := hq
  obtain ⟨v0, v1, v2, v3, v4, v5, v6, v7, v8, v9⟩ := V
  obtain ⟨a0, k0, (rfl : v0 = _), -, -⟩ := rd.stops.val
  obtain ⟨a1, k1, (rfl : v1 = _), -, -⟩ := rd.routes.val
  obtain ⟨a2, k2, (rfl : v2 = _), -, -⟩ := rd.cals.val
  obtain ⟨a3, k3, (rfl : v3 = _), -, -⟩ := rd.excs.val
  obtain ⟨a4, k4, (rfl : v4 = _), -, -⟩ := rd.trips.sl.val
  obtain ⟨a5, k5, (rfl : v5 = _), -, -⟩ := rd.freqs.val
  obtain ⟨a6, k6, (rfl : v6 = _), -, -⟩ := rd.thrus.val
  obtain ⟨a7, k7, (rfl : v7 = _), -, -⟩ := rd.guars.val
  obtain ⟨a8, k8, (rfl : v8 = _), -, -⟩ := rd.paths.val
  obtain ⟨a9, k9, (rfl : v9 = _), -, -⟩ := rd.prods.val
  simp only [List.length_map] at rd lo
  refine ⟨ts, a0, a1, a2, a3, a4, a5, a6, a7, a8, a9, k0, k1, k2, k3, k4, k5, k6, k7, k8, k9, ?_, rd, ⟨ok, lo⟩, b⟩
  simp only [ttV, List.length_map]
theorem puts_bl {w0 : World} {b : Nat} (hb : w0.heap.size ≤ b) : ∀ (L : List Value) (i : Nat) {w : World}, Bl w0 w → Bl w0 (puts w b i L)
  | [], _, _, h => h
  | v :: L, i, _, h => puts_bl hb L (i + 1) (bl_set h hb v)
theorem puts_blk {b : Nat} {T : TypeId} : ∀ (L : List Value) (i : Nat) {w : World} {C : Array Value}, w.heap[b]? = some (.cells C T (0, 0)) → (puts w b i L).heap[b]? = some (.cells (putC C i L) T (0, 0))
  | [], _, _, _, h => h
  | v :: L, i, _, _, h => puts_blk L (i + 1) (blk_set h i v)
theorem puts_size : ∀ (L : List Value) (b i : Nat) (w : World), (puts w b i L).heap.size = w.heap.size
  | [], _, _, _ => rfl
  | v :: L, b, i, w => (puts_size L b (i + 1) _).trans (by simp)
theorem puts_far {b : Nat} : ∀ (L : List Value) (i : Nat) {w : World} {c o : Nat}, c ≠ b → (puts w b i L).cell? ⟨c, o, none⟩ = w.cell? ⟨c, o, none⟩
  | [], _, _, _, _, _ => rfl
  | v :: L, i, w, c, o, h => (puts_far L (i + 1) h).trans (World.cell?_setCell_other w ⟨b, i, none⟩ ⟨c, o, none⟩ v (fun e => h (congrArg Addr.block e).symm))
theorem ext_l (s : ByteArray) (i j : Nat) : (s.extract i j).data.toList = (s.data.toList.take j).drop i := by
  rw [ByteArray.data_extract, Array.toList_extract, List.extract_eq_take_drop, List.drop_take]
theorem concat_list (a b : ByteArray) : (a ++ b).data.toList = a.data.toList ++ b.data.toList := by simp
end Go.Proofs.YtakedkcjplfgeaaGreatDoor
