/-
  THE PLAIN WRAP FOR A ROW THAT LISTS VARIABLES: what is laid, and the world's shape, handed to the walk. Conditions: none.
  THE CONTRACTS OF MESSAGE, PART R: SameTarget, status, Supersedes, Equal, of the program; Equal of the reference. Conditions: those of each contract.
  THE CONTRACTS OF MESSAGE, PART S: Equal, of the program and of the reference; SameTarget of the reference. Conditions: those of each contract.
  THE LAWS OF MESSAGE, FIRST PART: exampleHolds, large. Conditions: those of each contract.
  THE LAWS OF MESSAGE, SECOND PART: large; the law of the order. Conditions: those of each contract.
  THE LAWS OF MESSAGE, SIXTH PART: the law of parsing. Conditions: those of each contract.
  A MESSAGE AMONG THE ARGUMENTS, AND THE LAID WORDS. Conditions: those of each lemma.
  MessageParses: for every input the call returns true, and each argument reads afterwards as it read before. Conditions: none beyond the row's own.
-/
import Derived.Test.YthdadalmgldppaaDoorRows
import Derived.Handed
import Derived.SizedLaws
import Derived.Test.YthdadalmgldppaaDoorMsgWalksK
import Derived.Test.YthdadalmgldppaaDoorMsgMT
import Derived.Deep.RegionHeld3
import Derived.Test.YthdadalmgldppaaDoorMsgRead
import Derived.Deep.Slices
import Derived.Deep.Fields
import Derived.ChangeSame
import Derived.Lib.SmallJoins
import Derived.ProofKit
import Derived.OpenShut
import Derived.MakeChecks
import Derived.ShutString
import Derived.ChangeOld
import Derived.Carry
import Derived.Test.YthdadalmgldppaaDoorCards
import Derived.Test.YthdadalmgldppaaDoorTie
import Derived.Lay
import Derived.LaidOnce
import Derived.SevenTiedAt
import Derived.Shelf.Vars
import Derived.HandedShaped
namespace Go.Proofs.YthdadalmgldppaaDoor
open Go
section
variable {H : Type} {enc : TypeId × Value → H}
theorem handed_laid {a : Assume} {C : Checked} {os : Os} {f : FuncId} {fn : Func} {s : ChangeSpec} {conds : List PathCond} {apart fresh handsOn again : Bool} {X : World → Array Value → Prop}
    (hX : ∀ (w w' : World) (args : Array Value), w.heap = w'.heap → X w args → X w' args)
    (own : ownKnob C.prog.godebug = none) (started : os.Started) (noInit : C.prog.inits.idxOf? f = none) (hfn : C.prog.funcs[f]? = some fn)
    (witness : ∃ (w : World) (tape : Tape) (i : Input), w.os = os ∧ (w.forCall tape i).Shaped C.prog ∧ i.vars = [] ∧ Input.okWide C.prog (w.forCall tape i) .any w.heap.size f i ∧
      ((s.pre enc C.prog fn conds apart (w.forCall tape i).memory i.args ∧ X (w.forCall tape i).memory i.args) ∧ sizedMet enc C.prog fn (OpenSpec.ofChange s) apart (w.forCall tape i).memory i.args) ∧ a.holds C.prog (lone (Frame.enter C.prog f i.args .normal) [] (w.forCall tape i)))
    (contract : ∀ (W : World) (base : Nat) (args : Array Value) (ds gs : List (DataW H)) (before : List MemPlace),
      (∀ (j : Nat) t v, fn.params[j]? = some t → args[j]? = some v → Value.okWide C.prog W .any base t v) →
      DataW.Whole enc C.prog fn.params.toList s.vars apart W args.toList ds gs before →
      (DataW.weightsEach C.prog (fn.params.toList ++ s.plain.varTypes C.prog) (ds ++ gs)).all (· ≤ reachBytes) = true → X W args → W.ShapedOpen C.prog →
      a.holds C.prog (lone (Frame.enter C.prog f args .normal) [] W) →
      Calls C.prog f args W fun e W' => ∃ v, e = .returned v ∧ s.post enc C.prog fn apart fresh handsOn again W args v W') :
    ReturnsInHanded a C os f .any (fun w args => (s.pre enc C.prog fn conds apart w args ∧ X w args) ∧ sizedMet enc C.prog fn (OpenSpec.ofChange s) apart w args) (s.post enc C.prog fn apart fresh handsOn again) := by
  refine returnsInHanded_of_calls own started noInit witness ?_
  intro w tape i _ hsh _ hok hpre hholds
  obtain ⟨_, _, _, fn', hfn', _, _, _, _, hval⟩ := hok
  have e : fn' = fn := Option.some.inj (hfn'.symm.trans hfn)
  subst e
  obtain ⟨⟨⟨ds, gs, before, hw, hc⟩, hx⟩, hz⟩ := hpre
  have hw' := DataW.Whole.of_heap (w' := w.forCall tape i) (by rfl) hw
  refine (contract (w.forCall tape i) w.heap.size i.args ds gs before hval hw' (hz.weights hw) (hX _ _ _ (by rfl) hx) hsh hholds).mono fun e W' ⟨v, he, hp⟩ => ?_
  subst he
  exact ChangeSpec.post_blind hp
end
end Go.Proofs.YthdadalmgldppaaDoor
namespace Go.Proofs.YthdadalmgldppaaDoor
open Go.RowKit
open Msg

theorem same_c (a b : MsgD) (va vb : Value) (r : Bool) (H : Hid (sameT a b = r)) (w : World) :
    Calls Tryd.prog 19 #[msgV a va, msgV b vb] w fun q w' => q = .returned (.bool r) ∧ Bl w w' := by
  go_enter Tryd.func19, Tryd.ntmps19
  go_wp2
  all_goals
    go_ret
    refine ⟨ret_bool ?_, bl_alloc (bl_alloc (bl_refl _) _) _⟩
    rw [← H.out]
    unfold sameT
    simp_all
theorem status_c (k : Int) (w : World) :
    Calls Tryd.prog 49 #[.int .i64 k] w fun q w' => q = .returned (.bool (statB k)) ∧ w = w' := by
  go_enter Tryd.func49, Tryd.ntmps49
  go_wp2
  all_goals
    go_ret
    refine ⟨ret_bool ?_, rfl⟩
    unfold statB
    simp_all
theorem two_boxes (a b : MsgD) (va vb : Value) (w w' : World) (hb : Bl ((w.alloc (.cells (msgCells a va) 24)).alloc (.cells (msgCells b vb) 24)) w') : MsgAt w.heap.size 0 a va w' ∧ MsgAt (w.heap.size + 1) 0 b vb w' := by
  have h1 := (msgAt_new a va w).next (bl_alloc (bl_refl _) (.cells (msgCells b vb) 24)) (by simp)
  have h2 := msgAt_new b vb (w.alloc (.cells (msgCells a va) 24))
  refine ⟨h1.next hb (by simp; omega), ?_⟩
  have h3 := h2.next hb (by simp)
  simpa using h3
set_option maxRecDepth 20000 in
set_option maxHeartbeats 1000000 in
theorem super_c (a b : MsgD) (va vb : Value) (r : Bool) (H : Hid (superB a b = r)) (w : World) :
    Calls Tryd.prog 18 #[msgV a va, msgV b vb] w fun q w' => q = .returned (.bool r) ∧ Bl w w' := by
  obtain ⟨rs, HS⟩ : ∃ rs, Hid (sameT a b = rs) := ⟨_, rfl⟩
  obtain ⟨rk, HK⟩ : ∃ rk, Hid (statB a.kind = rk) := ⟨_, rfl⟩
  have hk := fun w => status_c a.kind w
  rw [HK.out] at hk
  have facts : superB a b = (a.src == b.src && (rs && (decide (b.seq < a.seq) && (rk || (a.kind == b.kind && a.call == b.call))))) := by rw [← HS.out, ← HK.out]; rfl
  rw [facts] at H
  clear facts
  cases h1 : (a.src == b.src) with
  | false =>
    have HF := Lib.hid (show false = r by rw [← H.out, h1]; rfl)
    clear H
    go_enter Tryd.func18, Tryd.ntmps18
    go_wp2
    go_ret
    exact ⟨ret_bool HF.out, bl_alloc (bl_alloc (bl_refl _) _) _⟩
  | true =>
  rw [h1, Bool.true_and] at H
  cases rs with
  | false =>
    have HF := Lib.hid (show false = r by rw [← H.out]; rfl)
    clear H
    go_enter Tryd.func18, Tryd.ntmps18
    go_wp2_with (go_at_call 19; refine (same_c a b va vb _ HS _).mono ?_)
    rintro e w2 ⟨rfl, b2⟩
    have B2 := Lib.hid (bl_next (bl_alloc (bl_alloc (bl_refl _) _) _) b2)
    clear b2
    go_wp2
    go_ret
    exact ⟨ret_bool HF.out, B2.out⟩
  | true =>
  rw [Bool.true_and] at H
  by_cases h2 : b.seq < a.seq
  · rw [decide_eq_true h2, Bool.true_and] at H
    cases rk with
    | true =>
      have HF := Lib.hid (show true = r by rw [← H.out]; rfl)
      clear H
      go_enter Tryd.func18, Tryd.ntmps18
      go_wp2_with (go_at_call 19; refine (same_c a b va vb _ HS _).mono ?_)
      rintro e w2 ⟨rfl, b2⟩
      obtain ⟨⟨-, c1, -, -, c4, -, -, -, c8, -⟩, ⟨-, d1, -, -, d4, -, -, -, d8, -⟩⟩ := (two_boxes a b va vb w w2 b2).imp MsgAt.all MsgAt.all
      have B2 := Lib.hid (bl_next (bl_alloc (bl_alloc (bl_refl _) _) _) b2)
      clear b2
      go_wp2_with (go_at_call 49; refine (hk _).mono ?_)
      rintro e w3 ⟨rfl, rfl⟩
      go_wp2
      go_ret
      exact ⟨ret_bool HF.out, B2.out⟩
    | false =>
      rw [Bool.false_or] at H
      cases h3 : (a.kind == b.kind) with
      | false =>
        have HF := Lib.hid (show false = r by rw [← H.out, h3]; rfl)
        clear H
        go_enter Tryd.func18, Tryd.ntmps18
        go_wp2_with (go_at_call 19; refine (same_c a b va vb _ HS _).mono ?_)
        rintro e w2 ⟨rfl, b2⟩
        obtain ⟨⟨-, c1, -, -, c4, -, -, -, c8, -⟩, ⟨-, d1, -, -, d4, -, -, -, d8, -⟩⟩ := (two_boxes a b va vb w w2 b2).imp MsgAt.all MsgAt.all
        have B2 := Lib.hid (bl_next (bl_alloc (bl_alloc (bl_refl _) _) _) b2)
        clear b2
        go_wp2_with (go_at_call 49; refine (hk _).mono ?_)
        rintro e w3 ⟨rfl, rfl⟩
        go_wp2
        go_ret
        exact ⟨ret_bool HF.out, B2.out⟩
      | true =>
        rw [h3, Bool.true_and] at H
        go_enter Tryd.func18, Tryd.ntmps18
        go_wp2_with (go_at_call 19; refine (same_c a b va vb _ HS _).mono ?_)
        rintro e w2 ⟨rfl, b2⟩
        obtain ⟨⟨-, c1, -, -, c4, -, -, -, c8, -⟩, ⟨-, d1, -, -, d4, -, -, -, d8, -⟩⟩ := (two_boxes a b va vb w w2 b2).imp MsgAt.all MsgAt.all
        have B2 := Lib.hid (bl_next (bl_alloc (bl_alloc (bl_refl _) _) _) b2)
        clear b2
        go_wp2_with (go_at_call 49; refine (hk _).mono ?_)
        rintro e w3 ⟨rfl, rfl⟩
        go_wp2
        go_ret
        exact ⟨ret_bool H.out, B2.out⟩
  · have HF := Lib.hid (show false = r by rw [← H.out, decide_eq_false h2]; rfl)
    clear H
    go_enter Tryd.func18, Tryd.ntmps18
    go_wp2_with (go_at_call 19; refine (same_c a b va vb _ HS _).mono ?_)
    rintro e w2 rfl b2
    obtain ⟨⟨-, c1, -, -, c4, -, -, -, c8, -⟩, ⟨-, d1, -, -, d4, -, -, -, d8, -⟩⟩ := (two_boxes a b va vb w w2 b2).imp MsgAt.all MsgAt.all
    have B2 := Lib.hid (bl_next (bl_alloc (bl_alloc (bl_refl _) _) _) b2)
    clear b2
    go_wp2
    go_ret
    exact ⟨ret_bool HF.out, B2.out⟩
end Go.Proofs.YthdadalmgldppaaDoor
namespace Go.Proofs.YthdadalmgldppaaDoor
open Go.RowKit
open Msg

theorem rsame_c (a b : MsgD) (va vb : Value) (r : Bool) (H : Hid (sameT a b = r)) (w : World) :
    Calls Tryd.prog 20 #[msgV a va, msgV b vb] w fun q w' => q = .returned (.bool r) ∧ Bl w w' := by
  go_enter Tryd.func20, Tryd.ntmps20
  go_wp2
  all_goals
    go_ret
    refine ⟨ret_bool ?_, bl_alloc (bl_alloc (bl_refl _) _) _⟩
    rw [← H.out]
    unfold sameT
    simp_all
theorem msg_eq {a b : MsgD} (h1 : (a.src == b.src) = true) (h2 : (a.seq == b.seq) = true) (h3 : (a.iss == b.iss) = true) (h4 : (a.exp == b.exp) = true) (h5 : (a.kind == b.kind) = true) (h6 : sameT a b = true)
    (h7 : (a.call == b.call) = true) (h8 : (a.secs == b.secs) = true) (h9 : (a.route == b.route) = true) (h10 : (a.step == b.step) = true) : decide (a = b) = decide (a.calls = b.calls) := by
  obtain ⟨a1, a2, a3, a4, a5, a6, a7, a8, a9, a10, a11, a12, a13⟩ := a
  obtain ⟨b1, b2, b3, b4, b5, b6, b7, b8, b9, b10, b11, b12, b13⟩ := b
  simp only [beq_iff_eq, sameT, Bool.and_eq_true] at h1 h2 h3 h4 h5 h6 h7 h8 h9 h10
  obtain ⟨h61, h62, h63⟩ := h6
  subst h1 h2 h3 h4 h5 h61 h62 h63 h7 h8 h9 h10
  simp
set_option maxRecDepth 20000 in
set_option maxHeartbeats 4000000 in
/-- Equal of the reference at two messages that are equal. -/
theorem requal_same (a b : MsgD) (h : Hid (a = b)) (va vb : Value) (B : Nat) (w : World) (ha : CallsIn B w va a.calls) (hb : CallsIn B w vb b.calls) (hB : B ≤ w.heap.size) :
    Calls Tryd.prog 17 #[msgV a va, msgV b vb] w fun q w' => q = .returned (.bool true) ∧ Bl w w' := by
  have HA := Lib.hid ha
  have HBB := Lib.hid hb
  clear ha hb
  have HS := Lib.hid (show sameT a b = true by rw [h.out]; simp [sameT])
  have HF := Lib.hid (show decide (a.calls = b.calls) = true by rw [h.out]; simp)
  have h1 : (a.src == b.src) = true := by rw [h.out]; simp
  have h2 : (a.seq == b.seq) = true := by rw [h.out]; simp
  have h3 : (a.iss == b.iss) = true := by rw [h.out]; simp
  have h4 : (a.exp == b.exp) = true := by rw [h.out]; simp
  have h5 : (a.kind == b.kind) = true := by rw [h.out]; simp
  have h6 : (a.call == b.call) = true := by rw [h.out]; simp
  have h7 : (a.secs == b.secs) = true := by rw [h.out]; simp
  have h8 : (a.route == b.route) = true := by rw [h.out]; simp
  have h9 : (a.step == b.step) = true := by rw [h.out]; simp
  go_enter Tryd.func17, Tryd.ntmps17
  go_wp2_with (go_at_call 20; refine (rsame_c a b va vb _ HS _).mono ?_)
  rintro e w2 ⟨rfl, b2⟩
  obtain ⟨⟨c0, c1, c2, c3, c4, c5, c6, c7, c8, c9, c10, c11, c12⟩, ⟨d0, d1, d2, d3, d4, d5, d6, d7, d8, d9, d10, d11, d12⟩⟩ := (two_boxes a b va vb w w2 b2).imp MsgAt.all MsgAt.all
  have B2 := Lib.hid (bl_next (bl_alloc (bl_alloc (bl_refl _) _) _) b2)
  clear b2
  go_wp2_with (go_at_call 48; refine (reqCalls_c va vb a.calls b.calls true HF B _ (HA.out.below (B2.out.mono hB)) (HBB.out.below (B2.out.mono hB)) (Nat.le_trans hB B2.out.size)).mono ?_)
  rintro e w3 ⟨rfl, b3⟩
  go_wp2
  go_ret
  exact ⟨rfl, bl_next B2.out b3⟩
end Go.Proofs.YthdadalmgldppaaDoor
namespace Go.Proofs.YthdadalmgldppaaDoor
open Go.RowKit
open Msg Num Fld Dat

abbrev lineA : List UInt8 := [50, 44, 55, 44, 49, 48, 48, 48, 44, 50, 48, 48, 48, 44, 100, 101, 108, 97, 121, 44, 84, 49, 44, 50, 48, 50, 53, 45, 49, 49, 45, 49, 53, 44, 48, 44, 51, 44, 49, 50, 48]
abbrev lineS : List UInt8 := [50, 44, 55, 44, 49, 48, 48, 48, 44, 50, 48, 48, 48, 44, 100, 101, 108, 97, 121, 44, 84, 49, 44, 50, 48, 50, 53, 45, 49, 49, 45, 49, 53, 44, 48]
abbrev lineB : List UInt8 := [48, 44, 49, 44, 53, 44, 54, 44, 97, 100, 100, 44, 120, 44, 50, 48, 48, 48, 45, 48, 49, 45, 48, 49, 44, 48, 44, 49, 44, 121, 101, 115, 44, 48, 32, 49, 48, 48, 32, 49, 48, 48, 32, 98, 111, 97, 114, 100, 44, 50, 32, 50, 48, 48, 32, 50, 48, 48, 32, 97, 108, 105, 103, 104, 116]
abbrev mA : MsgD := ⟨2, 7, 1000, 2000, 1, [84, 49], 9450, 0, 3, 120, 0, false, []⟩
abbrev mB : MsgD := ⟨0, 1, 5, 6, 5, [120], 0, 0, 0, 0, 1, true, [⟨0, 100, 100, true, false⟩, ⟨2, 200, 200, false, true⟩]⟩
abbrev mC : MsgD := ⟨2, 8, 0, 0, 2, [84, 49], 9450, 0, 0, 0, 0, false, []⟩
theorem exA : parseM lineA = (mA, 0) := by decide +kernel
theorem exS : parseM lineS = (zeroM, 3) := by decide +kernel
theorem exB : parseM lineB = (mB, 0) := by decide +kernel
theorem exF : formatM mB = (lineB, 0) := by decide +kernel
theorem exK : checkM mA = 0 := by decide +kernel
theorem exS1 : superB mC mA = true := by decide +kernel
theorem exS2 : superB mA mC = false := by decide +kernel
theorem okB : OkM mB := (parse_ok exB)
/-- A list of calls that is empty, as a value. -/
theorem calls_nil {B : Nat} {w : World} {v : Value} (h : CallsIn B w v []) : ∃ (a : Option Addr) (c : Nat), v = .slice a 0 c := by
  obtain ⟨a, c, rfl, -⟩ := h
  exact ⟨a, c, rfl⟩
set_option maxRecDepth 20000 in
set_option maxHeartbeats 8000000 in
theorem example_c (w : World) (hw : WordsAt w) :
    Calls Tryd.prog 12 #[] w fun q w' => q = .returned (.bool true) ∧ Bl w w' := by
  have HW := Lib.hid hw
  clear hw
  go_enter Tryd.func12, Tryd.ntmps12
  go_wp2_with (go_at_call 15; refine (mparse_c ⟨lineA.toArray⟩ (by decide) mA 0 (by show _ = _; exact exA) _ HW.out).mono ?_)
  rintro q1 w1 v1 rfl c1 b1
  obtain ⟨a1, n1, rfl⟩ := calls_nil c1
  have X1 : Bl w (w1.alloc (.cells (msgCells mA (.slice a1 0 n1)) 24)) := bl_alloc b1 _
  have W1 := Lib.hid (HW.out.next X1)
  have B1 := Lib.hid X1
  have C1 := Lib.hid c1
  clear b1 c1 HW X1
  go_wp2_with (go_at_call 15; refine (mparse_c ⟨lineS.toArray⟩ (by decide) zeroM 3 (by show _ = _; exact exS) _ W1.out).mono ?_)
  rintro q2 w2 ⟨v2, rfl, c2, b2⟩
  obtain ⟨a2, n2, rfl⟩ := calls_nil c2
  have M2 := Lib.hid (blk_bl (heap_alloc_new w1 (.cells (msgCells mA (.slice a1 0 n1)) 24)) b2)
  have W2 := Lib.hid ((W1.out.next b2).next (bl_alloc (bl_refl _) (.cells (msgCells zeroM (.slice a2 0 n2)) 24)))
  have B2 := Lib.hid (bl_alloc (bl_next B1.out b2) (.cells (msgCells zeroM (.slice a2 0 n2)) 24))
  have C2 := Lib.hid (C1.out.below (bl_next (bl_alloc (bl_refl w1) _) b2))
  have h12 : w1.heap.size < w2.heap.size := by have := b2.size; simp at this; omega
  clear b2 c2 W1 B1 C1
  go_wp2_with (go_at_call 15; refine (mparse_c ⟨lineB.toArray⟩ (by decide) mB 0 (by show _ = _; exact exB) _ W2.out).mono ?_)
  rintro q3 w3 v3 rfl c3 b3
  obtain ⟨pb, po, pc, rfl, l1, l2, l3, hc⟩ := c3.open (by decide)
  have M3 := Lib.hid (blk_bl M2.out (bl_next (bl_alloc (bl_refl _) _) b3))
  have W3 := Lib.hid ((W2.out.next b3).next (bl_alloc (bl_refl _) (.cells (msgCells mB (.slice (some ⟨pb, po, none⟩) 2 pc)) 24)))
  have B3 := Lib.hid (bl_alloc (bl_next B2.out b3) (.cells (msgCells mB (.slice (some ⟨pb, po, none⟩) 2 pc)) 24))
  have C3 := Lib.hid (C2.out.below ((bl_next (bl_alloc (bl_refl w2) _) b3).mono (Nat.le_of_lt h12)))
  have D3 := Lib.hid c3
  have HC3 := Lib.hid hc
  have h23 : w2.heap.size < w3.heap.size := by have := b3.size; simp at this; omega
  clear b3 c3 W2 B2 C2 M2 hc
  go_wp2_with (go_at_call 13; refine (format_c mB (.slice (some ⟨pb, po, none⟩) 2 pc) lineB 0 (by show _ = _; exact exF) okB (by decide) w3.heap.size _ W3.out (D3.out.below (bl_alloc (bl_refl _) _)) (by simp)).mono ?_)
  rintro q4 w4 ⟨rfl, b4⟩
  have hs34 : w3.heap.size < w4.heap.size := by have := b4.size; simp at this; omega
  have M4 := Lib.hid (blk_bl M3.out (bl_next (bl_alloc (bl_refl _) _) b4))
  have N4 := Lib.hid (blk_bl (heap_alloc_new w3 (.cells (msgCells mB (.slice (some ⟨pb, po, none⟩) 2 pc)) 24)) b4)
  have B4 := Lib.hid (bl_next B3.out b4)
  have C4 := Lib.hid (C3.out.below ((bl_next (bl_alloc (bl_refl w3) (.cells (msgCells mB (.slice (some ⟨pb, po, none⟩) 2 pc)) 24)) b4).mono (by omega)))
  have HC4 := Lib.hid (show ∀ (j : Nat) (u : Value), (callCells ⟨2, 200, 200, false, true⟩)[j]? = some u → w4.cell? ⟨pb, po + 1 * 5 + j, none⟩ = some u from fun j u hu => by rw [(bl_cell (bl_next (bl_alloc (bl_refl w3) (.cells (msgCells mB (.slice (some ⟨pb, po, none⟩) 2 pc)) 24)) b4)).1 _ _ l3]; exact HC3.out 1 _ rfl j u hu)
  clear b4 M3 B3 C3 D3 HC3 W3
  have m0 : w4.cell? ⟨w1.heap.size, 0, none⟩ = some (.int .i64 2) := blk_cell M4.out 0 _ rfl
  have m1 : w4.cell? ⟨w1.heap.size, 1, none⟩ = some (.int .i64 7) := blk_cell M4.out 1 _ rfl
  have m2 : w4.cell? ⟨w1.heap.size, 2, none⟩ = some (.int .i64 1000) := blk_cell M4.out 2 _ rfl
  have m3 : w4.cell? ⟨w1.heap.size, 3, none⟩ = some (.int .i64 2000) := blk_cell M4.out 3 _ rfl
  have m4 : w4.cell? ⟨w1.heap.size, 4, none⟩ = some (.int .i64 1) := blk_cell M4.out 4 _ rfl
  have m5 : w4.cell? ⟨w1.heap.size, 5, none⟩ = some (str [84, 49]) := blk_cell M4.out 5 _ rfl
  have m6 : w4.cell? ⟨w1.heap.size, 6, none⟩ = some (.int .i64 9450) := blk_cell M4.out 6 _ rfl
  have m7 : w4.cell? ⟨w1.heap.size, 7, none⟩ = some (.int .i64 0) := blk_cell M4.out 7 _ rfl
  have m8 : w4.cell? ⟨w1.heap.size, 8, none⟩ = some (.int .i64 3) := blk_cell M4.out 8 _ rfl
  have m9 : w4.cell? ⟨w1.heap.size, 9, none⟩ = some (.int .i64 120) := blk_cell M4.out 9 _ rfl
  have m10 : w4.cell? ⟨w1.heap.size, 10, none⟩ = some (.int .i64 0) := blk_cell M4.out 10 _ rfl
  have m11 : w4.cell? ⟨w1.heap.size, 11, none⟩ = some (.bool false) := blk_cell M4.out 11 _ rfl
  have m12 : w4.cell? ⟨w1.heap.size, 12, none⟩ = some (.slice a1 0 n1) := blk_cell M4.out 12 _ rfl
  have hs14 : w1.heap.size < w4.heap.size := by omega
  go_wp2_with (go_at_call 17; refine (requal_same mA mA rfl (.slice a1 0 n1) (.slice none 0 0) w1.heap.size _ (C4.out.below ((bl_alloc (bl_alloc (bl_refl w4) (.cells (msgCells mC (.slice none 0 0)) 24)) (.cells (msgCells mA (.slice none 0 0)) 24)).mono (by omega))) slIn_nil (by simp; omega)).mono ?_)
  rintro q5 w5 ⟨rfl, b5⟩
  have T5 : Bl w4 w5 := bl_next (bl_alloc (bl_alloc (bl_refl w4) (.cells (msgCells mC (.slice none 0 0)) 24)) (.cells (msgCells mA (.slice none 0 0)) 24)) b5
  have M5 := Lib.hid (blk_bl M4.out T5)
  have N5 := Lib.hid (blk_bl N4.out T5)
  have K5 := Lib.hid (blk_bl (blk_bl (heap_alloc_new w4 (.cells (msgCells mC (.slice none 0 0)) 24)) (bl_alloc (bl_refl _) (.cells (msgCells mA (.slice none 0 0)) 24))) b5)
  have B5 := Lib.hid (bl_next B4.out T5)
  have C5 := Lib.hid (C4.out.below (T5.mono (Nat.le_of_lt hs14)))
  have h45 : w4.heap.size < w5.heap.size := by have := b5.size; simp at this; omega
  have e0 : w5.cell? ⟨pb, po + 5, none⟩ = some (.int .i64 2) := by rw [(bl_cell T5).1 _ _ (by omega)]; exact HC4.out 0 _ rfl
  have e1 : w5.cell? ⟨pb, po + 5 + 1, none⟩ = some (.int .i64 200) := by rw [(bl_cell T5).1 _ _ (by omega)]; exact HC4.out 1 _ rfl
  have e2 : w5.cell? ⟨pb, po + 5 + 2, none⟩ = some (.int .i64 200) := by rw [(bl_cell T5).1 _ _ (by omega)]; exact HC4.out 2 _ rfl
  have e3 : w5.cell? ⟨pb, po + 5 + 3, none⟩ = some (.bool false) := by rw [(bl_cell T5).1 _ _ (by omega)]; exact HC4.out 3 _ rfl
  have e4 : w5.cell? ⟨pb, po + 5 + 4, none⟩ = some (.bool true) := by rw [(bl_cell T5).1 _ _ (by omega)]; exact HC4.out 4 _ rfl
  have eq1 : ∀ w : World, (Op.equalIn 10000 46 (.agg #[.int .i64 2, .int .i64 200, .int .i64 200, .bool false, .bool true]) (.agg #[.int .i64 2, .int .i64 200, .int .i64 200, .bool false, .bool true])).run Tryd.prog w = .ok true w := fun w => by have := eqCall ⟨2, 200, 200, false, true⟩ ⟨2, 200, 200, false, true⟩ w; simpa using this
  clear b5 T5 M4 N4 B4 C4 HC4 m0 m1 m2 m3 m4 m5 m6 m7 m8 m9 m10 m11 m12
  have m0 : w5.cell? ⟨w1.heap.size, 0, none⟩ = some (.int .i64 2) := blk_cell M5.out 0 _ rfl
  have m1 : w5.cell? ⟨w1.heap.size, 1, none⟩ = some (.int .i64 7) := blk_cell M5.out 1 _ rfl
  have m2 : w5.cell? ⟨w1.heap.size, 2, none⟩ = some (.int .i64 1000) := blk_cell M5.out 2 _ rfl
  have m3 : w5.cell? ⟨w1.heap.size, 3, none⟩ = some (.int .i64 2000) := blk_cell M5.out 3 _ rfl
  have m4 : w5.cell? ⟨w1.heap.size, 4, none⟩ = some (.int .i64 1) := blk_cell M5.out 4 _ rfl
  have m5 : w5.cell? ⟨w1.heap.size, 5, none⟩ = some (str [84, 49]) := blk_cell M5.out 5 _ rfl
  have m6 : w5.cell? ⟨w1.heap.size, 6, none⟩ = some (.int .i64 9450) := blk_cell M5.out 6 _ rfl
  have m7 : w5.cell? ⟨w1.heap.size, 7, none⟩ = some (.int .i64 0) := blk_cell M5.out 7 _ rfl
  have m8 : w5.cell? ⟨w1.heap.size, 8, none⟩ = some (.int .i64 3) := blk_cell M5.out 8 _ rfl
  have m9 : w5.cell? ⟨w1.heap.size, 9, none⟩ = some (.int .i64 120) := blk_cell M5.out 9 _ rfl
  have m10 : w5.cell? ⟨w1.heap.size, 10, none⟩ = some (.int .i64 0) := blk_cell M5.out 10 _ rfl
  have m11 : w5.cell? ⟨w1.heap.size, 11, none⟩ = some (.bool false) := blk_cell M5.out 11 _ rfl
  have m12 : w5.cell? ⟨w1.heap.size, 12, none⟩ = some (.slice a1 0 n1) := blk_cell M5.out 12 _ rfl
  have n11 : w5.cell? ⟨w3.heap.size, 11, none⟩ = some (.bool true) := blk_cell N5.out 11 _ rfl
  have n12 : w5.cell? ⟨w3.heap.size, 12, none⟩ = some (.slice (some ⟨pb, po, none⟩) 2 pc) := blk_cell N5.out 12 _ rfl
  have k0 : w5.cell? ⟨w4.heap.size, 0, none⟩ = some (.int .i64 2) := blk_cell K5.out 0 _ rfl
  have k1 : w5.cell? ⟨w4.heap.size, 1, none⟩ = some (.int .i64 8) := blk_cell K5.out 1 _ rfl
  have k2 : w5.cell? ⟨w4.heap.size, 2, none⟩ = some (.int .i64 0) := blk_cell K5.out 2 _ rfl
  have k3 : w5.cell? ⟨w4.heap.size, 3, none⟩ = some (.int .i64 0) := blk_cell K5.out 3 _ rfl
  have k4 : w5.cell? ⟨w4.heap.size, 4, none⟩ = some (.int .i64 2) := blk_cell K5.out 4 _ rfl
  have k5 : w5.cell? ⟨w4.heap.size, 5, none⟩ = some (str [84, 49]) := blk_cell K5.out 5 _ rfl
  have k6 : w5.cell? ⟨w4.heap.size, 6, none⟩ = some (.int .i64 9450) := blk_cell K5.out 6 _ rfl
  have k7 : w5.cell? ⟨w4.heap.size, 7, none⟩ = some (.int .i64 0) := blk_cell K5.out 7 _ rfl
  have k8 : w5.cell? ⟨w4.heap.size, 8, none⟩ = some (.int .i64 0) := blk_cell K5.out 8 _ rfl
  have k9 : w5.cell? ⟨w4.heap.size, 9, none⟩ = some (.int .i64 0) := blk_cell K5.out 9 _ rfl
  have k10 : w5.cell? ⟨w4.heap.size, 10, none⟩ = some (.int .i64 0) := blk_cell K5.out 10 _ rfl
  have k11 : w5.cell? ⟨w4.heap.size, 11, none⟩ = some (.bool false) := blk_cell K5.out 11 _ rfl
  have k12 : w5.cell? ⟨w4.heap.size, 12, none⟩ = some (.slice none 0 0) := blk_cell K5.out 12 _ rfl
  go_wp2_with (go_at_call 18; refine (super_c mC mA (.slice none 0 0) (.slice a1 0 n1) true exS1 _).mono ?_)
  rintro q6 w6 ⟨rfl, b6⟩
  have M6 := Lib.hid (blk_bl M5.out b6)
  have K6 := Lib.hid (blk_bl K5.out b6)
  have B6 := Lib.hid (bl_next B5.out b6)
  have C6 := Lib.hid (C5.out.below (b6.mono (by omega)))
  have h56 : w5.heap.size ≤ w6.heap.size := b6.size
  clear b6 M5 N5 K5 B5 C5 n11 n12 e0 e1 e2 e3 e4 eq1 m0 k0 m1 k1 m2 k2 m3 k3 m4 k4 m5 k5 m6 k6 m7 k7 m8 k8 m9 k9 m10 k10 m11 k11 m12 k12
  have m0 : w6.cell? ⟨w1.heap.size, 0, none⟩ = some (.int .i64 2) := blk_cell M6.out 0 _ rfl
  have m1 : w6.cell? ⟨w1.heap.size, 1, none⟩ = some (.int .i64 7) := blk_cell M6.out 1 _ rfl
  have m2 : w6.cell? ⟨w1.heap.size, 2, none⟩ = some (.int .i64 1000) := blk_cell M6.out 2 _ rfl
  have m3 : w6.cell? ⟨w1.heap.size, 3, none⟩ = some (.int .i64 2000) := blk_cell M6.out 3 _ rfl
  have m4 : w6.cell? ⟨w1.heap.size, 4, none⟩ = some (.int .i64 1) := blk_cell M6.out 4 _ rfl
  have m5 : w6.cell? ⟨w1.heap.size, 5, none⟩ = some (str [84, 49]) := blk_cell M6.out 5 _ rfl
  have m6 : w6.cell? ⟨w1.heap.size, 6, none⟩ = some (.int .i64 9450) := blk_cell M6.out 6 _ rfl
  have m7 : w6.cell? ⟨w1.heap.size, 7, none⟩ = some (.int .i64 0) := blk_cell M6.out 7 _ rfl
  have m8 : w6.cell? ⟨w1.heap.size, 8, none⟩ = some (.int .i64 3) := blk_cell M6.out 8 _ rfl
  have m9 : w6.cell? ⟨w1.heap.size, 9, none⟩ = some (.int .i64 120) := blk_cell M6.out 9 _ rfl
  have m10 : w6.cell? ⟨w1.heap.size, 10, none⟩ = some (.int .i64 0) := blk_cell M6.out 10 _ rfl
  have m11 : w6.cell? ⟨w1.heap.size, 11, none⟩ = some (.bool false) := blk_cell M6.out 11 _ rfl
  have m12 : w6.cell? ⟨w1.heap.size, 12, none⟩ = some (.slice a1 0 n1) := blk_cell M6.out 12 _ rfl
  have k0 : w6.cell? ⟨w4.heap.size, 0, none⟩ = some (.int .i64 2) := blk_cell K6.out 0 _ rfl
  have k1 : w6.cell? ⟨w4.heap.size, 1, none⟩ = some (.int .i64 8) := blk_cell K6.out 1 _ rfl
  have k2 : w6.cell? ⟨w4.heap.size, 2, none⟩ = some (.int .i64 0) := blk_cell K6.out 2 _ rfl
  have k3 : w6.cell? ⟨w4.heap.size, 3, none⟩ = some (.int .i64 0) := blk_cell K6.out 3 _ rfl
  have k4 : w6.cell? ⟨w4.heap.size, 4, none⟩ = some (.int .i64 2) := blk_cell K6.out 4 _ rfl
  have k5 : w6.cell? ⟨w4.heap.size, 5, none⟩ = some (str [84, 49]) := blk_cell K6.out 5 _ rfl
  have k6 : w6.cell? ⟨w4.heap.size, 6, none⟩ = some (.int .i64 9450) := blk_cell K6.out 6 _ rfl
  have k7 : w6.cell? ⟨w4.heap.size, 7, none⟩ = some (.int .i64 0) := blk_cell K6.out 7 _ rfl
  have k8 : w6.cell? ⟨w4.heap.size, 8, none⟩ = some (.int .i64 0) := blk_cell K6.out 8 _ rfl
  have k9 : w6.cell? ⟨w4.heap.size, 9, none⟩ = some (.int .i64 0) := blk_cell K6.out 9 _ rfl
  have k10 : w6.cell? ⟨w4.heap.size, 10, none⟩ = some (.int .i64 0) := blk_cell K6.out 10 _ rfl
  have k11 : w6.cell? ⟨w4.heap.size, 11, none⟩ = some (.bool false) := blk_cell K6.out 11 _ rfl
  have k12 : w6.cell? ⟨w4.heap.size, 12, none⟩ = some (.slice none 0 0) := blk_cell K6.out 12 _ rfl
  go_wp2_with (go_at_call 18; refine (super_c mA mC (.slice a1 0 n1) (.slice none 0 0) false exS2 _).mono ?_)
  rintro q7 w7 ⟨rfl, b7⟩
  have M7 := Lib.hid (blk_bl M6.out b7)
  have B7 := Lib.hid (bl_next B6.out b7)
  have C7 := Lib.hid (C6.out.below (b7.mono (by omega)))
  have h67 : w6.heap.size ≤ w7.heap.size := b7.size
  clear b7 M6 K6 B6 C6 m0 k0 m1 k1 m2 k2 m3 k3 m4 k4 m5 k5 m6 k6 m7 k7 m8 k8 m9 k9 m10 k10 m11 k11 m12 k12
  have m0 : w7.cell? ⟨w1.heap.size, 0, none⟩ = some (.int .i64 2) := blk_cell M7.out 0 _ rfl
  have m1 : w7.cell? ⟨w1.heap.size, 1, none⟩ = some (.int .i64 7) := blk_cell M7.out 1 _ rfl
  have m2 : w7.cell? ⟨w1.heap.size, 2, none⟩ = some (.int .i64 1000) := blk_cell M7.out 2 _ rfl
  have m3 : w7.cell? ⟨w1.heap.size, 3, none⟩ = some (.int .i64 2000) := blk_cell M7.out 3 _ rfl
  have m4 : w7.cell? ⟨w1.heap.size, 4, none⟩ = some (.int .i64 1) := blk_cell M7.out 4 _ rfl
  have m5 : w7.cell? ⟨w1.heap.size, 5, none⟩ = some (str [84, 49]) := blk_cell M7.out 5 _ rfl
  have m6 : w7.cell? ⟨w1.heap.size, 6, none⟩ = some (.int .i64 9450) := blk_cell M7.out 6 _ rfl
  have m7 : w7.cell? ⟨w1.heap.size, 7, none⟩ = some (.int .i64 0) := blk_cell M7.out 7 _ rfl
  have m8 : w7.cell? ⟨w1.heap.size, 8, none⟩ = some (.int .i64 3) := blk_cell M7.out 8 _ rfl
  have m9 : w7.cell? ⟨w1.heap.size, 9, none⟩ = some (.int .i64 120) := blk_cell M7.out 9 _ rfl
  have m10 : w7.cell? ⟨w1.heap.size, 10, none⟩ = some (.int .i64 0) := blk_cell M7.out 10 _ rfl
  have m11 : w7.cell? ⟨w1.heap.size, 11, none⟩ = some (.bool false) := blk_cell M7.out 11 _ rfl
  have m12 : w7.cell? ⟨w1.heap.size, 12, none⟩ = some (.slice a1 0 n1) := blk_cell M7.out 12 _ rfl
  go_wp2_with (go_at_call 10; refine (check_c mA (.slice a1 0 n1) 0 exK (by decide) w1.heap.size _ C7.out (by omega)).mono ?_)
  rintro q8 w8 ⟨rfl, b8⟩
  go_wp2
  go_ret
  exact ⟨rfl, bl_next B7.out b8⟩
end Go.Proofs.YthdadalmgldppaaDoor
namespace Go.Proofs.YthdadalmgldppaaDoor
open Go.RowKit
open Msg Num Fld Dat

def largeB (m : MsgD) : Bool := decide (60 < m.calls.length) || decide (100 < m.trip.length)
theorem large_c (m : MsgD) (v : Value) (r : Bool) (H : Hid (largeB m = r)) (B : Nat) (w : World) (hv : CallsIn B w v m.calls) :
    Calls Tryd.prog 9 #[msgV m v] w fun q w' => q = .returned (.bool r) ∧ Bl w w' := by
  obtain ⟨a, cap, rfl, h1, h2, -⟩ := hv
  go_enter Tryd.func9, Tryd.ntmps9
  go_wp2
  all_goals
    go_ret
    refine ⟨ret_bool ?_, bl_alloc (bl_refl _) _⟩
    rw [← H.out]
    unfold largeB
    rw [Bool.eq_iff_iff]
    simp_all
    try omega
/-! ### superseding -/
theorem same_iff {a b : MsgD} : sameT a b = true ↔ a.trip = b.trip ∧ a.day = b.day ∧ a.inst = b.inst := by simp [sameT]
theorem super_iff {a b : MsgD} : superB a b = true ↔ a.src = b.src ∧ (a.trip = b.trip ∧ a.day = b.day ∧ a.inst = b.inst) ∧ b.seq < a.seq ∧ (statB a.kind = true ∨ (a.kind = b.kind ∧ a.call = b.call)) := by
  unfold superB
  simp only [Bool.and_eq_true, Bool.or_eq_true, beq_iff_eq, decide_eq_true_eq, same_iff]
theorem super_self (a : MsgD) : superB a a = false := by
  cases h : superB a a with
  | false => rfl
  | true => exact absurd (super_iff.1 h).2.2.1 (Int.lt_irrefl _)
theorem super_asymm {a b : MsgD} (h : superB a b = true) : superB b a = false := by
  cases k : superB b a with
  | false => rfl
  | true => have h1 := (super_iff.1 h).2.2.1; have h2 := (super_iff.1 k).2.2.1; omega
theorem super_trans {a b c : MsgD} (h : superB a b = true) (k : superB b c = true) : superB a c = true := by
  obtain ⟨h1, ⟨h2, h3, h4⟩, h5, h6⟩ := super_iff.1 h
  obtain ⟨k1, ⟨k2, k3, k4⟩, k5, k6⟩ := super_iff.1 k
  refine super_iff.2 ⟨h1.trans k1, ⟨h2.trans k2, h3.trans k3, h4.trans k4⟩, by omega, ?_⟩
  rcases h6 with h6 | ⟨h6, h7⟩
  · exact .inl h6
  · rcases k6 with k6 | ⟨k6, k7⟩
    · exact .inl (by rw [h6]; exact k6)
    · exact .inr ⟨h6.trans k6, h7.trans k7⟩
theorem super_same {a b : MsgD} (h : superB a b = true) : sameT a b = true := same_iff.2 (super_iff.1 h).2.1
set_option maxRecDepth 20000 in
set_option maxHeartbeats 8000000 in
theorem order_law (a b c : MsgD) (va vb vc : Value) (B : Nat) (w : World) (hw : WordsAt w) (ha : CallsIn B w va a.calls) (hb : CallsIn B w vb b.calls) (hc : CallsIn B w vc c.calls) (hB : B ≤ w.heap.size) :
    Calls Tryd.prog 7 #[msgV a va, msgV b vb, msgV c vc] w fun q w' => q = .returned (.bool true) ∧ Bl w w' := by
  have h0 : Bl w (((w.alloc (.cells (msgCells a va) 24)).alloc (.cells (msgCells b vb) 24)).alloc (.cells (msgCells c vc) 24)) := bl_alloc (bl_alloc (bl_alloc (bl_refl _) _) _) _
  have HA : Hid (MsgAt w.heap.size 0 a va (((w.alloc (.cells (msgCells a va) 24)).alloc (.cells (msgCells b vb) 24)).alloc (.cells (msgCells c vc) 24))) := ((msgAt_new a va w).next (bl_alloc (bl_refl _) _) (by simp)).next (bl_alloc (bl_refl _) _) (by simp; omega)
  have HB : Hid (MsgAt (w.heap.size + 1) 0 b vb (((w.alloc (.cells (msgCells a va) 24)).alloc (.cells (msgCells b vb) 24)).alloc (.cells (msgCells c vc) 24))) := by
    have := (msgAt_new b vb (w.alloc (.cells (msgCells a va) 24))).next (bl_alloc (bl_refl _) (.cells (msgCells c vc) 24)) (by simp)
    rw [World.size_alloc] at this
    exact this
  have HC : Hid (MsgAt (w.heap.size + 2) 0 c vc (((w.alloc (.cells (msgCells a va) 24)).alloc (.cells (msgCells b vb) 24)).alloc (.cells (msgCells c vc) 24))) := by
    have := msgAt_new c vc ((w.alloc (.cells (msgCells a va) 24)).alloc (.cells (msgCells b vb) 24))
    rw [World.size_alloc, World.size_alloc] at this
    exact this
  have hsz : (((w.alloc (.cells (msgCells a va) 24)).alloc (.cells (msgCells b vb) 24)).alloc (.cells (msgCells c vc) 24)).heap.size = w.heap.size + 3 := by simp
  have HW := Lib.hid (hw.next h0)
  have HH0 := Lib.hid h0
  have CA := Lib.hid (ha.below (h0.mono hB))
  have CB := Lib.hid (hb.below (h0.mono hB))
  have CC := Lib.hid (hc.below (h0.mono hB))
  obtain ⟨la, HLA⟩ : ∃ r, Hid (largeB a = r) := ⟨_, rfl⟩
  obtain ⟨lb, HLB⟩ : ∃ r, Hid (largeB b = r) := ⟨_, rfl⟩
  obtain ⟨lc, HLC⟩ : ∃ r, Hid (largeB c = r) := ⟨_, rfl⟩
  clear hw ha hb hc h0
  go_enter Tryd.func7, Tryd.ntmps7
  go_wp2_with fail
  change Calls _ _ _ (((w.alloc (.cells (msgCells a va) 24)).alloc (.cells (msgCells b vb) 24)).alloc (.cells (msgCells c vc) 24)) _
  generalize ((w.alloc (.cells (msgCells a va) 24)).alloc (.cells (msgCells b vb) 24)).alloc (.cells (msgCells c vc) 24) = W at HA HB HC hsz HW HH0 CA CB CC ⊢
  have HAl : w.heap.size < W.heap.size := by omega
  have HBl : w.heap.size + 1 < W.heap.size := by omega
  have HCl : w.heap.size + 2 < W.heap.size := by omega
  have hBW : B ≤ W.heap.size := by omega
  have HR := Lib.hid (bl_refl W)
  refine (large_c a va la HLA B W CA.out).mono ?_
  rintro y0 w0 ⟨rfl, b0⟩
  have T0 := Lib.hid (bl_next HR.out b0)
  clear b0
  cases la with
  | true =>
    go_wp2_with (go_at_call 12; refine (example_c _ (HW.out.next T0.out)).mono ?_)
    rintro qe we ⟨rfl, be⟩
    go_wp2
    go_ret
    exact ⟨rfl, bl_next HH0.out (bl_next T0.out be)⟩
  | false =>
  obtain ⟨q0, q1, q2, q3, q4, q5, q6, q7, q8, q9, q10, q11, q12⟩ := (HB.out.next T0.out HBl).all
  go_wp2_with (go_at_call 9; refine (large_c b vb lb HLB B _ (CB.out.below (T0.out.mono hBW))).mono ?_)
  rintro y1 w1 ⟨rfl, b1⟩
  have T1 := Lib.hid (bl_next T0.out b1)
  clear b1
  clear q0 q1 q2 q3 q4 q5 q6 q7 q8 q9 q10 q11 q12
  cases lb with
  | true =>
    go_wp2_with (go_at_call 12; refine (example_c _ (HW.out.next T1.out)).mono ?_)
    rintro qe we ⟨rfl, be⟩
    go_wp2
    go_ret
    exact ⟨rfl, bl_next HH0.out (bl_next T1.out be)⟩
  | false =>
  obtain ⟨r0, r1, r2, r3, r4, r5, r6, r7, r8, r9, r10, r11, r12⟩ := (HC.out.next T1.out HCl).all
  go_wp2_with (go_at_call 9; refine (large_c c vc lc HLC B _ (CC.out.below (T1.out.mono hBW))).mono ?_)
  rintro y2 w2 ⟨rfl, b2⟩
  have T2 := Lib.hid (bl_next T1.out b2)
  clear b2
  clear r0 r1 r2 r3 r4 r5 r6 r7 r8 r9 r10 r11 r12
  cases lc with
  | true =>
    go_wp2_with (go_at_call 12; refine (example_c _ (HW.out.next T2.out)).mono ?_)
    rintro qe we ⟨rfl, be⟩
    go_wp2
    go_ret
    exact ⟨rfl, bl_next HH0.out (bl_next T2.out be)⟩
  | false =>
  obtain ⟨rx, HX⟩ : ∃ r, Hid (superB a b = r) := ⟨_, rfl⟩
  obtain ⟨ry, HY⟩ : ∃ r, Hid (superB b c = r) := ⟨_, rfl⟩
  have hold : ∀ w', Bl W w' → (w'.cell? ⟨w.heap.size, 0, none⟩ = some (.int .i64 a.src) ∧ w'.cell? ⟨w.heap.size, 1, none⟩ = some (.int .i64 a.seq) ∧ w'.cell? ⟨w.heap.size, 2, none⟩ = some (.int .i64 a.iss) ∧ w'.cell? ⟨w.heap.size, 3, none⟩ = some (.int .i64 a.exp) ∧ w'.cell? ⟨w.heap.size, 4, none⟩ = some (.int .i64 a.kind) ∧ w'.cell? ⟨w.heap.size, 5, none⟩ = some (str a.trip) ∧ w'.cell? ⟨w.heap.size, 6, none⟩ = some (.int .i64 a.day) ∧ w'.cell? ⟨w.heap.size, 7, none⟩ = some (.int .i64 a.inst) ∧ w'.cell? ⟨w.heap.size, 8, none⟩ = some (.int .i64 a.call) ∧ w'.cell? ⟨w.heap.size, 9, none⟩ = some (.int .i64 a.secs) ∧ w'.cell? ⟨w.heap.size, 10, none⟩ = some (.int .i64 a.route) ∧ w'.cell? ⟨w.heap.size, 11, none⟩ = some (.bool a.step) ∧ w'.cell? ⟨w.heap.size, 12, none⟩ = some (va) ∧ w'.cell? ⟨w.heap.size + 1, 0, none⟩ = some (.int .i64 b.src) ∧ w'.cell? ⟨w.heap.size + 1, 1, none⟩ = some (.int .i64 b.seq) ∧ w'.cell? ⟨w.heap.size + 1, 2, none⟩ = some (.int .i64 b.iss) ∧ w'.cell? ⟨w.heap.size + 1, 3, none⟩ = some (.int .i64 b.exp) ∧ w'.cell? ⟨w.heap.size + 1, 4, none⟩ = some (.int .i64 b.kind) ∧ w'.cell? ⟨w.heap.size + 1, 5, none⟩ = some (str b.trip) ∧ w'.cell? ⟨w.heap.size + 1, 6, none⟩ = some (.int .i64 b.day) ∧ w'.cell? ⟨w.heap.size + 1, 7, none⟩ = some (.int .i64 b.inst) ∧ w'.cell? ⟨w.heap.size + 1, 8, none⟩ = some (.int .i64 b.call) ∧ w'.cell? ⟨w.heap.size + 1, 9, none⟩ = some (.int .i64 b.secs) ∧ w'.cell? ⟨w.heap.size + 1, 10, none⟩ = some (.int .i64 b.route) ∧ w'.cell? ⟨w.heap.size + 1, 11, none⟩ = some (.bool b.step) ∧ w'.cell? ⟨w.heap.size + 1, 12, none⟩ = some (vb) ∧ w'.cell? ⟨w.heap.size + 2, 0, none⟩ = some (.int .i64 c.src) ∧ w'.cell? ⟨w.heap.size + 2, 1, none⟩ = some (.int .i64 c.seq) ∧ w'.cell? ⟨w.heap.size + 2, 2, none⟩ = some (.int .i64 c.iss) ∧ w'.cell? ⟨w.heap.size + 2, 3, none⟩ = some (.int .i64 c.exp) ∧ w'.cell? ⟨w.heap.size + 2, 4, none⟩ = some (.int .i64 c.kind) ∧ w'.cell? ⟨w.heap.size + 2, 5, none⟩ = some (str c.trip) ∧ w'.cell? ⟨w.heap.size + 2, 6, none⟩ = some (.int .i64 c.day) ∧ w'.cell? ⟨w.heap.size + 2, 7, none⟩ = some (.int .i64 c.inst) ∧ w'.cell? ⟨w.heap.size + 2, 8, none⟩ = some (.int .i64 c.call) ∧ w'.cell? ⟨w.heap.size + 2, 9, none⟩ = some (.int .i64 c.secs) ∧ w'.cell? ⟨w.heap.size + 2, 10, none⟩ = some (.int .i64 c.route) ∧ w'.cell? ⟨w.heap.size + 2, 11, none⟩ = some (.bool c.step) ∧ w'.cell? ⟨w.heap.size + 2, 12, none⟩ = some (vc)) := fun w' hb => by
    obtain ⟨p0, p1, p2, p3, p4, p5, p6, p7, p8, p9, p10, p11, p12⟩ := (HA.out.next hb HAl).all
    obtain ⟨q0, q1, q2, q3, q4, q5, q6, q7, q8, q9, q10, q11, q12⟩ := (HB.out.next hb HBl).all
    obtain ⟨r0, r1, r2, r3, r4, r5, r6, r7, r8, r9, r10, r11, r12⟩ := (HC.out.next hb HCl).all
    exact ⟨p0, p1, p2, p3, p4, p5, p6, p7, p8, p9, p10, p11, p12, q0, q1, q2, q3, q4, q5, q6, q7, q8, q9, q10, q11, q12, r0, r1, r2, r3, r4, r5, r6, r7, r8, r9, r10, r11, r12⟩
  obtain ⟨p0, p1, p2, p3, p4, p5, p6, p7, p8, p9, p10, p11, p12⟩ := (HA.out.next T2.out HAl).all
  obtain ⟨q0, q1, q2, q3, q4, q5, q6, q7, q8, q9, q10, q11, q12⟩ := (HB.out.next T2.out HBl).all
  obtain ⟨r0, r1, r2, r3, r4, r5, r6, r7, r8, r9, r10, r11, r12⟩ := (HC.out.next T2.out HCl).all
  go_wp2_with fail
  go_region_held3 (fun w' => w'.cell? ⟨w.heap.size, 0, none⟩ = some (.int .i64 a.src) ∧ w'.cell? ⟨w.heap.size, 1, none⟩ = some (.int .i64 a.seq) ∧ w'.cell? ⟨w.heap.size, 2, none⟩ = some (.int .i64 a.iss) ∧ w'.cell? ⟨w.heap.size, 3, none⟩ = some (.int .i64 a.exp) ∧ w'.cell? ⟨w.heap.size, 4, none⟩ = some (.int .i64 a.kind) ∧ w'.cell? ⟨w.heap.size, 5, none⟩ = some (str a.trip) ∧ w'.cell? ⟨w.heap.size, 6, none⟩ = some (.int .i64 a.day) ∧ w'.cell? ⟨w.heap.size, 7, none⟩ = some (.int .i64 a.inst) ∧ w'.cell? ⟨w.heap.size, 8, none⟩ = some (.int .i64 a.call) ∧ w'.cell? ⟨w.heap.size, 9, none⟩ = some (.int .i64 a.secs) ∧ w'.cell? ⟨w.heap.size, 10, none⟩ = some (.int .i64 a.route) ∧ w'.cell? ⟨w.heap.size, 11, none⟩ = some (.bool a.step) ∧ w'.cell? ⟨w.heap.size, 12, none⟩ = some (va) ∧ w'.cell? ⟨w.heap.size + 1, 0, none⟩ = some (.int .i64 b.src) ∧ w'.cell? ⟨w.heap.size + 1, 1, none⟩ = some (.int .i64 b.seq) ∧ w'.cell? ⟨w.heap.size + 1, 2, none⟩ = some (.int .i64 b.iss) ∧ w'.cell? ⟨w.heap.size + 1, 3, none⟩ = some (.int .i64 b.exp) ∧ w'.cell? ⟨w.heap.size + 1, 4, none⟩ = some (.int .i64 b.kind) ∧ w'.cell? ⟨w.heap.size + 1, 5, none⟩ = some (str b.trip) ∧ w'.cell? ⟨w.heap.size + 1, 6, none⟩ = some (.int .i64 b.day) ∧ w'.cell? ⟨w.heap.size + 1, 7, none⟩ = some (.int .i64 b.inst) ∧ w'.cell? ⟨w.heap.size + 1, 8, none⟩ = some (.int .i64 b.call) ∧ w'.cell? ⟨w.heap.size + 1, 9, none⟩ = some (.int .i64 b.secs) ∧ w'.cell? ⟨w.heap.size + 1, 10, none⟩ = some (.int .i64 b.route) ∧ w'.cell? ⟨w.heap.size + 1, 11, none⟩ = some (.bool b.step) ∧ w'.cell? ⟨w.heap.size + 1, 12, none⟩ = some (vb) ∧ w'.cell? ⟨w.heap.size + 2, 0, none⟩ = some (.int .i64 c.src) ∧ w'.cell? ⟨w.heap.size + 2, 1, none⟩ = some (.int .i64 c.seq) ∧ w'.cell? ⟨w.heap.size + 2, 2, none⟩ = some (.int .i64 c.iss) ∧ w'.cell? ⟨w.heap.size + 2, 3, none⟩ = some (.int .i64 c.exp) ∧ w'.cell? ⟨w.heap.size + 2, 4, none⟩ = some (.int .i64 c.kind) ∧ w'.cell? ⟨w.heap.size + 2, 5, none⟩ = some (str c.trip) ∧ w'.cell? ⟨w.heap.size + 2, 6, none⟩ = some (.int .i64 c.day) ∧ w'.cell? ⟨w.heap.size + 2, 7, none⟩ = some (.int .i64 c.inst) ∧ w'.cell? ⟨w.heap.size + 2, 8, none⟩ = some (.int .i64 c.call) ∧ w'.cell? ⟨w.heap.size + 2, 9, none⟩ = some (.int .i64 c.secs) ∧ w'.cell? ⟨w.heap.size + 2, 10, none⟩ = some (.int .i64 c.route) ∧ w'.cell? ⟨w.heap.size + 2, 11, none⟩ = some (.bool c.step) ∧ w'.cell? ⟨w.heap.size + 2, 12, none⟩ = some (vc))
    (first | exact hold _ (bl_drew T2.out) | exact hold _ (bl_next (bl_drew T2.out) b4) | exact hold _ (bl_next (bl_next (bl_drew T2.out) b4) b5))
    (first
      | (go_at_call 18; with_reducible (refine (super_c a b va vb rx HX _).mono ?_); rintro y4 w4 ⟨rfl, b4⟩)
      | (go_at_call 18; with_reducible (refine (super_c b c vb vc ry HY _).mono ?_); rintro y5 w5 ⟨rfl, b5⟩))
  have T5 := Lib.hid (bl_next (bl_next (bl_drew T2.out) b4) b5)
  clear b4 b5
  clear p0 p1 p2 p3 p4 p5 p6 p7 p8 p9 p10 p11 p12 q0 q1 q2 q3 q4 q5 q6 q7 q8 q9 q10 q11 q12 r0 r1 r2 r3 r4 r5 r6 r7 r8 r9 r10 r11 r12
  have HSA := Lib.hid (super_self a)
  cases rx with
  | false =>
    obtain ⟨p0, p1, p2, p3, p4, p5, p6, p7, p8, p9, p10, p11, p12⟩ := (HA.out.next T5.out HAl).all
    go_wp2_with (go_at_call 18; refine (super_c a a va va false HSA _).mono ?_)
    rintro y6 w6 ⟨rfl, b6⟩
    have T6 := Lib.hid (bl_next T5.out b6)
    clear b6
    clear p0 p1 p2 p3 p4 p5 p6 p7 p8 p9 p10 p11 p12
    go_wp2_with (go_at_call 12; refine (example_c _ (HW.out.next T6.out)).mono ?_)
    rintro qe we ⟨rfl, be⟩
    go_wp2
    go_ret
    exact ⟨rfl, bl_next HH0.out (bl_next T6.out be)⟩
  | true =>
  have HBA := Lib.hid (super_asymm HX.out)
  have HSM := Lib.hid (super_same HX.out)
  obtain ⟨p0, p1, p2, p3, p4, p5, p6, p7, p8, p9, p10, p11, p12⟩ := (HA.out.next T5.out HAl).all
  obtain ⟨q0, q1, q2, q3, q4, q5, q6, q7, q8, q9, q10, q11, q12⟩ := (HB.out.next T5.out HBl).all
  go_wp2_with (go_at_call 18; refine (super_c b a vb va false HBA _).mono ?_)
  rintro y6 w6 ⟨rfl, b6⟩
  have T6 := Lib.hid (bl_next T5.out b6)
  clear b6
  clear p0 p1 p2 p3 p4 p5 p6 p7 p8 p9 p10 p11 p12 q0 q1 q2 q3 q4 q5 q6 q7 q8 q9 q10 q11 q12
  cases ry with
  | false =>
    obtain ⟨p0, p1, p2, p3, p4, p5, p6, p7, p8, p9, p10, p11, p12⟩ := (HA.out.next T6.out HAl).all
    go_wp2_with (go_at_call 18; refine (super_c a a va va false HSA _).mono ?_)
    rintro y7 w7 ⟨rfl, b7⟩
    have T7 := Lib.hid (bl_next T6.out b7)
    clear b7
    clear p0 p1 p2 p3 p4 p5 p6 p7 p8 p9 p10 p11 p12
    obtain ⟨p0, p1, p2, p3, p4, p5, p6, p7, p8, p9, p10, p11, p12⟩ := (HA.out.next T7.out HAl).all
    obtain ⟨q0, q1, q2, q3, q4, q5, q6, q7, q8, q9, q10, q11, q12⟩ := (HB.out.next T7.out HBl).all
    go_wp2_with (go_at_call 19; refine (same_c a b va vb true HSM _).mono ?_)
    rintro y8 w8 ⟨rfl, b8⟩
    have T8 := Lib.hid (bl_next T7.out b8)
    clear b8
    clear p0 p1 p2 p3 p4 p5 p6 p7 p8 p9 p10 p11 p12 q0 q1 q2 q3 q4 q5 q6 q7 q8 q9 q10 q11 q12
    go_wp2_with (go_at_call 12; refine (example_c _ (HW.out.next T8.out)).mono ?_)
    rintro qe we ⟨rfl, be⟩
    go_wp2
    go_ret
    exact ⟨rfl, bl_next HH0.out (bl_next T8.out be)⟩
  | true =>
  have HAC := Lib.hid (super_trans HX.out HY.out)
  obtain ⟨p0, p1, p2, p3, p4, p5, p6, p7, p8, p9, p10, p11, p12⟩ := (HA.out.next T6.out HAl).all
  obtain ⟨r0, r1, r2, r3, r4, r5, r6, r7, r8, r9, r10, r11, r12⟩ := (HC.out.next T6.out HCl).all
  go_wp2_with (go_at_call 18; refine (super_c a c va vc true HAC _).mono ?_)
  rintro y7 w7 ⟨rfl, b7⟩
  have T7 := Lib.hid (bl_next T6.out b7)
  clear b7
  clear p0 p1 p2 p3 p4 p5 p6 p7 p8 p9 p10 p11 p12 r0 r1 r2 r3 r4 r5 r6 r7 r8 r9 r10 r11 r12
  obtain ⟨p0, p1, p2, p3, p4, p5, p6, p7, p8, p9, p10, p11, p12⟩ := (HA.out.next T7.out HAl).all
  go_wp2_with (go_at_call 18; refine (super_c a a va va false HSA _).mono ?_)
  rintro y8 w8 ⟨rfl, b8⟩
  have T8 := Lib.hid (bl_next T7.out b8)
  clear b8
  clear p0 p1 p2 p3 p4 p5 p6 p7 p8 p9 p10 p11 p12
  obtain ⟨p0, p1, p2, p3, p4, p5, p6, p7, p8, p9, p10, p11, p12⟩ := (HA.out.next T8.out HAl).all
  obtain ⟨q0, q1, q2, q3, q4, q5, q6, q7, q8, q9, q10, q11, q12⟩ := (HB.out.next T8.out HBl).all
  go_wp2_with (go_at_call 19; refine (same_c a b va vb true HSM _).mono ?_)
  rintro y9 w9 ⟨rfl, b9⟩
  have T9 := Lib.hid (bl_next T8.out b9)
  clear b9
  clear p0 p1 p2 p3 p4 p5 p6 p7 p8 p9 p10 p11 p12 q0 q1 q2 q3 q4 q5 q6 q7 q8 q9 q10 q11 q12
  go_wp2_with (go_at_call 12; refine (example_c _ (HW.out.next T9.out)).mono ?_)
  rintro qe we ⟨rfl, be⟩
  go_wp2
  go_ret
  exact ⟨rfl, bl_next HH0.out (bl_next T9.out be)⟩
end Go.Proofs.YthdadalmgldppaaDoor
namespace Go.Proofs.YthdadalmgldppaaDoor
open Go.RowKit
open Msg Num Fld Dat

set_option maxRecDepth 20000 in
set_option maxHeartbeats 8000000 in
theorem parses_law (ll : List UInt8) (w : World) (hw : WordsAt w) :
    Calls Tryd.prog 5 #[str ll] w fun q w' => q = .returned (.bool true) ∧ Bl w w' := by
  have HW := Lib.hid hw
  clear hw
  by_cases hlong : (4000 : Int) < (ll.length : Int)
  · go_enter Tryd.func5, Tryd.ntmps5
    go_wp2_with (go_at_call 12; refine (example_c _ HW.out).mono ?_)
    rintro qe we ⟨rfl, be⟩
    go_wp2
    go_ret
    exact ⟨rfl, be⟩
  · have hll : ll.length ≤ 4000 := by omega
    obtain ⟨⟨n, e⟩, HP⟩ : ∃ p, Hid (parseM ll = p) := ⟨_, rfl⟩
    go_enter Tryd.func5, Tryd.ntmps5
    go_wp2_with (go_at_call 15; refine (mparse_c ⟨ll.toArray⟩ (by show ll.toArray.size ≤ _; rw [List.size_toArray]; omega) n e HP _ HW.out).mono ?_)
    rintro y3 w3 vm rfl c3 b3
    obtain ⟨am, cm, hvm, -⟩ := id c3
    subst hvm
    have C3 := Lib.hid c3
    have B3 := Lib.hid b3
    clear c3 b3
    go_wp2_with (go_at_call 16; refine (rmparse_c ⟨ll.toArray⟩ (by show ll.toArray.size ≤ _; rw [List.size_toArray]; omega) n e HP _).mono ?_)
    rintro y4 w4 ⟨vn, rfl, c4, b4⟩
    obtain ⟨an, cn, hvn, -⟩ := id c4
    subst hvn
    have C4 := Lib.hid c4
    have hm := msgAt_new n (.slice am n.calls.length cm) w3
    have hg3 : w3.heap.size < w4.heap.size := by have := b4.size; simp at this; omega
    have HM4 := Lib.hid (hm.next b4 (by simp))
    have N4 := Lib.hid (bl_next (bl_alloc (bl_refl w3) _) b4)
    clear b4 c4 hm
    obtain ⟨p0, p1, p2, p3, p4, p5, p6, p7, p8, p9, p10, p11, p12⟩ := HM4.out.all
    have C3' := Lib.hid ((C3.out.below N4.out).mono (Nat.le_of_lt hg3))
    go_wp2_with (go_at_call 17; refine (requal_same n n rfl (.slice am n.calls.length cm) (.slice an n.calls.length cn) w4.heap.size _ (C3'.out.below (bl_alloc (bl_refl w4) _)) (C4.out.below (bl_alloc (bl_refl w4) _)) (bl_alloc (bl_refl w4) _).size).mono ?_)
    rintro y5 w5 ⟨rfl, b5⟩
    have N5 := Lib.hid (bl_next (bl_alloc (bl_next B3.out N4.out) _) b5)
    clear b5 p0 p1 p2 p3 p4 p5 p6 p7 p8 p9 p10 p11 p12
    go_wp2_with (go_at_call 12; refine (example_c _ (HW.out.next N5.out)).mono ?_)
    rintro qe we ⟨rfl, be⟩
    go_wp2
    go_ret
    exact ⟨rfl, bl_next N5.out be⟩
end Go.Proofs.YthdadalmgldppaaDoor
namespace Go.Proofs.YthdadalmgldppaaDoor
open Go.RowKit
open Msg
section
open Go.ChangeShapes Go.WideShapes Go.Deep Go.Joins
variable {H : Type} {enc : TypeId × Value → H} {P : Program} {w : World} {base : Nat} {spare : Nat → Bool} {held : Bool}
theorem list_of {α : Type} {R : Nat → α → Prop} : ∀ (n : Nat), (∀ i, i < n → ∃ x, R i x) → ∃ xs : List α, xs.length = n ∧ ∀ i x, xs[i]? = some x → R i x
  | 0, _ => ⟨[], rfl, fun i x h => by simp at h⟩
  | n + 1, h => by
    obtain ⟨xs, hl, hx⟩ := list_of n fun i hi => h i (by omega)
    obtain ⟨y, hy⟩ := h n (by omega)
    refine ⟨xs ++ [y], by simp [hl], fun i x hi => ?_⟩
    by_cases hin : i < n
    · rw [List.getElem?_append_left (by omega)] at hi
      exact hx i x hi
    · have hii : i < (xs ++ [y]).length := (List.getElem?_eq_some_iff.1 hi).1
      have : i = n := by simp at hii; omega
      subst this
      rw [List.getElem?_append_right (by omega), hl, Nat.sub_self] at hi
      simp at hi
      subst hi
      exact hy
/-- A struct's cells, each with its own reading. -/
theorem read_struct {t : TypeId} {fs : Array Field} {fuel : Nat} {cs : List Value} {x : DataW H × List MemPlace} (ht : P.underlying t = some (.struct fs)) (hone : oneCellFields P fs = true) (hC : P.cellsOf t = fs.size)
    (h : DataW.trod enc P w base spare held fuel t cs = some x) :
    cs.length = fs.size ∧ ∃ n, ∀ (j : Nat) (f : Field), fs[j]? = some f → ∃ y : DataW H × List MemPlace, DataW.trod enc P w base spare held n f.type [(cs[j]?).getD (.bool false)] = some y := by
  obtain ⟨ys, k, -, -, hcl, hyl, hf⟩ := DataW.trod_struct ht h
  refine ⟨hcl.trans hC, k, fun j f hj => ?_⟩
  obtain ⟨ho, hk⟩ := hone_of hone j f hj
  have hjl : j < fs.size := (Array.getElem?_eq_some_iff.1 hj).1
  have := hf j f hj
  rw [ho, hk, List.drop_eq_getElem_cons (show j < cs.length by omega)] at this
  refine ⟨ys[j]'(by omega), ?_⟩
  rw [List.getElem?_eq_getElem (show j < cs.length by omega)]
  exact this.trans (List.getElem?_eq_getElem (by omega))
/-- A slice of structs that came in reads as a list. -/
theorem read_slice {α : Type} {cells : α → List Value} {sz : Nat} (hs : ∀ x, (cells x).length = sz) (h0 : 0 < sz) (Q : α → Prop) {t e : TypeId} {fs : Array Field} {fuel : Nat} {v : Value} {x : DataW H × List MemPlace}
    (ht : P.underlying t = some (.slice e)) (he : P.underlying e = some (.struct fs)) (hone : oneCellFields P fs = true) (hC : P.cellsOf e = fs.size) (hsz : fs.size = sz)
    (helem : ∀ (n : Nat) (g : Nat → Value), (∀ (j : Nat) (f : Field), fs[j]? = some f → ∃ y : DataW H × List MemPlace, DataW.trod enc P w base spare held n f.type [g j] = some y) → ∃ y : α, Q y ∧ ∀ j u, (cells y)[j]? = some u → u = g j)
    (h : DataW.trod enc P w base spare held fuel t [v] = some x) : ∃ xs : List α, SlIn cells sz w.heap.size w v xs ∧ ∀ y ∈ xs, Q y := by
  rcases open_slice ht h with ⟨hcs, -⟩ | ⟨a, len, cap, m, n, D, Pl, hcs, -, hl, hm, hmm, -, hi⟩
  · rw [List.cons.injEq] at hcs
    rw [hcs.1]
    exact ⟨[], slIn_nil, by simp⟩
  · rw [List.cons.injEq] at hcs
    rw [hcs.1]
    have hlm : len ≤ m := by rw [hmm]; split <;> omega
    obtain ⟨xs, hxl, hx⟩ := list_of (R := fun i (y : α) => Q y ∧ ∀ j u, (cells y)[j]? = some u → w.cell? (a.add (i * sz + j)) = some u) len fun i hil => by
      obtain ⟨vs, hc, hrd⟩ := hi i (by omega)
      rw [hC] at hc
      obtain ⟨-, hvl, hat⟩ := World.cells?_some hc
      obtain ⟨-, k, hf⟩ := read_struct he hone hC hrd
      obtain ⟨y, hQ, hy⟩ := helem k (fun j => (vs[j]?).getD (.bool false)) hf
      refine ⟨y, hQ, fun j u hu => ?_⟩
      have hjl : j < vs.length := by have := (List.getElem?_eq_some_iff.1 hu).1; rw [hs] at this; omega
      have h1 := hat j (by omega)
      rw [hy j u hu, List.getElem?_eq_getElem hjl]
      rw [List.getElem?_eq_getElem hjl, hsz, Go.Deep.add_add] at h1
      exact h1
    refine ⟨xs, ⟨some a, cap, by rw [hxl], by omega, hm, fun hpos => ?_⟩, fun y hy => ?_⟩
    · obtain ⟨y0, hy0⟩ : ∃ y0, xs[0]? = some y0 := ⟨_, List.getElem?_eq_getElem hpos⟩
      obtain ⟨u0, hu0⟩ : ∃ u0, (cells y0)[0]? = some u0 := ⟨_, List.getElem?_eq_getElem (by rw [hs]; exact h0)⟩
      have hc0 := (hx 0 y0 hy0).2 0 u0 hu0
      rw [show a.add (0 * sz + 0) = a by simp [Addr.add]] at hc0
      obtain ⟨b, o, spot⟩ := a
      have hsp : spot = none := by
        unfold World.cell? at hc0
        split at hc0
        · cases spot with
          | none => rfl
          | some s => simp at hc0
        · cases hc0
      subst hsp
      refine ⟨b, o, rfl, World.block_lt_of_cell? w _ hc0, fun i y hy j u hu => ?_⟩
      have := (hx i y hy).2 j u hu
      unfold Addr.add at this
      split at this
      · rename_i k; rw [show o + i * sz + j = o by omega]; exact this
      · rw [Nat.add_assoc]; exact this
    · obtain ⟨i, hi⟩ := List.getElem?_of_mem hy
      exact (hx i y hi).1
end
theorem int_ok {x : Int} (h : (Lit.int .i64 x).wf = true) : isI x := by
  have hmin : IntKind.i64.min = -9223372036854775808 := rfl
  have hmax : IntKind.i64.max = 9223372036854775807 := rfl
  simp only [Lit.wf, Bool.and_eq_true, decide_eq_true_eq] at h
  unfold isI
  omega
section
open Go.ChangeShapes Go.WideShapes Go.Deep Go.Joins
variable {H : Type} {enc : TypeId × Value → H} {w : World} {base : Nat} {spare : Nat → Bool} {held : Bool}
theorem cells_of5 {a b c d e : Value} {g : Nat → Value} (h0 : a = g 0) (h1 : b = g 1) (h2 : c = g 2) (h3 : d = g 3) (h4 : e = g 4) : ∀ j u, ([a, b, c, d, e] : List Value)[j]? = some u → u = g j := by
  intro j u hu
  match j with
  | 0 => simp at hu; rw [← hu]; exact h0
  | 1 => simp at hu; rw [← hu]; exact h1
  | 2 => simp at hu; rw [← hu]; exact h2
  | 3 => simp at hu; rw [← hu]; exact h3
  | 4 => simp at hu; rw [← hu]; exact h4
  | n + 5 => simp at hu
theorem read_calls {fuel : Nat} {v : Value} {x : DataW H × List MemPlace} (h : DataW.trod enc Tryd.prog w base spare held fuel 22 [v] = some x) : ∃ cs, CallsIn w.heap.size w v cs ∧ ∀ c ∈ cs, okCall c :=
  read_slice callCells_len (by omega) okCall Tryd.underlying22 Tryd.underlying46 (by kernel_rfl) (by kernel_rfl) rfl (fun n g hg => by
    obtain ⟨y0, h0⟩ := hg 0 _ rfl
    obtain ⟨y1, h1⟩ := hg 1 _ rfl
    obtain ⟨y2, h2⟩ := hg 2 _ rfl
    obtain ⟨y3, h3⟩ := hg 3 _ rfl
    obtain ⟨y4, h4⟩ := hg 4 _ rfl
    obtain ⟨a0, e0, -, w0⟩ := DataW.trod_int Tryd.underlying3 h0
    obtain ⟨a1, e1, -, w1⟩ := DataW.trod_int Tryd.underlying3 h1
    obtain ⟨a2, e2, -, w2⟩ := DataW.trod_int Tryd.underlying3 h2
    obtain ⟨a3, e3, -⟩ := DataW.trod_bool Tryd.underlying4 h3
    obtain ⟨a4, e4, -⟩ := DataW.trod_bool Tryd.underlying4 h4
    rw [List.cons.injEq] at e0 e1 e2 e3 e4
    exact ⟨⟨a0, a1, a2, a3, a4⟩, ⟨int_ok w0, int_ok w1, int_ok w2⟩, cells_of5 e0.1.symm e1.1.symm e2.1.symm e3.1.symm e4.1.symm⟩) h
/-- What is known of a message that came in. -/
structure MsgRd (w : World) (m : MsgD) (v : Value) : Prop where
  calls : CallsIn w.heap.size w v m.calls
  ok : OkM m
set_option maxRecDepth 100000 in
theorem read_msg {r : Reach} {b0 : Nat} {v : Value} {d : DataW H} {p : List MemPlace} (hv : Value.okWide Tryd.prog w r b0 24 v) (h : DataW.Trod enc Tryd.prog w base spare held 24 v d p) :
    ∃ (q : MsgD × Value), v = msgV q.1 q.2 ∧ MsgRd w q.1 q.2 := by
  obtain ⟨vs, rfl, hsz⟩ := okWide_struct Tryd.underlying24 hv
  obtain ⟨l⟩ := vs
  obtain ⟨fuel, hf⟩ := h
  obtain ⟨hl, n, hg⟩ := read_struct Tryd.underlying24 (by kernel_rfl) (by kernel_rfl) hf
  match l, hl with
  | [c0, c1, c2, c3, c4, c5, c6, c7, c8, c9, c10, c11, c12], _ =>
    obtain ⟨y0, h0⟩ := hg 0 _ rfl
    obtain ⟨y1, h1⟩ := hg 1 _ rfl
    obtain ⟨y2, h2⟩ := hg 2 _ rfl
    obtain ⟨y3, h3⟩ := hg 3 _ rfl
    obtain ⟨y4, h4⟩ := hg 4 _ rfl
    obtain ⟨y5, h5⟩ := hg 5 _ rfl
    obtain ⟨y6, h6⟩ := hg 6 _ rfl
    obtain ⟨y7, h7⟩ := hg 7 _ rfl
    obtain ⟨y8, h8⟩ := hg 8 _ rfl
    obtain ⟨y9, h9⟩ := hg 9 _ rfl
    obtain ⟨y10, h10⟩ := hg 10 _ rfl
    obtain ⟨y11, h11⟩ := hg 11 _ rfl
    obtain ⟨y12, h12⟩ := hg 12 _ rfl
    obtain ⟨a0, e0, -, w0⟩ := DataW.trod_int Tryd.underlying3 h0
    obtain ⟨a1, e1, -, w1⟩ := DataW.trod_int Tryd.underlying3 h1
    obtain ⟨a2, e2, -, w2⟩ := DataW.trod_int Tryd.underlying3 h2
    obtain ⟨a3, e3, -, w3⟩ := DataW.trod_int Tryd.underlying3 h3
    obtain ⟨a4, e4, -, w4⟩ := DataW.trod_int Tryd.underlying3 h4
    obtain ⟨a5, e5, -, -⟩ := DataW.trod_string Tryd.underlying9 h5
    obtain ⟨a6, e6, -, w6⟩ := DataW.trod_int Tryd.underlying3 h6
    obtain ⟨a7, e7, -, w7⟩ := DataW.trod_int Tryd.underlying3 h7
    obtain ⟨a8, e8, -, w8⟩ := DataW.trod_int Tryd.underlying3 h8
    obtain ⟨a9, e9, -, w9⟩ := DataW.trod_int Tryd.underlying3 h9
    obtain ⟨a10, e10, -, w10⟩ := DataW.trod_int Tryd.underlying3 h10
    obtain ⟨a11, e11, -⟩ := DataW.trod_bool Tryd.underlying4 h11
    obtain ⟨cs, hc, ho⟩ := read_calls h12
    rw [List.cons.injEq] at e0 e1 e2 e3 e4 e5 e6 e7 e8 e9 e10 e11
    obtain rfl : c0 = .int .i64 a0 := e0.1
    obtain rfl : c1 = .int .i64 a1 := e1.1
    obtain rfl : c2 = .int .i64 a2 := e2.1
    obtain rfl : c3 = .int .i64 a3 := e3.1
    obtain rfl : c4 = .int .i64 a4 := e4.1
    obtain rfl : c5 = .string a5 := e5.1
    obtain rfl : c6 = .int .i64 a6 := e6.1
    obtain rfl : c7 = .int .i64 a7 := e7.1
    obtain rfl : c8 = .int .i64 a8 := e8.1
    obtain rfl : c9 = .int .i64 a9 := e9.1
    obtain rfl : c10 = .int .i64 a10 := e10.1
    obtain rfl : c11 = .bool a11 := e11.1
    refine ⟨(⟨a0, a1, a2, a3, a4, a5.data.toList, a6, a7, a8, a9, a10, a11, cs⟩, c12), rfl, hc, ?_⟩
    exact ⟨int_ok w0, int_ok w1, int_ok w2, int_ok w3, int_ok w4, int_ok w6, int_ok w7, int_ok w8, int_ok w9, int_ok w10, ho⟩
end
set_option maxRecDepth 100000 in
theorem words_at {w : World} (h : laidMetH Tryd.prog [("transit/message.words", Rows.laid_transit_message_words)] w) : WordsAt w := by
  rw [MakeChecks.laidMetH_plain _ _ _ (by kernel_rfl)] at h
  obtain ⟨ps, ⟨g, t, cs, fuel, p, q, hg, ht, hv, htr, -, -⟩, -, -⟩ := h
  obtain rfl : g = 0 := Option.some.inj (hg.symm.trans (by kernel_rfl))
  obtain rfl : t = 50 := Option.some.inj (ht.symm.trans (by kernel_rfl))
  obtain ⟨xs, m, -, hx, hl, hn, hi⟩ := DataW.trod_array Tryd.underlying50 htr
  have hc1 : Tryd.prog.cellsOf 9 = 1 := by kernel_rfl
  have hd : xs.map (·.1) = [.lit (.string []), .lit (.string [100, 101, 108, 97, 121]), .lit (.string [99, 97, 110, 99, 101, 108]), .lit (.string [115, 107, 105, 112]), .lit (.string [114, 101, 114, 111, 117, 116, 101]), .lit (.string [97, 100, 100]), .lit (.string [114, 101, 115, 116, 111, 114, 101])] := by
    have := congrArg Prod.fst hx
    simp only [Rows.laid_transit_message_words, DataW.agg.injEq] at this
    exact this.symm
  have hcell : ∀ (i : Nat) (u : Value), cs[i]? = some u → w.cell? ⟨0, i, none⟩ = some u := fun i u hu => by
    simp only [World.var?, hg, Option.bind_some] at hv
    split at hv
    · rename_i c t' fr hb
      simp only [Option.some.injEq] at hv
      subst hv
      rw [cell_of_row w _ i c t' fr hb]
      exact hu
    · cases hv
  have key : ∀ k : Nat, k < 7 → w.cell? ⟨0, k, none⟩ = some (str (wordS k)) := fun k hk => by
    have h1 := hi k hk
    rw [hc1, Nat.mul_one] at h1
    obtain ⟨x, hx2⟩ : ∃ x, xs[k]? = some x := ⟨_, List.getElem?_eq_getElem (by omega)⟩
    rw [hx2] at h1
    obtain ⟨s, hs, hs2, -⟩ := DataW.trod_string Tryd.underlying9 h1
    have hk2 : cs[k]? = some (.string s) := by
      have := congrArg (·[0]?) hs
      simp only [List.getElem?_take, List.getElem?_drop, List.getElem?_cons_zero] at this
      simpa using this
    have hd2 := congrArg (·[k]?) hd
    simp only [List.getElem?_map, hx2, Option.map_some] at hd2
    rw [hcell k _ hk2]
    have key2 : s.data.toList = wordS k → (some (Value.string s) : Option Value) = some (str (wordS k)) := fun e => by
      rw [← e]
    rw [hs2] at hd2
    refine key2 ?_
    obtain rfl | rfl | rfl | rfl | rfl | rfl | rfl : k = 0 ∨ k = 1 ∨ k = 2 ∨ k = 3 ∨ k = 4 ∨ k = 5 ∨ k = 6 := by omega
    all_goals
      injection (Option.some.inj hd2) with e1
      injection e1 with e2
  exact ⟨key, World.block_lt_of_cell? w _ (key 0 (by decide))⟩
theorem laidOut : laidOutB Tryd.prog = true := by kernel_rfl
end Go.Proofs.YthdadalmgldppaaDoor
namespace Go.Proofs.YthdadalmgldppaaDoor.messageParses
open Go.ChangeShapes Go.WideShapes Go.ChangeAt Go.RowKit
open Go.ChangeMaps (open_string shut_string)
set_option linter.unusedVariables false

def laidL : List (String × DataW Unit) := [("transit/message.words", Rows.laid_transit_message_words)]
theorem own : ownKnob Tryd.prog.godebug = none := by kernel_rfl
theorem laid : laidOutB Tryd.prog = true := by kernel_rfl
theorem int_wf {x : Int} (h : (Lit.int .i64 x).wf = true) : -9223372036854775808 ≤ x ∧ x ≤ 9223372036854775807 := by
  have hmin : IntKind.i64.min = -9223372036854775808 := rfl
  have hmax : IntKind.i64.max = 9223372036854775807 := rfl
  simp only [Lit.wf, Bool.and_eq_true, decide_eq_true_eq] at h
  omega
set_option maxRecDepth 100000 in
theorem lifted (os : Os) (started : os.Started) (H : Type) (enc : TypeId × Value → H) :
    ReturnsInHanded {} Tryd.checked os 5 .any (fun w args => (Rows.messageParsesSpec.pre enc Tryd.prog Tryd.f5 [] false w args ∧ laidMetH Tryd.prog laidL w) ∧ sizedMet enc Tryd.prog Tryd.f5 (OpenSpec.ofChange Rows.messageParsesSpec) false w args) (Rows.messageParsesSpec.post enc Tryd.prog Tryd.f5 false true false false) := by
  refine handed_laid (C := Tryd.checked) (X := fun w _ => laidMetH Tryd.prog laidL w) (fun _ _ _ hh h => h.of_heap hh) own started (by kernel_rfl) Tryd.func5
    (ChangeSpec.witness_shaped (enc := enc) (C := Tryd.checked) (os := os) (X := fun w _ => laidMetH Tryd.prog laidL w) false (World.laidAll Tryd.prog os laidL) #[.string ByteArray.empty] 8 (World.laidAll_os _ _ _)
      (World.shaped_of_ZipB (by kernel_rfl) (by kernel_rfl)) (by kernel_rfl) (by kernel_rfl) (by kernel_rfl)
      (by rw [MakeChecks.laidMetH_plain _ _ _ (by kernel_rfl)]; exact laidMet_laidAll _ (by kernel_rfl) (by kernel_rfl))) ?_
  intro W base args ds gs before hval0 hW hsz hlaid hsh _
  have hwords := words_at hlaid
  have hval : ∀ (j : Nat) t v, Tryd.f5.params[j]? = some t → args[j]? = some v → Value.okWide Tryd.prog W .any base t v := hval0
  have hW' := hW
  obtain ⟨p, q, hA0, hV, rfl, hfz, hnd⟩ := hW
  have hA : DataW.TrodAll enc Tryd.prog W 0 (fun _ => true) true Tryd.f5.params.toList args.toList ds p := hA0
  rw [Tryd.params5] at hA hval
  obtain ⟨v0, vs0, d0, ds0, p0, q0, hargs, rfl, rfl, h0, t0⟩ := trodAll_cons hA
  obtain ⟨rfl, rfl, rfl⟩ := trodAll_nil t0
  obtain rfl : args = #[v0] := by cases args; simp_all
  obtain ⟨rfl, rfl⟩ := trodVars_none hV
  have h0k := h0
  obtain ⟨a0, rfl, -, -, w0⟩ := open_string Tryd.underlying9 (hval 0 9 v0 rfl rfl) h0
  clear hA0 hval0
  simp only [List.append_nil] at hW'
  have hlt : ∀ x ∈ p0, x.block < W.heap.size := fun x hx => by simpa using hW'.lt x hx
  refine (parses_law a0.data.toList W hwords).mono fun e W' ⟨he, bel⟩ => ?_
  subst he
  exact ⟨_, rfl, _, _, _, [], p0 ++ [], [], hW', trodAll_cons_mk (shut_bool Tryd.underlying4 _) trodAll_mk0, (trodAll_cons_mk (Below.trod laid (by kernel_rfl) (of_decide_eq_true (by kernel_rfl)) h0k bel (fun x hx => hlt x (by simp [hx]))) trodAll_mk0), rfl, bel.frame _, fun h => by cases h⟩

theorem over : Rows.messageParsesRow.holds Tryd.pinned (OpenSpec.ofChange Rows.messageParsesSpec) :=
  OpenClaim.holds_of_wide 5 Tryd.f5 rfl rfl rfl rfl rfl rfl rfl ⟨rfl, rfl, rfl, rfl, rfl⟩ rfl rfl rfl rfl rfl (by kernel_rfl) Tryd.func5 (by kernel_rfl)
    (of_decide_eq_true (by kernel_rfl)) (by unfold Func.isWrapper; first | (rw [if_pos (by decide +kernel)]; kernel_rfl) | (rw [if_neg (by decide +kernel)]; exact ⟨rfl, rfl⟩))
    (fun os started H enc _ => lifted os started H enc)

/-- The given statement: the tied card. -/
theorem proved : Rows.MessageParsesCardSaid :=
  Claim7.holds_tied_plain_at .later [] [.data] true (true, "fbb44d5942b7ac535924e88c01e70e048e1847d501acc9bdce1d2807e07517d4") false over (fun _ h => by cases h) (by kernel_rfl) (fun _ h => by cases h) messageParses_row_tie rfl ⟨rfl, rfl⟩ (by kernel_rfl) rfl
    (fun f fn hf hfn => by
      obtain rfl : f = 5 := Option.some.inj ((show Tryd.prog.funcNamed "transit/transitlaw31.MessageParses" = some 5 by kernel_rfl).symm.trans hf) |>.symm
      obtain rfl : fn = Tryd.f5 := (Option.some.inj (Tryd.func5.symm.trans hfn)).symm
      exact ⟨by kernel_rfl, fun j t ht => by
        rw [Tryd.params5] at ht
        have hm : t ∈ [9] := by simpa using Array.mem_of_getElem? ht
        have hall : ([9].all fun u => !Tryd.prog.wantsStandIn u) = true := by kernel_rfl
        exact (show Tryd.prog.wantsStandIn t = false by simpa using List.all_eq_true.1 hall t hm)⟩)
    (by kernel_rfl)
#print axioms proved
end Go.Proofs.YthdadalmgldppaaDoor.messageParses
