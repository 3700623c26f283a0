/-
  THE CONTRACTS OF FIELD, TWELFTH PART: the reference's Join. Conditions: those of each contract.
  THE CONTRACTS OF MESSAGE, PART V: flags, CallField, Words of the reference. Conditions: those of each contract.
  THE CONTRACTS OF MESSAGE, PART Y: Fields of the reference. Conditions: those of each contract.
  THE CONTRACTS OF MESSAGE, NINTH PART: Check of the reference. Conditions: those of each contract.
  THE CONTRACTS OF MESSAGE, PART R: SameTarget, status, Supersedes, Equal, of the program; Equal of the reference. Conditions: those of each contract.
  THE CONTRACTS OF MESSAGE, PART S: Equal, of the program and of the reference; SameTarget of the reference. Conditions: those of each contract.
  THE LAWS OF MESSAGE, FIRST PART: exampleHolds, large. Conditions: those of each contract.
  THE LAWS OF MESSAGE, SECOND PART: large; the law of the order. Conditions: those of each contract.
  THE CONTRACTS AND THE LAW OF FORMATTING MESSAGES: Fields, Format of the reference; the law. Conditions: those of each contract.
  A MESSAGE AMONG THE ARGUMENTS, AND THE LAID WORDS. Conditions: those of each lemma.
  MessageFormats: for every input the call returns true, and each argument reads afterwards as it read before. Conditions: none beyond the row's own.
-/
import Derived.Test.YthdadalmgldppaaDoorMFldWalksK
import Derived.Lib.AppendStr
import Derived.Test.YthdadalmgldppaaDoorMsgWalksK
import Derived.Deep.RegionHeld3
import Derived.Outline
import Derived.Test.YthdadalmgldppaaDoorMsgWalksH
import Derived.Test.YthdadalmgldppaaDoorMsgTop
import Derived.Test.YthdadalmgldppaaDoorRows
import Derived.Deep.Slices
import Derived.Deep.Fields
import Derived.ChangeSame
import Derived.Lib.SmallJoins
import Derived.ProofKit
import Derived.OpenShut
import Derived.MakeChecks
import Derived.ShutString
import Derived.ChangeOld
import Derived.Carry
import Derived.Test.YthdadalmgldppaaDoorWrap
import Derived.Test.YthdadalmgldppaaDoorCards
import Derived.Test.YthdadalmgldppaaDoorTie
import Derived.Lay
import Derived.LaidOnce
import Derived.SevenTiedAt
import Derived.Shelf.Vars
import Derived.HandedShaped
namespace Go.Proofs.YthdadalmgldppaaDoor
open Go.RowKit
open Fld

theorem ownB_str {B : Nat} {v' : Value} {l q : List UInt8} {w : World} {n : Nat} (h : w.ownsRow B 5 1 v' n (Lib.byteCells l ++ Lib.strCells ⟨q.toArray⟩)) (hn : n = l.length + q.length) : OwnB B v' (l ++ q) w := by
  unfold OwnB
  rw [byteCells_app, List.length_append]
  subst hn
  exact h
set_option maxRecDepth 20000 in
set_option maxHeartbeats 4000000 in
theorem rjoin_c (v : Value) (l : List (List UInt8)) (o : List UInt8) (e : Int) (H : Hid (joinR l = (o, e))) (HL : Hid (∀ x ∈ l, x.length ≤ 131072)) (B : Nat) (w : World) (hv : StrsIn B w v l) (hB : B ≤ w.heap.size) :
    Calls Tryd.prog 35 #[v] w fun r w' => r = .returned (.tuple #[str o, .int .i64 e]) ∧ Bl w w' := by
  obtain ⟨i0, hi, hz0, hz1, hz2⟩ := info_parts info_byte
  by_cases hbig : 64 < l.length
  · obtain ⟨b1, o1, cap1, rfl, l1, m1, hb1, hc1⟩ := hv.open (by omega)
    have HF := Lib.hid (show (([] : List UInt8), (5 : Int)) = (o, e) by rw [← H.out]; unfold joinR; rw [if_pos hbig])
    obtain ⟨e1, e2⟩ := Prod.mk.inj HF.out
    clear H HF hv hc1
    subst e1 e2
    go_enter Tryd.func35, Tryd.ntmps35
    go_wp2
    go_ret2
    exact ⟨rfl, bl_refl _⟩
  by_cases h0 : 0 < l.length
  · obtain ⟨b1, o1, cap1, rfl, l1, m1, hb1, hc1⟩ := hv.open h0
    have H1 := Lib.hid hc1
    clear hv hc1
    go_enter Tryd.func35, Tryd.ntmps35
    go_wp2
    go_loopw [4, 5] (fun vo i wr => ∃ (k : Nat) (line : List UInt8), k ≤ l.length ∧ i = .int .i64 k ∧ line.length ≤ k * 600000 ∧ Hid (OwnB w.heap.size vo line wr) ∧ Hid (joinS (l.take k) = line) ∧ Hid (Bl w wr)) (fun _ i _ => l.length - (intOf i).toNat)
    case atStart => exact ⟨0, [], Nat.zero_le _, rfl, by decide, ownB_nil _ _, by show _ = _; rfl, bl_refl _⟩
    case round =>
      obtain ⟨k, line, hk, rfl, hll, HO, HJ, HB⟩ := hrel
      by_cases hlt : k < l.length
      · obtain ⟨x, hx⟩ : ∃ x, l[k]? = some x := ⟨_, List.getElem?_eq_getElem hlt⟩
        have hxl : x.length ≤ 131072 := HL.out x (List.mem_of_getElem? hx)
        have i1 : (k : Int) < (l.length : Int) := by omega
        obtain ⟨q, hq⟩ : ∃ q, quoteS x = q := ⟨_, rfl⟩
        have hql : q.length ≤ 524290 := by rw [← hq]; have := (quote_len x).2; omega
        have HQ := Lib.hid hq
        have hqc := rquote_c ⟨x.toArray⟩ q HQ (by show x.toArray.size ≤ _; rw [List.size_toArray]; omega)
        by_cases hk0 : 0 < k
        · have HN := Lib.hid (show joinS (l.take (k + 1)) = (line ++ [44]) ++ q by rw [join_next hk0 hx, HJ.out, hq])
          have HX := Lib.hid hx
          clear hx hq
          go_wp2_with (at_builtin; refine wpList_append_own _ rfl _ _ 80 rfl w.heap.size 5 i0 (.int .u8 0) 1 1 Tryd.underlying80 hi hz0 hz1 hz2 rfl (by decide) _ _ _ rfl (ownB_alloc HO.out _) ⟨wr.heap.size, 0, none⟩ 1 1 [.int .u8 44] rfl rfl ?c1 ?c2 ?c3 ?c4 ?c5 ?_)
          case c1 => exact cells_of_lit _ (fun j u h => by simpa using h)
          case c2 => simp [Value.oneCell']
          case c3 => unfold maxLen; omega
          case c4 => omega
          case c5 => have := HB.out.size; simp; omega
          intro v3 w3 hown3 hgrow3 _
          have O3 := Lib.hid (ownB_app (m := [44]) hown3)
          have B3 : Hid (Bl w w3) := (HB.out.alloc HB.out.size _).grown hgrow3 (by have := HB.out.size; simp; omega) (fun k hk => (World.ownsRow.lt HO.out k hk).1)
          clear hown3 hgrow3
          have c1 : w3.cell? ⟨b1, o1 + k, none⟩ = some (str x) := by rw [(bl_cell B3.out).1 _ _ (by omega)]; exact (by have := H1.out k x HX.out 0 _ rfl; simpa using this)
          have hl44 : (line ++ [44]).length = line.length + 1 := by simp
          go_wp2_with (go_at_call 58; refine (hqc _).mono ?_)
          rintro r w4 ⟨rfl, b4⟩
          have B4 : Hid (Bl w w4) := bl_next B3.out b4
          have O4 := Lib.hid (ownB_bl O3.out b4)
          clear b4 hqc
          go_wp2_with (at_builtin; refine Lib.wpList_append_own_string _ rfl _ _ 80 9 rfl w.heap.size 5 i0 Tryd.underlying80 Tryd.underlying9 hi hz0 hz1 hz2 _ _ _ rfl O4.out ⟨q.toArray⟩ rfl ?d3 ?d4 ?d5 ?_)
          case d3 => show (line ++ [44]).length + q.toArray.size ≤ _; rw [List.size_toArray]; unfold maxLen; omega
          case d4 => show (line ++ [44]).length + q.toArray.size ≤ _; rw [List.size_toArray]; omega
          case d5 => exact B4.out.size
          intro v5 w5 hown5 hgrow5 _
          have O5 := Lib.hid (ownB_str hown5 (by simp))
          have B5 : Hid (Bl w w5) := B4.out.grown hgrow5 B4.out.size (fun k hk => (World.ownsRow.lt O4.out k hk).1)
          clear hown5 hgrow5
          go_wp2
          go_roundw
          case rel => exact ⟨k + 1, (line ++ [44]) ++ q, by omega, by go_num, by simp; omega, O5, HN, B5⟩
          case measure => simp [intOf]; omega
        · have HN := Lib.hid (show joinS (l.take (k + 1)) = line ++ q by
            have hkz : k = 0 := by omega
            have hl0 : line = [] := by rw [← HJ.out, hkz]; rfl
            rw [hl0, List.nil_append, hkz, join_first (by rw [← hkz]; exact hx), hq])
          have c1 : wr.cell? ⟨b1, o1 + k, none⟩ = some (str x) := by rw [(bl_cell HB.out).1 _ _ (by omega)]; exact (by have := H1.out k x hx 0 _ rfl; simpa using this)
          clear hx hq
          go_wp2_with (go_at_call 58; refine (hqc _).mono ?_)
          rintro r w4 ⟨rfl, b4⟩
          have B4 : Hid (Bl w w4) := bl_next HB.out b4
          have O4 := Lib.hid (ownB_bl HO.out b4)
          clear b4 hqc
          go_wp2_with (at_builtin; refine Lib.wpList_append_own_string _ rfl _ _ 80 9 rfl w.heap.size 5 i0 Tryd.underlying80 Tryd.underlying9 hi hz0 hz1 hz2 _ _ _ rfl O4.out ⟨q.toArray⟩ rfl ?d3 ?d4 ?d5 ?_)
          case d3 => show line.length + q.toArray.size ≤ _; rw [List.size_toArray]; unfold maxLen; omega
          case d4 => show line.length + q.toArray.size ≤ _; rw [List.size_toArray]; omega
          case d5 => exact B4.out.size
          intro v5 w5 hown5 hgrow5 _
          have O5 := Lib.hid (ownB_str hown5 (by simp))
          have B5 : Hid (Bl w w5) := B4.out.grown hgrow5 B4.out.size (fun k hk => (World.ownsRow.lt O4.out k hk).1)
          clear hown5 hgrow5
          go_wp2
          go_roundw
          case rel => exact ⟨k + 1, line ++ q, by omega, by go_num, by simp; omega, O5, HN, B5⟩
          case measure => simp [intOf]; omega
      · have HK := Lib.hid (show joinS l = line by rw [← HJ.out, List.take_of_length_le (by omega)])
        by_cases hover : 65536 < line.length
        · have HF := Lib.hid (show (([] : List UInt8), (5 : Int)) = (o, e) by
            rw [← H.out]; unfold joinR; rw [if_neg hbig, if_pos (by rw [HK.out]; exact hover)])
          obtain ⟨e1, e2⟩ := Prod.mk.inj HF.out
          clear H HF
          subst e1 e2
          obtain ⟨a3, c3, rfl⟩ := own_form HO.out
          go_wp2
          go_ret2
          exact ⟨rfl, HB.out⟩
        · have HF := Lib.hid (show (line, (0 : Int)) = (o, e) by
            rw [← H.out]; unfold joinR; rw [if_neg hbig, if_neg (by rw [HK.out]; exact hover), HK.out])
          obtain ⟨e1, e2⟩ := Prod.mk.inj HF.out
          clear H HF
          subst e1 e2
          obtain ⟨a3, c3, rfl⟩ := own_form HO.out
          have hcv := ownB_conv HO.out
          go_wp2
          go_ret2
          exact ⟨rfl, HB.out⟩
  · obtain ⟨a1, c1, rfl, m1, rfl⟩ := hv.empty (by omega)
    have HF := Lib.hid (show (([] : List UInt8), (0 : Int)) = (o, e) by rw [← H.out]; rfl)
    obtain ⟨e1, e2⟩ := Prod.mk.inj HF.out
    clear H HF hv
    subst e1 e2
    go_enter Tryd.func35, Tryd.ntmps35
    have hcv := ownB_conv (ownB_nil w.heap.size w)
    go_wp2_with fail
    refine wp_loop_rounds 1 ?_
    rw [rounds_succ]
    go_wp2
    go_ret2
    exact ⟨rfl, bl_refl _⟩
end Go.Proofs.YthdadalmgldppaaDoor
namespace Go.Proofs.YthdadalmgldppaaDoor
open Go.RowKit
open Msg Num Fld Dat

theorem rflags_c (c : CallD) (w : World) :
    Calls Tryd.prog 86 #[callV c] w fun e w' => e = .returned (str (permS c)) ∧ Bl w w' := by
  obtain ⟨s, a, d, b, al⟩ := c
  cases b <;> cases al
  all_goals
    go_enter Tryd.func86, Tryd.ntmps86
    go_wp2
    go_ret
    exact ⟨rfl, bl_alloc (bl_refl _) _⟩
theorem rwords_c (w : World) :
    Calls Tryd.prog 61 #[] w fun e w' => e = .returned (.slice (some ⟨w.heap.size, 0, none⟩) 6 6) ∧ w' = w.alloc (.cells #[str wDelay, str wCancel, str wSkip, str wReroute, str wAdd, str wRestore] 9) := by
  go_enter Tryd.func61, Tryd.ntmps61
  go_wp2
  go_ret
  exact ⟨rfl, rfl⟩
set_option maxRecDepth 20000 in
set_option maxHeartbeats 4000000 in
theorem rcallField_c (c : CallD) (hok : Hid (okCall c)) (w : World) :
    Calls Tryd.prog 62 #[callV c] w fun e w' => e = .returned (str (callText c)) ∧ Bl w w' := by
  have HT := Lib.hid (show callText c = itoa c.stop ++ ([32] ++ (itoa c.arrive ++ ([32] ++ (itoa c.depart ++ ([32] ++ permS c))))) by simp [callText])
  have f0 := fun w => Nu.refFormat_c c.stop hok.out.1.1 hok.out.1.2 w
  have f1 := fun w => Nu.refFormat_c c.arrive hok.out.2.1.1 hok.out.2.1.2 w
  have f2 := fun w => Nu.refFormat_c c.depart hok.out.2.2.1 hok.out.2.2.2 w
  have ff := fun w => rflags_c c w
  have l0 := itoa_len hok.out.1.1 hok.out.1.2
  have l1 := itoa_len hok.out.2.1.1 hok.out.2.1.2
  have l2 := itoa_len hok.out.2.2.1 hok.out.2.2.2
  have l3 : (permS c).length ≤ 6 := by
    unfold permS
    repeat' split
    all_goals decide
  obtain ⟨q0, h0⟩ : ∃ q, itoa c.stop = q := ⟨_, rfl⟩
  obtain ⟨q1, h1⟩ : ∃ q, itoa c.arrive = q := ⟨_, rfl⟩
  obtain ⟨q2, h2⟩ : ∃ q, itoa c.depart = q := ⟨_, rfl⟩
  obtain ⟨q3, h3⟩ : ∃ q, permS c = q := ⟨_, rfl⟩
  rw [h0, h1, h2, h3] at HT
  rw [h0] at f0 l0
  rw [h1] at f1 l1
  rw [h2] at f2 l2
  rw [h3] at ff l3
  clear h0 h1 h2 h3
  have hb : ∀ w', Bl (w.alloc (.cells #[.int .i64 c.stop, .int .i64 c.arrive, .int .i64 c.depart, .bool c.board, .bool c.alight] 46)) w' → (w'.cell? ⟨w.heap.size, 0, none⟩ = some (.int .i64 c.stop) ∧ w'.cell? ⟨w.heap.size, 1, none⟩ = some (.int .i64 c.arrive) ∧ w'.cell? ⟨w.heap.size, 2, none⟩ = some (.int .i64 c.depart) ∧ w'.cell? ⟨w.heap.size, 3, none⟩ = some (.bool c.board) ∧ w'.cell? ⟨w.heap.size, 4, none⟩ = some (.bool c.alight)) := fun w' h => by
    have k := blk_bl (heap_alloc_new w (.cells #[.int .i64 c.stop, .int .i64 c.arrive, .int .i64 c.depart, .bool c.board, .bool c.alight] 46)) h
    exact ⟨blk_cell k 0 _ rfl, blk_cell k 1 _ rfl, blk_cell k 2 _ rfl, blk_cell k 3 _ rfl, blk_cell k 4 _ rfl⟩
  have h0 := bl_alloc (bl_refl w) (.cells #[.int .i64 c.stop, .int .i64 c.arrive, .int .i64 c.depart, .bool c.board, .bool c.alight] 46)
  have HH := Lib.hid h0
  clear h0
  have z0 : ¬ 9223372036854775807 < q0.length + 1 := by omega
  have z1 : ¬ 9223372036854775807 < q0.length + 1 + q1.length := by omega
  have z2 : ¬ 9223372036854775807 < q0.length + 1 + q1.length + 1 := by omega
  have z3 : ¬ 9223372036854775807 < q0.length + 1 + q1.length + 1 + q2.length := by omega
  have z4 : ¬ 9223372036854775807 < q0.length + 1 + q1.length + 1 + q2.length + 1 := by omega
  have z5 : ¬ 9223372036854775807 < q0.length + 1 + q1.length + 1 + q2.length + 1 + q3.length := by omega
  go_enter Tryd.func62, Tryd.ntmps62
  go_wp2_with fail
  change Code.wp _ _ _ _ (w.alloc (.cells #[.int .i64 c.stop, .int .i64 c.arrive, .int .i64 c.depart, .bool c.board, .bool c.alight] 46))
  generalize w.alloc (.cells #[.int .i64 c.stop, .int .i64 c.arrive, .int .i64 c.depart, .bool c.board, .bool c.alight] 46) = W at hb HH ⊢
  obtain ⟨p0, p1, p2, p3, p4⟩ := hb W (bl_refl W)
  go_region_held3 (fun w' => w'.cell? ⟨w.heap.size, 0, none⟩ = some (.int .i64 c.stop) ∧ w'.cell? ⟨w.heap.size, 1, none⟩ = some (.int .i64 c.arrive) ∧ w'.cell? ⟨w.heap.size, 2, none⟩ = some (.int .i64 c.depart) ∧ w'.cell? ⟨w.heap.size, 3, none⟩ = some (.bool c.board) ∧ w'.cell? ⟨w.heap.size, 4, none⟩ = some (.bool c.alight))
    (first | exact hb _ (bl_drew (bl_refl W)) | exact hb _ (bl_next (bl_drew (bl_refl W)) b4))
    (first
      | (go_at_call 60; with_reducible (refine (f0 _).mono ?_); rintro y1 w1 ⟨rfl, rfl⟩)
      | (go_at_call 60; with_reducible (refine (f1 _).mono ?_); rintro y2 w2 ⟨rfl, rfl⟩)
      | (go_at_call 60; with_reducible (refine (f2 _).mono ?_); rintro y3 w3 ⟨rfl, rfl⟩)
      | (go_at_call 86; refine (ff _).mono ?_; rintro y4 w4 ⟨rfl, b4⟩))
  go_wp2
  go_ret
  refine ⟨?_, bl_next HH.out (bl_next (bl_drew (bl_refl W)) b4)⟩
  show Ending.returned (.string ((⟨q0.toArray⟩ : ByteArray) ++ ⟨[32].toArray⟩ ++ ⟨q1.toArray⟩ ++ ⟨[32].toArray⟩ ++ ⟨q2.toArray⟩ ++ ⟨[32].toArray⟩ ++ ⟨q3.toArray⟩)) = _
  refine congrArg (fun x => Ending.returned (Value.string x)) ?_
  rw [bytes_add, bytes_add, bytes_add, bytes_add, bytes_add, bytes_add, HT.out]
  simp only [List.append_assoc]
end Go.Proofs.YthdadalmgldppaaDoor
namespace Go.Proofs.YthdadalmgldppaaDoor
open Go.RowKit
open Msg Num Fld Dat

/-- A row that has just been laid is the call's own. -/
theorem ownS_new {w : World} {l : List (List UInt8)} {C : Array Value} {n : Nat} (hC : C = (l.map str).toArray) (hn : n = l.length) (hm : n ≤ maxLen) : OwnS w.heap.size (.slice (some ⟨w.heap.size, 0, none⟩) n n) l (w.alloc (.cells C 9)) := by
  subst hn
  refine ⟨?_, .inr ⟨w.heap.size, l.length, C, rfl, Nat.le_refl _, heap_alloc_new w _, Nat.le_refl _, hm, ?_, ?_⟩⟩
  · rw [flat_strs]; simp
  · rw [hC]; simp
  · rw [hC, flat_strs]
    simp
    exact List.take_of_length_le (by simp)
theorem wpAnyH_strong {P : Program} {md : Region.Mode} {ops : Array Oper} {Q : Exit → Act → World → Prop} {S S' : World → Prop} (h : ∀ w, S' w → S w) : ∀ (fuel : Nat) (listed : Array Bool) (a : Act) (w : World), wpAnyH P md ops Q S' fuel listed a w → wpAnyH P md ops Q S fuel listed a w
  | 0, _, _, _, k => k
  | fuel + 1, _, _, _, k => ⟨k.1, fun i hi => wpOp_mono (fun a' w' k' => ⟨h _ k'.1, wpAnyH_strong h fuel _ a' w' k'.2⟩) (k.2 i hi)⟩
theorem word_cellN (X : World) (j : Nat) (h : j < 6) : (X.alloc (.cells #[str wDelay, str wCancel, str wSkip, str wReroute, str wAdd, str wRestore] 9)).cell? ⟨X.heap.size, j, none⟩ = some (str (wordS ((j : Int) + 1))) := by
  rw [World.cell?_alloc_at (hn := rfl)]
  have : j = 0 ∨ j = 1 ∨ j = 2 ∨ j = 3 ∨ j = 4 ∨ j = 5 := by omega
  rcases this with rfl | rfl | rfl | rfl | rfl | rfl <;> rfl
theorem ownS_new' {w : World} {g : Nat} {l : List (List UInt8)} {C : Array Value} {n : Nat} (hg : w.heap.size = g) (hC : C = (l.map str).toArray) (hn : n = l.length) (hm : n ≤ maxLen) : OwnS g (.slice (some ⟨g, 0, none⟩) n n) l (w.alloc (.cells C 9)) := by
  subst hg
  exact ownS_new hC hn hm
set_option maxRecDepth 20000 in
set_option maxHeartbeats 8000000 in
theorem rfields_k1 (m : MsgD) (hk : Hid (m.kind = 1)) (hn : Hid (m.calls = [])) (v : Value) (hg : Hid (Msg.Good m)) (ho : Hid (OkM m)) (B : Nat) (w : World) (hv : CallsIn B w v m.calls) (hB : B ≤ w.heap.size) :
    Calls Tryd.prog 36 #[msgV m v] w fun r w' => ∃ u, r = .returned u ∧ OwnS w.heap.size u (fieldsM m) w' ∧ Bl w w' := by
  obtain ⟨i0, hi, hz0, hz1, hz2⟩ := info_parts info_str
  have hdf := fun w => Da.rFormat_c m.day (dtext m.day) 0 (by show _ = _; unfold dfmt; rw [if_pos hg.out.day]) w
  have hbl : Bl w (w.alloc (.cells (msgCells m v) 24)) := bl_alloc (bl_refl _) _
  have hm := msgAt_new m v w
  have hsz : w.heap.size < (w.alloc (.cells (msgCells m v) 24)).heap.size := by simp
  have HV := Lib.hid (hv.below (hbl.mono hB))
  clear hv
  go_enter Tryd.func36, Tryd.ntmps36
  go_wp2_with (first
    | (go_at_call 59; refine (hdf _).mono ?_))
  rintro x3 w3 ⟨rfl, b3⟩
  have HM3 := Lib.hid (hm.next b3 hsz)
  have HB3 := Lib.hid (bl_next hbl b3)
  have HV3 := Lib.hid (HV.out.below (b3.mono (by simp; omega)))
  have hs3 : w.heap.size < w3.heap.size := by have := b3.size; simp at this; omega
  have hB3 : B ≤ w3.heap.size := by omega
  clear b3 hm hbl HV hdf hsz
  have hold : ∀ w', Bl w3 w' → (w'.cell? ⟨w.heap.size, 0, none⟩ = some (.int .i64 m.src) ∧ w'.cell? ⟨w.heap.size, 1, none⟩ = some (.int .i64 m.seq) ∧ w'.cell? ⟨w.heap.size, 2, none⟩ = some (.int .i64 m.iss) ∧ w'.cell? ⟨w.heap.size, 3, none⟩ = some (.int .i64 m.exp) ∧ w'.cell? ⟨w.heap.size, 4, none⟩ = some (.int .i64 1) ∧ w'.cell? ⟨w.heap.size, 5, none⟩ = some (str m.trip) ∧ w'.cell? ⟨w.heap.size, 7, none⟩ = some (.int .i64 m.inst)) := fun w' hb => by
    obtain ⟨c0, c1, c2, c3, c4, c5, c6, c7, _⟩ := (HM3.out.next hb hs3).all
    rw [hk.out] at c4
    exact ⟨c0, c1, c2, c3, c4, c5, c7⟩
  have hold2 : ∀ w', Bl w3 w' → (w'.cell? ⟨w.heap.size, 4, none⟩ = some (.int .i64 1) ∧ w'.cell? ⟨w.heap.size, 8, none⟩ = some (.int .i64 m.call) ∧ w'.cell? ⟨w.heap.size, 9, none⟩ = some (.int .i64 m.secs) ∧ w'.cell? ⟨w.heap.size, 10, none⟩ = some (.int .i64 m.route) ∧ w'.cell? ⟨w.heap.size, 11, none⟩ = some (.bool m.step) ∧ w'.cell? ⟨w.heap.size, 12, none⟩ = some v) := fun w' hb => by
    obtain ⟨_, _, _, _, c4, _, _, _, c8, c9, c10, c11, c12⟩ := (HM3.out.next hb hs3).all
    rw [hk.out] at c4
    
    exact ⟨c4, c8, c9, c10, c11, c12⟩
  have e0 := Lib.hid (show eight m = [itoa m.src, itoa m.seq, itoa m.iss, itoa m.exp, wDelay, m.trip, dtext m.day, itoa m.inst] by unfold eight; rw [hk.out]; rfl)
  have g0 := fun w => Nu.refFormat_c m.src ho.out.src.1 ho.out.src.2 w
  have g1 := fun w => Nu.refFormat_c m.seq ho.out.seq.1 ho.out.seq.2 w
  have g2 := fun w => Nu.refFormat_c m.iss ho.out.iss.1 ho.out.iss.2 w
  have g3 := fun w => Nu.refFormat_c m.exp ho.out.exp.1 ho.out.exp.2 w
  have g7 := fun w => Nu.refFormat_c m.inst ho.out.inst.1 ho.out.inst.2 w
  obtain ⟨q0, q1, q2, q3, q4, q5, q7⟩ := hold w3 (bl_refl _)
  go_wp2_with fail
  have wk : IntKind.i64.wrap 0 = 0 := by decide
  refine wp_region_held_drew (S := (fun w' => w'.cell? ⟨w.heap.size, 0, none⟩ = some (.int .i64 m.src) ∧ w'.cell? ⟨w.heap.size, 1, none⟩ = some (.int .i64 m.seq) ∧ w'.cell? ⟨w.heap.size, 2, none⟩ = some (.int .i64 m.iss) ∧ w'.cell? ⟨w.heap.size, 3, none⟩ = some (.int .i64 m.exp) ∧ w'.cell? ⟨w.heap.size, 4, none⟩ = some (.int .i64 1) ∧ w'.cell? ⟨w.heap.size, 5, none⟩ = some (str m.trip) ∧ w'.cell? ⟨w.heap.size, 7, none⟩ = some (.int .i64 m.inst))) (by kernel_rfl) (hold _ (bl_drew (bl_refl w3))) (fun hHeld => ?_)
  refine wpAnyH_take (i := 0) (v := ?_) rfl (by kernel_rfl) (by kernel_rfl) (by kernel_rfl) (fun _ _ _ h => h) (Or.inl ⟨by rfl, ?_⟩) (by assumption) ?_
  rotate_left
  · (intro w hSw; (try dsimp only at hSw); go_simp; first | done | with_reducible rfl)
  simp only [Act.put, List.setIfInBounds_toArray]
  refine wpAnyH_take (i := 1) (v := ?_) rfl (by kernel_rfl) (by kernel_rfl) (by kernel_rfl) (fun _ _ _ h => h) (Or.inl ⟨by rfl, ?_⟩) (by assumption) ?_
  rotate_left
  · (intro w hSw; (try dsimp only at hSw); go_simp; first | done | with_reducible rfl)
  simp only [Act.put]
  refine wpAnyH_take (i := 3) (v := ?_) rfl (by kernel_rfl) (by kernel_rfl) (by kernel_rfl) (fun _ _ _ h => h) (Or.inl ⟨by rfl, ?_⟩) (by assumption) ?_
  rotate_left
  · (intro w hSw; (try dsimp only at hSw); go_simp; first | done | with_reducible rfl)
  simp only [Act.put]
  refine wpAnyH_take (i := 4) (v := ?_) rfl (by kernel_rfl) (by kernel_rfl) (by kernel_rfl) (fun _ _ _ h => h) (Or.inl ⟨by rfl, ?_⟩) (by assumption) ?_
  rotate_left
  · (intro w hSw; (try dsimp only at hSw); go_simp; first | done | with_reducible rfl)
  simp only [Act.put]
  refine wpAnyH_take (i := 6) (v := ?_) rfl (by kernel_rfl) (by kernel_rfl) (by kernel_rfl) (fun _ _ _ h => h) (Or.inl ⟨by rfl, ?_⟩) (by assumption) ?_
  rotate_left
  · (intro w hSw; (try dsimp only at hSw); go_simp; first | done | with_reducible rfl)
  simp only [Act.put]
  refine wpAnyH_take (i := 7) (v := ?_) rfl (by kernel_rfl) (by kernel_rfl) (by kernel_rfl) (fun _ _ _ h => h) (Or.inl ⟨by rfl, ?_⟩) (by assumption) ?_
  rotate_left
  · (intro w hSw; (try dsimp only at hSw); go_simp; first | done | with_reducible rfl)
  simp only [Act.put]
  refine wpAnyH_take (i := 9) (v := ?_) rfl (by kernel_rfl) (by kernel_rfl) (by kernel_rfl) (fun _ _ _ h => h) (Or.inl ⟨by rfl, ?_⟩) (by assumption) ?_
  rotate_left
  · (intro w hSw; (try dsimp only at hSw); go_simp; first | done | with_reducible rfl)
  simp only [Act.put]
  refine wpAnyH_take (i := 10) (v := ?_) rfl (by kernel_rfl) (by kernel_rfl) (by kernel_rfl) (fun _ _ _ h => h) (Or.inl ⟨by rfl, ?_⟩) (by assumption) ?_
  rotate_left
  · (intro w hSw; (try dsimp only at hSw); go_simp; first | done | with_reducible rfl)
  simp only [Act.put]
  refine wpAnyH_take (i := 13) (v := ?_) rfl (by kernel_rfl) (by kernel_rfl) (by kernel_rfl) (fun _ _ _ h => h) (Or.inl ⟨by rfl, ?_⟩) (by assumption) ?_
  rotate_left
  · (intro w hSw; (try dsimp only at hSw); go_simp; first | done | with_reducible rfl)
  simp only [Act.put]
  refine wpAnyH_take (i := 14) (v := ?_) rfl (by kernel_rfl) (by kernel_rfl) (by kernel_rfl) (fun _ _ _ h => h) (Or.inl ⟨by rfl, ?_⟩) (by assumption) ?_
  rotate_left
  · (intro w hSw; (try dsimp only at hSw); go_simp; first | done | with_reducible rfl)
  simp only [Act.put]
  refine wpAnyH_take (i := 15) (v := ?_) rfl (by kernel_rfl) (by kernel_rfl) (by kernel_rfl) (fun _ _ _ h => h) (Or.inl ⟨by rfl, ?_⟩) (by assumption) ?_
  rotate_left
  · (intro w hSw; (try dsimp only at hSw); go_simp; first | done | with_reducible rfl)
  simp only [Act.put]
  refine wpAnyH_take (i := 18) (v := ?_) rfl (by kernel_rfl) (by kernel_rfl) (by kernel_rfl) (fun _ _ _ h => h) (Or.inl ⟨by rfl, ?_⟩) (by assumption) ?_
  rotate_left
  · (intro w hSw; (try dsimp only at hSw); go_simp; first | done | with_reducible rfl)
  simp only [Act.put]
  refine wpAnyH_take (i := 19) (v := ?_) rfl (by kernel_rfl) (by kernel_rfl) (by kernel_rfl) (fun _ _ _ h => h) (Or.inl ⟨by rfl, ?_⟩) (by assumption) ?_
  rotate_left
  · (intro w hSw; (try dsimp only at hSw); go_simp; first | done | with_reducible rfl)
  simp only [Act.put]
  refine wpAnyH_take (i := 20) (v := ?_) rfl (by kernel_rfl) (by kernel_rfl) (by kernel_rfl) (fun _ _ _ h => h) (Or.inl ⟨by rfl, ?_⟩) (by assumption) ?_
  rotate_left
  · (intro w hSw; (try dsimp only at hSw); go_simp; first | done | with_reducible rfl)
  simp only [Act.put]
  refine wpAnyH_take (i := 21) (v := ?_) rfl (by kernel_rfl) (by kernel_rfl) (by kernel_rfl) (fun _ _ _ h => h) (Or.inl ⟨by rfl, ?_⟩) (by assumption) ?_
  rotate_left
  · (intro w hSw; (try dsimp only at hSw); go_simp; first | done | with_reducible rfl)
  simp only [Act.put]
  refine wpAnyH_take (i := 22) (v := ?_) rfl (by kernel_rfl) (by kernel_rfl) (by kernel_rfl) (fun _ _ _ h => h) (Or.inl ⟨by rfl, ?_⟩) (by assumption) ?_
  rotate_left
  · (intro w hSw; (try dsimp only at hSw); go_simp; first | done | with_reducible rfl)
  simp only [Act.put]
  refine wpAnyH_ready (rs := [2]) (by kernel_rfl) (by simp) ?_
  refine AllReadyH.cons rfl (fun K hK => ?_) AllReadyH.nil
  go_simp
  (go_at_call 60; with_reducible (refine (g0 _).mono ?_); rintro y0 z0 ⟨rfl, rfl⟩)
  clear hHeld
  refine hK.out _ _ ?_ (fun hHeld => ?_)
  · exact hold _ (bl_drew (bl_refl w3))
  clear hK K
  try simp only [Act.put]
  refine wpAnyH_ready (rs := [5]) (by kernel_rfl) (by simp) ?_
  refine AllReadyH.cons rfl (fun K hK => ?_) AllReadyH.nil
  go_simp
  (go_at_call 60; with_reducible (refine (g1 _).mono ?_); rintro y1 z1 ⟨rfl, rfl⟩)
  clear hHeld
  refine hK.out _ _ ?_ (fun hHeld => ?_)
  · exact hold _ (bl_drew (bl_refl w3))
  clear hK K
  try simp only [Act.put]
  refine wpAnyH_ready (rs := [8]) (by kernel_rfl) (by simp) ?_
  refine AllReadyH.cons rfl (fun K hK => ?_) AllReadyH.nil
  go_simp
  (go_at_call 60; with_reducible (refine (g2 _).mono ?_); rintro y2 z2 ⟨rfl, rfl⟩)
  clear hHeld
  refine hK.out _ _ ?_ (fun hHeld => ?_)
  · exact hold _ (bl_drew (bl_refl w3))
  clear hK K
  try simp only [Act.put]
  refine wpAnyH_ready (rs := [11]) (by kernel_rfl) (by simp) ?_
  refine AllReadyH.cons rfl (fun K hK => ?_) AllReadyH.nil
  go_simp
  (go_at_call 60; with_reducible (refine (g3 _).mono ?_); rintro y3 z3 ⟨rfl, rfl⟩)
  clear hHeld
  refine hK.out _ _ ?_ (fun hHeld => ?_)
  · exact hold _ (bl_drew (bl_refl w3))
  clear hK K
  try simp only [Act.put]
  refine wpAnyH_ready (rs := [12]) (by kernel_rfl) (by simp) ?_
  refine AllReadyH.cons rfl (fun K hK => ?_) AllReadyH.nil
  go_simp
  (go_at_call 61; refine (rwords_c _).mono ?_; rintro yw zw ⟨rfl, rfl⟩)
  clear hHeld
  refine hK.out _ _ ?_ (fun hHeld => ?_)
  · exact hold _ (bl_alloc (bl_drew (bl_refl w3)) _)
  clear hK K
  try simp only [Act.put]
  have hold3 : ∀ w', Bl (w3.drew.alloc (.cells #[str wDelay, str wCancel, str wSkip, str wReroute, str wAdd, str wRestore] 9)) w' → (w'.cell? ⟨w3.heap.size, 0, none⟩ = some (str wDelay) ∧ w'.cell? ⟨w.heap.size, 0, none⟩ = some (.int .i64 m.src) ∧ w'.cell? ⟨w.heap.size, 1, none⟩ = some (.int .i64 m.seq) ∧ w'.cell? ⟨w.heap.size, 2, none⟩ = some (.int .i64 m.iss) ∧ w'.cell? ⟨w.heap.size, 3, none⟩ = some (.int .i64 m.exp) ∧ w'.cell? ⟨w.heap.size, 4, none⟩ = some (.int .i64 1) ∧ w'.cell? ⟨w.heap.size, 5, none⟩ = some (str m.trip) ∧ w'.cell? ⟨w.heap.size, 7, none⟩ = some (.int .i64 m.inst)) := fun w' hb => ⟨by rw [(bl_cell hb).1 _ _ (by simp)]; exact word_cellN w3.drew 0 (by decide), hold w' (bl_next (bl_alloc (bl_drew (bl_refl w3)) _) hb)⟩
  refine wpAnyH_strong (S' := fun w' => w'.cell? ⟨w3.heap.size, 0, none⟩ = some (str wDelay) ∧ w'.cell? ⟨w.heap.size, 0, none⟩ = some (.int .i64 m.src) ∧ w'.cell? ⟨w.heap.size, 1, none⟩ = some (.int .i64 m.seq) ∧ w'.cell? ⟨w.heap.size, 2, none⟩ = some (.int .i64 m.iss) ∧ w'.cell? ⟨w.heap.size, 3, none⟩ = some (.int .i64 m.exp) ∧ w'.cell? ⟨w.heap.size, 4, none⟩ = some (.int .i64 1) ∧ w'.cell? ⟨w.heap.size, 5, none⟩ = some (str m.trip) ∧ w'.cell? ⟨w.heap.size, 7, none⟩ = some (.int .i64 m.inst)) (fun w' h => h.2) _ _ _ _ ?_
  replace hHeld := hold3 _ (bl_refl _)
  refine wpAnyH_take (i := 16) (v := ?_) rfl (by kernel_rfl) (by kernel_rfl) (by kernel_rfl) (fun _ _ _ h => h) (Or.inl ⟨by rfl, ?_⟩) (by assumption) ?_
  rotate_left
  · (intro w hSw; (try dsimp only at hSw); go_simp; first | done | with_reducible rfl)
  simp only [Act.put]
  refine wpAnyH_take (i := 17) (v := ?_) rfl (by kernel_rfl) (by kernel_rfl) (by kernel_rfl) (fun _ _ _ h => h) (Or.inl ⟨by rfl, ?_⟩) (by assumption) ?_
  rotate_left
  · (intro w hSw; (try dsimp only at hSw); go_simp; first | done | with_reducible rfl)
  simp only [Act.put]
  refine wpAnyH_ready (rs := [23]) (by kernel_rfl) (by simp) ?_
  refine AllReadyH.cons rfl (fun K hK => ?_) AllReadyH.nil
  go_simp
  (go_at_call 60; with_reducible (refine (g7 _).mono ?_); rintro y7 z7 ⟨rfl, rfl⟩)
  clear hHeld
  refine hK.out _ _ ?_ (fun hHeld => ?_)
  · exact hold3 _ (bl_refl _)
  clear hK K
  try simp only [Act.put]
  refine wpAnyH_ready (rs := [24]) (by kernel_rfl) (by simp) ?_
  refine AllReadyH.cons rfl (fun K hK => ?_) AllReadyH.nil
  go_simp
  skip
  clear hHeld
  refine hK.out _ _ ?_ (fun hHeld => ?_)
  · exact hold3 _ (bl_alloc (bl_refl _) _)
  clear hK K
  try simp only [Act.put]
  refine wpAnyH_take (i := 25) (v := ?_) rfl (by kernel_rfl) (by kernel_rfl) (by kernel_rfl) (fun _ _ _ h => h) (Or.inl ⟨by rfl, ?_⟩) (by assumption) ?_
  rotate_left
  · (intro w hSw; (try dsimp only at hSw); go_simp; first | done | with_reducible rfl)
  simp only [Act.put]
  refine wpAnyH_done (by kernel_rfl) ?_ _
  have B4 : Hid (Bl w3 ((w3.alloc (.cells #[str wDelay, str wCancel, str wSkip, str wReroute, str wAdd, str wRestore] 9)).alloc (.cells #[str (itoa m.src), str (itoa m.seq), str (itoa m.iss), str (itoa m.exp), str wDelay, str m.trip, str (dtext m.day), str (itoa m.inst)] 9)).drew) := bl_drew (bl_alloc (bl_alloc (bl_refl w3) _) _)
  have O4 : Hid (OwnS w3.heap.size (.slice (some ⟨w3.heap.size + 1, 0, none⟩) 8 8) (eight m) ((w3.alloc (.cells #[str wDelay, str wCancel, str wSkip, str wReroute, str wAdd, str wRestore] 9)).alloc (.cells #[str (itoa m.src), str (itoa m.seq), str (itoa m.iss), str (itoa m.exp), str wDelay, str m.trip, str (dtext m.day), str (itoa m.inst)] 9)).drew) := by
    rw [e0.out]
    exact ownS_bl (ownS_base (ownS_new' (w := w3.alloc (.cells #[str wDelay, str wCancel, str wSkip, str wReroute, str wAdd, str wRestore] 9)) (g := w3.heap.size + 1) (n := 8) (l := [itoa m.src, itoa m.seq, itoa m.iss, itoa m.exp, wDelay, m.trip, dtext m.day, itoa m.inst]) (by simp) rfl rfl (by unfold maxLen; decide)) (Nat.le_succ _)) (bl_drew (bl_refl _))
  change Exit.then _ _ .normal _ ((w3.alloc (.cells #[str wDelay, str wCancel, str wSkip, str wReroute, str wAdd, str wRestore] 9)).alloc (.cells #[str (itoa m.src), str (itoa m.seq), str (itoa m.iss), str (itoa m.exp), str wDelay, str m.trip, str (dtext m.day), str (itoa m.inst)] 9)).drew
  generalize ((w3.alloc (.cells #[str wDelay, str wCancel, str wSkip, str wReroute, str wAdd, str wRestore] 9)).alloc (.cells #[str (itoa m.src), str (itoa m.seq), str (itoa m.iss), str (itoa m.exp), str wDelay, str m.trip, str (dtext m.day), str (itoa m.inst)] 9)).drew = W4 at B4 O4 ⊢
  obtain ⟨m4, m8, m9, m10, m11, m12⟩ := hold2 _ B4.out
  clear hHeld hold hold3 g0 g1 g2 g3 g7 q0 q1 q2 q3 q4 q5 q7
  have gc := fun w => Nu.refFormat_c m.call ho.out.call.1 ho.out.call.2 w
  go_wp2_with (first
    | (go_at_call 60; with_reducible (refine (gc _).mono ?_); rintro yc zc ⟨rfl, rfl⟩)
    | (at_builtin; refine wpList_append_own _ rfl _ _ 48 rfl w3.heap.size 9 i0 (.string ByteArray.empty) 1 16 Tryd.underlying48 hi hz0 hz1 hz2 rfl (by decide) _ _ _ rfl (ownS_alloc O4.out _) ⟨W4.heap.size, 0, none⟩ 1 1 [str (itoa m.call)] rfl rfl ?c1c ?c2c ?c3c ?c4c ?c5c ?_))
  case c1c => exact cells_of_lit _ (fun j u h => by simpa  using h)
  case c2c => simp [Value.oneCell']
  case c3c => unfold maxLen; simp
  case c4c => simp
  case c5c => exact (bl_alloc B4.out _).size
  intro vc wc hownc hgrowc _
  have Bc : Hid (Bl w3 wc) := (bl_alloc B4.out _).grown hgrowc (bl_alloc B4.out _).size (fun k hk => (World.ownsRow.lt O4.out k hk).1)
  have Oc := Lib.hid (ownS_app' (l := eight m) (m := [itoa m.call]) (r := eight m ++ [itoa m.call]) hownc rfl rfl rfl)
  clear hownc hgrowc
  obtain ⟨ac, kc, rfl⟩ := ownS_form Oc.out
  clear m4 m8 m9 m10 m11 m12 gc
  obtain ⟨m4, m8, m9, m10, m11, m12⟩ := hold2 _ Bc.out
  have gx := fun w => Nu.refFormat_c m.secs ho.out.secs.1 ho.out.secs.2 w
  go_wp2_with (first
    | (go_at_call 60; with_reducible (refine (gx _).mono ?_); rintro yx zx ⟨rfl, rfl⟩)
    | (at_builtin; refine wpList_append_own _ rfl _ _ 48 rfl w3.heap.size 9 i0 (.string ByteArray.empty) 1 16 Tryd.underlying48 hi hz0 hz1 hz2 rfl (by decide) _ _ _ rfl (ownS_alloc Oc.out _) ⟨wc.heap.size, 0, none⟩ 1 1 [str (itoa m.secs)] rfl rfl ?c1x ?c2x ?c3x ?c4x ?c5x ?_))
  case c1x => exact cells_of_lit _ (fun j u h => by simpa  using h)
  case c2x => simp [Value.oneCell']
  case c3x => unfold maxLen; simp
  case c4x => simp
  case c5x => exact (bl_alloc Bc.out _).size
  intro vx wx hownx hgrowx _
  have Bx : Hid (Bl w3 wx) := (bl_alloc Bc.out _).grown hgrowx (bl_alloc Bc.out _).size (fun k hk => (World.ownsRow.lt Oc.out k hk).1)
  have Ox := Lib.hid (ownS_app' (l := eight m ++ [itoa m.call]) (m := [itoa m.secs]) (r := eight m ++ [itoa m.call] ++ [itoa m.secs]) hownx rfl rfl rfl)
  clear hownx hgrowx
  obtain ⟨ax, kx, rfl⟩ := ownS_form Ox.out
  clear m4 m8 m9 m10 m11 m12 gx
  obtain ⟨m4, m8, m9, m10, m11, m12⟩ := hold2 _ Bx.out
  obtain ⟨av, cv, rfl, -⟩ := (show CallsIn B w3 v [] by rw [← hn.out]; exact HV3.out).empty rfl
  have HFE := Lib.hid (show eight m ++ [itoa m.call] ++ [itoa m.secs] = fieldsM m by unfold fieldsM midS eight; rw [hk.out, hn.out]; rfl)
  go_wp2_with fail
  refine wp_loop_rounds 1 ?_
  rw [rounds_succ]
  go_wp2
  go_ret
  exact ⟨_, rfl, by rw [← HFE.out]; exact ownS_base Ox.out (Nat.le_of_lt hs3), bl_next HB3.out Bx.out⟩
set_option maxRecDepth 20000 in
set_option maxHeartbeats 8000000 in
theorem rfields_k2 (m : MsgD) (hk : Hid (m.kind = 2)) (hn : Hid (m.calls = [])) (v : Value) (hg : Hid (Msg.Good m)) (ho : Hid (OkM m)) (B : Nat) (w : World) (hv : CallsIn B w v m.calls) (hB : B ≤ w.heap.size) :
    Calls Tryd.prog 36 #[msgV m v] w fun r w' => ∃ u, r = .returned u ∧ OwnS w.heap.size u (fieldsM m) w' ∧ Bl w w' := by
  obtain ⟨i0, hi, hz0, hz1, hz2⟩ := info_parts info_str
  have hdf := fun w => Da.rFormat_c m.day (dtext m.day) 0 (by show _ = _; unfold dfmt; rw [if_pos hg.out.day]) w
  have hbl : Bl w (w.alloc (.cells (msgCells m v) 24)) := bl_alloc (bl_refl _) _
  have hm := msgAt_new m v w
  have hsz : w.heap.size < (w.alloc (.cells (msgCells m v) 24)).heap.size := by simp
  have HV := Lib.hid (hv.below (hbl.mono hB))
  clear hv
  go_enter Tryd.func36, Tryd.ntmps36
  go_wp2_with (first
    | (go_at_call 59; refine (hdf _).mono ?_))
  rintro x3 w3 ⟨rfl, b3⟩
  have HM3 := Lib.hid (hm.next b3 hsz)
  have HB3 := Lib.hid (bl_next hbl b3)
  have HV3 := Lib.hid (HV.out.below (b3.mono (by simp; omega)))
  have hs3 : w.heap.size < w3.heap.size := by have := b3.size; simp at this; omega
  have hB3 : B ≤ w3.heap.size := by omega
  clear b3 hm hbl HV hdf hsz
  have hold : ∀ w', Bl w3 w' → (w'.cell? ⟨w.heap.size, 0, none⟩ = some (.int .i64 m.src) ∧ w'.cell? ⟨w.heap.size, 1, none⟩ = some (.int .i64 m.seq) ∧ w'.cell? ⟨w.heap.size, 2, none⟩ = some (.int .i64 m.iss) ∧ w'.cell? ⟨w.heap.size, 3, none⟩ = some (.int .i64 m.exp) ∧ w'.cell? ⟨w.heap.size, 4, none⟩ = some (.int .i64 2) ∧ w'.cell? ⟨w.heap.size, 5, none⟩ = some (str m.trip) ∧ w'.cell? ⟨w.heap.size, 7, none⟩ = some (.int .i64 m.inst)) := fun w' hb => by
    obtain ⟨c0, c1, c2, c3, c4, c5, c6, c7, _⟩ := (HM3.out.next hb hs3).all
    rw [hk.out] at c4
    exact ⟨c0, c1, c2, c3, c4, c5, c7⟩
  have hold2 : ∀ w', Bl w3 w' → (w'.cell? ⟨w.heap.size, 4, none⟩ = some (.int .i64 2) ∧ w'.cell? ⟨w.heap.size, 8, none⟩ = some (.int .i64 m.call) ∧ w'.cell? ⟨w.heap.size, 9, none⟩ = some (.int .i64 m.secs) ∧ w'.cell? ⟨w.heap.size, 10, none⟩ = some (.int .i64 m.route) ∧ w'.cell? ⟨w.heap.size, 11, none⟩ = some (.bool m.step) ∧ w'.cell? ⟨w.heap.size, 12, none⟩ = some v) := fun w' hb => by
    obtain ⟨_, _, _, _, c4, _, _, _, c8, c9, c10, c11, c12⟩ := (HM3.out.next hb hs3).all
    rw [hk.out] at c4
    
    exact ⟨c4, c8, c9, c10, c11, c12⟩
  have e0 := Lib.hid (show eight m = [itoa m.src, itoa m.seq, itoa m.iss, itoa m.exp, wCancel, m.trip, dtext m.day, itoa m.inst] by unfold eight; rw [hk.out]; rfl)
  have g0 := fun w => Nu.refFormat_c m.src ho.out.src.1 ho.out.src.2 w
  have g1 := fun w => Nu.refFormat_c m.seq ho.out.seq.1 ho.out.seq.2 w
  have g2 := fun w => Nu.refFormat_c m.iss ho.out.iss.1 ho.out.iss.2 w
  have g3 := fun w => Nu.refFormat_c m.exp ho.out.exp.1 ho.out.exp.2 w
  have g7 := fun w => Nu.refFormat_c m.inst ho.out.inst.1 ho.out.inst.2 w
  obtain ⟨q0, q1, q2, q3, q4, q5, q7⟩ := hold w3 (bl_refl _)
  go_wp2_with fail
  have wk : IntKind.i64.wrap 1 = 1 := by decide
  refine wp_region_held_drew (S := (fun w' => w'.cell? ⟨w.heap.size, 0, none⟩ = some (.int .i64 m.src) ∧ w'.cell? ⟨w.heap.size, 1, none⟩ = some (.int .i64 m.seq) ∧ w'.cell? ⟨w.heap.size, 2, none⟩ = some (.int .i64 m.iss) ∧ w'.cell? ⟨w.heap.size, 3, none⟩ = some (.int .i64 m.exp) ∧ w'.cell? ⟨w.heap.size, 4, none⟩ = some (.int .i64 2) ∧ w'.cell? ⟨w.heap.size, 5, none⟩ = some (str m.trip) ∧ w'.cell? ⟨w.heap.size, 7, none⟩ = some (.int .i64 m.inst))) (by kernel_rfl) (hold _ (bl_drew (bl_refl w3))) (fun hHeld => ?_)
  refine wpAnyH_take (i := 0) (v := ?_) rfl (by kernel_rfl) (by kernel_rfl) (by kernel_rfl) (fun _ _ _ h => h) (Or.inl ⟨by rfl, ?_⟩) (by assumption) ?_
  rotate_left
  · (intro w hSw; (try dsimp only at hSw); go_simp; first | done | with_reducible rfl)
  simp only [Act.put, List.setIfInBounds_toArray]
  refine wpAnyH_take (i := 1) (v := ?_) rfl (by kernel_rfl) (by kernel_rfl) (by kernel_rfl) (fun _ _ _ h => h) (Or.inl ⟨by rfl, ?_⟩) (by assumption) ?_
  rotate_left
  · (intro w hSw; (try dsimp only at hSw); go_simp; first | done | with_reducible rfl)
  simp only [Act.put]
  refine wpAnyH_take (i := 3) (v := ?_) rfl (by kernel_rfl) (by kernel_rfl) (by kernel_rfl) (fun _ _ _ h => h) (Or.inl ⟨by rfl, ?_⟩) (by assumption) ?_
  rotate_left
  · (intro w hSw; (try dsimp only at hSw); go_simp; first | done | with_reducible rfl)
  simp only [Act.put]
  refine wpAnyH_take (i := 4) (v := ?_) rfl (by kernel_rfl) (by kernel_rfl) (by kernel_rfl) (fun _ _ _ h => h) (Or.inl ⟨by rfl, ?_⟩) (by assumption) ?_
  rotate_left
  · (intro w hSw; (try dsimp only at hSw); go_simp; first | done | with_reducible rfl)
  simp only [Act.put]
  refine wpAnyH_take (i := 6) (v := ?_) rfl (by kernel_rfl) (by kernel_rfl) (by kernel_rfl) (fun _ _ _ h => h) (Or.inl ⟨by rfl, ?_⟩) (by assumption) ?_
  rotate_left
  · (intro w hSw; (try dsimp only at hSw); go_simp; first | done | with_reducible rfl)
  simp only [Act.put]
  refine wpAnyH_take (i := 7) (v := ?_) rfl (by kernel_rfl) (by kernel_rfl) (by kernel_rfl) (fun _ _ _ h => h) (Or.inl ⟨by rfl, ?_⟩) (by assumption) ?_
  rotate_left
  · (intro w hSw; (try dsimp only at hSw); go_simp; first | done | with_reducible rfl)
  simp only [Act.put]
  refine wpAnyH_take (i := 9) (v := ?_) rfl (by kernel_rfl) (by kernel_rfl) (by kernel_rfl) (fun _ _ _ h => h) (Or.inl ⟨by rfl, ?_⟩) (by assumption) ?_
  rotate_left
  · (intro w hSw; (try dsimp only at hSw); go_simp; first | done | with_reducible rfl)
  simp only [Act.put]
  refine wpAnyH_take (i := 10) (v := ?_) rfl (by kernel_rfl) (by kernel_rfl) (by kernel_rfl) (fun _ _ _ h => h) (Or.inl ⟨by rfl, ?_⟩) (by assumption) ?_
  rotate_left
  · (intro w hSw; (try dsimp only at hSw); go_simp; first | done | with_reducible rfl)
  simp only [Act.put]
  refine wpAnyH_take (i := 13) (v := ?_) rfl (by kernel_rfl) (by kernel_rfl) (by kernel_rfl) (fun _ _ _ h => h) (Or.inl ⟨by rfl, ?_⟩) (by assumption) ?_
  rotate_left
  · (intro w hSw; (try dsimp only at hSw); go_simp; first | done | with_reducible rfl)
  simp only [Act.put]
  refine wpAnyH_take (i := 14) (v := ?_) rfl (by kernel_rfl) (by kernel_rfl) (by kernel_rfl) (fun _ _ _ h => h) (Or.inl ⟨by rfl, ?_⟩) (by assumption) ?_
  rotate_left
  · (intro w hSw; (try dsimp only at hSw); go_simp; first | done | with_reducible rfl)
  simp only [Act.put]
  refine wpAnyH_take (i := 15) (v := ?_) rfl (by kernel_rfl) (by kernel_rfl) (by kernel_rfl) (fun _ _ _ h => h) (Or.inl ⟨by rfl, ?_⟩) (by assumption) ?_
  rotate_left
  · (intro w hSw; (try dsimp only at hSw); go_simp; first | done | with_reducible rfl)
  simp only [Act.put]
  refine wpAnyH_take (i := 18) (v := ?_) rfl (by kernel_rfl) (by kernel_rfl) (by kernel_rfl) (fun _ _ _ h => h) (Or.inl ⟨by rfl, ?_⟩) (by assumption) ?_
  rotate_left
  · (intro w hSw; (try dsimp only at hSw); go_simp; first | done | with_reducible rfl)
  simp only [Act.put]
  refine wpAnyH_take (i := 19) (v := ?_) rfl (by kernel_rfl) (by kernel_rfl) (by kernel_rfl) (fun _ _ _ h => h) (Or.inl ⟨by rfl, ?_⟩) (by assumption) ?_
  rotate_left
  · (intro w hSw; (try dsimp only at hSw); go_simp; first | done | with_reducible rfl)
  simp only [Act.put]
  refine wpAnyH_take (i := 20) (v := ?_) rfl (by kernel_rfl) (by kernel_rfl) (by kernel_rfl) (fun _ _ _ h => h) (Or.inl ⟨by rfl, ?_⟩) (by assumption) ?_
  rotate_left
  · (intro w hSw; (try dsimp only at hSw); go_simp; first | done | with_reducible rfl)
  simp only [Act.put]
  refine wpAnyH_take (i := 21) (v := ?_) rfl (by kernel_rfl) (by kernel_rfl) (by kernel_rfl) (fun _ _ _ h => h) (Or.inl ⟨by rfl, ?_⟩) (by assumption) ?_
  rotate_left
  · (intro w hSw; (try dsimp only at hSw); go_simp; first | done | with_reducible rfl)
  simp only [Act.put]
  refine wpAnyH_take (i := 22) (v := ?_) rfl (by kernel_rfl) (by kernel_rfl) (by kernel_rfl) (fun _ _ _ h => h) (Or.inl ⟨by rfl, ?_⟩) (by assumption) ?_
  rotate_left
  · (intro w hSw; (try dsimp only at hSw); go_simp; first | done | with_reducible rfl)
  simp only [Act.put]
  refine wpAnyH_ready (rs := [2]) (by kernel_rfl) (by simp) ?_
  refine AllReadyH.cons rfl (fun K hK => ?_) AllReadyH.nil
  go_simp
  (go_at_call 60; with_reducible (refine (g0 _).mono ?_); rintro y0 z0 ⟨rfl, rfl⟩)
  clear hHeld
  refine hK.out _ _ ?_ (fun hHeld => ?_)
  · exact hold _ (bl_drew (bl_refl w3))
  clear hK K
  try simp only [Act.put]
  refine wpAnyH_ready (rs := [5]) (by kernel_rfl) (by simp) ?_
  refine AllReadyH.cons rfl (fun K hK => ?_) AllReadyH.nil
  go_simp
  (go_at_call 60; with_reducible (refine (g1 _).mono ?_); rintro y1 z1 ⟨rfl, rfl⟩)
  clear hHeld
  refine hK.out _ _ ?_ (fun hHeld => ?_)
  · exact hold _ (bl_drew (bl_refl w3))
  clear hK K
  try simp only [Act.put]
  refine wpAnyH_ready (rs := [8]) (by kernel_rfl) (by simp) ?_
  refine AllReadyH.cons rfl (fun K hK => ?_) AllReadyH.nil
  go_simp
  (go_at_call 60; with_reducible (refine (g2 _).mono ?_); rintro y2 z2 ⟨rfl, rfl⟩)
  clear hHeld
  refine hK.out _ _ ?_ (fun hHeld => ?_)
  · exact hold _ (bl_drew (bl_refl w3))
  clear hK K
  try simp only [Act.put]
  refine wpAnyH_ready (rs := [11]) (by kernel_rfl) (by simp) ?_
  refine AllReadyH.cons rfl (fun K hK => ?_) AllReadyH.nil
  go_simp
  (go_at_call 60; with_reducible (refine (g3 _).mono ?_); rintro y3 z3 ⟨rfl, rfl⟩)
  clear hHeld
  refine hK.out _ _ ?_ (fun hHeld => ?_)
  · exact hold _ (bl_drew (bl_refl w3))
  clear hK K
  try simp only [Act.put]
  refine wpAnyH_ready (rs := [12]) (by kernel_rfl) (by simp) ?_
  refine AllReadyH.cons rfl (fun K hK => ?_) AllReadyH.nil
  go_simp
  (go_at_call 61; refine (rwords_c _).mono ?_; rintro yw zw ⟨rfl, rfl⟩)
  clear hHeld
  refine hK.out _ _ ?_ (fun hHeld => ?_)
  · exact hold _ (bl_alloc (bl_drew (bl_refl w3)) _)
  clear hK K
  try simp only [Act.put]
  have hold3 : ∀ w', Bl (w3.drew.alloc (.cells #[str wDelay, str wCancel, str wSkip, str wReroute, str wAdd, str wRestore] 9)) w' → (w'.cell? ⟨w3.heap.size, 1, none⟩ = some (str wCancel) ∧ w'.cell? ⟨w.heap.size, 0, none⟩ = some (.int .i64 m.src) ∧ w'.cell? ⟨w.heap.size, 1, none⟩ = some (.int .i64 m.seq) ∧ w'.cell? ⟨w.heap.size, 2, none⟩ = some (.int .i64 m.iss) ∧ w'.cell? ⟨w.heap.size, 3, none⟩ = some (.int .i64 m.exp) ∧ w'.cell? ⟨w.heap.size, 4, none⟩ = some (.int .i64 2) ∧ w'.cell? ⟨w.heap.size, 5, none⟩ = some (str m.trip) ∧ w'.cell? ⟨w.heap.size, 7, none⟩ = some (.int .i64 m.inst)) := fun w' hb => ⟨by rw [(bl_cell hb).1 _ _ (by simp)]; exact word_cellN w3.drew 1 (by decide), hold w' (bl_next (bl_alloc (bl_drew (bl_refl w3)) _) hb)⟩
  refine wpAnyH_strong (S' := fun w' => w'.cell? ⟨w3.heap.size, 1, none⟩ = some (str wCancel) ∧ w'.cell? ⟨w.heap.size, 0, none⟩ = some (.int .i64 m.src) ∧ w'.cell? ⟨w.heap.size, 1, none⟩ = some (.int .i64 m.seq) ∧ w'.cell? ⟨w.heap.size, 2, none⟩ = some (.int .i64 m.iss) ∧ w'.cell? ⟨w.heap.size, 3, none⟩ = some (.int .i64 m.exp) ∧ w'.cell? ⟨w.heap.size, 4, none⟩ = some (.int .i64 2) ∧ w'.cell? ⟨w.heap.size, 5, none⟩ = some (str m.trip) ∧ w'.cell? ⟨w.heap.size, 7, none⟩ = some (.int .i64 m.inst)) (fun w' h => h.2) _ _ _ _ ?_
  replace hHeld := hold3 _ (bl_refl _)
  refine wpAnyH_take (i := 16) (v := ?_) rfl (by kernel_rfl) (by kernel_rfl) (by kernel_rfl) (fun _ _ _ h => h) (Or.inl ⟨by rfl, ?_⟩) (by assumption) ?_
  rotate_left
  · (intro w hSw; (try dsimp only at hSw); go_simp; first | done | with_reducible rfl)
  simp only [Act.put]
  refine wpAnyH_take (i := 17) (v := ?_) rfl (by kernel_rfl) (by kernel_rfl) (by kernel_rfl) (fun _ _ _ h => h) (Or.inl ⟨by rfl, ?_⟩) (by assumption) ?_
  rotate_left
  · (intro w hSw; (try dsimp only at hSw); go_simp; first | done | with_reducible rfl)
  simp only [Act.put]
  refine wpAnyH_ready (rs := [23]) (by kernel_rfl) (by simp) ?_
  refine AllReadyH.cons rfl (fun K hK => ?_) AllReadyH.nil
  go_simp
  (go_at_call 60; with_reducible (refine (g7 _).mono ?_); rintro y7 z7 ⟨rfl, rfl⟩)
  clear hHeld
  refine hK.out _ _ ?_ (fun hHeld => ?_)
  · exact hold3 _ (bl_refl _)
  clear hK K
  try simp only [Act.put]
  refine wpAnyH_ready (rs := [24]) (by kernel_rfl) (by simp) ?_
  refine AllReadyH.cons rfl (fun K hK => ?_) AllReadyH.nil
  go_simp
  skip
  clear hHeld
  refine hK.out _ _ ?_ (fun hHeld => ?_)
  · exact hold3 _ (bl_alloc (bl_refl _) _)
  clear hK K
  try simp only [Act.put]
  refine wpAnyH_take (i := 25) (v := ?_) rfl (by kernel_rfl) (by kernel_rfl) (by kernel_rfl) (fun _ _ _ h => h) (Or.inl ⟨by rfl, ?_⟩) (by assumption) ?_
  rotate_left
  · (intro w hSw; (try dsimp only at hSw); go_simp; first | done | with_reducible rfl)
  simp only [Act.put]
  refine wpAnyH_done (by kernel_rfl) ?_ _
  have B4 : Hid (Bl w3 ((w3.alloc (.cells #[str wDelay, str wCancel, str wSkip, str wReroute, str wAdd, str wRestore] 9)).alloc (.cells #[str (itoa m.src), str (itoa m.seq), str (itoa m.iss), str (itoa m.exp), str wCancel, str m.trip, str (dtext m.day), str (itoa m.inst)] 9)).drew) := bl_drew (bl_alloc (bl_alloc (bl_refl w3) _) _)
  have O4 : Hid (OwnS w3.heap.size (.slice (some ⟨w3.heap.size + 1, 0, none⟩) 8 8) (eight m) ((w3.alloc (.cells #[str wDelay, str wCancel, str wSkip, str wReroute, str wAdd, str wRestore] 9)).alloc (.cells #[str (itoa m.src), str (itoa m.seq), str (itoa m.iss), str (itoa m.exp), str wCancel, str m.trip, str (dtext m.day), str (itoa m.inst)] 9)).drew) := by
    rw [e0.out]
    exact ownS_bl (ownS_base (ownS_new' (w := w3.alloc (.cells #[str wDelay, str wCancel, str wSkip, str wReroute, str wAdd, str wRestore] 9)) (g := w3.heap.size + 1) (n := 8) (l := [itoa m.src, itoa m.seq, itoa m.iss, itoa m.exp, wCancel, m.trip, dtext m.day, itoa m.inst]) (by simp) rfl rfl (by unfold maxLen; decide)) (Nat.le_succ _)) (bl_drew (bl_refl _))
  change Exit.then _ _ .normal _ ((w3.alloc (.cells #[str wDelay, str wCancel, str wSkip, str wReroute, str wAdd, str wRestore] 9)).alloc (.cells #[str (itoa m.src), str (itoa m.seq), str (itoa m.iss), str (itoa m.exp), str wCancel, str m.trip, str (dtext m.day), str (itoa m.inst)] 9)).drew
  generalize ((w3.alloc (.cells #[str wDelay, str wCancel, str wSkip, str wReroute, str wAdd, str wRestore] 9)).alloc (.cells #[str (itoa m.src), str (itoa m.seq), str (itoa m.iss), str (itoa m.exp), str wCancel, str m.trip, str (dtext m.day), str (itoa m.inst)] 9)).drew = W4 at B4 O4 ⊢
  obtain ⟨m4, m8, m9, m10, m11, m12⟩ := hold2 _ B4.out
  clear hHeld hold hold3 g0 g1 g2 g3 g7 q0 q1 q2 q3 q4 q5 q7
  obtain ⟨av, cv, rfl, -⟩ := (show CallsIn B w3 v [] by rw [← hn.out]; exact HV3.out).empty rfl
  have HFE := Lib.hid (show eight m = fieldsM m by unfold fieldsM midS eight; rw [hk.out, hn.out]; rfl)
  go_wp2_with fail
  refine wp_loop_rounds 1 ?_
  rw [rounds_succ]
  go_wp2
  go_ret
  exact ⟨_, rfl, by rw [← HFE.out]; exact ownS_base O4.out (Nat.le_of_lt hs3), bl_next HB3.out B4.out⟩
set_option maxRecDepth 20000 in
set_option maxHeartbeats 8000000 in
theorem rfields_k3 (m : MsgD) (hk : Hid (m.kind = 3)) (hn : Hid (m.calls = [])) (v : Value) (hg : Hid (Msg.Good m)) (ho : Hid (OkM m)) (B : Nat) (w : World) (hv : CallsIn B w v m.calls) (hB : B ≤ w.heap.size) :
    Calls Tryd.prog 36 #[msgV m v] w fun r w' => ∃ u, r = .returned u ∧ OwnS w.heap.size u (fieldsM m) w' ∧ Bl w w' := by
  obtain ⟨i0, hi, hz0, hz1, hz2⟩ := info_parts info_str
  have hdf := fun w => Da.rFormat_c m.day (dtext m.day) 0 (by show _ = _; unfold dfmt; rw [if_pos hg.out.day]) w
  have hbl : Bl w (w.alloc (.cells (msgCells m v) 24)) := bl_alloc (bl_refl _) _
  have hm := msgAt_new m v w
  have hsz : w.heap.size < (w.alloc (.cells (msgCells m v) 24)).heap.size := by simp
  have HV := Lib.hid (hv.below (hbl.mono hB))
  clear hv
  go_enter Tryd.func36, Tryd.ntmps36
  go_wp2_with (first
    | (go_at_call 59; refine (hdf _).mono ?_))
  rintro x3 w3 ⟨rfl, b3⟩
  have HM3 := Lib.hid (hm.next b3 hsz)
  have HB3 := Lib.hid (bl_next hbl b3)
  have HV3 := Lib.hid (HV.out.below (b3.mono (by simp; omega)))
  have hs3 : w.heap.size < w3.heap.size := by have := b3.size; simp at this; omega
  have hB3 : B ≤ w3.heap.size := by omega
  clear b3 hm hbl HV hdf hsz
  have hold : ∀ w', Bl w3 w' → (w'.cell? ⟨w.heap.size, 0, none⟩ = some (.int .i64 m.src) ∧ w'.cell? ⟨w.heap.size, 1, none⟩ = some (.int .i64 m.seq) ∧ w'.cell? ⟨w.heap.size, 2, none⟩ = some (.int .i64 m.iss) ∧ w'.cell? ⟨w.heap.size, 3, none⟩ = some (.int .i64 m.exp) ∧ w'.cell? ⟨w.heap.size, 4, none⟩ = some (.int .i64 3) ∧ w'.cell? ⟨w.heap.size, 5, none⟩ = some (str m.trip) ∧ w'.cell? ⟨w.heap.size, 7, none⟩ = some (.int .i64 m.inst)) := fun w' hb => by
    obtain ⟨c0, c1, c2, c3, c4, c5, c6, c7, _⟩ := (HM3.out.next hb hs3).all
    rw [hk.out] at c4
    exact ⟨c0, c1, c2, c3, c4, c5, c7⟩
  have hold2 : ∀ w', Bl w3 w' → (w'.cell? ⟨w.heap.size, 4, none⟩ = some (.int .i64 3) ∧ w'.cell? ⟨w.heap.size, 8, none⟩ = some (.int .i64 m.call) ∧ w'.cell? ⟨w.heap.size, 9, none⟩ = some (.int .i64 m.secs) ∧ w'.cell? ⟨w.heap.size, 10, none⟩ = some (.int .i64 m.route) ∧ w'.cell? ⟨w.heap.size, 11, none⟩ = some (.bool m.step) ∧ w'.cell? ⟨w.heap.size, 12, none⟩ = some v) := fun w' hb => by
    obtain ⟨_, _, _, _, c4, _, _, _, c8, c9, c10, c11, c12⟩ := (HM3.out.next hb hs3).all
    rw [hk.out] at c4
    
    exact ⟨c4, c8, c9, c10, c11, c12⟩
  have e0 := Lib.hid (show eight m = [itoa m.src, itoa m.seq, itoa m.iss, itoa m.exp, wSkip, m.trip, dtext m.day, itoa m.inst] by unfold eight; rw [hk.out]; rfl)
  have g0 := fun w => Nu.refFormat_c m.src ho.out.src.1 ho.out.src.2 w
  have g1 := fun w => Nu.refFormat_c m.seq ho.out.seq.1 ho.out.seq.2 w
  have g2 := fun w => Nu.refFormat_c m.iss ho.out.iss.1 ho.out.iss.2 w
  have g3 := fun w => Nu.refFormat_c m.exp ho.out.exp.1 ho.out.exp.2 w
  have g7 := fun w => Nu.refFormat_c m.inst ho.out.inst.1 ho.out.inst.2 w
  obtain ⟨q0, q1, q2, q3, q4, q5, q7⟩ := hold w3 (bl_refl _)
  go_wp2_with fail
  have wk : IntKind.i64.wrap 2 = 2 := by decide
  refine wp_region_held_drew (S := (fun w' => w'.cell? ⟨w.heap.size, 0, none⟩ = some (.int .i64 m.src) ∧ w'.cell? ⟨w.heap.size, 1, none⟩ = some (.int .i64 m.seq) ∧ w'.cell? ⟨w.heap.size, 2, none⟩ = some (.int .i64 m.iss) ∧ w'.cell? ⟨w.heap.size, 3, none⟩ = some (.int .i64 m.exp) ∧ w'.cell? ⟨w.heap.size, 4, none⟩ = some (.int .i64 3) ∧ w'.cell? ⟨w.heap.size, 5, none⟩ = some (str m.trip) ∧ w'.cell? ⟨w.heap.size, 7, none⟩ = some (.int .i64 m.inst))) (by kernel_rfl) (hold _ (bl_drew (bl_refl w3))) (fun hHeld => ?_)
  refine wpAnyH_take (i := 0) (v := ?_) rfl (by kernel_rfl) (by kernel_rfl) (by kernel_rfl) (fun _ _ _ h => h) (Or.inl ⟨by rfl, ?_⟩) (by assumption) ?_
  rotate_left
  · (intro w hSw; (try dsimp only at hSw); go_simp; first | done | with_reducible rfl)
  simp only [Act.put, List.setIfInBounds_toArray]
  refine wpAnyH_take (i := 1) (v := ?_) rfl (by kernel_rfl) (by kernel_rfl) (by kernel_rfl) (fun _ _ _ h => h) (Or.inl ⟨by rfl, ?_⟩) (by assumption) ?_
  rotate_left
  · (intro w hSw; (try dsimp only at hSw); go_simp; first | done | with_reducible rfl)
  simp only [Act.put]
  refine wpAnyH_take (i := 3) (v := ?_) rfl (by kernel_rfl) (by kernel_rfl) (by kernel_rfl) (fun _ _ _ h => h) (Or.inl ⟨by rfl, ?_⟩) (by assumption) ?_
  rotate_left
  · (intro w hSw; (try dsimp only at hSw); go_simp; first | done | with_reducible rfl)
  simp only [Act.put]
  refine wpAnyH_take (i := 4) (v := ?_) rfl (by kernel_rfl) (by kernel_rfl) (by kernel_rfl) (fun _ _ _ h => h) (Or.inl ⟨by rfl, ?_⟩) (by assumption) ?_
  rotate_left
  · (intro w hSw; (try dsimp only at hSw); go_simp; first | done | with_reducible rfl)
  simp only [Act.put]
  refine wpAnyH_take (i := 6) (v := ?_) rfl (by kernel_rfl) (by kernel_rfl) (by kernel_rfl) (fun _ _ _ h => h) (Or.inl ⟨by rfl, ?_⟩) (by assumption) ?_
  rotate_left
  · (intro w hSw; (try dsimp only at hSw); go_simp; first | done | with_reducible rfl)
  simp only [Act.put]
  refine wpAnyH_take (i := 7) (v := ?_) rfl (by kernel_rfl) (by kernel_rfl) (by kernel_rfl) (fun _ _ _ h => h) (Or.inl ⟨by rfl, ?_⟩) (by assumption) ?_
  rotate_left
  · (intro w hSw; (try dsimp only at hSw); go_simp; first | done | with_reducible rfl)
  simp only [Act.put]
  refine wpAnyH_take (i := 9) (v := ?_) rfl (by kernel_rfl) (by kernel_rfl) (by kernel_rfl) (fun _ _ _ h => h) (Or.inl ⟨by rfl, ?_⟩) (by assumption) ?_
  rotate_left
  · (intro w hSw; (try dsimp only at hSw); go_simp; first | done | with_reducible rfl)
  simp only [Act.put]
  refine wpAnyH_take (i := 10) (v := ?_) rfl (by kernel_rfl) (by kernel_rfl) (by kernel_rfl) (fun _ _ _ h => h) (Or.inl ⟨by rfl, ?_⟩) (by assumption) ?_
  rotate_left
  · (intro w hSw; (try dsimp only at hSw); go_simp; first | done | with_reducible rfl)
  simp only [Act.put]
  refine wpAnyH_take (i := 13) (v := ?_) rfl (by kernel_rfl) (by kernel_rfl) (by kernel_rfl) (fun _ _ _ h => h) (Or.inl ⟨by rfl, ?_⟩) (by assumption) ?_
  rotate_left
  · (intro w hSw; (try dsimp only at hSw); go_simp; first | done | with_reducible rfl)
  simp only [Act.put]
  refine wpAnyH_take (i := 14) (v := ?_) rfl (by kernel_rfl) (by kernel_rfl) (by kernel_rfl) (fun _ _ _ h => h) (Or.inl ⟨by rfl, ?_⟩) (by assumption) ?_
  rotate_left
  · (intro w hSw; (try dsimp only at hSw); go_simp; first | done | with_reducible rfl)
  simp only [Act.put]
  refine wpAnyH_take (i := 15) (v := ?_) rfl (by kernel_rfl) (by kernel_rfl) (by kernel_rfl) (fun _ _ _ h => h) (Or.inl ⟨by rfl, ?_⟩) (by assumption) ?_
  rotate_left
  · (intro w hSw; (try dsimp only at hSw); go_simp; first | done | with_reducible rfl)
  simp only [Act.put]
  refine wpAnyH_take (i := 18) (v := ?_) rfl (by kernel_rfl) (by kernel_rfl) (by kernel_rfl) (fun _ _ _ h => h) (Or.inl ⟨by rfl, ?_⟩) (by assumption) ?_
  rotate_left
  · (intro w hSw; (try dsimp only at hSw); go_simp; first | done | with_reducible rfl)
  simp only [Act.put]
  refine wpAnyH_take (i := 19) (v := ?_) rfl (by kernel_rfl) (by kernel_rfl) (by kernel_rfl) (fun _ _ _ h => h) (Or.inl ⟨by rfl, ?_⟩) (by assumption) ?_
  rotate_left
  · (intro w hSw; (try dsimp only at hSw); go_simp; first | done | with_reducible rfl)
  simp only [Act.put]
  refine wpAnyH_take (i := 20) (v := ?_) rfl (by kernel_rfl) (by kernel_rfl) (by kernel_rfl) (fun _ _ _ h => h) (Or.inl ⟨by rfl, ?_⟩) (by assumption) ?_
  rotate_left
  · (intro w hSw; (try dsimp only at hSw); go_simp; first | done | with_reducible rfl)
  simp only [Act.put]
  refine wpAnyH_take (i := 21) (v := ?_) rfl (by kernel_rfl) (by kernel_rfl) (by kernel_rfl) (fun _ _ _ h => h) (Or.inl ⟨by rfl, ?_⟩) (by assumption) ?_
  rotate_left
  · (intro w hSw; (try dsimp only at hSw); go_simp; first | done | with_reducible rfl)
  simp only [Act.put]
  refine wpAnyH_take (i := 22) (v := ?_) rfl (by kernel_rfl) (by kernel_rfl) (by kernel_rfl) (fun _ _ _ h => h) (Or.inl ⟨by rfl, ?_⟩) (by assumption) ?_
  rotate_left
  · (intro w hSw; (try dsimp only at hSw); go_simp; first | done | with_reducible rfl)
  simp only [Act.put]
  refine wpAnyH_ready (rs := [2]) (by kernel_rfl) (by simp) ?_
  refine AllReadyH.cons rfl (fun K hK => ?_) AllReadyH.nil
  go_simp
  (go_at_call 60; with_reducible (refine (g0 _).mono ?_); rintro y0 z0 ⟨rfl, rfl⟩)
  clear hHeld
  refine hK.out _ _ ?_ (fun hHeld => ?_)
  · exact hold _ (bl_drew (bl_refl w3))
  clear hK K
  try simp only [Act.put]
  refine wpAnyH_ready (rs := [5]) (by kernel_rfl) (by simp) ?_
  refine AllReadyH.cons rfl (fun K hK => ?_) AllReadyH.nil
  go_simp
  (go_at_call 60; with_reducible (refine (g1 _).mono ?_); rintro y1 z1 ⟨rfl, rfl⟩)
  clear hHeld
  refine hK.out _ _ ?_ (fun hHeld => ?_)
  · exact hold _ (bl_drew (bl_refl w3))
  clear hK K
  try simp only [Act.put]
  refine wpAnyH_ready (rs := [8]) (by kernel_rfl) (by simp) ?_
  refine AllReadyH.cons rfl (fun K hK => ?_) AllReadyH.nil
  go_simp
  (go_at_call 60; with_reducible (refine (g2 _).mono ?_); rintro y2 z2 ⟨rfl, rfl⟩)
  clear hHeld
  refine hK.out _ _ ?_ (fun hHeld => ?_)
  · exact hold _ (bl_drew (bl_refl w3))
  clear hK K
  try simp only [Act.put]
  refine wpAnyH_ready (rs := [11]) (by kernel_rfl) (by simp) ?_
  refine AllReadyH.cons rfl (fun K hK => ?_) AllReadyH.nil
  go_simp
  (go_at_call 60; with_reducible (refine (g3 _).mono ?_); rintro y3 z3 ⟨rfl, rfl⟩)
  clear hHeld
  refine hK.out _ _ ?_ (fun hHeld => ?_)
  · exact hold _ (bl_drew (bl_refl w3))
  clear hK K
  try simp only [Act.put]
  refine wpAnyH_ready (rs := [12]) (by kernel_rfl) (by simp) ?_
  refine AllReadyH.cons rfl (fun K hK => ?_) AllReadyH.nil
  go_simp
  (go_at_call 61; refine (rwords_c _).mono ?_; rintro yw zw ⟨rfl, rfl⟩)
  clear hHeld
  refine hK.out _ _ ?_ (fun hHeld => ?_)
  · exact hold _ (bl_alloc (bl_drew (bl_refl w3)) _)
  clear hK K
  try simp only [Act.put]
  have hold3 : ∀ w', Bl (w3.drew.alloc (.cells #[str wDelay, str wCancel, str wSkip, str wReroute, str wAdd, str wRestore] 9)) w' → (w'.cell? ⟨w3.heap.size, 2, none⟩ = some (str wSkip) ∧ w'.cell? ⟨w.heap.size, 0, none⟩ = some (.int .i64 m.src) ∧ w'.cell? ⟨w.heap.size, 1, none⟩ = some (.int .i64 m.seq) ∧ w'.cell? ⟨w.heap.size, 2, none⟩ = some (.int .i64 m.iss) ∧ w'.cell? ⟨w.heap.size, 3, none⟩ = some (.int .i64 m.exp) ∧ w'.cell? ⟨w.heap.size, 4, none⟩ = some (.int .i64 3) ∧ w'.cell? ⟨w.heap.size, 5, none⟩ = some (str m.trip) ∧ w'.cell? ⟨w.heap.size, 7, none⟩ = some (.int .i64 m.inst)) := fun w' hb => ⟨by rw [(bl_cell hb).1 _ _ (by simp)]; exact word_cellN w3.drew 2 (by decide), hold w' (bl_next (bl_alloc (bl_drew (bl_refl w3)) _) hb)⟩
  refine wpAnyH_strong (S' := fun w' => w'.cell? ⟨w3.heap.size, 2, none⟩ = some (str wSkip) ∧ w'.cell? ⟨w.heap.size, 0, none⟩ = some (.int .i64 m.src) ∧ w'.cell? ⟨w.heap.size, 1, none⟩ = some (.int .i64 m.seq) ∧ w'.cell? ⟨w.heap.size, 2, none⟩ = some (.int .i64 m.iss) ∧ w'.cell? ⟨w.heap.size, 3, none⟩ = some (.int .i64 m.exp) ∧ w'.cell? ⟨w.heap.size, 4, none⟩ = some (.int .i64 3) ∧ w'.cell? ⟨w.heap.size, 5, none⟩ = some (str m.trip) ∧ w'.cell? ⟨w.heap.size, 7, none⟩ = some (.int .i64 m.inst)) (fun w' h => h.2) _ _ _ _ ?_
  replace hHeld := hold3 _ (bl_refl _)
  refine wpAnyH_take (i := 16) (v := ?_) rfl (by kernel_rfl) (by kernel_rfl) (by kernel_rfl) (fun _ _ _ h => h) (Or.inl ⟨by rfl, ?_⟩) (by assumption) ?_
  rotate_left
  · (intro w hSw; (try dsimp only at hSw); go_simp; first | done | with_reducible rfl)
  simp only [Act.put]
  refine wpAnyH_take (i := 17) (v := ?_) rfl (by kernel_rfl) (by kernel_rfl) (by kernel_rfl) (fun _ _ _ h => h) (Or.inl ⟨by rfl, ?_⟩) (by assumption) ?_
  rotate_left
  · (intro w hSw; (try dsimp only at hSw); go_simp; first | done | with_reducible rfl)
  simp only [Act.put]
  refine wpAnyH_ready (rs := [23]) (by kernel_rfl) (by simp) ?_
  refine AllReadyH.cons rfl (fun K hK => ?_) AllReadyH.nil
  go_simp
  (go_at_call 60; with_reducible (refine (g7 _).mono ?_); rintro y7 z7 ⟨rfl, rfl⟩)
  clear hHeld
  refine hK.out _ _ ?_ (fun hHeld => ?_)
  · exact hold3 _ (bl_refl _)
  clear hK K
  try simp only [Act.put]
  refine wpAnyH_ready (rs := [24]) (by kernel_rfl) (by simp) ?_
  refine AllReadyH.cons rfl (fun K hK => ?_) AllReadyH.nil
  go_simp
  skip
  clear hHeld
  refine hK.out _ _ ?_ (fun hHeld => ?_)
  · exact hold3 _ (bl_alloc (bl_refl _) _)
  clear hK K
  try simp only [Act.put]
  refine wpAnyH_take (i := 25) (v := ?_) rfl (by kernel_rfl) (by kernel_rfl) (by kernel_rfl) (fun _ _ _ h => h) (Or.inl ⟨by rfl, ?_⟩) (by assumption) ?_
  rotate_left
  · (intro w hSw; (try dsimp only at hSw); go_simp; first | done | with_reducible rfl)
  simp only [Act.put]
  refine wpAnyH_done (by kernel_rfl) ?_ _
  have B4 : Hid (Bl w3 ((w3.alloc (.cells #[str wDelay, str wCancel, str wSkip, str wReroute, str wAdd, str wRestore] 9)).alloc (.cells #[str (itoa m.src), str (itoa m.seq), str (itoa m.iss), str (itoa m.exp), str wSkip, str m.trip, str (dtext m.day), str (itoa m.inst)] 9)).drew) := bl_drew (bl_alloc (bl_alloc (bl_refl w3) _) _)
  have O4 : Hid (OwnS w3.heap.size (.slice (some ⟨w3.heap.size + 1, 0, none⟩) 8 8) (eight m) ((w3.alloc (.cells #[str wDelay, str wCancel, str wSkip, str wReroute, str wAdd, str wRestore] 9)).alloc (.cells #[str (itoa m.src), str (itoa m.seq), str (itoa m.iss), str (itoa m.exp), str wSkip, str m.trip, str (dtext m.day), str (itoa m.inst)] 9)).drew) := by
    rw [e0.out]
    exact ownS_bl (ownS_base (ownS_new' (w := w3.alloc (.cells #[str wDelay, str wCancel, str wSkip, str wReroute, str wAdd, str wRestore] 9)) (g := w3.heap.size + 1) (n := 8) (l := [itoa m.src, itoa m.seq, itoa m.iss, itoa m.exp, wSkip, m.trip, dtext m.day, itoa m.inst]) (by simp) rfl rfl (by unfold maxLen; decide)) (Nat.le_succ _)) (bl_drew (bl_refl _))
  change Exit.then _ _ .normal _ ((w3.alloc (.cells #[str wDelay, str wCancel, str wSkip, str wReroute, str wAdd, str wRestore] 9)).alloc (.cells #[str (itoa m.src), str (itoa m.seq), str (itoa m.iss), str (itoa m.exp), str wSkip, str m.trip, str (dtext m.day), str (itoa m.inst)] 9)).drew
  generalize ((w3.alloc (.cells #[str wDelay, str wCancel, str wSkip, str wReroute, str wAdd, str wRestore] 9)).alloc (.cells #[str (itoa m.src), str (itoa m.seq), str (itoa m.iss), str (itoa m.exp), str wSkip, str m.trip, str (dtext m.day), str (itoa m.inst)] 9)).drew = W4 at B4 O4 ⊢
  obtain ⟨m4, m8, m9, m10, m11, m12⟩ := hold2 _ B4.out
  clear hHeld hold hold3 g0 g1 g2 g3 g7 q0 q1 q2 q3 q4 q5 q7
  have gc := fun w => Nu.refFormat_c m.call ho.out.call.1 ho.out.call.2 w
  go_wp2_with (first
    | (go_at_call 60; with_reducible (refine (gc _).mono ?_); rintro yc zc ⟨rfl, rfl⟩)
    | (at_builtin; refine wpList_append_own _ rfl _ _ 48 rfl w3.heap.size 9 i0 (.string ByteArray.empty) 1 16 Tryd.underlying48 hi hz0 hz1 hz2 rfl (by decide) _ _ _ rfl (ownS_alloc O4.out _) ⟨W4.heap.size, 0, none⟩ 1 1 [str (itoa m.call)] rfl rfl ?c1c ?c2c ?c3c ?c4c ?c5c ?_))
  case c1c => exact cells_of_lit _ (fun j u h => by simpa  using h)
  case c2c => simp [Value.oneCell']
  case c3c => unfold maxLen; simp
  case c4c => simp
  case c5c => exact (bl_alloc B4.out _).size
  intro vc wc hownc hgrowc _
  have Bc : Hid (Bl w3 wc) := (bl_alloc B4.out _).grown hgrowc (bl_alloc B4.out _).size (fun k hk => (World.ownsRow.lt O4.out k hk).1)
  have Oc := Lib.hid (ownS_app' (l := eight m) (m := [itoa m.call]) (r := eight m ++ [itoa m.call]) hownc rfl rfl rfl)
  clear hownc hgrowc
  obtain ⟨ac, kc, rfl⟩ := ownS_form Oc.out
  clear m4 m8 m9 m10 m11 m12 gc
  obtain ⟨m4, m8, m9, m10, m11, m12⟩ := hold2 _ Bc.out
  obtain ⟨av, cv, rfl, -⟩ := (show CallsIn B w3 v [] by rw [← hn.out]; exact HV3.out).empty rfl
  have HFE := Lib.hid (show eight m ++ [itoa m.call] = fieldsM m by unfold fieldsM midS eight; rw [hk.out, hn.out]; rfl)
  go_wp2_with fail
  refine wp_loop_rounds 1 ?_
  rw [rounds_succ]
  go_wp2
  go_ret
  exact ⟨_, rfl, by rw [← HFE.out]; exact ownS_base Oc.out (Nat.le_of_lt hs3), bl_next HB3.out Bc.out⟩
set_option maxRecDepth 20000 in
set_option maxHeartbeats 8000000 in
theorem rfields_k4 (m : MsgD) (hk : Hid (m.kind = 4)) (hpos : 0 < m.calls.length) (v : Value) (hg : Hid (Msg.Good m)) (ho : Hid (OkM m)) (B : Nat) (w : World) (hv : CallsIn B w v m.calls) (hB : B ≤ w.heap.size) :
    Calls Tryd.prog 36 #[msgV m v] w fun r w' => ∃ u, r = .returned u ∧ OwnS w.heap.size u (fieldsM m) w' ∧ Bl w w' := by
  obtain ⟨i0, hi, hz0, hz1, hz2⟩ := info_parts info_str
  have hdf := fun w => Da.rFormat_c m.day (dtext m.day) 0 (by show _ = _; unfold dfmt; rw [if_pos hg.out.day]) w
  have hbl : Bl w (w.alloc (.cells (msgCells m v) 24)) := bl_alloc (bl_refl _) _
  have hm := msgAt_new m v w
  have hsz : w.heap.size < (w.alloc (.cells (msgCells m v) 24)).heap.size := by simp
  have HV := Lib.hid (hv.below (hbl.mono hB))
  clear hv
  go_enter Tryd.func36, Tryd.ntmps36
  go_wp2_with (first
    | (go_at_call 59; refine (hdf _).mono ?_))
  rintro x3 w3 ⟨rfl, b3⟩
  have HM3 := Lib.hid (hm.next b3 hsz)
  have HB3 := Lib.hid (bl_next hbl b3)
  have HV3 := Lib.hid (HV.out.below (b3.mono (by simp; omega)))
  have hs3 : w.heap.size < w3.heap.size := by have := b3.size; simp at this; omega
  have hB3 : B ≤ w3.heap.size := by omega
  clear b3 hm hbl HV hdf hsz
  have hold : ∀ w', Bl w3 w' → (w'.cell? ⟨w.heap.size, 0, none⟩ = some (.int .i64 m.src) ∧ w'.cell? ⟨w.heap.size, 1, none⟩ = some (.int .i64 m.seq) ∧ w'.cell? ⟨w.heap.size, 2, none⟩ = some (.int .i64 m.iss) ∧ w'.cell? ⟨w.heap.size, 3, none⟩ = some (.int .i64 m.exp) ∧ w'.cell? ⟨w.heap.size, 4, none⟩ = some (.int .i64 4) ∧ w'.cell? ⟨w.heap.size, 5, none⟩ = some (str m.trip) ∧ w'.cell? ⟨w.heap.size, 7, none⟩ = some (.int .i64 m.inst)) := fun w' hb => by
    obtain ⟨c0, c1, c2, c3, c4, c5, c6, c7, _⟩ := (HM3.out.next hb hs3).all
    rw [hk.out] at c4
    exact ⟨c0, c1, c2, c3, c4, c5, c7⟩
  have hold2 : ∀ w', Bl w3 w' → (w'.cell? ⟨w.heap.size, 4, none⟩ = some (.int .i64 4) ∧ w'.cell? ⟨w.heap.size, 8, none⟩ = some (.int .i64 m.call) ∧ w'.cell? ⟨w.heap.size, 9, none⟩ = some (.int .i64 m.secs) ∧ w'.cell? ⟨w.heap.size, 10, none⟩ = some (.int .i64 m.route) ∧ w'.cell? ⟨w.heap.size, 11, none⟩ = some (.bool m.step) ∧ w'.cell? ⟨w.heap.size, 12, none⟩ = some v) := fun w' hb => by
    obtain ⟨_, _, _, _, c4, _, _, _, c8, c9, c10, c11, c12⟩ := (HM3.out.next hb hs3).all
    rw [hk.out] at c4
    
    exact ⟨c4, c8, c9, c10, c11, c12⟩
  have e0 := Lib.hid (show eight m = [itoa m.src, itoa m.seq, itoa m.iss, itoa m.exp, wReroute, m.trip, dtext m.day, itoa m.inst] by unfold eight; rw [hk.out]; rfl)
  have g0 := fun w => Nu.refFormat_c m.src ho.out.src.1 ho.out.src.2 w
  have g1 := fun w => Nu.refFormat_c m.seq ho.out.seq.1 ho.out.seq.2 w
  have g2 := fun w => Nu.refFormat_c m.iss ho.out.iss.1 ho.out.iss.2 w
  have g3 := fun w => Nu.refFormat_c m.exp ho.out.exp.1 ho.out.exp.2 w
  have g7 := fun w => Nu.refFormat_c m.inst ho.out.inst.1 ho.out.inst.2 w
  obtain ⟨q0, q1, q2, q3, q4, q5, q7⟩ := hold w3 (bl_refl _)
  go_wp2_with fail
  have wk : IntKind.i64.wrap 3 = 3 := by decide
  refine wp_region_held_drew (S := (fun w' => w'.cell? ⟨w.heap.size, 0, none⟩ = some (.int .i64 m.src) ∧ w'.cell? ⟨w.heap.size, 1, none⟩ = some (.int .i64 m.seq) ∧ w'.cell? ⟨w.heap.size, 2, none⟩ = some (.int .i64 m.iss) ∧ w'.cell? ⟨w.heap.size, 3, none⟩ = some (.int .i64 m.exp) ∧ w'.cell? ⟨w.heap.size, 4, none⟩ = some (.int .i64 4) ∧ w'.cell? ⟨w.heap.size, 5, none⟩ = some (str m.trip) ∧ w'.cell? ⟨w.heap.size, 7, none⟩ = some (.int .i64 m.inst))) (by kernel_rfl) (hold _ (bl_drew (bl_refl w3))) (fun hHeld => ?_)
  refine wpAnyH_take (i := 0) (v := ?_) rfl (by kernel_rfl) (by kernel_rfl) (by kernel_rfl) (fun _ _ _ h => h) (Or.inl ⟨by rfl, ?_⟩) (by assumption) ?_
  rotate_left
  · (intro w hSw; (try dsimp only at hSw); go_simp; first | done | with_reducible rfl)
  simp only [Act.put, List.setIfInBounds_toArray]
  refine wpAnyH_take (i := 1) (v := ?_) rfl (by kernel_rfl) (by kernel_rfl) (by kernel_rfl) (fun _ _ _ h => h) (Or.inl ⟨by rfl, ?_⟩) (by assumption) ?_
  rotate_left
  · (intro w hSw; (try dsimp only at hSw); go_simp; first | done | with_reducible rfl)
  simp only [Act.put]
  refine wpAnyH_take (i := 3) (v := ?_) rfl (by kernel_rfl) (by kernel_rfl) (by kernel_rfl) (fun _ _ _ h => h) (Or.inl ⟨by rfl, ?_⟩) (by assumption) ?_
  rotate_left
  · (intro w hSw; (try dsimp only at hSw); go_simp; first | done | with_reducible rfl)
  simp only [Act.put]
  refine wpAnyH_take (i := 4) (v := ?_) rfl (by kernel_rfl) (by kernel_rfl) (by kernel_rfl) (fun _ _ _ h => h) (Or.inl ⟨by rfl, ?_⟩) (by assumption) ?_
  rotate_left
  · (intro w hSw; (try dsimp only at hSw); go_simp; first | done | with_reducible rfl)
  simp only [Act.put]
  refine wpAnyH_take (i := 6) (v := ?_) rfl (by kernel_rfl) (by kernel_rfl) (by kernel_rfl) (fun _ _ _ h => h) (Or.inl ⟨by rfl, ?_⟩) (by assumption) ?_
  rotate_left
  · (intro w hSw; (try dsimp only at hSw); go_simp; first | done | with_reducible rfl)
  simp only [Act.put]
  refine wpAnyH_take (i := 7) (v := ?_) rfl (by kernel_rfl) (by kernel_rfl) (by kernel_rfl) (fun _ _ _ h => h) (Or.inl ⟨by rfl, ?_⟩) (by assumption) ?_
  rotate_left
  · (intro w hSw; (try dsimp only at hSw); go_simp; first | done | with_reducible rfl)
  simp only [Act.put]
  refine wpAnyH_take (i := 9) (v := ?_) rfl (by kernel_rfl) (by kernel_rfl) (by kernel_rfl) (fun _ _ _ h => h) (Or.inl ⟨by rfl, ?_⟩) (by assumption) ?_
  rotate_left
  · (intro w hSw; (try dsimp only at hSw); go_simp; first | done | with_reducible rfl)
  simp only [Act.put]
  refine wpAnyH_take (i := 10) (v := ?_) rfl (by kernel_rfl) (by kernel_rfl) (by kernel_rfl) (fun _ _ _ h => h) (Or.inl ⟨by rfl, ?_⟩) (by assumption) ?_
  rotate_left
  · (intro w hSw; (try dsimp only at hSw); go_simp; first | done | with_reducible rfl)
  simp only [Act.put]
  refine wpAnyH_take (i := 13) (v := ?_) rfl (by kernel_rfl) (by kernel_rfl) (by kernel_rfl) (fun _ _ _ h => h) (Or.inl ⟨by rfl, ?_⟩) (by assumption) ?_
  rotate_left
  · (intro w hSw; (try dsimp only at hSw); go_simp; first | done | with_reducible rfl)
  simp only [Act.put]
  refine wpAnyH_take (i := 14) (v := ?_) rfl (by kernel_rfl) (by kernel_rfl) (by kernel_rfl) (fun _ _ _ h => h) (Or.inl ⟨by rfl, ?_⟩) (by assumption) ?_
  rotate_left
  · (intro w hSw; (try dsimp only at hSw); go_simp; first | done | with_reducible rfl)
  simp only [Act.put]
  refine wpAnyH_take (i := 15) (v := ?_) rfl (by kernel_rfl) (by kernel_rfl) (by kernel_rfl) (fun _ _ _ h => h) (Or.inl ⟨by rfl, ?_⟩) (by assumption) ?_
  rotate_left
  · (intro w hSw; (try dsimp only at hSw); go_simp; first | done | with_reducible rfl)
  simp only [Act.put]
  refine wpAnyH_take (i := 18) (v := ?_) rfl (by kernel_rfl) (by kernel_rfl) (by kernel_rfl) (fun _ _ _ h => h) (Or.inl ⟨by rfl, ?_⟩) (by assumption) ?_
  rotate_left
  · (intro w hSw; (try dsimp only at hSw); go_simp; first | done | with_reducible rfl)
  simp only [Act.put]
  refine wpAnyH_take (i := 19) (v := ?_) rfl (by kernel_rfl) (by kernel_rfl) (by kernel_rfl) (fun _ _ _ h => h) (Or.inl ⟨by rfl, ?_⟩) (by assumption) ?_
  rotate_left
  · (intro w hSw; (try dsimp only at hSw); go_simp; first | done | with_reducible rfl)
  simp only [Act.put]
  refine wpAnyH_take (i := 20) (v := ?_) rfl (by kernel_rfl) (by kernel_rfl) (by kernel_rfl) (fun _ _ _ h => h) (Or.inl ⟨by rfl, ?_⟩) (by assumption) ?_
  rotate_left
  · (intro w hSw; (try dsimp only at hSw); go_simp; first | done | with_reducible rfl)
  simp only [Act.put]
  refine wpAnyH_take (i := 21) (v := ?_) rfl (by kernel_rfl) (by kernel_rfl) (by kernel_rfl) (fun _ _ _ h => h) (Or.inl ⟨by rfl, ?_⟩) (by assumption) ?_
  rotate_left
  · (intro w hSw; (try dsimp only at hSw); go_simp; first | done | with_reducible rfl)
  simp only [Act.put]
  refine wpAnyH_take (i := 22) (v := ?_) rfl (by kernel_rfl) (by kernel_rfl) (by kernel_rfl) (fun _ _ _ h => h) (Or.inl ⟨by rfl, ?_⟩) (by assumption) ?_
  rotate_left
  · (intro w hSw; (try dsimp only at hSw); go_simp; first | done | with_reducible rfl)
  simp only [Act.put]
  refine wpAnyH_ready (rs := [2]) (by kernel_rfl) (by simp) ?_
  refine AllReadyH.cons rfl (fun K hK => ?_) AllReadyH.nil
  go_simp
  (go_at_call 60; with_reducible (refine (g0 _).mono ?_); rintro y0 z0 ⟨rfl, rfl⟩)
  clear hHeld
  refine hK.out _ _ ?_ (fun hHeld => ?_)
  · exact hold _ (bl_drew (bl_refl w3))
  clear hK K
  try simp only [Act.put]
  refine wpAnyH_ready (rs := [5]) (by kernel_rfl) (by simp) ?_
  refine AllReadyH.cons rfl (fun K hK => ?_) AllReadyH.nil
  go_simp
  (go_at_call 60; with_reducible (refine (g1 _).mono ?_); rintro y1 z1 ⟨rfl, rfl⟩)
  clear hHeld
  refine hK.out _ _ ?_ (fun hHeld => ?_)
  · exact hold _ (bl_drew (bl_refl w3))
  clear hK K
  try simp only [Act.put]
  refine wpAnyH_ready (rs := [8]) (by kernel_rfl) (by simp) ?_
  refine AllReadyH.cons rfl (fun K hK => ?_) AllReadyH.nil
  go_simp
  (go_at_call 60; with_reducible (refine (g2 _).mono ?_); rintro y2 z2 ⟨rfl, rfl⟩)
  clear hHeld
  refine hK.out _ _ ?_ (fun hHeld => ?_)
  · exact hold _ (bl_drew (bl_refl w3))
  clear hK K
  try simp only [Act.put]
  refine wpAnyH_ready (rs := [11]) (by kernel_rfl) (by simp) ?_
  refine AllReadyH.cons rfl (fun K hK => ?_) AllReadyH.nil
  go_simp
  (go_at_call 60; with_reducible (refine (g3 _).mono ?_); rintro y3 z3 ⟨rfl, rfl⟩)
  clear hHeld
  refine hK.out _ _ ?_ (fun hHeld => ?_)
  · exact hold _ (bl_drew (bl_refl w3))
  clear hK K
  try simp only [Act.put]
  refine wpAnyH_ready (rs := [12]) (by kernel_rfl) (by simp) ?_
  refine AllReadyH.cons rfl (fun K hK => ?_) AllReadyH.nil
  go_simp
  (go_at_call 61; refine (rwords_c _).mono ?_; rintro yw zw ⟨rfl, rfl⟩)
  clear hHeld
  refine hK.out _ _ ?_ (fun hHeld => ?_)
  · exact hold _ (bl_alloc (bl_drew (bl_refl w3)) _)
  clear hK K
  try simp only [Act.put]
  have hold3 : ∀ w', Bl (w3.drew.alloc (.cells #[str wDelay, str wCancel, str wSkip, str wReroute, str wAdd, str wRestore] 9)) w' → (w'.cell? ⟨w3.heap.size, 3, none⟩ = some (str wReroute) ∧ w'.cell? ⟨w.heap.size, 0, none⟩ = some (.int .i64 m.src) ∧ w'.cell? ⟨w.heap.size, 1, none⟩ = some (.int .i64 m.seq) ∧ w'.cell? ⟨w.heap.size, 2, none⟩ = some (.int .i64 m.iss) ∧ w'.cell? ⟨w.heap.size, 3, none⟩ = some (.int .i64 m.exp) ∧ w'.cell? ⟨w.heap.size, 4, none⟩ = some (.int .i64 4) ∧ w'.cell? ⟨w.heap.size, 5, none⟩ = some (str m.trip) ∧ w'.cell? ⟨w.heap.size, 7, none⟩ = some (.int .i64 m.inst)) := fun w' hb => ⟨by rw [(bl_cell hb).1 _ _ (by simp)]; exact word_cellN w3.drew 3 (by decide), hold w' (bl_next (bl_alloc (bl_drew (bl_refl w3)) _) hb)⟩
  refine wpAnyH_strong (S' := fun w' => w'.cell? ⟨w3.heap.size, 3, none⟩ = some (str wReroute) ∧ w'.cell? ⟨w.heap.size, 0, none⟩ = some (.int .i64 m.src) ∧ w'.cell? ⟨w.heap.size, 1, none⟩ = some (.int .i64 m.seq) ∧ w'.cell? ⟨w.heap.size, 2, none⟩ = some (.int .i64 m.iss) ∧ w'.cell? ⟨w.heap.size, 3, none⟩ = some (.int .i64 m.exp) ∧ w'.cell? ⟨w.heap.size, 4, none⟩ = some (.int .i64 4) ∧ w'.cell? ⟨w.heap.size, 5, none⟩ = some (str m.trip) ∧ w'.cell? ⟨w.heap.size, 7, none⟩ = some (.int .i64 m.inst)) (fun w' h => h.2) _ _ _ _ ?_
  replace hHeld := hold3 _ (bl_refl _)
  refine wpAnyH_take (i := 16) (v := ?_) rfl (by kernel_rfl) (by kernel_rfl) (by kernel_rfl) (fun _ _ _ h => h) (Or.inl ⟨by rfl, ?_⟩) (by assumption) ?_
  rotate_left
  · (intro w hSw; (try dsimp only at hSw); go_simp; first | done | with_reducible rfl)
  simp only [Act.put]
  refine wpAnyH_take (i := 17) (v := ?_) rfl (by kernel_rfl) (by kernel_rfl) (by kernel_rfl) (fun _ _ _ h => h) (Or.inl ⟨by rfl, ?_⟩) (by assumption) ?_
  rotate_left
  · (intro w hSw; (try dsimp only at hSw); go_simp; first | done | with_reducible rfl)
  simp only [Act.put]
  refine wpAnyH_ready (rs := [23]) (by kernel_rfl) (by simp) ?_
  refine AllReadyH.cons rfl (fun K hK => ?_) AllReadyH.nil
  go_simp
  (go_at_call 60; with_reducible (refine (g7 _).mono ?_); rintro y7 z7 ⟨rfl, rfl⟩)
  clear hHeld
  refine hK.out _ _ ?_ (fun hHeld => ?_)
  · exact hold3 _ (bl_refl _)
  clear hK K
  try simp only [Act.put]
  refine wpAnyH_ready (rs := [24]) (by kernel_rfl) (by simp) ?_
  refine AllReadyH.cons rfl (fun K hK => ?_) AllReadyH.nil
  go_simp
  skip
  clear hHeld
  refine hK.out _ _ ?_ (fun hHeld => ?_)
  · exact hold3 _ (bl_alloc (bl_refl _) _)
  clear hK K
  try simp only [Act.put]
  refine wpAnyH_take (i := 25) (v := ?_) rfl (by kernel_rfl) (by kernel_rfl) (by kernel_rfl) (fun _ _ _ h => h) (Or.inl ⟨by rfl, ?_⟩) (by assumption) ?_
  rotate_left
  · (intro w hSw; (try dsimp only at hSw); go_simp; first | done | with_reducible rfl)
  simp only [Act.put]
  refine wpAnyH_done (by kernel_rfl) ?_ _
  have B4 : Hid (Bl w3 ((w3.alloc (.cells #[str wDelay, str wCancel, str wSkip, str wReroute, str wAdd, str wRestore] 9)).alloc (.cells #[str (itoa m.src), str (itoa m.seq), str (itoa m.iss), str (itoa m.exp), str wReroute, str m.trip, str (dtext m.day), str (itoa m.inst)] 9)).drew) := bl_drew (bl_alloc (bl_alloc (bl_refl w3) _) _)
  have O4 : Hid (OwnS w3.heap.size (.slice (some ⟨w3.heap.size + 1, 0, none⟩) 8 8) (eight m) ((w3.alloc (.cells #[str wDelay, str wCancel, str wSkip, str wReroute, str wAdd, str wRestore] 9)).alloc (.cells #[str (itoa m.src), str (itoa m.seq), str (itoa m.iss), str (itoa m.exp), str wReroute, str m.trip, str (dtext m.day), str (itoa m.inst)] 9)).drew) := by
    rw [e0.out]
    exact ownS_bl (ownS_base (ownS_new' (w := w3.alloc (.cells #[str wDelay, str wCancel, str wSkip, str wReroute, str wAdd, str wRestore] 9)) (g := w3.heap.size + 1) (n := 8) (l := [itoa m.src, itoa m.seq, itoa m.iss, itoa m.exp, wReroute, m.trip, dtext m.day, itoa m.inst]) (by simp) rfl rfl (by unfold maxLen; decide)) (Nat.le_succ _)) (bl_drew (bl_refl _))
  change Exit.then _ _ .normal _ ((w3.alloc (.cells #[str wDelay, str wCancel, str wSkip, str wReroute, str wAdd, str wRestore] 9)).alloc (.cells #[str (itoa m.src), str (itoa m.seq), str (itoa m.iss), str (itoa m.exp), str wReroute, str m.trip, str (dtext m.day), str (itoa m.inst)] 9)).drew
  generalize ((w3.alloc (.cells #[str wDelay, str wCancel, str wSkip, str wReroute, str wAdd, str wRestore] 9)).alloc (.cells #[str (itoa m.src), str (itoa m.seq), str (itoa m.iss), str (itoa m.exp), str wReroute, str m.trip, str (dtext m.day), str (itoa m.inst)] 9)).drew = W4 at B4 O4 ⊢
  obtain ⟨m4, m8, m9, m10, m11, m12⟩ := hold2 _ B4.out
  clear hHeld hold hold3 g0 g1 g2 g3 g7 q0 q1 q2 q3 q4 q5 q7
  obtain ⟨b, o, cap, rfl, l1, l2, l3, hc⟩ := HV3.out.open hpos
  have H1 := Lib.hid hc
  have HX := Lib.hid ho.out.calls
  have hN : m.calls.length ≤ 100 := by have := hg.out.many; omega
  clear hc
  go_wp2_with fail
  go_loopw [5, 7] (fun vo i wr => ∃ (k : Nat), k ≤ m.calls.length ∧ i = .int .i64 k ∧ Hid (OwnS w3.heap.size vo (eight m ++ (m.calls.take k).map callText) wr) ∧ Hid (Bl w3 wr)) (fun _ i _ => m.calls.length - (intOf i).toNat)
  case atStart => exact ⟨0, Nat.zero_le _, rfl, by show OwnS _ _ _ _; rw [List.take_zero, List.map_nil, List.append_nil]; exact O4.out, B4.out⟩
  case round =>
    obtain ⟨k, hk', rfl, HO, HB⟩ := hrel
    clear m4 m8 m9 m10 m11 m12
    obtain ⟨-, -, -, -, -, m12⟩ := hold2 _ HB.out
    by_cases hlt : k < m.calls.length
    · obtain ⟨x, hx⟩ : ∃ x, m.calls[k]? = some x := ⟨_, List.getElem?_eq_getElem hlt⟩
      have hc0 : ∀ (j : Nat) (u : Value), (callCells x)[j]? = some u → wr.cell? ⟨b, o + k * 5 + j, none⟩ = some u := fun j u hu => by rw [(bl_cell HB.out).1 _ _ (by omega)]; exact H1.out k x hx j u hu
      have g0 : wr.cell? ⟨b, o + k * 5, none⟩ = some (.int .i64 x.stop) := hc0 0 _ rfl
      have g1 := hc0 1 _ rfl
      have g2 := hc0 2 _ rfl
      have g3 := hc0 3 _ rfl
      have g4 := hc0 4 _ rfl
      have i1 : (k : Int) < (m.calls.length : Int) := by omega
      have HXI := Lib.hid (HX.out x (List.mem_of_getElem? hx))
      have HT := Lib.hid (show (eight m ++ (m.calls.take k).map callText) ++ [callText x] = eight m ++ (m.calls.take (k + 1)).map callText by rw [take_next hx, List.map_append, List.append_assoc]; rfl)
      have HLn := Lib.hid (show (eight m ++ (m.calls.take k).map callText).length = 8 + k by rw [List.length_append, List.length_map, List.length_take]; show 8 + _ = _; omega)
      have hcf := fun w => rcallField_c x HXI w
      obtain ⟨L0, hL0⟩ : ∃ L0, eight m ++ (m.calls.take k).map callText = L0 := ⟨_, rfl⟩
      rw [hL0] at HO HT HLn
      obtain ⟨q, hq⟩ : ∃ q, callText x = q := ⟨_, rfl⟩
      rw [hq] at hcf HT
      clear hx hc0 hL0 hq
      have hLn := HLn.out
      go_wp2_with (go_at_call 62; with_reducible (refine (hcf _).mono ?_))
      rintro x6 w6 ⟨rfl, b6⟩
      have B6 : Hid (Bl w3 w6) := bl_next HB.out b6
      have O6 := Lib.hid (ownS_bl HO.out b6)
      clear b6 g0 g1 g2 g3 g4 m12 hcf
      go_wp2_with (at_builtin; refine wpList_append_own _ rfl _ _ 48 rfl w3.heap.size 9 i0 (.string ByteArray.empty) 1 16 Tryd.underlying48 hi hz0 hz1 hz2 rfl (by decide) _ _ _ rfl (ownS_alloc O6.out _) ⟨w6.heap.size, 0, none⟩ 1 1 [str q] rfl rfl ?d1 ?d2 ?d3 ?d4 ?d5 ?_)
      case d1 => exact cells_of_lit _ (fun j u h => by simpa using h)
      case d2 => simp [Value.oneCell']
      case d3 => unfold maxLen; omega
      case d4 => omega
      case d5 => exact (bl_alloc B6.out _).size
      intro v7 w7 hown7 hgrow7 _
      have O7 := Lib.hid (ownS_app' (l := L0) (m := [q]) hown7 HT.out (by rw [← HT.out]; simp; exact HLn.out.symm) (by simp))
      have B7 : Hid (Bl w3 w7) := (bl_alloc B6.out _).grown hgrow7 (bl_alloc B6.out _).size (fun k hk => (World.ownsRow.lt O6.out k hk).1)
      clear hown7 hgrow7 hLn
      go_wp2
      go_roundw
      case rel => exact ⟨k + 1, by omega, by go_num, O7, B7⟩
      case measure => simp [intOf]; omega
    · have HF := Lib.hid (show eight m ++ (m.calls.take k).map callText = fieldsM m by rw [List.take_of_length_le (by omega)]; unfold fieldsM midS eight; rw [hk.out]; rfl)
      rw [HF.out] at HO
      go_wp2
      go_ret
      exact ⟨_, rfl, ownS_base HO.out (Nat.le_of_lt hs3), bl_next HB3.out HB.out⟩
set_option maxRecDepth 20000 in
set_option maxHeartbeats 8000000 in
theorem rfields_k5y (m : MsgD) (hk : Hid (m.kind = 5)) (hs : Hid (m.step = true)) (hpos : 0 < m.calls.length) (v : Value) (hg : Hid (Msg.Good m)) (ho : Hid (OkM m)) (B : Nat) (w : World) (hv : CallsIn B w v m.calls) (hB : B ≤ w.heap.size) :
    Calls Tryd.prog 36 #[msgV m v] w fun r w' => ∃ u, r = .returned u ∧ OwnS w.heap.size u (fieldsM m) w' ∧ Bl w w' := by
  obtain ⟨i0, hi, hz0, hz1, hz2⟩ := info_parts info_str
  have hdf := fun w => Da.rFormat_c m.day (dtext m.day) 0 (by show _ = _; unfold dfmt; rw [if_pos hg.out.day]) w
  have hbl : Bl w (w.alloc (.cells (msgCells m v) 24)) := bl_alloc (bl_refl _) _
  have hm := msgAt_new m v w
  have hsz : w.heap.size < (w.alloc (.cells (msgCells m v) 24)).heap.size := by simp
  have HV := Lib.hid (hv.below (hbl.mono hB))
  clear hv
  go_enter Tryd.func36, Tryd.ntmps36
  go_wp2_with (first
    | (go_at_call 59; refine (hdf _).mono ?_))
  rintro x3 w3 ⟨rfl, b3⟩
  have HM3 := Lib.hid (hm.next b3 hsz)
  have HB3 := Lib.hid (bl_next hbl b3)
  have HV3 := Lib.hid (HV.out.below (b3.mono (by simp; omega)))
  have hs3 : w.heap.size < w3.heap.size := by have := b3.size; simp at this; omega
  have hB3 : B ≤ w3.heap.size := by omega
  clear b3 hm hbl HV hdf hsz
  have hold : ∀ w', Bl w3 w' → (w'.cell? ⟨w.heap.size, 0, none⟩ = some (.int .i64 m.src) ∧ w'.cell? ⟨w.heap.size, 1, none⟩ = some (.int .i64 m.seq) ∧ w'.cell? ⟨w.heap.size, 2, none⟩ = some (.int .i64 m.iss) ∧ w'.cell? ⟨w.heap.size, 3, none⟩ = some (.int .i64 m.exp) ∧ w'.cell? ⟨w.heap.size, 4, none⟩ = some (.int .i64 5) ∧ w'.cell? ⟨w.heap.size, 5, none⟩ = some (str m.trip) ∧ w'.cell? ⟨w.heap.size, 7, none⟩ = some (.int .i64 m.inst)) := fun w' hb => by
    obtain ⟨c0, c1, c2, c3, c4, c5, c6, c7, _⟩ := (HM3.out.next hb hs3).all
    rw [hk.out] at c4
    exact ⟨c0, c1, c2, c3, c4, c5, c7⟩
  have hold2 : ∀ w', Bl w3 w' → (w'.cell? ⟨w.heap.size, 4, none⟩ = some (.int .i64 5) ∧ w'.cell? ⟨w.heap.size, 8, none⟩ = some (.int .i64 m.call) ∧ w'.cell? ⟨w.heap.size, 9, none⟩ = some (.int .i64 m.secs) ∧ w'.cell? ⟨w.heap.size, 10, none⟩ = some (.int .i64 m.route) ∧ w'.cell? ⟨w.heap.size, 11, none⟩ = some (.bool true) ∧ w'.cell? ⟨w.heap.size, 12, none⟩ = some v) := fun w' hb => by
    obtain ⟨_, _, _, _, c4, _, _, _, c8, c9, c10, c11, c12⟩ := (HM3.out.next hb hs3).all
    rw [hk.out] at c4
    rw [hs.out] at c11
    exact ⟨c4, c8, c9, c10, c11, c12⟩
  have e0 := Lib.hid (show eight m = [itoa m.src, itoa m.seq, itoa m.iss, itoa m.exp, wAdd, m.trip, dtext m.day, itoa m.inst] by unfold eight; rw [hk.out]; rfl)
  have g0 := fun w => Nu.refFormat_c m.src ho.out.src.1 ho.out.src.2 w
  have g1 := fun w => Nu.refFormat_c m.seq ho.out.seq.1 ho.out.seq.2 w
  have g2 := fun w => Nu.refFormat_c m.iss ho.out.iss.1 ho.out.iss.2 w
  have g3 := fun w => Nu.refFormat_c m.exp ho.out.exp.1 ho.out.exp.2 w
  have g7 := fun w => Nu.refFormat_c m.inst ho.out.inst.1 ho.out.inst.2 w
  obtain ⟨q0, q1, q2, q3, q4, q5, q7⟩ := hold w3 (bl_refl _)
  go_wp2_with fail
  have wk : IntKind.i64.wrap 4 = 4 := by decide
  refine wp_region_held_drew (S := (fun w' => w'.cell? ⟨w.heap.size, 0, none⟩ = some (.int .i64 m.src) ∧ w'.cell? ⟨w.heap.size, 1, none⟩ = some (.int .i64 m.seq) ∧ w'.cell? ⟨w.heap.size, 2, none⟩ = some (.int .i64 m.iss) ∧ w'.cell? ⟨w.heap.size, 3, none⟩ = some (.int .i64 m.exp) ∧ w'.cell? ⟨w.heap.size, 4, none⟩ = some (.int .i64 5) ∧ w'.cell? ⟨w.heap.size, 5, none⟩ = some (str m.trip) ∧ w'.cell? ⟨w.heap.size, 7, none⟩ = some (.int .i64 m.inst))) (by kernel_rfl) (hold _ (bl_drew (bl_refl w3))) (fun hHeld => ?_)
  refine wpAnyH_take (i := 0) (v := ?_) rfl (by kernel_rfl) (by kernel_rfl) (by kernel_rfl) (fun _ _ _ h => h) (Or.inl ⟨by rfl, ?_⟩) (by assumption) ?_
  rotate_left
  · (intro w hSw; (try dsimp only at hSw); go_simp; first | done | with_reducible rfl)
  simp only [Act.put, List.setIfInBounds_toArray]
  refine wpAnyH_take (i := 1) (v := ?_) rfl (by kernel_rfl) (by kernel_rfl) (by kernel_rfl) (fun _ _ _ h => h) (Or.inl ⟨by rfl, ?_⟩) (by assumption) ?_
  rotate_left
  · (intro w hSw; (try dsimp only at hSw); go_simp; first | done | with_reducible rfl)
  simp only [Act.put]
  refine wpAnyH_take (i := 3) (v := ?_) rfl (by kernel_rfl) (by kernel_rfl) (by kernel_rfl) (fun _ _ _ h => h) (Or.inl ⟨by rfl, ?_⟩) (by assumption) ?_
  rotate_left
  · (intro w hSw; (try dsimp only at hSw); go_simp; first | done | with_reducible rfl)
  simp only [Act.put]
  refine wpAnyH_take (i := 4) (v := ?_) rfl (by kernel_rfl) (by kernel_rfl) (by kernel_rfl) (fun _ _ _ h => h) (Or.inl ⟨by rfl, ?_⟩) (by assumption) ?_
  rotate_left
  · (intro w hSw; (try dsimp only at hSw); go_simp; first | done | with_reducible rfl)
  simp only [Act.put]
  refine wpAnyH_take (i := 6) (v := ?_) rfl (by kernel_rfl) (by kernel_rfl) (by kernel_rfl) (fun _ _ _ h => h) (Or.inl ⟨by rfl, ?_⟩) (by assumption) ?_
  rotate_left
  · (intro w hSw; (try dsimp only at hSw); go_simp; first | done | with_reducible rfl)
  simp only [Act.put]
  refine wpAnyH_take (i := 7) (v := ?_) rfl (by kernel_rfl) (by kernel_rfl) (by kernel_rfl) (fun _ _ _ h => h) (Or.inl ⟨by rfl, ?_⟩) (by assumption) ?_
  rotate_left
  · (intro w hSw; (try dsimp only at hSw); go_simp; first | done | with_reducible rfl)
  simp only [Act.put]
  refine wpAnyH_take (i := 9) (v := ?_) rfl (by kernel_rfl) (by kernel_rfl) (by kernel_rfl) (fun _ _ _ h => h) (Or.inl ⟨by rfl, ?_⟩) (by assumption) ?_
  rotate_left
  · (intro w hSw; (try dsimp only at hSw); go_simp; first | done | with_reducible rfl)
  simp only [Act.put]
  refine wpAnyH_take (i := 10) (v := ?_) rfl (by kernel_rfl) (by kernel_rfl) (by kernel_rfl) (fun _ _ _ h => h) (Or.inl ⟨by rfl, ?_⟩) (by assumption) ?_
  rotate_left
  · (intro w hSw; (try dsimp only at hSw); go_simp; first | done | with_reducible rfl)
  simp only [Act.put]
  refine wpAnyH_take (i := 13) (v := ?_) rfl (by kernel_rfl) (by kernel_rfl) (by kernel_rfl) (fun _ _ _ h => h) (Or.inl ⟨by rfl, ?_⟩) (by assumption) ?_
  rotate_left
  · (intro w hSw; (try dsimp only at hSw); go_simp; first | done | with_reducible rfl)
  simp only [Act.put]
  refine wpAnyH_take (i := 14) (v := ?_) rfl (by kernel_rfl) (by kernel_rfl) (by kernel_rfl) (fun _ _ _ h => h) (Or.inl ⟨by rfl, ?_⟩) (by assumption) ?_
  rotate_left
  · (intro w hSw; (try dsimp only at hSw); go_simp; first | done | with_reducible rfl)
  simp only [Act.put]
  refine wpAnyH_take (i := 15) (v := ?_) rfl (by kernel_rfl) (by kernel_rfl) (by kernel_rfl) (fun _ _ _ h => h) (Or.inl ⟨by rfl, ?_⟩) (by assumption) ?_
  rotate_left
  · (intro w hSw; (try dsimp only at hSw); go_simp; first | done | with_reducible rfl)
  simp only [Act.put]
  refine wpAnyH_take (i := 18) (v := ?_) rfl (by kernel_rfl) (by kernel_rfl) (by kernel_rfl) (fun _ _ _ h => h) (Or.inl ⟨by rfl, ?_⟩) (by assumption) ?_
  rotate_left
  · (intro w hSw; (try dsimp only at hSw); go_simp; first | done | with_reducible rfl)
  simp only [Act.put]
  refine wpAnyH_take (i := 19) (v := ?_) rfl (by kernel_rfl) (by kernel_rfl) (by kernel_rfl) (fun _ _ _ h => h) (Or.inl ⟨by rfl, ?_⟩) (by assumption) ?_
  rotate_left
  · (intro w hSw; (try dsimp only at hSw); go_simp; first | done | with_reducible rfl)
  simp only [Act.put]
  refine wpAnyH_take (i := 20) (v := ?_) rfl (by kernel_rfl) (by kernel_rfl) (by kernel_rfl) (fun _ _ _ h => h) (Or.inl ⟨by rfl, ?_⟩) (by assumption) ?_
  rotate_left
  · (intro w hSw; (try dsimp only at hSw); go_simp; first | done | with_reducible rfl)
  simp only [Act.put]
  refine wpAnyH_take (i := 21) (v := ?_) rfl (by kernel_rfl) (by kernel_rfl) (by kernel_rfl) (fun _ _ _ h => h) (Or.inl ⟨by rfl, ?_⟩) (by assumption) ?_
  rotate_left
  · (intro w hSw; (try dsimp only at hSw); go_simp; first | done | with_reducible rfl)
  simp only [Act.put]
  refine wpAnyH_take (i := 22) (v := ?_) rfl (by kernel_rfl) (by kernel_rfl) (by kernel_rfl) (fun _ _ _ h => h) (Or.inl ⟨by rfl, ?_⟩) (by assumption) ?_
  rotate_left
  · (intro w hSw; (try dsimp only at hSw); go_simp; first | done | with_reducible rfl)
  simp only [Act.put]
  refine wpAnyH_ready (rs := [2]) (by kernel_rfl) (by simp) ?_
  refine AllReadyH.cons rfl (fun K hK => ?_) AllReadyH.nil
  go_simp
  (go_at_call 60; with_reducible (refine (g0 _).mono ?_); rintro y0 z0 ⟨rfl, rfl⟩)
  clear hHeld
  refine hK.out _ _ ?_ (fun hHeld => ?_)
  · exact hold _ (bl_drew (bl_refl w3))
  clear hK K
  try simp only [Act.put]
  refine wpAnyH_ready (rs := [5]) (by kernel_rfl) (by simp) ?_
  refine AllReadyH.cons rfl (fun K hK => ?_) AllReadyH.nil
  go_simp
  (go_at_call 60; with_reducible (refine (g1 _).mono ?_); rintro y1 z1 ⟨rfl, rfl⟩)
  clear hHeld
  refine hK.out _ _ ?_ (fun hHeld => ?_)
  · exact hold _ (bl_drew (bl_refl w3))
  clear hK K
  try simp only [Act.put]
  refine wpAnyH_ready (rs := [8]) (by kernel_rfl) (by simp) ?_
  refine AllReadyH.cons rfl (fun K hK => ?_) AllReadyH.nil
  go_simp
  (go_at_call 60; with_reducible (refine (g2 _).mono ?_); rintro y2 z2 ⟨rfl, rfl⟩)
  clear hHeld
  refine hK.out _ _ ?_ (fun hHeld => ?_)
  · exact hold _ (bl_drew (bl_refl w3))
  clear hK K
  try simp only [Act.put]
  refine wpAnyH_ready (rs := [11]) (by kernel_rfl) (by simp) ?_
  refine AllReadyH.cons rfl (fun K hK => ?_) AllReadyH.nil
  go_simp
  (go_at_call 60; with_reducible (refine (g3 _).mono ?_); rintro y3 z3 ⟨rfl, rfl⟩)
  clear hHeld
  refine hK.out _ _ ?_ (fun hHeld => ?_)
  · exact hold _ (bl_drew (bl_refl w3))
  clear hK K
  try simp only [Act.put]
  refine wpAnyH_ready (rs := [12]) (by kernel_rfl) (by simp) ?_
  refine AllReadyH.cons rfl (fun K hK => ?_) AllReadyH.nil
  go_simp
  (go_at_call 61; refine (rwords_c _).mono ?_; rintro yw zw ⟨rfl, rfl⟩)
  clear hHeld
  refine hK.out _ _ ?_ (fun hHeld => ?_)
  · exact hold _ (bl_alloc (bl_drew (bl_refl w3)) _)
  clear hK K
  try simp only [Act.put]
  have hold3 : ∀ w', Bl (w3.drew.alloc (.cells #[str wDelay, str wCancel, str wSkip, str wReroute, str wAdd, str wRestore] 9)) w' → (w'.cell? ⟨w3.heap.size, 4, none⟩ = some (str wAdd) ∧ w'.cell? ⟨w.heap.size, 0, none⟩ = some (.int .i64 m.src) ∧ w'.cell? ⟨w.heap.size, 1, none⟩ = some (.int .i64 m.seq) ∧ w'.cell? ⟨w.heap.size, 2, none⟩ = some (.int .i64 m.iss) ∧ w'.cell? ⟨w.heap.size, 3, none⟩ = some (.int .i64 m.exp) ∧ w'.cell? ⟨w.heap.size, 4, none⟩ = some (.int .i64 5) ∧ w'.cell? ⟨w.heap.size, 5, none⟩ = some (str m.trip) ∧ w'.cell? ⟨w.heap.size, 7, none⟩ = some (.int .i64 m.inst)) := fun w' hb => ⟨by rw [(bl_cell hb).1 _ _ (by simp)]; exact word_cellN w3.drew 4 (by decide), hold w' (bl_next (bl_alloc (bl_drew (bl_refl w3)) _) hb)⟩
  refine wpAnyH_strong (S' := fun w' => w'.cell? ⟨w3.heap.size, 4, none⟩ = some (str wAdd) ∧ w'.cell? ⟨w.heap.size, 0, none⟩ = some (.int .i64 m.src) ∧ w'.cell? ⟨w.heap.size, 1, none⟩ = some (.int .i64 m.seq) ∧ w'.cell? ⟨w.heap.size, 2, none⟩ = some (.int .i64 m.iss) ∧ w'.cell? ⟨w.heap.size, 3, none⟩ = some (.int .i64 m.exp) ∧ w'.cell? ⟨w.heap.size, 4, none⟩ = some (.int .i64 5) ∧ w'.cell? ⟨w.heap.size, 5, none⟩ = some (str m.trip) ∧ w'.cell? ⟨w.heap.size, 7, none⟩ = some (.int .i64 m.inst)) (fun w' h => h.2) _ _ _ _ ?_
  replace hHeld := hold3 _ (bl_refl _)
  refine wpAnyH_take (i := 16) (v := ?_) rfl (by kernel_rfl) (by kernel_rfl) (by kernel_rfl) (fun _ _ _ h => h) (Or.inl ⟨by rfl, ?_⟩) (by assumption) ?_
  rotate_left
  · (intro w hSw; (try dsimp only at hSw); go_simp; first | done | with_reducible rfl)
  simp only [Act.put]
  refine wpAnyH_take (i := 17) (v := ?_) rfl (by kernel_rfl) (by kernel_rfl) (by kernel_rfl) (fun _ _ _ h => h) (Or.inl ⟨by rfl, ?_⟩) (by assumption) ?_
  rotate_left
  · (intro w hSw; (try dsimp only at hSw); go_simp; first | done | with_reducible rfl)
  simp only [Act.put]
  refine wpAnyH_ready (rs := [23]) (by kernel_rfl) (by simp) ?_
  refine AllReadyH.cons rfl (fun K hK => ?_) AllReadyH.nil
  go_simp
  (go_at_call 60; with_reducible (refine (g7 _).mono ?_); rintro y7 z7 ⟨rfl, rfl⟩)
  clear hHeld
  refine hK.out _ _ ?_ (fun hHeld => ?_)
  · exact hold3 _ (bl_refl _)
  clear hK K
  try simp only [Act.put]
  refine wpAnyH_ready (rs := [24]) (by kernel_rfl) (by simp) ?_
  refine AllReadyH.cons rfl (fun K hK => ?_) AllReadyH.nil
  go_simp
  skip
  clear hHeld
  refine hK.out _ _ ?_ (fun hHeld => ?_)
  · exact hold3 _ (bl_alloc (bl_refl _) _)
  clear hK K
  try simp only [Act.put]
  refine wpAnyH_take (i := 25) (v := ?_) rfl (by kernel_rfl) (by kernel_rfl) (by kernel_rfl) (fun _ _ _ h => h) (Or.inl ⟨by rfl, ?_⟩) (by assumption) ?_
  rotate_left
  · (intro w hSw; (try dsimp only at hSw); go_simp; first | done | with_reducible rfl)
  simp only [Act.put]
  refine wpAnyH_done (by kernel_rfl) ?_ _
  have B4 : Hid (Bl w3 ((w3.alloc (.cells #[str wDelay, str wCancel, str wSkip, str wReroute, str wAdd, str wRestore] 9)).alloc (.cells #[str (itoa m.src), str (itoa m.seq), str (itoa m.iss), str (itoa m.exp), str wAdd, str m.trip, str (dtext m.day), str (itoa m.inst)] 9)).drew) := bl_drew (bl_alloc (bl_alloc (bl_refl w3) _) _)
  have O4 : Hid (OwnS w3.heap.size (.slice (some ⟨w3.heap.size + 1, 0, none⟩) 8 8) (eight m) ((w3.alloc (.cells #[str wDelay, str wCancel, str wSkip, str wReroute, str wAdd, str wRestore] 9)).alloc (.cells #[str (itoa m.src), str (itoa m.seq), str (itoa m.iss), str (itoa m.exp), str wAdd, str m.trip, str (dtext m.day), str (itoa m.inst)] 9)).drew) := by
    rw [e0.out]
    exact ownS_bl (ownS_base (ownS_new' (w := w3.alloc (.cells #[str wDelay, str wCancel, str wSkip, str wReroute, str wAdd, str wRestore] 9)) (g := w3.heap.size + 1) (n := 8) (l := [itoa m.src, itoa m.seq, itoa m.iss, itoa m.exp, wAdd, m.trip, dtext m.day, itoa m.inst]) (by simp) rfl rfl (by unfold maxLen; decide)) (Nat.le_succ _)) (bl_drew (bl_refl _))
  change Exit.then _ _ .normal _ ((w3.alloc (.cells #[str wDelay, str wCancel, str wSkip, str wReroute, str wAdd, str wRestore] 9)).alloc (.cells #[str (itoa m.src), str (itoa m.seq), str (itoa m.iss), str (itoa m.exp), str wAdd, str m.trip, str (dtext m.day), str (itoa m.inst)] 9)).drew
  generalize ((w3.alloc (.cells #[str wDelay, str wCancel, str wSkip, str wReroute, str wAdd, str wRestore] 9)).alloc (.cells #[str (itoa m.src), str (itoa m.seq), str (itoa m.iss), str (itoa m.exp), str wAdd, str m.trip, str (dtext m.day), str (itoa m.inst)] 9)).drew = W4 at B4 O4 ⊢
  obtain ⟨m4, m8, m9, m10, m11, m12⟩ := hold2 _ B4.out
  clear hHeld hold hold3 g0 g1 g2 g3 g7 q0 q1 q2 q3 q4 q5 q7
  have gr := fun w => Nu.refFormat_c m.route ho.out.route.1 ho.out.route.2 w
  go_wp2_with (first
    | (go_at_call 60; with_reducible (refine (gr _).mono ?_); rintro yr zr ⟨rfl, rfl⟩)
    | (at_builtin; refine wpList_append_own _ rfl _ _ 48 rfl w3.heap.size 9 i0 (.string ByteArray.empty) 1 16 Tryd.underlying48 hi hz0 hz1 hz2 rfl (by decide) _ _ _ rfl (ownS_alloc O4.out _) ⟨W4.heap.size, 0, none⟩ 2 2 [str (itoa m.route), str (wYes)] rfl rfl ?c1r ?c2r ?c3r ?c4r ?c5r ?_))
  case c1r => exact cells_of_lit _ (fun j u h => by simpa [wYes, wNo] using h)
  case c2r => simp [Value.oneCell']
  case c3r => unfold maxLen; simp
  case c4r => simp
  case c5r => exact (bl_alloc B4.out _).size
  intro vr wr hownr hgrowr _
  have Br : Hid (Bl w3 wr) := (bl_alloc B4.out _).grown hgrowr (bl_alloc B4.out _).size (fun k hk => (World.ownsRow.lt O4.out k hk).1)
  have Or := Lib.hid (ownS_app' (l := eight m) (m := [itoa m.route, wYes]) (r := eight m ++ [itoa m.route, wYes]) hownr rfl rfl rfl)
  clear hownr hgrowr
  obtain ⟨ar, kr, rfl⟩ := ownS_form Or.out
  clear m4 m8 m9 m10 m11 m12 gr
  obtain ⟨m4, m8, m9, m10, m11, m12⟩ := hold2 _ Br.out
  obtain ⟨b, o, cap, rfl, l1, l2, l3, hc⟩ := HV3.out.open hpos
  have H1 := Lib.hid hc
  have HX := Lib.hid ho.out.calls
  have hN : m.calls.length ≤ 100 := by have := hg.out.many; omega
  clear hc
  go_wp2_with fail
  go_loopw [5, 7] (fun vo i wr => ∃ (k : Nat), k ≤ m.calls.length ∧ i = .int .i64 k ∧ Hid (OwnS w3.heap.size vo (eight m ++ [itoa m.route, wYes] ++ (m.calls.take k).map callText) wr) ∧ Hid (Bl w3 wr)) (fun _ i _ => m.calls.length - (intOf i).toNat)
  case atStart => exact ⟨0, Nat.zero_le _, rfl, by show OwnS _ _ _ _; rw [List.take_zero, List.map_nil, List.append_nil]; exact Or.out, Br.out⟩
  case round =>
    obtain ⟨k, hk', rfl, HO, HB⟩ := hrel
    clear m4 m8 m9 m10 m11 m12
    obtain ⟨-, -, -, -, -, m12⟩ := hold2 _ HB.out
    by_cases hlt : k < m.calls.length
    · obtain ⟨x, hx⟩ : ∃ x, m.calls[k]? = some x := ⟨_, List.getElem?_eq_getElem hlt⟩
      have hc0 : ∀ (j : Nat) (u : Value), (callCells x)[j]? = some u → wr.cell? ⟨b, o + k * 5 + j, none⟩ = some u := fun j u hu => by rw [(bl_cell HB.out).1 _ _ (by omega)]; exact H1.out k x hx j u hu
      have g0 : wr.cell? ⟨b, o + k * 5, none⟩ = some (.int .i64 x.stop) := hc0 0 _ rfl
      have g1 := hc0 1 _ rfl
      have g2 := hc0 2 _ rfl
      have g3 := hc0 3 _ rfl
      have g4 := hc0 4 _ rfl
      have i1 : (k : Int) < (m.calls.length : Int) := by omega
      have HXI := Lib.hid (HX.out x (List.mem_of_getElem? hx))
      have HT := Lib.hid (show (eight m ++ [itoa m.route, wYes] ++ (m.calls.take k).map callText) ++ [callText x] = eight m ++ [itoa m.route, wYes] ++ (m.calls.take (k + 1)).map callText by rw [take_next hx, List.map_append, List.append_assoc]; rfl)
      have HLn := Lib.hid (show (eight m ++ [itoa m.route, wYes] ++ (m.calls.take k).map callText).length = 10 + k by rw [List.length_append, List.length_map, List.length_take]; show 10 + _ = _; omega)
      have hcf := fun w => rcallField_c x HXI w
      obtain ⟨L0, hL0⟩ : ∃ L0, eight m ++ [itoa m.route, wYes] ++ (m.calls.take k).map callText = L0 := ⟨_, rfl⟩
      rw [hL0] at HO HT HLn
      obtain ⟨q, hq⟩ : ∃ q, callText x = q := ⟨_, rfl⟩
      rw [hq] at hcf HT
      clear hx hc0 hL0 hq
      have hLn := HLn.out
      go_wp2_with (go_at_call 62; with_reducible (refine (hcf _).mono ?_))
      rintro x6 w6 ⟨rfl, b6⟩
      have B6 : Hid (Bl w3 w6) := bl_next HB.out b6
      have O6 := Lib.hid (ownS_bl HO.out b6)
      clear b6 g0 g1 g2 g3 g4 m12 hcf
      go_wp2_with (at_builtin; refine wpList_append_own _ rfl _ _ 48 rfl w3.heap.size 9 i0 (.string ByteArray.empty) 1 16 Tryd.underlying48 hi hz0 hz1 hz2 rfl (by decide) _ _ _ rfl (ownS_alloc O6.out _) ⟨w6.heap.size, 0, none⟩ 1 1 [str q] rfl rfl ?d1 ?d2 ?d3 ?d4 ?d5 ?_)
      case d1 => exact cells_of_lit _ (fun j u h => by simpa using h)
      case d2 => simp [Value.oneCell']
      case d3 => unfold maxLen; omega
      case d4 => omega
      case d5 => exact (bl_alloc B6.out _).size
      intro v7 w7 hown7 hgrow7 _
      have O7 := Lib.hid (ownS_app' (l := L0) (m := [q]) hown7 HT.out (by rw [← HT.out]; simp; exact HLn.out.symm) (by simp))
      have B7 : Hid (Bl w3 w7) := (bl_alloc B6.out _).grown hgrow7 (bl_alloc B6.out _).size (fun k hk => (World.ownsRow.lt O6.out k hk).1)
      clear hown7 hgrow7 hLn
      go_wp2
      go_roundw
      case rel =>
        refine ⟨_, _, _, _, _, _, _, _, _, _, _, _, _, _, _, _, _, _, ⟨k + 1, by omega, ?_, O7, B7⟩, rfl⟩
        go_num
      case measure => simp [intOf]; omega
    · have HF := Lib.hid (show eight m ++ [itoa m.route, wYes] ++ (m.calls.take k).map callText = fieldsM m by rw [List.take_of_length_le (by omega)]; unfold fieldsM midS eight; rw [hk.out]; rw [hs.out]; rfl)
      rw [HF.out] at HO
      go_wp2
      go_ret
      exact ⟨_, rfl, ownS_base HO.out (Nat.le_of_lt hs3), bl_next HB3.out HB.out⟩
set_option maxRecDepth 20000 in
set_option maxHeartbeats 8000000 in
theorem rfields_k5n (m : MsgD) (hk : Hid (m.kind = 5)) (hs : Hid (m.step = false)) (hpos : 0 < m.calls.length) (v : Value) (hg : Hid (Msg.Good m)) (ho : Hid (OkM m)) (B : Nat) (w : World) (hv : CallsIn B w v m.calls) (hB : B ≤ w.heap.size) :
    Calls Tryd.prog 36 #[msgV m v] w fun r w' => ∃ u, r = .returned u ∧ OwnS w.heap.size u (fieldsM m) w' ∧ Bl w w' := by
  obtain ⟨i0, hi, hz0, hz1, hz2⟩ := info_parts info_str
  have hdf := fun w => Da.rFormat_c m.day (dtext m.day) 0 (by show _ = _; unfold dfmt; rw [if_pos hg.out.day]) w
  have hbl : Bl w (w.alloc (.cells (msgCells m v) 24)) := bl_alloc (bl_refl _) _
  have hm := msgAt_new m v w
  have hsz : w.heap.size < (w.alloc (.cells (msgCells m v) 24)).heap.size := by simp
  have HV := Lib.hid (hv.below (hbl.mono hB))
  clear hv
  go_enter Tryd.func36, Tryd.ntmps36
  go_wp2_with (first
    | (go_at_call 59; refine (hdf _).mono ?_))
  rintro x3 w3 ⟨rfl, b3⟩
  have HM3 := Lib.hid (hm.next b3 hsz)
  have HB3 := Lib.hid (bl_next hbl b3)
  have HV3 := Lib.hid (HV.out.below (b3.mono (by simp; omega)))
  have hs3 : w.heap.size < w3.heap.size := by have := b3.size; simp at this; omega
  have hB3 : B ≤ w3.heap.size := by omega
  clear b3 hm hbl HV hdf hsz
  have hold : ∀ w', Bl w3 w' → (w'.cell? ⟨w.heap.size, 0, none⟩ = some (.int .i64 m.src) ∧ w'.cell? ⟨w.heap.size, 1, none⟩ = some (.int .i64 m.seq) ∧ w'.cell? ⟨w.heap.size, 2, none⟩ = some (.int .i64 m.iss) ∧ w'.cell? ⟨w.heap.size, 3, none⟩ = some (.int .i64 m.exp) ∧ w'.cell? ⟨w.heap.size, 4, none⟩ = some (.int .i64 5) ∧ w'.cell? ⟨w.heap.size, 5, none⟩ = some (str m.trip) ∧ w'.cell? ⟨w.heap.size, 7, none⟩ = some (.int .i64 m.inst)) := fun w' hb => by
    obtain ⟨c0, c1, c2, c3, c4, c5, c6, c7, _⟩ := (HM3.out.next hb hs3).all
    rw [hk.out] at c4
    exact ⟨c0, c1, c2, c3, c4, c5, c7⟩
  have hold2 : ∀ w', Bl w3 w' → (w'.cell? ⟨w.heap.size, 4, none⟩ = some (.int .i64 5) ∧ w'.cell? ⟨w.heap.size, 8, none⟩ = some (.int .i64 m.call) ∧ w'.cell? ⟨w.heap.size, 9, none⟩ = some (.int .i64 m.secs) ∧ w'.cell? ⟨w.heap.size, 10, none⟩ = some (.int .i64 m.route) ∧ w'.cell? ⟨w.heap.size, 11, none⟩ = some (.bool false) ∧ w'.cell? ⟨w.heap.size, 12, none⟩ = some v) := fun w' hb => by
    obtain ⟨_, _, _, _, c4, _, _, _, c8, c9, c10, c11, c12⟩ := (HM3.out.next hb hs3).all
    rw [hk.out] at c4
    rw [hs.out] at c11
    exact ⟨c4, c8, c9, c10, c11, c12⟩
  have e0 := Lib.hid (show eight m = [itoa m.src, itoa m.seq, itoa m.iss, itoa m.exp, wAdd, m.trip, dtext m.day, itoa m.inst] by unfold eight; rw [hk.out]; rfl)
  have g0 := fun w => Nu.refFormat_c m.src ho.out.src.1 ho.out.src.2 w
  have g1 := fun w => Nu.refFormat_c m.seq ho.out.seq.1 ho.out.seq.2 w
  have g2 := fun w => Nu.refFormat_c m.iss ho.out.iss.1 ho.out.iss.2 w
  have g3 := fun w => Nu.refFormat_c m.exp ho.out.exp.1 ho.out.exp.2 w
  have g7 := fun w => Nu.refFormat_c m.inst ho.out.inst.1 ho.out.inst.2 w
  obtain ⟨q0, q1, q2, q3, q4, q5, q7⟩ := hold w3 (bl_refl _)
  go_wp2_with fail
  have wk : IntKind.i64.wrap 4 = 4 := by decide
  refine wp_region_held_drew (S := (fun w' => w'.cell? ⟨w.heap.size, 0, none⟩ = some (.int .i64 m.src) ∧ w'.cell? ⟨w.heap.size, 1, none⟩ = some (.int .i64 m.seq) ∧ w'.cell? ⟨w.heap.size, 2, none⟩ = some (.int .i64 m.iss) ∧ w'.cell? ⟨w.heap.size, 3, none⟩ = some (.int .i64 m.exp) ∧ w'.cell? ⟨w.heap.size, 4, none⟩ = some (.int .i64 5) ∧ w'.cell? ⟨w.heap.size, 5, none⟩ = some (str m.trip) ∧ w'.cell? ⟨w.heap.size, 7, none⟩ = some (.int .i64 m.inst))) (by kernel_rfl) (hold _ (bl_drew (bl_refl w3))) (fun hHeld => ?_)
  refine wpAnyH_take (i := 0) (v := ?_) rfl (by kernel_rfl) (by kernel_rfl) (by kernel_rfl) (fun _ _ _ h => h) (Or.inl ⟨by rfl, ?_⟩) (by assumption) ?_
  rotate_left
  · (intro w hSw; (try dsimp only at hSw); go_simp; first | done | with_reducible rfl)
  simp only [Act.put, List.setIfInBounds_toArray]
  refine wpAnyH_take (i := 1) (v := ?_) rfl (by kernel_rfl) (by kernel_rfl) (by kernel_rfl) (fun _ _ _ h => h) (Or.inl ⟨by rfl, ?_⟩) (by assumption) ?_
  rotate_left
  · (intro w hSw; (try dsimp only at hSw); go_simp; first | done | with_reducible rfl)
  simp only [Act.put]
  refine wpAnyH_take (i := 3) (v := ?_) rfl (by kernel_rfl) (by kernel_rfl) (by kernel_rfl) (fun _ _ _ h => h) (Or.inl ⟨by rfl, ?_⟩) (by assumption) ?_
  rotate_left
  · (intro w hSw; (try dsimp only at hSw); go_simp; first | done | with_reducible rfl)
  simp only [Act.put]
  refine wpAnyH_take (i := 4) (v := ?_) rfl (by kernel_rfl) (by kernel_rfl) (by kernel_rfl) (fun _ _ _ h => h) (Or.inl ⟨by rfl, ?_⟩) (by assumption) ?_
  rotate_left
  · (intro w hSw; (try dsimp only at hSw); go_simp; first | done | with_reducible rfl)
  simp only [Act.put]
  refine wpAnyH_take (i := 6) (v := ?_) rfl (by kernel_rfl) (by kernel_rfl) (by kernel_rfl) (fun _ _ _ h => h) (Or.inl ⟨by rfl, ?_⟩) (by assumption) ?_
  rotate_left
  · (intro w hSw; (try dsimp only at hSw); go_simp; first | done | with_reducible rfl)
  simp only [Act.put]
  refine wpAnyH_take (i := 7) (v := ?_) rfl (by kernel_rfl) (by kernel_rfl) (by kernel_rfl) (fun _ _ _ h => h) (Or.inl ⟨by rfl, ?_⟩) (by assumption) ?_
  rotate_left
  · (intro w hSw; (try dsimp only at hSw); go_simp; first | done | with_reducible rfl)
  simp only [Act.put]
  refine wpAnyH_take (i := 9) (v := ?_) rfl (by kernel_rfl) (by kernel_rfl) (by kernel_rfl) (fun _ _ _ h => h) (Or.inl ⟨by rfl, ?_⟩) (by assumption) ?_
  rotate_left
  · (intro w hSw; (try dsimp only at hSw); go_simp; first | done | with_reducible rfl)
  simp only [Act.put]
  refine wpAnyH_take (i := 10) (v := ?_) rfl (by kernel_rfl) (by kernel_rfl) (by kernel_rfl) (fun _ _ _ h => h) (Or.inl ⟨by rfl, ?_⟩) (by assumption) ?_
  rotate_left
  · (intro w hSw; (try dsimp only at hSw); go_simp; first | done | with_reducible rfl)
  simp only [Act.put]
  refine wpAnyH_take (i := 13) (v := ?_) rfl (by kernel_rfl) (by kernel_rfl) (by kernel_rfl) (fun _ _ _ h => h) (Or.inl ⟨by rfl, ?_⟩) (by assumption) ?_
  rotate_left
  · (intro w hSw; (try dsimp only at hSw); go_simp; first | done | with_reducible rfl)
  simp only [Act.put]
  refine wpAnyH_take (i := 14) (v := ?_) rfl (by kernel_rfl) (by kernel_rfl) (by kernel_rfl) (fun _ _ _ h => h) (Or.inl ⟨by rfl, ?_⟩) (by assumption) ?_
  rotate_left
  · (intro w hSw; (try dsimp only at hSw); go_simp; first | done | with_reducible rfl)
  simp only [Act.put]
  refine wpAnyH_take (i := 15) (v := ?_) rfl (by kernel_rfl) (by kernel_rfl) (by kernel_rfl) (fun _ _ _ h => h) (Or.inl ⟨by rfl, ?_⟩) (by assumption) ?_
  rotate_left
  · (intro w hSw; (try dsimp only at hSw); go_simp; first | done | with_reducible rfl)
  simp only [Act.put]
  refine wpAnyH_take (i := 18) (v := ?_) rfl (by kernel_rfl) (by kernel_rfl) (by kernel_rfl) (fun _ _ _ h => h) (Or.inl ⟨by rfl, ?_⟩) (by assumption) ?_
  rotate_left
  · (intro w hSw; (try dsimp only at hSw); go_simp; first | done | with_reducible rfl)
  simp only [Act.put]
  refine wpAnyH_take (i := 19) (v := ?_) rfl (by kernel_rfl) (by kernel_rfl) (by kernel_rfl) (fun _ _ _ h => h) (Or.inl ⟨by rfl, ?_⟩) (by assumption) ?_
  rotate_left
  · (intro w hSw; (try dsimp only at hSw); go_simp; first | done | with_reducible rfl)
  simp only [Act.put]
  refine wpAnyH_take (i := 20) (v := ?_) rfl (by kernel_rfl) (by kernel_rfl) (by kernel_rfl) (fun _ _ _ h => h) (Or.inl ⟨by rfl, ?_⟩) (by assumption) ?_
  rotate_left
  · (intro w hSw; (try dsimp only at hSw); go_simp; first | done | with_reducible rfl)
  simp only [Act.put]
  refine wpAnyH_take (i := 21) (v := ?_) rfl (by kernel_rfl) (by kernel_rfl) (by kernel_rfl) (fun _ _ _ h => h) (Or.inl ⟨by rfl, ?_⟩) (by assumption) ?_
  rotate_left
  · (intro w hSw; (try dsimp only at hSw); go_simp; first | done | with_reducible rfl)
  simp only [Act.put]
  refine wpAnyH_take (i := 22) (v := ?_) rfl (by kernel_rfl) (by kernel_rfl) (by kernel_rfl) (fun _ _ _ h => h) (Or.inl ⟨by rfl, ?_⟩) (by assumption) ?_
  rotate_left
  · (intro w hSw; (try dsimp only at hSw); go_simp; first | done | with_reducible rfl)
  simp only [Act.put]
  refine wpAnyH_ready (rs := [2]) (by kernel_rfl) (by simp) ?_
  refine AllReadyH.cons rfl (fun K hK => ?_) AllReadyH.nil
  go_simp
  (go_at_call 60; with_reducible (refine (g0 _).mono ?_); rintro y0 z0 ⟨rfl, rfl⟩)
  clear hHeld
  refine hK.out _ _ ?_ (fun hHeld => ?_)
  · exact hold _ (bl_drew (bl_refl w3))
  clear hK K
  try simp only [Act.put]
  refine wpAnyH_ready (rs := [5]) (by kernel_rfl) (by simp) ?_
  refine AllReadyH.cons rfl (fun K hK => ?_) AllReadyH.nil
  go_simp
  (go_at_call 60; with_reducible (refine (g1 _).mono ?_); rintro y1 z1 ⟨rfl, rfl⟩)
  clear hHeld
  refine hK.out _ _ ?_ (fun hHeld => ?_)
  · exact hold _ (bl_drew (bl_refl w3))
  clear hK K
  try simp only [Act.put]
  refine wpAnyH_ready (rs := [8]) (by kernel_rfl) (by simp) ?_
  refine AllReadyH.cons rfl (fun K hK => ?_) AllReadyH.nil
  go_simp
  (go_at_call 60; with_reducible (refine (g2 _).mono ?_); rintro y2 z2 ⟨rfl, rfl⟩)
  clear hHeld
  refine hK.out _ _ ?_ (fun hHeld => ?_)
  · exact hold _ (bl_drew (bl_refl w3))
  clear hK K
  try simp only [Act.put]
  refine wpAnyH_ready (rs := [11]) (by kernel_rfl) (by simp) ?_
  refine AllReadyH.cons rfl (fun K hK => ?_) AllReadyH.nil
  go_simp
  (go_at_call 60; with_reducible (refine (g3 _).mono ?_); rintro y3 z3 ⟨rfl, rfl⟩)
  clear hHeld
  refine hK.out _ _ ?_ (fun hHeld => ?_)
  · exact hold _ (bl_drew (bl_refl w3))
  clear hK K
  try simp only [Act.put]
  refine wpAnyH_ready (rs := [12]) (by kernel_rfl) (by simp) ?_
  refine AllReadyH.cons rfl (fun K hK => ?_) AllReadyH.nil
  go_simp
  (go_at_call 61; refine (rwords_c _).mono ?_; rintro yw zw ⟨rfl, rfl⟩)
  clear hHeld
  refine hK.out _ _ ?_ (fun hHeld => ?_)
  · exact hold _ (bl_alloc (bl_drew (bl_refl w3)) _)
  clear hK K
  try simp only [Act.put]
  have hold3 : ∀ w', Bl (w3.drew.alloc (.cells #[str wDelay, str wCancel, str wSkip, str wReroute, str wAdd, str wRestore] 9)) w' → (w'.cell? ⟨w3.heap.size, 4, none⟩ = some (str wAdd) ∧ w'.cell? ⟨w.heap.size, 0, none⟩ = some (.int .i64 m.src) ∧ w'.cell? ⟨w.heap.size, 1, none⟩ = some (.int .i64 m.seq) ∧ w'.cell? ⟨w.heap.size, 2, none⟩ = some (.int .i64 m.iss) ∧ w'.cell? ⟨w.heap.size, 3, none⟩ = some (.int .i64 m.exp) ∧ w'.cell? ⟨w.heap.size, 4, none⟩ = some (.int .i64 5) ∧ w'.cell? ⟨w.heap.size, 5, none⟩ = some (str m.trip) ∧ w'.cell? ⟨w.heap.size, 7, none⟩ = some (.int .i64 m.inst)) := fun w' hb => ⟨by rw [(bl_cell hb).1 _ _ (by simp)]; exact word_cellN w3.drew 4 (by decide), hold w' (bl_next (bl_alloc (bl_drew (bl_refl w3)) _) hb)⟩
  refine wpAnyH_strong (S' := fun w' => w'.cell? ⟨w3.heap.size, 4, none⟩ = some (str wAdd) ∧ w'.cell? ⟨w.heap.size, 0, none⟩ = some (.int .i64 m.src) ∧ w'.cell? ⟨w.heap.size, 1, none⟩ = some (.int .i64 m.seq) ∧ w'.cell? ⟨w.heap.size, 2, none⟩ = some (.int .i64 m.iss) ∧ w'.cell? ⟨w.heap.size, 3, none⟩ = some (.int .i64 m.exp) ∧ w'.cell? ⟨w.heap.size, 4, none⟩ = some (.int .i64 5) ∧ w'.cell? ⟨w.heap.size, 5, none⟩ = some (str m.trip) ∧ w'.cell? ⟨w.heap.size, 7, none⟩ = some (.int .i64 m.inst)) (fun w' h => h.2) _ _ _ _ ?_
  replace hHeld := hold3 _ (bl_refl _)
  refine wpAnyH_take (i := 16) (v := ?_) rfl (by kernel_rfl) (by kernel_rfl) (by kernel_rfl) (fun _ _ _ h => h) (Or.inl ⟨by rfl, ?_⟩) (by assumption) ?_
  rotate_left
  · (intro w hSw; (try dsimp only at hSw); go_simp; first | done | with_reducible rfl)
  simp only [Act.put]
  refine wpAnyH_take (i := 17) (v := ?_) rfl (by kernel_rfl) (by kernel_rfl) (by kernel_rfl) (fun _ _ _ h => h) (Or.inl ⟨by rfl, ?_⟩) (by assumption) ?_
  rotate_left
  · (intro w hSw; (try dsimp only at hSw); go_simp; first | done | with_reducible rfl)
  simp only [Act.put]
  refine wpAnyH_ready (rs := [23]) (by kernel_rfl) (by simp) ?_
  refine AllReadyH.cons rfl (fun K hK => ?_) AllReadyH.nil
  go_simp
  (go_at_call 60; with_reducible (refine (g7 _).mono ?_); rintro y7 z7 ⟨rfl, rfl⟩)
  clear hHeld
  refine hK.out _ _ ?_ (fun hHeld => ?_)
  · exact hold3 _ (bl_refl _)
  clear hK K
  try simp only [Act.put]
  refine wpAnyH_ready (rs := [24]) (by kernel_rfl) (by simp) ?_
  refine AllReadyH.cons rfl (fun K hK => ?_) AllReadyH.nil
  go_simp
  skip
  clear hHeld
  refine hK.out _ _ ?_ (fun hHeld => ?_)
  · exact hold3 _ (bl_alloc (bl_refl _) _)
  clear hK K
  try simp only [Act.put]
  refine wpAnyH_take (i := 25) (v := ?_) rfl (by kernel_rfl) (by kernel_rfl) (by kernel_rfl) (fun _ _ _ h => h) (Or.inl ⟨by rfl, ?_⟩) (by assumption) ?_
  rotate_left
  · (intro w hSw; (try dsimp only at hSw); go_simp; first | done | with_reducible rfl)
  simp only [Act.put]
  refine wpAnyH_done (by kernel_rfl) ?_ _
  have B4 : Hid (Bl w3 ((w3.alloc (.cells #[str wDelay, str wCancel, str wSkip, str wReroute, str wAdd, str wRestore] 9)).alloc (.cells #[str (itoa m.src), str (itoa m.seq), str (itoa m.iss), str (itoa m.exp), str wAdd, str m.trip, str (dtext m.day), str (itoa m.inst)] 9)).drew) := bl_drew (bl_alloc (bl_alloc (bl_refl w3) _) _)
  have O4 : Hid (OwnS w3.heap.size (.slice (some ⟨w3.heap.size + 1, 0, none⟩) 8 8) (eight m) ((w3.alloc (.cells #[str wDelay, str wCancel, str wSkip, str wReroute, str wAdd, str wRestore] 9)).alloc (.cells #[str (itoa m.src), str (itoa m.seq), str (itoa m.iss), str (itoa m.exp), str wAdd, str m.trip, str (dtext m.day), str (itoa m.inst)] 9)).drew) := by
    rw [e0.out]
    exact ownS_bl (ownS_base (ownS_new' (w := w3.alloc (.cells #[str wDelay, str wCancel, str wSkip, str wReroute, str wAdd, str wRestore] 9)) (g := w3.heap.size + 1) (n := 8) (l := [itoa m.src, itoa m.seq, itoa m.iss, itoa m.exp, wAdd, m.trip, dtext m.day, itoa m.inst]) (by simp) rfl rfl (by unfold maxLen; decide)) (Nat.le_succ _)) (bl_drew (bl_refl _))
  change Exit.then _ _ .normal _ ((w3.alloc (.cells #[str wDelay, str wCancel, str wSkip, str wReroute, str wAdd, str wRestore] 9)).alloc (.cells #[str (itoa m.src), str (itoa m.seq), str (itoa m.iss), str (itoa m.exp), str wAdd, str m.trip, str (dtext m.day), str (itoa m.inst)] 9)).drew
  generalize ((w3.alloc (.cells #[str wDelay, str wCancel, str wSkip, str wReroute, str wAdd, str wRestore] 9)).alloc (.cells #[str (itoa m.src), str (itoa m.seq), str (itoa m.iss), str (itoa m.exp), str wAdd, str m.trip, str (dtext m.day), str (itoa m.inst)] 9)).drew = W4 at B4 O4 ⊢
  obtain ⟨m4, m8, m9, m10, m11, m12⟩ := hold2 _ B4.out
  clear hHeld hold hold3 g0 g1 g2 g3 g7 q0 q1 q2 q3 q4 q5 q7
  have gr := fun w => Nu.refFormat_c m.route ho.out.route.1 ho.out.route.2 w
  go_wp2_with (first
    | (go_at_call 60; with_reducible (refine (gr _).mono ?_); rintro yr zr ⟨rfl, rfl⟩)
    | (at_builtin; refine wpList_append_own _ rfl _ _ 48 rfl w3.heap.size 9 i0 (.string ByteArray.empty) 1 16 Tryd.underlying48 hi hz0 hz1 hz2 rfl (by decide) _ _ _ rfl (ownS_alloc O4.out _) ⟨W4.heap.size, 0, none⟩ 2 2 [str (itoa m.route), str (wNo)] rfl rfl ?c1r ?c2r ?c3r ?c4r ?c5r ?_))
  case c1r => exact cells_of_lit _ (fun j u h => by simpa [wYes, wNo] using h)
  case c2r => simp [Value.oneCell']
  case c3r => unfold maxLen; simp
  case c4r => simp
  case c5r => exact (bl_alloc B4.out _).size
  intro vr wr hownr hgrowr _
  have Br : Hid (Bl w3 wr) := (bl_alloc B4.out _).grown hgrowr (bl_alloc B4.out _).size (fun k hk => (World.ownsRow.lt O4.out k hk).1)
  have Or := Lib.hid (ownS_app' (l := eight m) (m := [itoa m.route, wNo]) (r := eight m ++ [itoa m.route, wNo]) hownr rfl rfl rfl)
  clear hownr hgrowr
  obtain ⟨ar, kr, rfl⟩ := ownS_form Or.out
  clear m4 m8 m9 m10 m11 m12 gr
  obtain ⟨m4, m8, m9, m10, m11, m12⟩ := hold2 _ Br.out
  obtain ⟨b, o, cap, rfl, l1, l2, l3, hc⟩ := HV3.out.open hpos
  have H1 := Lib.hid hc
  have HX := Lib.hid ho.out.calls
  have hN : m.calls.length ≤ 100 := by have := hg.out.many; omega
  clear hc
  go_wp2_with fail
  go_loopw [5, 7] (fun vo i wr => ∃ (k : Nat), k ≤ m.calls.length ∧ i = .int .i64 k ∧ Hid (OwnS w3.heap.size vo (eight m ++ [itoa m.route, wNo] ++ (m.calls.take k).map callText) wr) ∧ Hid (Bl w3 wr)) (fun _ i _ => m.calls.length - (intOf i).toNat)
  case atStart => exact ⟨0, Nat.zero_le _, rfl, by show OwnS _ _ _ _; rw [List.take_zero, List.map_nil, List.append_nil]; exact Or.out, Br.out⟩
  case round =>
    obtain ⟨k, hk', rfl, HO, HB⟩ := hrel
    clear m4 m8 m9 m10 m11 m12
    obtain ⟨-, -, -, -, -, m12⟩ := hold2 _ HB.out
    by_cases hlt : k < m.calls.length
    · obtain ⟨x, hx⟩ : ∃ x, m.calls[k]? = some x := ⟨_, List.getElem?_eq_getElem hlt⟩
      have hc0 : ∀ (j : Nat) (u : Value), (callCells x)[j]? = some u → wr.cell? ⟨b, o + k * 5 + j, none⟩ = some u := fun j u hu => by rw [(bl_cell HB.out).1 _ _ (by omega)]; exact H1.out k x hx j u hu
      have g0 : wr.cell? ⟨b, o + k * 5, none⟩ = some (.int .i64 x.stop) := hc0 0 _ rfl
      have g1 := hc0 1 _ rfl
      have g2 := hc0 2 _ rfl
      have g3 := hc0 3 _ rfl
      have g4 := hc0 4 _ rfl
      have i1 : (k : Int) < (m.calls.length : Int) := by omega
      have HXI := Lib.hid (HX.out x (List.mem_of_getElem? hx))
      have HT := Lib.hid (show (eight m ++ [itoa m.route, wNo] ++ (m.calls.take k).map callText) ++ [callText x] = eight m ++ [itoa m.route, wNo] ++ (m.calls.take (k + 1)).map callText by rw [take_next hx, List.map_append, List.append_assoc]; rfl)
      have HLn := Lib.hid (show (eight m ++ [itoa m.route, wNo] ++ (m.calls.take k).map callText).length = 10 + k by rw [List.length_append, List.length_map, List.length_take]; show 10 + _ = _; omega)
      have hcf := fun w => rcallField_c x HXI w
      obtain ⟨L0, hL0⟩ : ∃ L0, eight m ++ [itoa m.route, wNo] ++ (m.calls.take k).map callText = L0 := ⟨_, rfl⟩
      rw [hL0] at HO HT HLn
      obtain ⟨q, hq⟩ : ∃ q, callText x = q := ⟨_, rfl⟩
      rw [hq] at hcf HT
      clear hx hc0 hL0 hq
      have hLn := HLn.out
      go_wp2_with (go_at_call 62; with_reducible (refine (hcf _).mono ?_))
      rintro x6 w6 ⟨rfl, b6⟩
      have B6 : Hid (Bl w3 w6) := bl_next HB.out b6
      have O6 := Lib.hid (ownS_bl HO.out b6)
      clear b6 g0 g1 g2 g3 g4 m12 hcf
      go_wp2_with (at_builtin; refine wpList_append_own _ rfl _ _ 48 rfl w3.heap.size 9 i0 (.string ByteArray.empty) 1 16 Tryd.underlying48 hi hz0 hz1 hz2 rfl (by decide) _ _ _ rfl (ownS_alloc O6.out _) ⟨w6.heap.size, 0, none⟩ 1 1 [str q] rfl rfl ?d1 ?d2 ?d3 ?d4 ?d5 ?_)
      case d1 => exact cells_of_lit _ (fun j u h => by simpa using h)
      case d2 => simp [Value.oneCell']
      case d3 => unfold maxLen; omega
      case d4 => omega
      case d5 => exact (bl_alloc B6.out _).size
      intro v7 w7 hown7 hgrow7 _
      have O7 := Lib.hid (ownS_app' (l := L0) (m := [q]) hown7 HT.out (by rw [← HT.out]; simp; exact HLn.out.symm) (by simp))
      have B7 : Hid (Bl w3 w7) := (bl_alloc B6.out _).grown hgrow7 (bl_alloc B6.out _).size (fun k hk => (World.ownsRow.lt O6.out k hk).1)
      clear hown7 hgrow7 hLn
      go_wp2
      go_roundw
      case rel =>
        refine ⟨_, _, _, _, _, _, _, _, _, _, _, _, _, _, _, _, _, _, ⟨k + 1, by omega, ?_, O7, B7⟩, rfl⟩
        go_num
      case measure => simp [intOf]; omega
    · have HF := Lib.hid (show eight m ++ [itoa m.route, wNo] ++ (m.calls.take k).map callText = fieldsM m by rw [List.take_of_length_le (by omega)]; unfold fieldsM midS eight; rw [hk.out]; rw [hs.out]; rfl)
      rw [HF.out] at HO
      go_wp2
      go_ret
      exact ⟨_, rfl, ownS_base HO.out (Nat.le_of_lt hs3), bl_next HB3.out HB.out⟩
set_option maxRecDepth 20000 in
set_option maxHeartbeats 8000000 in
theorem rfields_k6 (m : MsgD) (hk : Hid (m.kind = 6)) (hn : Hid (m.calls = [])) (v : Value) (hg : Hid (Msg.Good m)) (ho : Hid (OkM m)) (B : Nat) (w : World) (hv : CallsIn B w v m.calls) (hB : B ≤ w.heap.size) :
    Calls Tryd.prog 36 #[msgV m v] w fun r w' => ∃ u, r = .returned u ∧ OwnS w.heap.size u (fieldsM m) w' ∧ Bl w w' := by
  obtain ⟨i0, hi, hz0, hz1, hz2⟩ := info_parts info_str
  have hdf := fun w => Da.rFormat_c m.day (dtext m.day) 0 (by show _ = _; unfold dfmt; rw [if_pos hg.out.day]) w
  have hbl : Bl w (w.alloc (.cells (msgCells m v) 24)) := bl_alloc (bl_refl _) _
  have hm := msgAt_new m v w
  have hsz : w.heap.size < (w.alloc (.cells (msgCells m v) 24)).heap.size := by simp
  have HV := Lib.hid (hv.below (hbl.mono hB))
  clear hv
  go_enter Tryd.func36, Tryd.ntmps36
  go_wp2_with (first
    | (go_at_call 59; refine (hdf _).mono ?_))
  rintro x3 w3 ⟨rfl, b3⟩
  have HM3 := Lib.hid (hm.next b3 hsz)
  have HB3 := Lib.hid (bl_next hbl b3)
  have HV3 := Lib.hid (HV.out.below (b3.mono (by simp; omega)))
  have hs3 : w.heap.size < w3.heap.size := by have := b3.size; simp at this; omega
  have hB3 : B ≤ w3.heap.size := by omega
  clear b3 hm hbl HV hdf hsz
  have hold : ∀ w', Bl w3 w' → (w'.cell? ⟨w.heap.size, 0, none⟩ = some (.int .i64 m.src) ∧ w'.cell? ⟨w.heap.size, 1, none⟩ = some (.int .i64 m.seq) ∧ w'.cell? ⟨w.heap.size, 2, none⟩ = some (.int .i64 m.iss) ∧ w'.cell? ⟨w.heap.size, 3, none⟩ = some (.int .i64 m.exp) ∧ w'.cell? ⟨w.heap.size, 4, none⟩ = some (.int .i64 6) ∧ w'.cell? ⟨w.heap.size, 5, none⟩ = some (str m.trip) ∧ w'.cell? ⟨w.heap.size, 7, none⟩ = some (.int .i64 m.inst)) := fun w' hb => by
    obtain ⟨c0, c1, c2, c3, c4, c5, c6, c7, _⟩ := (HM3.out.next hb hs3).all
    rw [hk.out] at c4
    exact ⟨c0, c1, c2, c3, c4, c5, c7⟩
  have hold2 : ∀ w', Bl w3 w' → (w'.cell? ⟨w.heap.size, 4, none⟩ = some (.int .i64 6) ∧ w'.cell? ⟨w.heap.size, 8, none⟩ = some (.int .i64 m.call) ∧ w'.cell? ⟨w.heap.size, 9, none⟩ = some (.int .i64 m.secs) ∧ w'.cell? ⟨w.heap.size, 10, none⟩ = some (.int .i64 m.route) ∧ w'.cell? ⟨w.heap.size, 11, none⟩ = some (.bool m.step) ∧ w'.cell? ⟨w.heap.size, 12, none⟩ = some v) := fun w' hb => by
    obtain ⟨_, _, _, _, c4, _, _, _, c8, c9, c10, c11, c12⟩ := (HM3.out.next hb hs3).all
    rw [hk.out] at c4
    
    exact ⟨c4, c8, c9, c10, c11, c12⟩
  have e0 := Lib.hid (show eight m = [itoa m.src, itoa m.seq, itoa m.iss, itoa m.exp, wRestore, m.trip, dtext m.day, itoa m.inst] by unfold eight; rw [hk.out]; rfl)
  have g0 := fun w => Nu.refFormat_c m.src ho.out.src.1 ho.out.src.2 w
  have g1 := fun w => Nu.refFormat_c m.seq ho.out.seq.1 ho.out.seq.2 w
  have g2 := fun w => Nu.refFormat_c m.iss ho.out.iss.1 ho.out.iss.2 w
  have g3 := fun w => Nu.refFormat_c m.exp ho.out.exp.1 ho.out.exp.2 w
  have g7 := fun w => Nu.refFormat_c m.inst ho.out.inst.1 ho.out.inst.2 w
  obtain ⟨q0, q1, q2, q3, q4, q5, q7⟩ := hold w3 (bl_refl _)
  go_wp2_with fail
  have wk : IntKind.i64.wrap 5 = 5 := by decide
  refine wp_region_held_drew (S := (fun w' => w'.cell? ⟨w.heap.size, 0, none⟩ = some (.int .i64 m.src) ∧ w'.cell? ⟨w.heap.size, 1, none⟩ = some (.int .i64 m.seq) ∧ w'.cell? ⟨w.heap.size, 2, none⟩ = some (.int .i64 m.iss) ∧ w'.cell? ⟨w.heap.size, 3, none⟩ = some (.int .i64 m.exp) ∧ w'.cell? ⟨w.heap.size, 4, none⟩ = some (.int .i64 6) ∧ w'.cell? ⟨w.heap.size, 5, none⟩ = some (str m.trip) ∧ w'.cell? ⟨w.heap.size, 7, none⟩ = some (.int .i64 m.inst))) (by kernel_rfl) (hold _ (bl_drew (bl_refl w3))) (fun hHeld => ?_)
  refine wpAnyH_take (i := 0) (v := ?_) rfl (by kernel_rfl) (by kernel_rfl) (by kernel_rfl) (fun _ _ _ h => h) (Or.inl ⟨by rfl, ?_⟩) (by assumption) ?_
  rotate_left
  · (intro w hSw; (try dsimp only at hSw); go_simp; first | done | with_reducible rfl)
  simp only [Act.put, List.setIfInBounds_toArray]
  refine wpAnyH_take (i := 1) (v := ?_) rfl (by kernel_rfl) (by kernel_rfl) (by kernel_rfl) (fun _ _ _ h => h) (Or.inl ⟨by rfl, ?_⟩) (by assumption) ?_
  rotate_left
  · (intro w hSw; (try dsimp only at hSw); go_simp; first | done | with_reducible rfl)
  simp only [Act.put]
  refine wpAnyH_take (i := 3) (v := ?_) rfl (by kernel_rfl) (by kernel_rfl) (by kernel_rfl) (fun _ _ _ h => h) (Or.inl ⟨by rfl, ?_⟩) (by assumption) ?_
  rotate_left
  · (intro w hSw; (try dsimp only at hSw); go_simp; first | done | with_reducible rfl)
  simp only [Act.put]
  refine wpAnyH_take (i := 4) (v := ?_) rfl (by kernel_rfl) (by kernel_rfl) (by kernel_rfl) (fun _ _ _ h => h) (Or.inl ⟨by rfl, ?_⟩) (by assumption) ?_
  rotate_left
  · (intro w hSw; (try dsimp only at hSw); go_simp; first | done | with_reducible rfl)
  simp only [Act.put]
  refine wpAnyH_take (i := 6) (v := ?_) rfl (by kernel_rfl) (by kernel_rfl) (by kernel_rfl) (fun _ _ _ h => h) (Or.inl ⟨by rfl, ?_⟩) (by assumption) ?_
  rotate_left
  · (intro w hSw; (try dsimp only at hSw); go_simp; first | done | with_reducible rfl)
  simp only [Act.put]
  refine wpAnyH_take (i := 7) (v := ?_) rfl (by kernel_rfl) (by kernel_rfl) (by kernel_rfl) (fun _ _ _ h => h) (Or.inl ⟨by rfl, ?_⟩) (by assumption) ?_
  rotate_left
  · (intro w hSw; (try dsimp only at hSw); go_simp; first | done | with_reducible rfl)
  simp only [Act.put]
  refine wpAnyH_take (i := 9) (v := ?_) rfl (by kernel_rfl) (by kernel_rfl) (by kernel_rfl) (fun _ _ _ h => h) (Or.inl ⟨by rfl, ?_⟩) (by assumption) ?_
  rotate_left
  · (intro w hSw; (try dsimp only at hSw); go_simp; first | done | with_reducible rfl)
  simp only [Act.put]
  refine wpAnyH_take (i := 10) (v := ?_) rfl (by kernel_rfl) (by kernel_rfl) (by kernel_rfl) (fun _ _ _ h => h) (Or.inl ⟨by rfl, ?_⟩) (by assumption) ?_
  rotate_left
  · (intro w hSw; (try dsimp only at hSw); go_simp; first | done | with_reducible rfl)
  simp only [Act.put]
  refine wpAnyH_take (i := 13) (v := ?_) rfl (by kernel_rfl) (by kernel_rfl) (by kernel_rfl) (fun _ _ _ h => h) (Or.inl ⟨by rfl, ?_⟩) (by assumption) ?_
  rotate_left
  · (intro w hSw; (try dsimp only at hSw); go_simp; first | done | with_reducible rfl)
  simp only [Act.put]
  refine wpAnyH_take (i := 14) (v := ?_) rfl (by kernel_rfl) (by kernel_rfl) (by kernel_rfl) (fun _ _ _ h => h) (Or.inl ⟨by rfl, ?_⟩) (by assumption) ?_
  rotate_left
  · (intro w hSw; (try dsimp only at hSw); go_simp; first | done | with_reducible rfl)
  simp only [Act.put]
  refine wpAnyH_take (i := 15) (v := ?_) rfl (by kernel_rfl) (by kernel_rfl) (by kernel_rfl) (fun _ _ _ h => h) (Or.inl ⟨by rfl, ?_⟩) (by assumption) ?_
  rotate_left
  · (intro w hSw; (try dsimp only at hSw); go_simp; first | done | with_reducible rfl)
  simp only [Act.put]
  refine wpAnyH_take (i := 18) (v := ?_) rfl (by kernel_rfl) (by kernel_rfl) (by kernel_rfl) (fun _ _ _ h => h) (Or.inl ⟨by rfl, ?_⟩) (by assumption) ?_
  rotate_left
  · (intro w hSw; (try dsimp only at hSw); go_simp; first | done | with_reducible rfl)
  simp only [Act.put]
  refine wpAnyH_take (i := 19) (v := ?_) rfl (by kernel_rfl) (by kernel_rfl) (by kernel_rfl) (fun _ _ _ h => h) (Or.inl ⟨by rfl, ?_⟩) (by assumption) ?_
  rotate_left
  · (intro w hSw; (try dsimp only at hSw); go_simp; first | done | with_reducible rfl)
  simp only [Act.put]
  refine wpAnyH_take (i := 20) (v := ?_) rfl (by kernel_rfl) (by kernel_rfl) (by kernel_rfl) (fun _ _ _ h => h) (Or.inl ⟨by rfl, ?_⟩) (by assumption) ?_
  rotate_left
  · (intro w hSw; (try dsimp only at hSw); go_simp; first | done | with_reducible rfl)
  simp only [Act.put]
  refine wpAnyH_take (i := 21) (v := ?_) rfl (by kernel_rfl) (by kernel_rfl) (by kernel_rfl) (fun _ _ _ h => h) (Or.inl ⟨by rfl, ?_⟩) (by assumption) ?_
  rotate_left
  · (intro w hSw; (try dsimp only at hSw); go_simp; first | done | with_reducible rfl)
  simp only [Act.put]
  refine wpAnyH_take (i := 22) (v := ?_) rfl (by kernel_rfl) (by kernel_rfl) (by kernel_rfl) (fun _ _ _ h => h) (Or.inl ⟨by rfl, ?_⟩) (by assumption) ?_
  rotate_left
  · (intro w hSw; (try dsimp only at hSw); go_simp; first | done | with_reducible rfl)
  simp only [Act.put]
  refine wpAnyH_ready (rs := [2]) (by kernel_rfl) (by simp) ?_
  refine AllReadyH.cons rfl (fun K hK => ?_) AllReadyH.nil
  go_simp
  (go_at_call 60; with_reducible (refine (g0 _).mono ?_); rintro y0 z0 ⟨rfl, rfl⟩)
  clear hHeld
  refine hK.out _ _ ?_ (fun hHeld => ?_)
  · exact hold _ (bl_drew (bl_refl w3))
  clear hK K
  try simp only [Act.put]
  refine wpAnyH_ready (rs := [5]) (by kernel_rfl) (by simp) ?_
  refine AllReadyH.cons rfl (fun K hK => ?_) AllReadyH.nil
  go_simp
  (go_at_call 60; with_reducible (refine (g1 _).mono ?_); rintro y1 z1 ⟨rfl, rfl⟩)
  clear hHeld
  refine hK.out _ _ ?_ (fun hHeld => ?_)
  · exact hold _ (bl_drew (bl_refl w3))
  clear hK K
  try simp only [Act.put]
  refine wpAnyH_ready (rs := [8]) (by kernel_rfl) (by simp) ?_
  refine AllReadyH.cons rfl (fun K hK => ?_) AllReadyH.nil
  go_simp
  (go_at_call 60; with_reducible (refine (g2 _).mono ?_); rintro y2 z2 ⟨rfl, rfl⟩)
  clear hHeld
  refine hK.out _ _ ?_ (fun hHeld => ?_)
  · exact hold _ (bl_drew (bl_refl w3))
  clear hK K
  try simp only [Act.put]
  refine wpAnyH_ready (rs := [11]) (by kernel_rfl) (by simp) ?_
  refine AllReadyH.cons rfl (fun K hK => ?_) AllReadyH.nil
  go_simp
  (go_at_call 60; with_reducible (refine (g3 _).mono ?_); rintro y3 z3 ⟨rfl, rfl⟩)
  clear hHeld
  refine hK.out _ _ ?_ (fun hHeld => ?_)
  · exact hold _ (bl_drew (bl_refl w3))
  clear hK K
  try simp only [Act.put]
  refine wpAnyH_ready (rs := [12]) (by kernel_rfl) (by simp) ?_
  refine AllReadyH.cons rfl (fun K hK => ?_) AllReadyH.nil
  go_simp
  (go_at_call 61; refine (rwords_c _).mono ?_; rintro yw zw ⟨rfl, rfl⟩)
  clear hHeld
  refine hK.out _ _ ?_ (fun hHeld => ?_)
  · exact hold _ (bl_alloc (bl_drew (bl_refl w3)) _)
  clear hK K
  try simp only [Act.put]
  have hold3 : ∀ w', Bl (w3.drew.alloc (.cells #[str wDelay, str wCancel, str wSkip, str wReroute, str wAdd, str wRestore] 9)) w' → (w'.cell? ⟨w3.heap.size, 5, none⟩ = some (str wRestore) ∧ w'.cell? ⟨w.heap.size, 0, none⟩ = some (.int .i64 m.src) ∧ w'.cell? ⟨w.heap.size, 1, none⟩ = some (.int .i64 m.seq) ∧ w'.cell? ⟨w.heap.size, 2, none⟩ = some (.int .i64 m.iss) ∧ w'.cell? ⟨w.heap.size, 3, none⟩ = some (.int .i64 m.exp) ∧ w'.cell? ⟨w.heap.size, 4, none⟩ = some (.int .i64 6) ∧ w'.cell? ⟨w.heap.size, 5, none⟩ = some (str m.trip) ∧ w'.cell? ⟨w.heap.size, 7, none⟩ = some (.int .i64 m.inst)) := fun w' hb => ⟨by rw [(bl_cell hb).1 _ _ (by simp)]; exact word_cellN w3.drew 5 (by decide), hold w' (bl_next (bl_alloc (bl_drew (bl_refl w3)) _) hb)⟩
  refine wpAnyH_strong (S' := fun w' => w'.cell? ⟨w3.heap.size, 5, none⟩ = some (str wRestore) ∧ w'.cell? ⟨w.heap.size, 0, none⟩ = some (.int .i64 m.src) ∧ w'.cell? ⟨w.heap.size, 1, none⟩ = some (.int .i64 m.seq) ∧ w'.cell? ⟨w.heap.size, 2, none⟩ = some (.int .i64 m.iss) ∧ w'.cell? ⟨w.heap.size, 3, none⟩ = some (.int .i64 m.exp) ∧ w'.cell? ⟨w.heap.size, 4, none⟩ = some (.int .i64 6) ∧ w'.cell? ⟨w.heap.size, 5, none⟩ = some (str m.trip) ∧ w'.cell? ⟨w.heap.size, 7, none⟩ = some (.int .i64 m.inst)) (fun w' h => h.2) _ _ _ _ ?_
  replace hHeld := hold3 _ (bl_refl _)
  refine wpAnyH_take (i := 16) (v := ?_) rfl (by kernel_rfl) (by kernel_rfl) (by kernel_rfl) (fun _ _ _ h => h) (Or.inl ⟨by rfl, ?_⟩) (by assumption) ?_
  rotate_left
  · (intro w hSw; (try dsimp only at hSw); go_simp; first | done | with_reducible rfl)
  simp only [Act.put]
  refine wpAnyH_take (i := 17) (v := ?_) rfl (by kernel_rfl) (by kernel_rfl) (by kernel_rfl) (fun _ _ _ h => h) (Or.inl ⟨by rfl, ?_⟩) (by assumption) ?_
  rotate_left
  · (intro w hSw; (try dsimp only at hSw); go_simp; first | done | with_reducible rfl)
  simp only [Act.put]
  refine wpAnyH_ready (rs := [23]) (by kernel_rfl) (by simp) ?_
  refine AllReadyH.cons rfl (fun K hK => ?_) AllReadyH.nil
  go_simp
  (go_at_call 60; with_reducible (refine (g7 _).mono ?_); rintro y7 z7 ⟨rfl, rfl⟩)
  clear hHeld
  refine hK.out _ _ ?_ (fun hHeld => ?_)
  · exact hold3 _ (bl_refl _)
  clear hK K
  try simp only [Act.put]
  refine wpAnyH_ready (rs := [24]) (by kernel_rfl) (by simp) ?_
  refine AllReadyH.cons rfl (fun K hK => ?_) AllReadyH.nil
  go_simp
  skip
  clear hHeld
  refine hK.out _ _ ?_ (fun hHeld => ?_)
  · exact hold3 _ (bl_alloc (bl_refl _) _)
  clear hK K
  try simp only [Act.put]
  refine wpAnyH_take (i := 25) (v := ?_) rfl (by kernel_rfl) (by kernel_rfl) (by kernel_rfl) (fun _ _ _ h => h) (Or.inl ⟨by rfl, ?_⟩) (by assumption) ?_
  rotate_left
  · (intro w hSw; (try dsimp only at hSw); go_simp; first | done | with_reducible rfl)
  simp only [Act.put]
  refine wpAnyH_done (by kernel_rfl) ?_ _
  have B4 : Hid (Bl w3 ((w3.alloc (.cells #[str wDelay, str wCancel, str wSkip, str wReroute, str wAdd, str wRestore] 9)).alloc (.cells #[str (itoa m.src), str (itoa m.seq), str (itoa m.iss), str (itoa m.exp), str wRestore, str m.trip, str (dtext m.day), str (itoa m.inst)] 9)).drew) := bl_drew (bl_alloc (bl_alloc (bl_refl w3) _) _)
  have O4 : Hid (OwnS w3.heap.size (.slice (some ⟨w3.heap.size + 1, 0, none⟩) 8 8) (eight m) ((w3.alloc (.cells #[str wDelay, str wCancel, str wSkip, str wReroute, str wAdd, str wRestore] 9)).alloc (.cells #[str (itoa m.src), str (itoa m.seq), str (itoa m.iss), str (itoa m.exp), str wRestore, str m.trip, str (dtext m.day), str (itoa m.inst)] 9)).drew) := by
    rw [e0.out]
    exact ownS_bl (ownS_base (ownS_new' (w := w3.alloc (.cells #[str wDelay, str wCancel, str wSkip, str wReroute, str wAdd, str wRestore] 9)) (g := w3.heap.size + 1) (n := 8) (l := [itoa m.src, itoa m.seq, itoa m.iss, itoa m.exp, wRestore, m.trip, dtext m.day, itoa m.inst]) (by simp) rfl rfl (by unfold maxLen; decide)) (Nat.le_succ _)) (bl_drew (bl_refl _))
  change Exit.then _ _ .normal _ ((w3.alloc (.cells #[str wDelay, str wCancel, str wSkip, str wReroute, str wAdd, str wRestore] 9)).alloc (.cells #[str (itoa m.src), str (itoa m.seq), str (itoa m.iss), str (itoa m.exp), str wRestore, str m.trip, str (dtext m.day), str (itoa m.inst)] 9)).drew
  generalize ((w3.alloc (.cells #[str wDelay, str wCancel, str wSkip, str wReroute, str wAdd, str wRestore] 9)).alloc (.cells #[str (itoa m.src), str (itoa m.seq), str (itoa m.iss), str (itoa m.exp), str wRestore, str m.trip, str (dtext m.day), str (itoa m.inst)] 9)).drew = W4 at B4 O4 ⊢
  obtain ⟨m4, m8, m9, m10, m11, m12⟩ := hold2 _ B4.out
  clear hHeld hold hold3 g0 g1 g2 g3 g7 q0 q1 q2 q3 q4 q5 q7
  obtain ⟨av, cv, rfl, -⟩ := (show CallsIn B w3 v [] by rw [← hn.out]; exact HV3.out).empty rfl
  have HFE := Lib.hid (show eight m = fieldsM m by unfold fieldsM midS eight; rw [hk.out, hn.out]; rfl)
  go_wp2_with fail
  refine wp_loop_rounds 1 ?_
  rw [rounds_succ]
  go_wp2
  go_ret
  exact ⟨_, rfl, by rw [← HFE.out]; exact ownS_base O4.out (Nat.le_of_lt hs3), bl_next HB3.out B4.out⟩
end Go.Proofs.YthdadalmgldppaaDoor
namespace Go.Proofs.YthdadalmgldppaaDoor
open Go.RowKit
open Msg

set_option maxRecDepth 20000 in
set_option maxHeartbeats 8000000 in
theorem rcheck_c (m : MsgD) (v : Value) (r : Int) (H : Hid (checkM m = r)) (ht : m.trip.length ≤ 9223372036854775807) (B : Nat) (w : World) (hv : CallsIn B w v m.calls) (hB : B ≤ w.heap.size) :
    Calls Tryd.prog 11 #[msgV m v] w fun e w' => e = .returned (.int .i64 r) ∧ Bl w w' := by
  have hid := fun w => rname_c ⟨m.trip.toArray⟩ (by show m.trip.toArray.size ≤ _; rw [List.size_toArray]; unfold maxLen; omega) (nameB m.trip) rfl w
  go_enter Tryd.func11, Tryd.ntmps11
  go_wp2_with (first
    | (go_at_call 28; refine (hid _).mono ?_; rintro e w' ⟨rfl, rfl⟩))
  any_goals
    go_ret
    refine ⟨ret_int ?_, bl_alloc (bl_refl _) _⟩
    rw [← H.out]
    unfold checkM outside
    simp
    try repeat' split
    all_goals first
      | rfl
      | omega
      | (simp_all; done)
      | (simp_all; omega)
  have hm := msgAt_new m v w
  have hbl : Bl w (w.alloc (.cells (msgCells m v) 24)) := bl_alloc (bl_refl _) _
  have hsz : w.heap.size < (w.alloc (.cells (msgCells m v) 24)).heap.size := by simp
  change Code.wp _ _ _ _ (w.alloc (.cells (msgCells m v) 24))
  generalize w.alloc (.cells (msgCells m v) 24) = w1 at hm hbl hsz
  have hkd : 1 ≤ m.kind ∧ m.kind ≤ 6 := by constructor <;> omega
  have HK := Lib.hid (show kindErr m = r by
    rw [← H.out]
    unfold checkM outside
    simp
    try repeat' split
    all_goals first
      | rfl
      | omega
      | (simp_all; done)
      | (simp_all; omega))
  have HV := Lib.hid hv
  obtain ⟨a, cap, rfl, l1, l2, l3⟩ := hv
  have hm' := hm
  unfold MsgAt at hm'
  simp only [Nat.zero_add] at hm'
  have m4 : w1.cell? ⟨w.heap.size, 4, none⟩ = some (.int .i64 m.kind) := hm' 4 _ rfl
  have m8 : w1.cell? ⟨w.heap.size, 8, none⟩ = some (.int .i64 m.call) := hm' 8 _ rfl
  have m9 : w1.cell? ⟨w.heap.size, 9, none⟩ = some (.int .i64 m.secs) := hm' 9 _ rfl
  have m10 : w1.cell? ⟨w.heap.size, 10, none⟩ = some (.int .i64 m.route) := hm' 10 _ rfl
  have m11 : w1.cell? ⟨w.heap.size, 11, none⟩ = some (.bool m.step) := hm' 11 _ rfl
  have m12 : w1.cell? ⟨w.heap.size, 12, none⟩ = some (.slice a m.calls.length cap) := hm' 12 _ rfl
  clear hm' l3 hid
  rcases kinds hkd with hk | hk | hk | hk | hk | hk
  · have hu1 : uCall m.kind = true := by rw [hk]; rfl
    have hu2 : uSecs m.kind = true := by rw [hk]; rfl
    have hu3 : uRoute m.kind = false := by rw [hk]; rfl
    have hu4 : uCalls m.kind = false := by rw [hk]; rfl
    have e1 : (m.kind == 1) = true := by rw [hk]; rfl
    have e3 : (m.kind == 3) = false := by rw [hk]; rfl
    have e4 : (m.kind == 4) = false := by rw [hk]; rfl
    have e5 : (m.kind == 5) = false := by rw [hk]; rfl
    have HU := Lib.hid (And.intro hu1 (And.intro hu2 (And.intro hu3 hu4)))
    clear hk hu1 hu2 hu3 hu4
    go_quiet (fail)
    go_wp2_with fail
    all_goals
      go_ret
      refine ⟨ret_int ?_, by first | exact bl_next hbl (bl_drewN (bl_refl _) _) | exact bl_next hbl (bl_drewN (bl_drewN (bl_refl _) _) _)⟩
      rw [← HK.out]
      obtain ⟨hu1, hu2, hu3, hu4⟩ := HU.out
      unfold kindErr outside
      simp only [hu1, hu2, hu3, hu4]
      rcases hem : m.calls with _ | ⟨c0, r0⟩
      all_goals simp_all
      all_goals try first
        | omega
        | (split <;> first | rfl | omega | simp_all)
  · have hu1 : uCall m.kind = false := by rw [hk]; rfl
    have hu2 : uSecs m.kind = false := by rw [hk]; rfl
    have hu3 : uRoute m.kind = false := by rw [hk]; rfl
    have hu4 : uCalls m.kind = false := by rw [hk]; rfl
    have e1 : (m.kind == 1) = false := by rw [hk]; rfl
    have e3 : (m.kind == 3) = false := by rw [hk]; rfl
    have e4 : (m.kind == 4) = false := by rw [hk]; rfl
    have e5 : (m.kind == 5) = false := by rw [hk]; rfl
    have HU := Lib.hid (And.intro hu1 (And.intro hu2 (And.intro hu3 hu4)))
    clear hk hu1 hu2 hu3 hu4
    go_quiet (fail)
    go_wp2_with fail
    all_goals
      go_ret
      refine ⟨ret_int ?_, by first | exact bl_next hbl (bl_drewN (bl_refl _) _) | exact bl_next hbl (bl_drewN (bl_drewN (bl_refl _) _) _)⟩
      rw [← HK.out]
      obtain ⟨hu1, hu2, hu3, hu4⟩ := HU.out
      unfold kindErr outside
      simp only [hu1, hu2, hu3, hu4]
      rcases hem : m.calls with _ | ⟨c0, r0⟩
      all_goals simp_all
      all_goals try first
        | omega
        | (split <;> first | rfl | omega | simp_all)
  · have hu1 : uCall m.kind = true := by rw [hk]; rfl
    have hu2 : uSecs m.kind = false := by rw [hk]; rfl
    have hu3 : uRoute m.kind = false := by rw [hk]; rfl
    have hu4 : uCalls m.kind = false := by rw [hk]; rfl
    have e1 : (m.kind == 1) = false := by rw [hk]; rfl
    have e3 : (m.kind == 3) = true := by rw [hk]; rfl
    have e4 : (m.kind == 4) = false := by rw [hk]; rfl
    have e5 : (m.kind == 5) = false := by rw [hk]; rfl
    have HU := Lib.hid (And.intro hu1 (And.intro hu2 (And.intro hu3 hu4)))
    clear hk hu1 hu2 hu3 hu4
    go_quiet (fail)
    go_wp2_with fail
    all_goals
      go_ret
      refine ⟨ret_int ?_, by first | exact bl_next hbl (bl_drewN (bl_refl _) _) | exact bl_next hbl (bl_drewN (bl_drewN (bl_refl _) _) _)⟩
      rw [← HK.out]
      obtain ⟨hu1, hu2, hu3, hu4⟩ := HU.out
      unfold kindErr outside
      simp only [hu1, hu2, hu3, hu4]
      rcases hem : m.calls with _ | ⟨c0, r0⟩
      all_goals simp_all
      all_goals try first
        | omega
        | (split <;> first | rfl | omega | simp_all)
  · have hu1 : uCall m.kind = false := by rw [hk]; rfl
    have hu2 : uSecs m.kind = false := by rw [hk]; rfl
    have hu3 : uRoute m.kind = false := by rw [hk]; rfl
    have hu4 : uCalls m.kind = true := by rw [hk]; rfl
    have e1 : (m.kind == 1) = false := by rw [hk]; rfl
    have e3 : (m.kind == 3) = false := by rw [hk]; rfl
    have e4 : (m.kind == 4) = true := by rw [hk]; rfl
    have e5 : (m.kind == 5) = false := by rw [hk]; rfl
    have HU := Lib.hid (And.intro hu1 (And.intro hu2 (And.intro hu3 hu4)))
    clear hk hu1 hu2 hu3 hu4
    go_quiet (fail)
    obtain ⟨ce, HCE⟩ : ∃ r, Hid (callsErr 64 0 3155932800 m.calls = r) := ⟨_, rfl⟩
    go_wp2_with (go_at_call 29; refine (rcalls_c _ m.calls 64 0 3155932800 ce HCE B _ (HV.out.below ((bl_next hbl (bl_drewN (bl_refl _) _)).mono hB)) (Nat.le_trans hB (bl_next hbl (bl_drewN (bl_refl _) _)).size)).mono ?_)
    rintro q2 w2 ⟨⟨i2, rfl⟩, b2⟩
    have T2 := Lib.hid (bl_next (bl_drewN (bl_refl _) _) b2)
    have hm2 := (hm.next T2.out hsz)
    unfold MsgAt at hm2
    simp only [Nat.zero_add] at hm2
    have n8 : w2.cell? ⟨w.heap.size, 8, none⟩ = some (.int .i64 m.call) := hm2 8 _ rfl
    have n9 : w2.cell? ⟨w.heap.size, 9, none⟩ = some (.int .i64 m.secs) := hm2 9 _ rfl
    have n10 : w2.cell? ⟨w.heap.size, 10, none⟩ = some (.int .i64 m.route) := hm2 10 _ rfl
    have n11 : w2.cell? ⟨w.heap.size, 11, none⟩ = some (.bool m.step) := hm2 11 _ rfl
    have n12 : w2.cell? ⟨w.heap.size, 12, none⟩ = some (.slice a m.calls.length cap) := hm2 12 _ rfl
    clear hm2 b2
    by_cases hce : ce = 0
    · have x0 : (ce != 0) = false := by rw [hce]; rfl
      go_wp2_with fail
      all_goals
        go_ret
        refine ⟨ret_int ?_, bl_next hbl T2.out⟩
        rw [← HK.out]
        obtain ⟨hu1, hu2, hu3, hu4⟩ := HU.out
        have hc0 := HCE.out
        unfold kindErr outside
        simp only [hu1, hu2, hu3, hu4, hc0, hce]
        simp_all
        try first
          | omega
          | (split <;> first | rfl | omega | simp_all)
    · have x0 : (ce != 0) = true := by rw [bne_iff_ne]; exact hce
      go_wp2_with fail
      all_goals
        go_ret
        refine ⟨ret_int ?_, bl_next hbl T2.out⟩
        rw [← HK.out]
        obtain ⟨hu1, hu2, hu3, hu4⟩ := HU.out
        have hc0 := HCE.out
        unfold kindErr outside
        simp only [hu1, hu2, hu3, hu4, hc0]
        simp_all
        try first
          | omega
          | (split <;> first | rfl | omega | simp_all)
  · have hu1 : uCall m.kind = false := by rw [hk]; rfl
    have hu2 : uSecs m.kind = false := by rw [hk]; rfl
    have hu3 : uRoute m.kind = true := by rw [hk]; rfl
    have hu4 : uCalls m.kind = true := by rw [hk]; rfl
    have e1 : (m.kind == 1) = false := by rw [hk]; rfl
    have e3 : (m.kind == 3) = false := by rw [hk]; rfl
    have e4 : (m.kind == 4) = false := by rw [hk]; rfl
    have e5 : (m.kind == 5) = true := by rw [hk]; rfl
    have HU := Lib.hid (And.intro hu1 (And.intro hu2 (And.intro hu3 hu4)))
    clear hk hu1 hu2 hu3 hu4
    go_quiet (fail)
    by_cases hrt : m.route < 0 ∨ 63 < m.route
    · rcases hrt with hrt | hrt
      all_goals
        go_wp2_with fail
        all_goals
          go_ret
          refine ⟨ret_int ?_, bl_next hbl (bl_drewN (bl_refl _) _)⟩
          rw [← HK.out]
          obtain ⟨hu1, hu2, hu3, hu4⟩ := HU.out
          unfold kindErr outside
          simp only [hu1, hu2, hu3, hu4]
          simp_all
          try first
            | omega
            | (split <;> first | rfl | omega | simp_all)
    have hr0 : ¬ m.route < 0 := fun h => hrt (.inl h)
    have hr1 : ¬ 63 < m.route := fun h => hrt (.inr h)
    clear hrt
    obtain ⟨ce, HCE⟩ : ∃ r, Hid (callsErr 64 0 3155932800 m.calls = r) := ⟨_, rfl⟩
    go_wp2_with (go_at_call 29; refine (rcalls_c _ m.calls 64 0 3155932800 ce HCE B _ (HV.out.below ((bl_next hbl (bl_drewN (bl_refl _) _)).mono hB)) (Nat.le_trans hB (bl_next hbl (bl_drewN (bl_refl _) _)).size)).mono ?_)
    rintro q2 w2 i2 rfl b2
    have T2 := Lib.hid (bl_next (bl_drewN (bl_refl _) _) b2)
    have hm2 := (hm.next T2.out hsz)
    unfold MsgAt at hm2
    simp only [Nat.zero_add] at hm2
    have n8 : w2.cell? ⟨w.heap.size, 8, none⟩ = some (.int .i64 m.call) := hm2 8 _ rfl
    have n9 : w2.cell? ⟨w.heap.size, 9, none⟩ = some (.int .i64 m.secs) := hm2 9 _ rfl
    have n10 : w2.cell? ⟨w.heap.size, 10, none⟩ = some (.int .i64 m.route) := hm2 10 _ rfl
    have n11 : w2.cell? ⟨w.heap.size, 11, none⟩ = some (.bool m.step) := hm2 11 _ rfl
    have n12 : w2.cell? ⟨w.heap.size, 12, none⟩ = some (.slice a m.calls.length cap) := hm2 12 _ rfl
    clear hm2 b2
    by_cases hce : ce = 0
    · have x0 : (ce != 0) = false := by rw [hce]; rfl
      go_wp2_with fail
      all_goals
        go_ret
        refine ⟨ret_int ?_, bl_next hbl T2.out⟩
        rw [← HK.out]
        obtain ⟨hu1, hu2, hu3, hu4⟩ := HU.out
        have hc0 := HCE.out
        unfold kindErr outside
        simp only [hu1, hu2, hu3, hu4, hc0, hce]
        simp_all
        try first
          | omega
          | (split <;> first | rfl | omega | simp_all)
    · have x0 : (ce != 0) = true := by rw [bne_iff_ne]; exact hce
      go_wp2_with fail
      all_goals
        go_ret
        refine ⟨ret_int ?_, bl_next hbl T2.out⟩
        rw [← HK.out]
        obtain ⟨hu1, hu2, hu3, hu4⟩ := HU.out
        have hc0 := HCE.out
        unfold kindErr outside
        simp only [hu1, hu2, hu3, hu4, hc0]
        simp_all
        try first
          | omega
          | (split <;> first | rfl | omega | simp_all)
  · have hu1 : uCall m.kind = false := by rw [hk]; rfl
    have hu2 : uSecs m.kind = false := by rw [hk]; rfl
    have hu3 : uRoute m.kind = false := by rw [hk]; rfl
    have hu4 : uCalls m.kind = false := by rw [hk]; rfl
    have e1 : (m.kind == 1) = false := by rw [hk]; rfl
    have e3 : (m.kind == 3) = false := by rw [hk]; rfl
    have e4 : (m.kind == 4) = false := by rw [hk]; rfl
    have e5 : (m.kind == 5) = false := by rw [hk]; rfl
    have HU := Lib.hid (And.intro hu1 (And.intro hu2 (And.intro hu3 hu4)))
    clear hk hu1 hu2 hu3 hu4
    go_quiet (fail)
    go_wp2_with fail
    all_goals
      go_ret
      refine ⟨ret_int ?_, by first | exact bl_next hbl (bl_drewN (bl_refl _) _) | exact bl_next hbl (bl_drewN (bl_drewN (bl_refl _) _) _)⟩
      rw [← HK.out]
      obtain ⟨hu1, hu2, hu3, hu4⟩ := HU.out
      unfold kindErr outside
      simp only [hu1, hu2, hu3, hu4]
      rcases hem : m.calls with _ | ⟨c0, r0⟩
      all_goals simp_all
      all_goals try first
        | omega
        | (split <;> first | rfl | omega | simp_all)
end Go.Proofs.YthdadalmgldppaaDoor
namespace Go.Proofs.YthdadalmgldppaaDoor
open Go.RowKit
open Msg

theorem same_c (a b : MsgD) (va vb : Value) (r : Bool) (H : Hid (sameT a b = r)) (w : World) :
    Calls Tryd.prog 19 #[msgV a va, msgV b vb] w fun q w' => q = .returned (.bool r) ∧ Bl w w' := by
  go_enter Tryd.func19, Tryd.ntmps19
  go_wp2
  all_goals
    go_ret
    refine ⟨ret_bool ?_, bl_alloc (bl_alloc (bl_refl _) _) _⟩
    rw [← H.out]
    unfold sameT
    simp_all
theorem status_c (k : Int) (w : World) :
    Calls Tryd.prog 49 #[.int .i64 k] w fun q w' => q = .returned (.bool (statB k)) ∧ w = w' := by
  go_enter Tryd.func49, Tryd.ntmps49
  go_wp2
  all_goals
    go_ret
    refine ⟨ret_bool ?_, rfl⟩
    unfold statB
    simp_all
theorem two_boxes (a b : MsgD) (va vb : Value) (w w' : World) (hb : Bl ((w.alloc (.cells (msgCells a va) 24)).alloc (.cells (msgCells b vb) 24)) w') : MsgAt w.heap.size 0 a va w' ∧ MsgAt (w.heap.size + 1) 0 b vb w' := by
  have h1 := (msgAt_new a va w).next (bl_alloc (bl_refl _) (.cells (msgCells b vb) 24)) (by simp)
  have h2 := msgAt_new b vb (w.alloc (.cells (msgCells a va) 24))
  refine ⟨h1.next hb (by simp; omega), ?_⟩
  have h3 := h2.next hb (by simp)
  simpa using h3
set_option maxRecDepth 20000 in
set_option maxHeartbeats 1000000 in
theorem super_c (a b : MsgD) (va vb : Value) (r : Bool) (H : Hid (superB a b = r)) (w : World) :
    Calls Tryd.prog 18 #[msgV a va, msgV b vb] w fun q w' => q = .returned (.bool r) ∧ Bl w w' := by
  obtain ⟨rs, HS⟩ : ∃ rs, Hid (sameT a b = rs) := ⟨_, rfl⟩
  obtain ⟨rk, HK⟩ : ∃ rk, Hid (statB a.kind = rk) := ⟨_, rfl⟩
  have hk := fun w => status_c a.kind w
  rw [HK.out] at hk
  have facts : superB a b = (a.src == b.src && (rs && (decide (b.seq < a.seq) && (rk || (a.kind == b.kind && a.call == b.call))))) := by rw [← HS.out, ← HK.out]; rfl
  rw [facts] at H
  clear facts
  cases h1 : (a.src == b.src) with
  | false =>
    have HF := Lib.hid (show false = r by rw [← H.out, h1]; rfl)
    clear H
    go_enter Tryd.func18, Tryd.ntmps18
    go_wp2
    go_ret
    exact ⟨ret_bool HF.out, bl_alloc (bl_alloc (bl_refl _) _) _⟩
  | true =>
  rw [h1, Bool.true_and] at H
  cases rs with
  | false =>
    have HF := Lib.hid (show false = r by rw [← H.out]; rfl)
    clear H
    go_enter Tryd.func18, Tryd.ntmps18
    go_wp2_with (go_at_call 19; refine (same_c a b va vb _ HS _).mono ?_)
    rintro e w2 ⟨rfl, b2⟩
    have B2 := Lib.hid (bl_next (bl_alloc (bl_alloc (bl_refl _) _) _) b2)
    clear b2
    go_wp2
    go_ret
    exact ⟨ret_bool HF.out, B2.out⟩
  | true =>
  rw [Bool.true_and] at H
  by_cases h2 : b.seq < a.seq
  · rw [decide_eq_true h2, Bool.true_and] at H
    cases rk with
    | true =>
      have HF := Lib.hid (show true = r by rw [← H.out]; rfl)
      clear H
      go_enter Tryd.func18, Tryd.ntmps18
      go_wp2_with (go_at_call 19; refine (same_c a b va vb _ HS _).mono ?_)
      rintro e w2 ⟨rfl, b2⟩
      obtain ⟨⟨-, c1, -, -, c4, -, -, -, c8, -⟩, ⟨-, d1, -, -, d4, -, -, -, d8, -⟩⟩ := (two_boxes a b va vb w w2 b2).imp MsgAt.all MsgAt.all
      have B2 := Lib.hid (bl_next (bl_alloc (bl_alloc (bl_refl _) _) _) b2)
      clear b2
      go_wp2_with (go_at_call 49; refine (hk _).mono ?_)
      rintro e w3 ⟨rfl, rfl⟩
      go_wp2
      go_ret
      exact ⟨ret_bool HF.out, B2.out⟩
    | false =>
      rw [Bool.false_or] at H
      cases h3 : (a.kind == b.kind) with
      | false =>
        have HF := Lib.hid (show false = r by rw [← H.out, h3]; rfl)
        clear H
        go_enter Tryd.func18, Tryd.ntmps18
        go_wp2_with (go_at_call 19; refine (same_c a b va vb _ HS _).mono ?_)
        rintro e w2 ⟨rfl, b2⟩
        obtain ⟨⟨-, c1, -, -, c4, -, -, -, c8, -⟩, ⟨-, d1, -, -, d4, -, -, -, d8, -⟩⟩ := (two_boxes a b va vb w w2 b2).imp MsgAt.all MsgAt.all
        have B2 := Lib.hid (bl_next (bl_alloc (bl_alloc (bl_refl _) _) _) b2)
        clear b2
        go_wp2_with (go_at_call 49; refine (hk _).mono ?_)
        rintro e w3 ⟨rfl, rfl⟩
        go_wp2
        go_ret
        exact ⟨ret_bool HF.out, B2.out⟩
      | true =>
        rw [h3, Bool.true_and] at H
        go_enter Tryd.func18, Tryd.ntmps18
        go_wp2_with (go_at_call 19; refine (same_c a b va vb _ HS _).mono ?_)
        rintro e w2 ⟨rfl, b2⟩
        obtain ⟨⟨-, c1, -, -, c4, -, -, -, c8, -⟩, ⟨-, d1, -, -, d4, -, -, -, d8, -⟩⟩ := (two_boxes a b va vb w w2 b2).imp MsgAt.all MsgAt.all
        have B2 := Lib.hid (bl_next (bl_alloc (bl_alloc (bl_refl _) _) _) b2)
        clear b2
        go_wp2_with (go_at_call 49; refine (hk _).mono ?_)
        rintro e w3 ⟨rfl, rfl⟩
        go_wp2
        go_ret
        exact ⟨ret_bool H.out, B2.out⟩
  · have HF := Lib.hid (show false = r by rw [← H.out, decide_eq_false h2]; rfl)
    clear H
    go_enter Tryd.func18, Tryd.ntmps18
    go_wp2_with (go_at_call 19; refine (same_c a b va vb _ HS _).mono ?_)
    rintro e w2 rfl b2
    obtain ⟨⟨-, c1, -, -, c4, -, -, -, c8, -⟩, ⟨-, d1, -, -, d4, -, -, -, d8, -⟩⟩ := (two_boxes a b va vb w w2 b2).imp MsgAt.all MsgAt.all
    have B2 := Lib.hid (bl_next (bl_alloc (bl_alloc (bl_refl _) _) _) b2)
    clear b2
    go_wp2
    go_ret
    exact ⟨ret_bool HF.out, B2.out⟩
end Go.Proofs.YthdadalmgldppaaDoor
namespace Go.Proofs.YthdadalmgldppaaDoor
open Go.RowKit
open Msg

theorem rsame_c (a b : MsgD) (va vb : Value) (r : Bool) (H : Hid (sameT a b = r)) (w : World) :
    Calls Tryd.prog 20 #[msgV a va, msgV b vb] w fun q w' => q = .returned (.bool r) ∧ Bl w w' := by
  go_enter Tryd.func20, Tryd.ntmps20
  go_wp2
  all_goals
    go_ret
    refine ⟨ret_bool ?_, bl_alloc (bl_alloc (bl_refl _) _) _⟩
    rw [← H.out]
    unfold sameT
    simp_all
theorem msg_eq {a b : MsgD} (h1 : (a.src == b.src) = true) (h2 : (a.seq == b.seq) = true) (h3 : (a.iss == b.iss) = true) (h4 : (a.exp == b.exp) = true) (h5 : (a.kind == b.kind) = true) (h6 : sameT a b = true)
    (h7 : (a.call == b.call) = true) (h8 : (a.secs == b.secs) = true) (h9 : (a.route == b.route) = true) (h10 : (a.step == b.step) = true) : decide (a = b) = decide (a.calls = b.calls) := by
  obtain ⟨a1, a2, a3, a4, a5, a6, a7, a8, a9, a10, a11, a12, a13⟩ := a
  obtain ⟨b1, b2, b3, b4, b5, b6, b7, b8, b9, b10, b11, b12, b13⟩ := b
  simp only [beq_iff_eq, sameT, Bool.and_eq_true] at h1 h2 h3 h4 h5 h6 h7 h8 h9 h10
  obtain ⟨h61, h62, h63⟩ := h6
  subst h1 h2 h3 h4 h5 h61 h62 h63 h7 h8 h9 h10
  simp
set_option maxRecDepth 20000 in
set_option maxHeartbeats 4000000 in
/-- Equal of the reference at two messages that are equal. -/
theorem requal_same (a b : MsgD) (h : Hid (a = b)) (va vb : Value) (B : Nat) (w : World) (ha : CallsIn B w va a.calls) (hb : CallsIn B w vb b.calls) (hB : B ≤ w.heap.size) :
    Calls Tryd.prog 17 #[msgV a va, msgV b vb] w fun q w' => q = .returned (.bool true) ∧ Bl w w' := by
  have HA := Lib.hid ha
  have HBB := Lib.hid hb
  clear ha hb
  have HS := Lib.hid (show sameT a b = true by rw [h.out]; simp [sameT])
  have HF := Lib.hid (show decide (a.calls = b.calls) = true by rw [h.out]; simp)
  have h1 : (a.src == b.src) = true := by rw [h.out]; simp
  have h2 : (a.seq == b.seq) = true := by rw [h.out]; simp
  have h3 : (a.iss == b.iss) = true := by rw [h.out]; simp
  have h4 : (a.exp == b.exp) = true := by rw [h.out]; simp
  have h5 : (a.kind == b.kind) = true := by rw [h.out]; simp
  have h6 : (a.call == b.call) = true := by rw [h.out]; simp
  have h7 : (a.secs == b.secs) = true := by rw [h.out]; simp
  have h8 : (a.route == b.route) = true := by rw [h.out]; simp
  have h9 : (a.step == b.step) = true := by rw [h.out]; simp
  go_enter Tryd.func17, Tryd.ntmps17
  go_wp2_with (go_at_call 20; refine (rsame_c a b va vb _ HS _).mono ?_)
  rintro e w2 ⟨rfl, b2⟩
  obtain ⟨⟨c0, c1, c2, c3, c4, c5, c6, c7, c8, c9, c10, c11, c12⟩, ⟨d0, d1, d2, d3, d4, d5, d6, d7, d8, d9, d10, d11, d12⟩⟩ := (two_boxes a b va vb w w2 b2).imp MsgAt.all MsgAt.all
  have B2 := Lib.hid (bl_next (bl_alloc (bl_alloc (bl_refl _) _) _) b2)
  clear b2
  go_wp2_with (go_at_call 48; refine (reqCalls_c va vb a.calls b.calls true HF B _ (HA.out.below (B2.out.mono hB)) (HBB.out.below (B2.out.mono hB)) (Nat.le_trans hB B2.out.size)).mono ?_)
  rintro e w3 ⟨rfl, b3⟩
  go_wp2
  go_ret
  exact ⟨rfl, bl_next B2.out b3⟩
end Go.Proofs.YthdadalmgldppaaDoor
namespace Go.Proofs.YthdadalmgldppaaDoor
open Go.RowKit
open Msg Num Fld Dat

abbrev lineA : List UInt8 := [50, 44, 55, 44, 49, 48, 48, 48, 44, 50, 48, 48, 48, 44, 100, 101, 108, 97, 121, 44, 84, 49, 44, 50, 48, 50, 53, 45, 49, 49, 45, 49, 53, 44, 48, 44, 51, 44, 49, 50, 48]
abbrev lineS : List UInt8 := [50, 44, 55, 44, 49, 48, 48, 48, 44, 50, 48, 48, 48, 44, 100, 101, 108, 97, 121, 44, 84, 49, 44, 50, 48, 50, 53, 45, 49, 49, 45, 49, 53, 44, 48]
abbrev lineB : List UInt8 := [48, 44, 49, 44, 53, 44, 54, 44, 97, 100, 100, 44, 120, 44, 50, 48, 48, 48, 45, 48, 49, 45, 48, 49, 44, 48, 44, 49, 44, 121, 101, 115, 44, 48, 32, 49, 48, 48, 32, 49, 48, 48, 32, 98, 111, 97, 114, 100, 44, 50, 32, 50, 48, 48, 32, 50, 48, 48, 32, 97, 108, 105, 103, 104, 116]
abbrev mA : MsgD := ⟨2, 7, 1000, 2000, 1, [84, 49], 9450, 0, 3, 120, 0, false, []⟩
abbrev mB : MsgD := ⟨0, 1, 5, 6, 5, [120], 0, 0, 0, 0, 1, true, [⟨0, 100, 100, true, false⟩, ⟨2, 200, 200, false, true⟩]⟩
abbrev mC : MsgD := ⟨2, 8, 0, 0, 2, [84, 49], 9450, 0, 0, 0, 0, false, []⟩
theorem exA : parseM lineA = (mA, 0) := by decide +kernel
theorem exS : parseM lineS = (zeroM, 3) := by decide +kernel
theorem exB : parseM lineB = (mB, 0) := by decide +kernel
theorem exF : formatM mB = (lineB, 0) := by decide +kernel
theorem exK : checkM mA = 0 := by decide +kernel
theorem exS1 : superB mC mA = true := by decide +kernel
theorem exS2 : superB mA mC = false := by decide +kernel
theorem okB : OkM mB := (parse_ok exB)
/-- A list of calls that is empty, as a value. -/
theorem calls_nil {B : Nat} {w : World} {v : Value} (h : CallsIn B w v []) : ∃ (a : Option Addr) (c : Nat), v = .slice a 0 c := by
  obtain ⟨a, c, rfl, -⟩ := h
  exact ⟨a, c, rfl⟩
set_option maxRecDepth 20000 in
set_option maxHeartbeats 8000000 in
theorem example_c (w : World) (hw : WordsAt w) :
    Calls Tryd.prog 12 #[] w fun q w' => q = .returned (.bool true) ∧ Bl w w' := by
  have HW := Lib.hid hw
  clear hw
  go_enter Tryd.func12, Tryd.ntmps12
  go_wp2_with (go_at_call 15; refine (mparse_c ⟨lineA.toArray⟩ (by decide) mA 0 (by show _ = _; exact exA) _ HW.out).mono ?_)
  rintro q1 w1 v1 rfl c1 b1
  obtain ⟨a1, n1, rfl⟩ := calls_nil c1
  have X1 : Bl w (w1.alloc (.cells (msgCells mA (.slice a1 0 n1)) 24)) := bl_alloc b1 _
  have W1 := Lib.hid (HW.out.next X1)
  have B1 := Lib.hid X1
  have C1 := Lib.hid c1
  clear b1 c1 HW X1
  go_wp2_with (go_at_call 15; refine (mparse_c ⟨lineS.toArray⟩ (by decide) zeroM 3 (by show _ = _; exact exS) _ W1.out).mono ?_)
  rintro q2 w2 ⟨v2, rfl, c2, b2⟩
  obtain ⟨a2, n2, rfl⟩ := calls_nil c2
  have M2 := Lib.hid (blk_bl (heap_alloc_new w1 (.cells (msgCells mA (.slice a1 0 n1)) 24)) b2)
  have W2 := Lib.hid ((W1.out.next b2).next (bl_alloc (bl_refl _) (.cells (msgCells zeroM (.slice a2 0 n2)) 24)))
  have B2 := Lib.hid (bl_alloc (bl_next B1.out b2) (.cells (msgCells zeroM (.slice a2 0 n2)) 24))
  have C2 := Lib.hid (C1.out.below (bl_next (bl_alloc (bl_refl w1) _) b2))
  have h12 : w1.heap.size < w2.heap.size := by have := b2.size; simp at this; omega
  clear b2 c2 W1 B1 C1
  go_wp2_with (go_at_call 15; refine (mparse_c ⟨lineB.toArray⟩ (by decide) mB 0 (by show _ = _; exact exB) _ W2.out).mono ?_)
  rintro q3 w3 v3 rfl c3 b3
  obtain ⟨pb, po, pc, rfl, l1, l2, l3, hc⟩ := c3.open (by decide)
  have M3 := Lib.hid (blk_bl M2.out (bl_next (bl_alloc (bl_refl _) _) b3))
  have W3 := Lib.hid ((W2.out.next b3).next (bl_alloc (bl_refl _) (.cells (msgCells mB (.slice (some ⟨pb, po, none⟩) 2 pc)) 24)))
  have B3 := Lib.hid (bl_alloc (bl_next B2.out b3) (.cells (msgCells mB (.slice (some ⟨pb, po, none⟩) 2 pc)) 24))
  have C3 := Lib.hid (C2.out.below ((bl_next (bl_alloc (bl_refl w2) _) b3).mono (Nat.le_of_lt h12)))
  have D3 := Lib.hid c3
  have HC3 := Lib.hid hc
  have h23 : w2.heap.size < w3.heap.size := by have := b3.size; simp at this; omega
  clear b3 c3 W2 B2 C2 M2 hc
  go_wp2_with (go_at_call 13; refine (format_c mB (.slice (some ⟨pb, po, none⟩) 2 pc) lineB 0 (by show _ = _; exact exF) okB (by decide) w3.heap.size _ W3.out (D3.out.below (bl_alloc (bl_refl _) _)) (by simp)).mono ?_)
  rintro q4 w4 ⟨rfl, b4⟩
  have hs34 : w3.heap.size < w4.heap.size := by have := b4.size; simp at this; omega
  have M4 := Lib.hid (blk_bl M3.out (bl_next (bl_alloc (bl_refl _) _) b4))
  have N4 := Lib.hid (blk_bl (heap_alloc_new w3 (.cells (msgCells mB (.slice (some ⟨pb, po, none⟩) 2 pc)) 24)) b4)
  have B4 := Lib.hid (bl_next B3.out b4)
  have C4 := Lib.hid (C3.out.below ((bl_next (bl_alloc (bl_refl w3) (.cells (msgCells mB (.slice (some ⟨pb, po, none⟩) 2 pc)) 24)) b4).mono (by omega)))
  have HC4 := Lib.hid (show ∀ (j : Nat) (u : Value), (callCells ⟨2, 200, 200, false, true⟩)[j]? = some u → w4.cell? ⟨pb, po + 1 * 5 + j, none⟩ = some u from fun j u hu => by rw [(bl_cell (bl_next (bl_alloc (bl_refl w3) (.cells (msgCells mB (.slice (some ⟨pb, po, none⟩) 2 pc)) 24)) b4)).1 _ _ l3]; exact HC3.out 1 _ rfl j u hu)
  clear b4 M3 B3 C3 D3 HC3 W3
  have m0 : w4.cell? ⟨w1.heap.size, 0, none⟩ = some (.int .i64 2) := blk_cell M4.out 0 _ rfl
  have m1 : w4.cell? ⟨w1.heap.size, 1, none⟩ = some (.int .i64 7) := blk_cell M4.out 1 _ rfl
  have m2 : w4.cell? ⟨w1.heap.size, 2, none⟩ = some (.int .i64 1000) := blk_cell M4.out 2 _ rfl
  have m3 : w4.cell? ⟨w1.heap.size, 3, none⟩ = some (.int .i64 2000) := blk_cell M4.out 3 _ rfl
  have m4 : w4.cell? ⟨w1.heap.size, 4, none⟩ = some (.int .i64 1) := blk_cell M4.out 4 _ rfl
  have m5 : w4.cell? ⟨w1.heap.size, 5, none⟩ = some (str [84, 49]) := blk_cell M4.out 5 _ rfl
  have m6 : w4.cell? ⟨w1.heap.size, 6, none⟩ = some (.int .i64 9450) := blk_cell M4.out 6 _ rfl
  have m7 : w4.cell? ⟨w1.heap.size, 7, none⟩ = some (.int .i64 0) := blk_cell M4.out 7 _ rfl
  have m8 : w4.cell? ⟨w1.heap.size, 8, none⟩ = some (.int .i64 3) := blk_cell M4.out 8 _ rfl
  have m9 : w4.cell? ⟨w1.heap.size, 9, none⟩ = some (.int .i64 120) := blk_cell M4.out 9 _ rfl
  have m10 : w4.cell? ⟨w1.heap.size, 10, none⟩ = some (.int .i64 0) := blk_cell M4.out 10 _ rfl
  have m11 : w4.cell? ⟨w1.heap.size, 11, none⟩ = some (.bool false) := blk_cell M4.out 11 _ rfl
  have m12 : w4.cell? ⟨w1.heap.size, 12, none⟩ = some (.slice a1 0 n1) := blk_cell M4.out 12 _ rfl
  have hs14 : w1.heap.size < w4.heap.size := by omega
  go_wp2_with (go_at_call 17; refine (requal_same mA mA rfl (.slice a1 0 n1) (.slice none 0 0) w1.heap.size _ (C4.out.below ((bl_alloc (bl_alloc (bl_refl w4) (.cells (msgCells mC (.slice none 0 0)) 24)) (.cells (msgCells mA (.slice none 0 0)) 24)).mono (by omega))) slIn_nil (by simp; omega)).mono ?_)
  rintro q5 w5 ⟨rfl, b5⟩
  have T5 : Bl w4 w5 := bl_next (bl_alloc (bl_alloc (bl_refl w4) (.cells (msgCells mC (.slice none 0 0)) 24)) (.cells (msgCells mA (.slice none 0 0)) 24)) b5
  have M5 := Lib.hid (blk_bl M4.out T5)
  have N5 := Lib.hid (blk_bl N4.out T5)
  have K5 := Lib.hid (blk_bl (blk_bl (heap_alloc_new w4 (.cells (msgCells mC (.slice none 0 0)) 24)) (bl_alloc (bl_refl _) (.cells (msgCells mA (.slice none 0 0)) 24))) b5)
  have B5 := Lib.hid (bl_next B4.out T5)
  have C5 := Lib.hid (C4.out.below (T5.mono (Nat.le_of_lt hs14)))
  have h45 : w4.heap.size < w5.heap.size := by have := b5.size; simp at this; omega
  have e0 : w5.cell? ⟨pb, po + 5, none⟩ = some (.int .i64 2) := by rw [(bl_cell T5).1 _ _ (by omega)]; exact HC4.out 0 _ rfl
  have e1 : w5.cell? ⟨pb, po + 5 + 1, none⟩ = some (.int .i64 200) := by rw [(bl_cell T5).1 _ _ (by omega)]; exact HC4.out 1 _ rfl
  have e2 : w5.cell? ⟨pb, po + 5 + 2, none⟩ = some (.int .i64 200) := by rw [(bl_cell T5).1 _ _ (by omega)]; exact HC4.out 2 _ rfl
  have e3 : w5.cell? ⟨pb, po + 5 + 3, none⟩ = some (.bool false) := by rw [(bl_cell T5).1 _ _ (by omega)]; exact HC4.out 3 _ rfl
  have e4 : w5.cell? ⟨pb, po + 5 + 4, none⟩ = some (.bool true) := by rw [(bl_cell T5).1 _ _ (by omega)]; exact HC4.out 4 _ rfl
  have eq1 : ∀ w : World, (Op.equalIn 10000 46 (.agg #[.int .i64 2, .int .i64 200, .int .i64 200, .bool false, .bool true]) (.agg #[.int .i64 2, .int .i64 200, .int .i64 200, .bool false, .bool true])).run Tryd.prog w = .ok true w := fun w => by have := eqCall ⟨2, 200, 200, false, true⟩ ⟨2, 200, 200, false, true⟩ w; simpa using this
  clear b5 T5 M4 N4 B4 C4 HC4 m0 m1 m2 m3 m4 m5 m6 m7 m8 m9 m10 m11 m12
  have m0 : w5.cell? ⟨w1.heap.size, 0, none⟩ = some (.int .i64 2) := blk_cell M5.out 0 _ rfl
  have m1 : w5.cell? ⟨w1.heap.size, 1, none⟩ = some (.int .i64 7) := blk_cell M5.out 1 _ rfl
  have m2 : w5.cell? ⟨w1.heap.size, 2, none⟩ = some (.int .i64 1000) := blk_cell M5.out 2 _ rfl
  have m3 : w5.cell? ⟨w1.heap.size, 3, none⟩ = some (.int .i64 2000) := blk_cell M5.out 3 _ rfl
  have m4 : w5.cell? ⟨w1.heap.size, 4, none⟩ = some (.int .i64 1) := blk_cell M5.out 4 _ rfl
  have m5 : w5.cell? ⟨w1.heap.size, 5, none⟩ = some (str [84, 49]) := blk_cell M5.out 5 _ rfl
  have m6 : w5.cell? ⟨w1.heap.size, 6, none⟩ = some (.int .i64 9450) := blk_cell M5.out 6 _ rfl
  have m7 : w5.cell? ⟨w1.heap.size, 7, none⟩ = some (.int .i64 0) := blk_cell M5.out 7 _ rfl
  have m8 : w5.cell? ⟨w1.heap.size, 8, none⟩ = some (.int .i64 3) := blk_cell M5.out 8 _ rfl
  have m9 : w5.cell? ⟨w1.heap.size, 9, none⟩ = some (.int .i64 120) := blk_cell M5.out 9 _ rfl
  have m10 : w5.cell? ⟨w1.heap.size, 10, none⟩ = some (.int .i64 0) := blk_cell M5.out 10 _ rfl
  have m11 : w5.cell? ⟨w1.heap.size, 11, none⟩ = some (.bool false) := blk_cell M5.out 11 _ rfl
  have m12 : w5.cell? ⟨w1.heap.size, 12, none⟩ = some (.slice a1 0 n1) := blk_cell M5.out 12 _ rfl
  have n11 : w5.cell? ⟨w3.heap.size, 11, none⟩ = some (.bool true) := blk_cell N5.out 11 _ rfl
  have n12 : w5.cell? ⟨w3.heap.size, 12, none⟩ = some (.slice (some ⟨pb, po, none⟩) 2 pc) := blk_cell N5.out 12 _ rfl
  have k0 : w5.cell? ⟨w4.heap.size, 0, none⟩ = some (.int .i64 2) := blk_cell K5.out 0 _ rfl
  have k1 : w5.cell? ⟨w4.heap.size, 1, none⟩ = some (.int .i64 8) := blk_cell K5.out 1 _ rfl
  have k2 : w5.cell? ⟨w4.heap.size, 2, none⟩ = some (.int .i64 0) := blk_cell K5.out 2 _ rfl
  have k3 : w5.cell? ⟨w4.heap.size, 3, none⟩ = some (.int .i64 0) := blk_cell K5.out 3 _ rfl
  have k4 : w5.cell? ⟨w4.heap.size, 4, none⟩ = some (.int .i64 2) := blk_cell K5.out 4 _ rfl
  have k5 : w5.cell? ⟨w4.heap.size, 5, none⟩ = some (str [84, 49]) := blk_cell K5.out 5 _ rfl
  have k6 : w5.cell? ⟨w4.heap.size, 6, none⟩ = some (.int .i64 9450) := blk_cell K5.out 6 _ rfl
  have k7 : w5.cell? ⟨w4.heap.size, 7, none⟩ = some (.int .i64 0) := blk_cell K5.out 7 _ rfl
  have k8 : w5.cell? ⟨w4.heap.size, 8, none⟩ = some (.int .i64 0) := blk_cell K5.out 8 _ rfl
  have k9 : w5.cell? ⟨w4.heap.size, 9, none⟩ = some (.int .i64 0) := blk_cell K5.out 9 _ rfl
  have k10 : w5.cell? ⟨w4.heap.size, 10, none⟩ = some (.int .i64 0) := blk_cell K5.out 10 _ rfl
  have k11 : w5.cell? ⟨w4.heap.size, 11, none⟩ = some (.bool false) := blk_cell K5.out 11 _ rfl
  have k12 : w5.cell? ⟨w4.heap.size, 12, none⟩ = some (.slice none 0 0) := blk_cell K5.out 12 _ rfl
  go_wp2_with (go_at_call 18; refine (super_c mC mA (.slice none 0 0) (.slice a1 0 n1) true exS1 _).mono ?_)
  rintro q6 w6 ⟨rfl, b6⟩
  have M6 := Lib.hid (blk_bl M5.out b6)
  have K6 := Lib.hid (blk_bl K5.out b6)
  have B6 := Lib.hid (bl_next B5.out b6)
  have C6 := Lib.hid (C5.out.below (b6.mono (by omega)))
  have h56 : w5.heap.size ≤ w6.heap.size := b6.size
  clear b6 M5 N5 K5 B5 C5 n11 n12 e0 e1 e2 e3 e4 eq1 m0 k0 m1 k1 m2 k2 m3 k3 m4 k4 m5 k5 m6 k6 m7 k7 m8 k8 m9 k9 m10 k10 m11 k11 m12 k12
  have m0 : w6.cell? ⟨w1.heap.size, 0, none⟩ = some (.int .i64 2) := blk_cell M6.out 0 _ rfl
  have m1 : w6.cell? ⟨w1.heap.size, 1, none⟩ = some (.int .i64 7) := blk_cell M6.out 1 _ rfl
  have m2 : w6.cell? ⟨w1.heap.size, 2, none⟩ = some (.int .i64 1000) := blk_cell M6.out 2 _ rfl
  have m3 : w6.cell? ⟨w1.heap.size, 3, none⟩ = some (.int .i64 2000) := blk_cell M6.out 3 _ rfl
  have m4 : w6.cell? ⟨w1.heap.size, 4, none⟩ = some (.int .i64 1) := blk_cell M6.out 4 _ rfl
  have m5 : w6.cell? ⟨w1.heap.size, 5, none⟩ = some (str [84, 49]) := blk_cell M6.out 5 _ rfl
  have m6 : w6.cell? ⟨w1.heap.size, 6, none⟩ = some (.int .i64 9450) := blk_cell M6.out 6 _ rfl
  have m7 : w6.cell? ⟨w1.heap.size, 7, none⟩ = some (.int .i64 0) := blk_cell M6.out 7 _ rfl
  have m8 : w6.cell? ⟨w1.heap.size, 8, none⟩ = some (.int .i64 3) := blk_cell M6.out 8 _ rfl
  have m9 : w6.cell? ⟨w1.heap.size, 9, none⟩ = some (.int .i64 120) := blk_cell M6.out 9 _ rfl
  have m10 : w6.cell? ⟨w1.heap.size, 10, none⟩ = some (.int .i64 0) := blk_cell M6.out 10 _ rfl
  have m11 : w6.cell? ⟨w1.heap.size, 11, none⟩ = some (.bool false) := blk_cell M6.out 11 _ rfl
  have m12 : w6.cell? ⟨w1.heap.size, 12, none⟩ = some (.slice a1 0 n1) := blk_cell M6.out 12 _ rfl
  have k0 : w6.cell? ⟨w4.heap.size, 0, none⟩ = some (.int .i64 2) := blk_cell K6.out 0 _ rfl
  have k1 : w6.cell? ⟨w4.heap.size, 1, none⟩ = some (.int .i64 8) := blk_cell K6.out 1 _ rfl
  have k2 : w6.cell? ⟨w4.heap.size, 2, none⟩ = some (.int .i64 0) := blk_cell K6.out 2 _ rfl
  have k3 : w6.cell? ⟨w4.heap.size, 3, none⟩ = some (.int .i64 0) := blk_cell K6.out 3 _ rfl
  have k4 : w6.cell? ⟨w4.heap.size, 4, none⟩ = some (.int .i64 2) := blk_cell K6.out 4 _ rfl
  have k5 : w6.cell? ⟨w4.heap.size, 5, none⟩ = some (str [84, 49]) := blk_cell K6.out 5 _ rfl
  have k6 : w6.cell? ⟨w4.heap.size, 6, none⟩ = some (.int .i64 9450) := blk_cell K6.out 6 _ rfl
  have k7 : w6.cell? ⟨w4.heap.size, 7, none⟩ = some (.int .i64 0) := blk_cell K6.out 7 _ rfl
  have k8 : w6.cell? ⟨w4.heap.size, 8, none⟩ = some (.int .i64 0) := blk_cell K6.out 8 _ rfl
  have k9 : w6.cell? ⟨w4.heap.size, 9, none⟩ = some (.int .i64 0) := blk_cell K6.out 9 _ rfl
  have k10 : w6.cell? ⟨w4.heap.size, 10, none⟩ = some (.int .i64 0) := blk_cell K6.out 10 _ rfl
  have k11 : w6.cell? ⟨w4.heap.size, 11, none⟩ = some (.bool false) := blk_cell K6.out 11 _ rfl
  have k12 : w6.cell? ⟨w4.heap.size, 12, none⟩ = some (.slice none 0 0) := blk_cell K6.out 12 _ rfl
  go_wp2_with (go_at_call 18; refine (super_c mA mC (.slice a1 0 n1) (.slice none 0 0) false exS2 _).mono ?_)
  rintro q7 w7 ⟨rfl, b7⟩
  have M7 := Lib.hid (blk_bl M6.out b7)
  have B7 := Lib.hid (bl_next B6.out b7)
  have C7 := Lib.hid (C6.out.below (b7.mono (by omega)))
  have h67 : w6.heap.size ≤ w7.heap.size := b7.size
  clear b7 M6 K6 B6 C6 m0 k0 m1 k1 m2 k2 m3 k3 m4 k4 m5 k5 m6 k6 m7 k7 m8 k8 m9 k9 m10 k10 m11 k11 m12 k12
  have m0 : w7.cell? ⟨w1.heap.size, 0, none⟩ = some (.int .i64 2) := blk_cell M7.out 0 _ rfl
  have m1 : w7.cell? ⟨w1.heap.size, 1, none⟩ = some (.int .i64 7) := blk_cell M7.out 1 _ rfl
  have m2 : w7.cell? ⟨w1.heap.size, 2, none⟩ = some (.int .i64 1000) := blk_cell M7.out 2 _ rfl
  have m3 : w7.cell? ⟨w1.heap.size, 3, none⟩ = some (.int .i64 2000) := blk_cell M7.out 3 _ rfl
  have m4 : w7.cell? ⟨w1.heap.size, 4, none⟩ = some (.int .i64 1) := blk_cell M7.out 4 _ rfl
  have m5 : w7.cell? ⟨w1.heap.size, 5, none⟩ = some (str [84, 49]) := blk_cell M7.out 5 _ rfl
  have m6 : w7.cell? ⟨w1.heap.size, 6, none⟩ = some (.int .i64 9450) := blk_cell M7.out 6 _ rfl
  have m7 : w7.cell? ⟨w1.heap.size, 7, none⟩ = some (.int .i64 0) := blk_cell M7.out 7 _ rfl
  have m8 : w7.cell? ⟨w1.heap.size, 8, none⟩ = some (.int .i64 3) := blk_cell M7.out 8 _ rfl
  have m9 : w7.cell? ⟨w1.heap.size, 9, none⟩ = some (.int .i64 120) := blk_cell M7.out 9 _ rfl
  have m10 : w7.cell? ⟨w1.heap.size, 10, none⟩ = some (.int .i64 0) := blk_cell M7.out 10 _ rfl
  have m11 : w7.cell? ⟨w1.heap.size, 11, none⟩ = some (.bool false) := blk_cell M7.out 11 _ rfl
  have m12 : w7.cell? ⟨w1.heap.size, 12, none⟩ = some (.slice a1 0 n1) := blk_cell M7.out 12 _ rfl
  go_wp2_with (go_at_call 10; refine (check_c mA (.slice a1 0 n1) 0 exK (by decide) w1.heap.size _ C7.out (by omega)).mono ?_)
  rintro q8 w8 ⟨rfl, b8⟩
  go_wp2
  go_ret
  exact ⟨rfl, bl_next B7.out b8⟩
end Go.Proofs.YthdadalmgldppaaDoor
namespace Go.Proofs.YthdadalmgldppaaDoor
open Go.RowKit
open Msg Num Fld Dat

def largeB (m : MsgD) : Bool := decide (60 < m.calls.length) || decide (100 < m.trip.length)
theorem large_c (m : MsgD) (v : Value) (r : Bool) (H : Hid (largeB m = r)) (B : Nat) (w : World) (hv : CallsIn B w v m.calls) :
    Calls Tryd.prog 9 #[msgV m v] w fun q w' => q = .returned (.bool r) ∧ Bl w w' := by
  obtain ⟨a, cap, rfl, h1, h2, -⟩ := hv
  go_enter Tryd.func9, Tryd.ntmps9
  go_wp2
  all_goals
    go_ret
    refine ⟨ret_bool ?_, bl_alloc (bl_refl _) _⟩
    rw [← H.out]
    unfold largeB
    rw [Bool.eq_iff_iff]
    simp_all
    try omega
/-! ### superseding -/
theorem same_iff {a b : MsgD} : sameT a b = true ↔ a.trip = b.trip ∧ a.day = b.day ∧ a.inst = b.inst := by simp [sameT]
theorem super_iff {a b : MsgD} : superB a b = true ↔ a.src = b.src ∧ (a.trip = b.trip ∧ a.day = b.day ∧ a.inst = b.inst) ∧ b.seq < a.seq ∧ (statB a.kind = true ∨ (a.kind = b.kind ∧ a.call = b.call)) := by
  unfold superB
  simp only [Bool.and_eq_true, Bool.or_eq_true, beq_iff_eq, decide_eq_true_eq, same_iff]
theorem super_self (a : MsgD) : superB a a = false := by
  cases h : superB a a with
  | false => rfl
  | true => exact absurd (super_iff.1 h).2.2.1 (Int.lt_irrefl _)
theorem super_asymm {a b : MsgD} (h : superB a b = true) : superB b a = false := by
  cases k : superB b a with
  | false => rfl
  | true => have h1 := (super_iff.1 h).2.2.1; have h2 := (super_iff.1 k).2.2.1; omega
theorem super_trans {a b c : MsgD} (h : superB a b = true) (k : superB b c = true) : superB a c = true := by
  obtain ⟨h1, ⟨h2, h3, h4⟩, h5, h6⟩ := super_iff.1 h
  obtain ⟨k1, ⟨k2, k3, k4⟩, k5, k6⟩ := super_iff.1 k
  refine super_iff.2 ⟨h1.trans k1, ⟨h2.trans k2, h3.trans k3, h4.trans k4⟩, by omega, ?_⟩
  rcases h6 with h6 | ⟨h6, h7⟩
  · exact .inl h6
  · rcases k6 with k6 | ⟨k6, k7⟩
    · exact .inl (by rw [h6]; exact k6)
    · exact .inr ⟨h6.trans k6, h7.trans k7⟩
theorem super_same {a b : MsgD} (h : superB a b = true) : sameT a b = true := same_iff.2 (super_iff.1 h).2.1
set_option maxRecDepth 20000 in
set_option maxHeartbeats 8000000 in
theorem order_law (a b c : MsgD) (va vb vc : Value) (B : Nat) (w : World) (hw : WordsAt w) (ha : CallsIn B w va a.calls) (hb : CallsIn B w vb b.calls) (hc : CallsIn B w vc c.calls) (hB : B ≤ w.heap.size) :
    Calls Tryd.prog 7 #[msgV a va, msgV b vb, msgV c vc] w fun q w' => q = .returned (.bool true) ∧ Bl w w' := by
  have h0 : Bl w (((w.alloc (.cells (msgCells a va) 24)).alloc (.cells (msgCells b vb) 24)).alloc (.cells (msgCells c vc) 24)) := bl_alloc (bl_alloc (bl_alloc (bl_refl _) _) _) _
  have HA : Hid (MsgAt w.heap.size 0 a va (((w.alloc (.cells (msgCells a va) 24)).alloc (.cells (msgCells b vb) 24)).alloc (.cells (msgCells c vc) 24))) := ((msgAt_new a va w).next (bl_alloc (bl_refl _) _) (by simp)).next (bl_alloc (bl_refl _) _) (by simp; omega)
  have HB : Hid (MsgAt (w.heap.size + 1) 0 b vb (((w.alloc (.cells (msgCells a va) 24)).alloc (.cells (msgCells b vb) 24)).alloc (.cells (msgCells c vc) 24))) := by
    have := (msgAt_new b vb (w.alloc (.cells (msgCells a va) 24))).next (bl_alloc (bl_refl _) (.cells (msgCells c vc) 24)) (by simp)
    rw [World.size_alloc] at this
    exact this
  have HC : Hid (MsgAt (w.heap.size + 2) 0 c vc (((w.alloc (.cells (msgCells a va) 24)).alloc (.cells (msgCells b vb) 24)).alloc (.cells (msgCells c vc) 24))) := by
    have := msgAt_new c vc ((w.alloc (.cells (msgCells a va) 24)).alloc (.cells (msgCells b vb) 24))
    rw [World.size_alloc, World.size_alloc] at this
    exact this
  have hsz : (((w.alloc (.cells (msgCells a va) 24)).alloc (.cells (msgCells b vb) 24)).alloc (.cells (msgCells c vc) 24)).heap.size = w.heap.size + 3 := by simp
  have HW := Lib.hid (hw.next h0)
  have HH0 := Lib.hid h0
  have CA := Lib.hid (ha.below (h0.mono hB))
  have CB := Lib.hid (hb.below (h0.mono hB))
  have CC := Lib.hid (hc.below (h0.mono hB))
  obtain ⟨la, HLA⟩ : ∃ r, Hid (largeB a = r) := ⟨_, rfl⟩
  obtain ⟨lb, HLB⟩ : ∃ r, Hid (largeB b = r) := ⟨_, rfl⟩
  obtain ⟨lc, HLC⟩ : ∃ r, Hid (largeB c = r) := ⟨_, rfl⟩
  clear hw ha hb hc h0
  go_enter Tryd.func7, Tryd.ntmps7
  go_wp2_with fail
  change Calls _ _ _ (((w.alloc (.cells (msgCells a va) 24)).alloc (.cells (msgCells b vb) 24)).alloc (.cells (msgCells c vc) 24)) _
  generalize ((w.alloc (.cells (msgCells a va) 24)).alloc (.cells (msgCells b vb) 24)).alloc (.cells (msgCells c vc) 24) = W at HA HB HC hsz HW HH0 CA CB CC ⊢
  have HAl : w.heap.size < W.heap.size := by omega
  have HBl : w.heap.size + 1 < W.heap.size := by omega
  have HCl : w.heap.size + 2 < W.heap.size := by omega
  have hBW : B ≤ W.heap.size := by omega
  have HR := Lib.hid (bl_refl W)
  refine (large_c a va la HLA B W CA.out).mono ?_
  rintro y0 w0 ⟨rfl, b0⟩
  have T0 := Lib.hid (bl_next HR.out b0)
  clear b0
  cases la with
  | true =>
    go_wp2_with (go_at_call 12; refine (example_c _ (HW.out.next T0.out)).mono ?_)
    rintro qe we ⟨rfl, be⟩
    go_wp2
    go_ret
    exact ⟨rfl, bl_next HH0.out (bl_next T0.out be)⟩
  | false =>
  obtain ⟨q0, q1, q2, q3, q4, q5, q6, q7, q8, q9, q10, q11, q12⟩ := (HB.out.next T0.out HBl).all
  go_wp2_with (go_at_call 9; refine (large_c b vb lb HLB B _ (CB.out.below (T0.out.mono hBW))).mono ?_)
  rintro y1 w1 ⟨rfl, b1⟩
  have T1 := Lib.hid (bl_next T0.out b1)
  clear b1
  clear q0 q1 q2 q3 q4 q5 q6 q7 q8 q9 q10 q11 q12
  cases lb with
  | true =>
    go_wp2_with (go_at_call 12; refine (example_c _ (HW.out.next T1.out)).mono ?_)
    rintro qe we ⟨rfl, be⟩
    go_wp2
    go_ret
    exact ⟨rfl, bl_next HH0.out (bl_next T1.out be)⟩
  | false =>
  obtain ⟨r0, r1, r2, r3, r4, r5, r6, r7, r8, r9, r10, r11, r12⟩ := (HC.out.next T1.out HCl).all
  go_wp2_with (go_at_call 9; refine (large_c c vc lc HLC B _ (CC.out.below (T1.out.mono hBW))).mono ?_)
  rintro y2 w2 ⟨rfl, b2⟩
  have T2 := Lib.hid (bl_next T1.out b2)
  clear b2
  clear r0 r1 r2 r3 r4 r5 r6 r7 r8 r9 r10 r11 r12
  cases lc with
  | true =>
    go_wp2_with (go_at_call 12; refine (example_c _ (HW.out.next T2.out)).mono ?_)
    rintro qe we ⟨rfl, be⟩
    go_wp2
    go_ret
    exact ⟨rfl, bl_next HH0.out (bl_next T2.out be)⟩
  | false =>
  obtain ⟨rx, HX⟩ : ∃ r, Hid (superB a b = r) := ⟨_, rfl⟩
  obtain ⟨ry, HY⟩ : ∃ r, Hid (superB b c = r) := ⟨_, rfl⟩
  have hold : ∀ w', Bl W w' → (w'.cell? ⟨w.heap.size, 0, none⟩ = some (.int .i64 a.src) ∧ w'.cell? ⟨w.heap.size, 1, none⟩ = some (.int .i64 a.seq) ∧ w'.cell? ⟨w.heap.size, 2, none⟩ = some (.int .i64 a.iss) ∧ w'.cell? ⟨w.heap.size, 3, none⟩ = some (.int .i64 a.exp) ∧ w'.cell? ⟨w.heap.size, 4, none⟩ = some (.int .i64 a.kind) ∧ w'.cell? ⟨w.heap.size, 5, none⟩ = some (str a.trip) ∧ w'.cell? ⟨w.heap.size, 6, none⟩ = some (.int .i64 a.day) ∧ w'.cell? ⟨w.heap.size, 7, none⟩ = some (.int .i64 a.inst) ∧ w'.cell? ⟨w.heap.size, 8, none⟩ = some (.int .i64 a.call) ∧ w'.cell? ⟨w.heap.size, 9, none⟩ = some (.int .i64 a.secs) ∧ w'.cell? ⟨w.heap.size, 10, none⟩ = some (.int .i64 a.route) ∧ w'.cell? ⟨w.heap.size, 11, none⟩ = some (.bool a.step) ∧ w'.cell? ⟨w.heap.size, 12, none⟩ = some (va) ∧ w'.cell? ⟨w.heap.size + 1, 0, none⟩ = some (.int .i64 b.src) ∧ w'.cell? ⟨w.heap.size + 1, 1, none⟩ = some (.int .i64 b.seq) ∧ w'.cell? ⟨w.heap.size + 1, 2, none⟩ = some (.int .i64 b.iss) ∧ w'.cell? ⟨w.heap.size + 1, 3, none⟩ = some (.int .i64 b.exp) ∧ w'.cell? ⟨w.heap.size + 1, 4, none⟩ = some (.int .i64 b.kind) ∧ w'.cell? ⟨w.heap.size + 1, 5, none⟩ = some (str b.trip) ∧ w'.cell? ⟨w.heap.size + 1, 6, none⟩ = some (.int .i64 b.day) ∧ w'.cell? ⟨w.heap.size + 1, 7, none⟩ = some (.int .i64 b.inst) ∧ w'.cell? ⟨w.heap.size + 1, 8, none⟩ = some (.int .i64 b.call) ∧ w'.cell? ⟨w.heap.size + 1, 9, none⟩ = some (.int .i64 b.secs) ∧ w'.cell? ⟨w.heap.size + 1, 10, none⟩ = some (.int .i64 b.route) ∧ w'.cell? ⟨w.heap.size + 1, 11, none⟩ = some (.bool b.step) ∧ w'.cell? ⟨w.heap.size + 1, 12, none⟩ = some (vb) ∧ w'.cell? ⟨w.heap.size + 2, 0, none⟩ = some (.int .i64 c.src) ∧ w'.cell? ⟨w.heap.size + 2, 1, none⟩ = some (.int .i64 c.seq) ∧ w'.cell? ⟨w.heap.size + 2, 2, none⟩ = some (.int .i64 c.iss) ∧ w'.cell? ⟨w.heap.size + 2, 3, none⟩ = some (.int .i64 c.exp) ∧ w'.cell? ⟨w.heap.size + 2, 4, none⟩ = some (.int .i64 c.kind) ∧ w'.cell? ⟨w.heap.size + 2, 5, none⟩ = some (str c.trip) ∧ w'.cell? ⟨w.heap.size + 2, 6, none⟩ = some (.int .i64 c.day) ∧ w'.cell? ⟨w.heap.size + 2, 7, none⟩ = some (.int .i64 c.inst) ∧ w'.cell? ⟨w.heap.size + 2, 8, none⟩ = some (.int .i64 c.call) ∧ w'.cell? ⟨w.heap.size + 2, 9, none⟩ = some (.int .i64 c.secs) ∧ w'.cell? ⟨w.heap.size + 2, 10, none⟩ = some (.int .i64 c.route) ∧ w'.cell? ⟨w.heap.size + 2, 11, none⟩ = some (.bool c.step) ∧ w'.cell? ⟨w.heap.size + 2, 12, none⟩ = some (vc)) := fun w' hb => by
    obtain ⟨p0, p1, p2, p3, p4, p5, p6, p7, p8, p9, p10, p11, p12⟩ := (HA.out.next hb HAl).all
    obtain ⟨q0, q1, q2, q3, q4, q5, q6, q7, q8, q9, q10, q11, q12⟩ := (HB.out.next hb HBl).all
    obtain ⟨r0, r1, r2, r3, r4, r5, r6, r7, r8, r9, r10, r11, r12⟩ := (HC.out.next hb HCl).all
    exact ⟨p0, p1, p2, p3, p4, p5, p6, p7, p8, p9, p10, p11, p12, q0, q1, q2, q3, q4, q5, q6, q7, q8, q9, q10, q11, q12, r0, r1, r2, r3, r4, r5, r6, r7, r8, r9, r10, r11, r12⟩
  obtain ⟨p0, p1, p2, p3, p4, p5, p6, p7, p8, p9, p10, p11, p12⟩ := (HA.out.next T2.out HAl).all
  obtain ⟨q0, q1, q2, q3, q4, q5, q6, q7, q8, q9, q10, q11, q12⟩ := (HB.out.next T2.out HBl).all
  obtain ⟨r0, r1, r2, r3, r4, r5, r6, r7, r8, r9, r10, r11, r12⟩ := (HC.out.next T2.out HCl).all
  go_wp2_with fail
  go_region_held3 (fun w' => w'.cell? ⟨w.heap.size, 0, none⟩ = some (.int .i64 a.src) ∧ w'.cell? ⟨w.heap.size, 1, none⟩ = some (.int .i64 a.seq) ∧ w'.cell? ⟨w.heap.size, 2, none⟩ = some (.int .i64 a.iss) ∧ w'.cell? ⟨w.heap.size, 3, none⟩ = some (.int .i64 a.exp) ∧ w'.cell? ⟨w.heap.size, 4, none⟩ = some (.int .i64 a.kind) ∧ w'.cell? ⟨w.heap.size, 5, none⟩ = some (str a.trip) ∧ w'.cell? ⟨w.heap.size, 6, none⟩ = some (.int .i64 a.day) ∧ w'.cell? ⟨w.heap.size, 7, none⟩ = some (.int .i64 a.inst) ∧ w'.cell? ⟨w.heap.size, 8, none⟩ = some (.int .i64 a.call) ∧ w'.cell? ⟨w.heap.size, 9, none⟩ = some (.int .i64 a.secs) ∧ w'.cell? ⟨w.heap.size, 10, none⟩ = some (.int .i64 a.route) ∧ w'.cell? ⟨w.heap.size, 11, none⟩ = some (.bool a.step) ∧ w'.cell? ⟨w.heap.size, 12, none⟩ = some (va) ∧ w'.cell? ⟨w.heap.size + 1, 0, none⟩ = some (.int .i64 b.src) ∧ w'.cell? ⟨w.heap.size + 1, 1, none⟩ = some (.int .i64 b.seq) ∧ w'.cell? ⟨w.heap.size + 1, 2, none⟩ = some (.int .i64 b.iss) ∧ w'.cell? ⟨w.heap.size + 1, 3, none⟩ = some (.int .i64 b.exp) ∧ w'.cell? ⟨w.heap.size + 1, 4, none⟩ = some (.int .i64 b.kind) ∧ w'.cell? ⟨w.heap.size + 1, 5, none⟩ = some (str b.trip) ∧ w'.cell? ⟨w.heap.size + 1, 6, none⟩ = some (.int .i64 b.day) ∧ w'.cell? ⟨w.heap.size + 1, 7, none⟩ = some (.int .i64 b.inst) ∧ w'.cell? ⟨w.heap.size + 1, 8, none⟩ = some (.int .i64 b.call) ∧ w'.cell? ⟨w.heap.size + 1, 9, none⟩ = some (.int .i64 b.secs) ∧ w'.cell? ⟨w.heap.size + 1, 10, none⟩ = some (.int .i64 b.route) ∧ w'.cell? ⟨w.heap.size + 1, 11, none⟩ = some (.bool b.step) ∧ w'.cell? ⟨w.heap.size + 1, 12, none⟩ = some (vb) ∧ w'.cell? ⟨w.heap.size + 2, 0, none⟩ = some (.int .i64 c.src) ∧ w'.cell? ⟨w.heap.size + 2, 1, none⟩ = some (.int .i64 c.seq) ∧ w'.cell? ⟨w.heap.size + 2, 2, none⟩ = some (.int .i64 c.iss) ∧ w'.cell? ⟨w.heap.size + 2, 3, none⟩ = some (.int .i64 c.exp) ∧ w'.cell? ⟨w.heap.size + 2, 4, none⟩ = some (.int .i64 c.kind) ∧ w'.cell? ⟨w.heap.size + 2, 5, none⟩ = some (str c.trip) ∧ w'.cell? ⟨w.heap.size + 2, 6, none⟩ = some (.int .i64 c.day) ∧ w'.cell? ⟨w.heap.size + 2, 7, none⟩ = some (.int .i64 c.inst) ∧ w'.cell? ⟨w.heap.size + 2, 8, none⟩ = some (.int .i64 c.call) ∧ w'.cell? ⟨w.heap.size + 2, 9, none⟩ = some (.int .i64 c.secs) ∧ w'.cell? ⟨w.heap.size + 2, 10, none⟩ = some (.int .i64 c.route) ∧ w'.cell? ⟨w.heap.size + 2, 11, none⟩ = some (.bool c.step) ∧ w'.cell? ⟨w.heap.size + 2, 12, none⟩ = some (vc))
    (first | exact hold _ (bl_drew T2.out) | exact hold _ (bl_next (bl_drew T2.out) b4) | exact hold _ (bl_next (bl_next (bl_drew T2.out) b4) b5))
    (first
      | (go_at_call 18; with_reducible (refine (super_c a b va vb rx HX _).mono ?_); rintro y4 w4 ⟨rfl, b4⟩)
      | (go_at_call 18; with_reducible (refine (super_c b c vb vc ry HY _).mono ?_); rintro y5 w5 ⟨rfl, b5⟩))
  have T5 := Lib.hid (bl_next (bl_next (bl_drew T2.out) b4) b5)
  clear b4 b5
  clear p0 p1 p2 p3 p4 p5 p6 p7 p8 p9 p10 p11 p12 q0 q1 q2 q3 q4 q5 q6 q7 q8 q9 q10 q11 q12 r0 r1 r2 r3 r4 r5 r6 r7 r8 r9 r10 r11 r12
  have HSA := Lib.hid (super_self a)
  cases rx with
  | false =>
    obtain ⟨p0, p1, p2, p3, p4, p5, p6, p7, p8, p9, p10, p11, p12⟩ := (HA.out.next T5.out HAl).all
    go_wp2_with (go_at_call 18; refine (super_c a a va va false HSA _).mono ?_)
    rintro y6 w6 ⟨rfl, b6⟩
    have T6 := Lib.hid (bl_next T5.out b6)
    clear b6
    clear p0 p1 p2 p3 p4 p5 p6 p7 p8 p9 p10 p11 p12
    go_wp2_with (go_at_call 12; refine (example_c _ (HW.out.next T6.out)).mono ?_)
    rintro qe we ⟨rfl, be⟩
    go_wp2
    go_ret
    exact ⟨rfl, bl_next HH0.out (bl_next T6.out be)⟩
  | true =>
  have HBA := Lib.hid (super_asymm HX.out)
  have HSM := Lib.hid (super_same HX.out)
  obtain ⟨p0, p1, p2, p3, p4, p5, p6, p7, p8, p9, p10, p11, p12⟩ := (HA.out.next T5.out HAl).all
  obtain ⟨q0, q1, q2, q3, q4, q5, q6, q7, q8, q9, q10, q11, q12⟩ := (HB.out.next T5.out HBl).all
  go_wp2_with (go_at_call 18; refine (super_c b a vb va false HBA _).mono ?_)
  rintro y6 w6 ⟨rfl, b6⟩
  have T6 := Lib.hid (bl_next T5.out b6)
  clear b6
  clear p0 p1 p2 p3 p4 p5 p6 p7 p8 p9 p10 p11 p12 q0 q1 q2 q3 q4 q5 q6 q7 q8 q9 q10 q11 q12
  cases ry with
  | false =>
    obtain ⟨p0, p1, p2, p3, p4, p5, p6, p7, p8, p9, p10, p11, p12⟩ := (HA.out.next T6.out HAl).all
    go_wp2_with (go_at_call 18; refine (super_c a a va va false HSA _).mono ?_)
    rintro y7 w7 ⟨rfl, b7⟩
    have T7 := Lib.hid (bl_next T6.out b7)
    clear b7
    clear p0 p1 p2 p3 p4 p5 p6 p7 p8 p9 p10 p11 p12
    obtain ⟨p0, p1, p2, p3, p4, p5, p6, p7, p8, p9, p10, p11, p12⟩ := (HA.out.next T7.out HAl).all
    obtain ⟨q0, q1, q2, q3, q4, q5, q6, q7, q8, q9, q10, q11, q12⟩ := (HB.out.next T7.out HBl).all
    go_wp2_with (go_at_call 19; refine (same_c a b va vb true HSM _).mono ?_)
    rintro y8 w8 ⟨rfl, b8⟩
    have T8 := Lib.hid (bl_next T7.out b8)
    clear b8
    clear p0 p1 p2 p3 p4 p5 p6 p7 p8 p9 p10 p11 p12 q0 q1 q2 q3 q4 q5 q6 q7 q8 q9 q10 q11 q12
    go_wp2_with (go_at_call 12; refine (example_c _ (HW.out.next T8.out)).mono ?_)
    rintro qe we ⟨rfl, be⟩
    go_wp2
    go_ret
    exact ⟨rfl, bl_next HH0.out (bl_next T8.out be)⟩
  | true =>
  have HAC := Lib.hid (super_trans HX.out HY.out)
  obtain ⟨p0, p1, p2, p3, p4, p5, p6, p7, p8, p9, p10, p11, p12⟩ := (HA.out.next T6.out HAl).all
  obtain ⟨r0, r1, r2, r3, r4, r5, r6, r7, r8, r9, r10, r11, r12⟩ := (HC.out.next T6.out HCl).all
  go_wp2_with (go_at_call 18; refine (super_c a c va vc true HAC _).mono ?_)
  rintro y7 w7 ⟨rfl, b7⟩
  have T7 := Lib.hid (bl_next T6.out b7)
  clear b7
  clear p0 p1 p2 p3 p4 p5 p6 p7 p8 p9 p10 p11 p12 r0 r1 r2 r3 r4 r5 r6 r7 r8 r9 r10 r11 r12
  obtain ⟨p0, p1, p2, p3, p4, p5, p6, p7, p8, p9, p10, p11, p12⟩ := (HA.out.next T7.out HAl).all
  go_wp2_with (go_at_call 18; refine (super_c a a va va false HSA _).mono ?_)
  rintro y8 w8 ⟨rfl, b8⟩
  have T8 := Lib.hid (bl_next T7.out b8)
  clear b8
  clear p0 p1 p2 p3 p4 p5 p6 p7 p8 p9 p10 p11 p12
  obtain ⟨p0, p1, p2, p3, p4, p5, p6, p7, p8, p9, p10, p11, p12⟩ := (HA.out.next T8.out HAl).all
  obtain ⟨q0, q1, q2, q3, q4, q5, q6, q7, q8, q9, q10, q11, q12⟩ := (HB.out.next T8.out HBl).all
  go_wp2_with (go_at_call 19; refine (same_c a b va vb true HSM _).mono ?_)
  rintro y9 w9 ⟨rfl, b9⟩
  have T9 := Lib.hid (bl_next T8.out b9)
  clear b9
  clear p0 p1 p2 p3 p4 p5 p6 p7 p8 p9 p10 p11 p12 q0 q1 q2 q3 q4 q5 q6 q7 q8 q9 q10 q11 q12
  go_wp2_with (go_at_call 12; refine (example_c _ (HW.out.next T9.out)).mono ?_)
  rintro qe we ⟨rfl, be⟩
  go_wp2
  go_ret
  exact ⟨rfl, bl_next HH0.out (bl_next T9.out be)⟩
end Go.Proofs.YthdadalmgldppaaDoor
namespace Go.Proofs.YthdadalmgldppaaDoor
open Go.RowKit
open Msg Num Fld Dat

theorem rfields_c (m : MsgD) (v : Value) (hc : Hid (checkM m = 0)) (ho : Hid (OkM m)) (B : Nat) (w : World) (hv : CallsIn B w v m.calls) (hB : B ≤ w.heap.size) :
    Calls Tryd.prog 36 #[msgV m v] w fun r w' => ∃ u, r = .returned u ∧ OwnS w.heap.size u (fieldsM m) w' ∧ Bl w w' := by
  have hg := Lib.hid (check_good hc.out)
  have hke := kindErr_ok (kind_check hc.out)
  have hpos : uCalls m.kind = true → 0 < m.calls.length := fun h => by
    have := hke.2.2.2.2.2 h
    unfold callsErr at this
    split at this
    · exact absurd this (by decide)
    · omega
  rcases kinds hg.out.kind with hk | hk | hk | hk | hk | hk
  · exact rfields_k1 m hk (hg.out.calls (by rw [hk]; rfl)) v hg ho B w hv hB
  · exact rfields_k2 m hk (hg.out.calls (by rw [hk]; rfl)) v hg ho B w hv hB
  · exact rfields_k3 m hk (hg.out.calls (by rw [hk]; rfl)) v hg ho B w hv hB
  · exact rfields_k4 m hk (hpos (by rw [hk]; rfl)) v hg ho B w hv hB
  · cases hs : m.step with
    | true => exact rfields_k5y m hk hs (hpos (by rw [hk]; rfl)) v hg ho B w hv hB
    | false => exact rfields_k5n m hk hs (hpos (by rw [hk]; rfl)) v hg ho B w hv hB
  · exact rfields_k6 m hk (hg.out.calls (by rw [hk]; rfl)) v hg ho B w hv hB
set_option maxRecDepth 20000 in
set_option maxHeartbeats 4000000 in
theorem rformat_c (m : MsgD) (v : Value) (s : List UInt8) (e : Int) (H : Hid (formatM m = (s, e))) (ho : Hid (OkM m)) (ht : m.trip.length ≤ 9223372036854775807) (B : Nat) (w : World) (hv : CallsIn B w v m.calls) (hB : B ≤ w.heap.size) :
    Calls Tryd.prog 14 #[msgV m v] w fun r w' => r = .returned (.tuple #[str s, .int .i64 e]) ∧ Bl w w' := by
  obtain ⟨r, hr⟩ : ∃ r, checkM m = r := ⟨_, rfl⟩
  have HR := Lib.hid hr
  have hbl : Bl w (w.alloc (.cells (msgCells m v) 24)) := bl_alloc (bl_refl _) _
  have hcheck := rcheck_c m v r HR ht B (w.alloc (.cells (msgCells m v) 24)) (hv.below (hbl.mono hB)) (by simp; omega)
  have hm := msgAt_new m v w
  have hsz : w.heap.size < (w.alloc (.cells (msgCells m v) 24)).heap.size := by simp
  have HV := Lib.hid (hv.below (hbl.mono hB))
  have HM := Lib.hid hm
  have HBL := Lib.hid hbl
  clear hv hm hr hbl
  by_cases hr0 : r = 0
  · subst hr0
    have hg := Lib.hid (check_good HR.out)
    have HF := Lib.hid (show joinR (fieldsM m) = (s, e) by rw [← H.out]; unfold formatM; rw [if_pos HR.out])
    have HL := Lib.hid (show ∀ x ∈ fieldsM m, x.length ≤ 131072 from fun x hx => by have := field_len hg.out ho.out x hx; omega)
    clear H
    go_enter Tryd.func14, Tryd.ntmps14
    go_wp2_with (first
      | (go_at_call 11; refine hcheck.mono ?_))
    rintro x2 w2 ⟨rfl, b2⟩
    have hB2 : B ≤ w2.heap.size := by have := b2.size; simp at this; omega
    have HB2 := Lib.hid (bl_next HBL.out b2)
    have HV2 := Lib.hid (HV.out.below (b2.mono (by simp; omega)))
    obtain ⟨c0, c1, c2, c3, c4, c5, c6, c7, c8, c9, c10, c11, c12⟩ := (HM.out.next b2 hsz).all
    clear HM HV b2 hcheck hsz
    go_wp2_with (go_at_call 36; refine (rfields_c m v HR ho B w2 HV2.out hB2).mono ?_)
    rintro x3 w3 ⟨u3, rfl, o3, b3⟩
    have HB3 := Lib.hid (bl_next HB2.out b3)
    have O3 := Lib.hid o3
    obtain ⟨av, cv, rfl⟩ := ownS_form o3
    clear o3 b3 c0 c1 c2 c3 c4 c5 c6 c7 c8 c9 c10 c11 c12
    go_wp2_with (go_at_call 35; refine (rjoin_c _ _ s e HF HL w3.heap.size w3 (ownS_in O3.out) (Nat.le_refl _)).mono ?_)
    rintro xj wj ⟨rfl, bj⟩
    go_wp2
    go_ret2
    exact ⟨rfl, bl_next HB3.out bj⟩
  · have HF := Lib.hid (show (([] : List UInt8), r) = (s, e) by rw [← H.out]; unfold formatM; rw [if_neg (by rw [HR.out]; exact hr0), HR.out])
    obtain ⟨e1, e2⟩ := Prod.mk.inj HF.out
    have f0 : (r != 0) = true := by rw [bne_iff_ne]; exact hr0
    clear H HF HR
    subst e1 e2
    go_enter Tryd.func14, Tryd.ntmps14
    go_wp2_with (first
      | (go_at_call 11; refine hcheck.mono ?_))
    rintro x2 w2 ⟨rfl, b2⟩
    have HB2 := Lib.hid (bl_next HBL.out b2)
    clear b2
    go_wp2
    go_ret2
    exact ⟨rfl, HB2.out⟩
set_option maxRecDepth 20000 in
set_option maxHeartbeats 8000000 in
theorem formats_law (m : MsgD) (v : Value) (ho : Hid (OkM m)) (B : Nat) (w : World) (hw : WordsAt w) (ha : CallsIn B w v m.calls) (hB : B ≤ w.heap.size) :
    Calls Tryd.prog 4 #[msgV m v] w fun q w' => q = .returned (.bool true) ∧ Bl w w' := by
  have h0 : Bl w (w.alloc (.cells (msgCells m v) 24)) := bl_alloc (bl_refl _) _
  have HM : Hid (MsgAt w.heap.size 0 m v (w.alloc (.cells (msgCells m v) 24))) := msgAt_new m v w
  have hsz : (w.alloc (.cells (msgCells m v) 24)).heap.size = w.heap.size + 1 := by simp
  have HW := Lib.hid (hw.next h0)
  have HH0 := Lib.hid h0
  have CA := Lib.hid (ha.below (h0.mono hB))
  obtain ⟨la, HLA⟩ : ∃ r, Hid (largeB m = r) := ⟨_, rfl⟩
  obtain ⟨⟨s, e⟩, HF⟩ : ∃ r, Hid (formatM m = r) := ⟨_, rfl⟩
  clear hw ha h0
  go_enter Tryd.func4, Tryd.ntmps4
  go_wp2_with fail
  change Calls _ _ _ (w.alloc (.cells (msgCells m v) 24)) _
  generalize w.alloc (.cells (msgCells m v) 24) = W at HM hsz HW HH0 CA ⊢
  have hml : w.heap.size < W.heap.size := by omega
  have hBW : B ≤ W.heap.size := by omega
  refine (large_c m v la HLA B W CA.out).mono ?_
  rintro y1 w1 ⟨rfl, b1⟩
  have T1 := Lib.hid b1
  clear b1
  cases la with
  | true =>
    go_wp2_with (go_at_call 12; refine (example_c _ (HW.out.next T1.out)).mono ?_)
    rintro qe we ⟨rfl, be⟩
    go_wp2
    go_ret
    exact ⟨rfl, bl_next HH0.out (bl_next T1.out be)⟩
  | false =>
    have htr : m.trip.length ≤ 9223372036854775807 := by have := HLA.out; simp [largeB] at this; omega
    obtain ⟨p0, p1, p2, p3, p4, p5, p6, p7, p8, p9, p10, p11, p12⟩ := (HM.out.next T1.out hml).all
    go_wp2_with (go_at_call 13; refine (format_c m v s e HF ho htr B w1 (HW.out.next T1.out) (CA.out.below (T1.out.mono hBW)) (Nat.le_trans hBW T1.out.size)).mono ?_)
    rintro y2 w2 ⟨rfl, b2⟩
    have T2 := Lib.hid (bl_next T1.out b2)
    clear b2 p0 p1 p2 p3 p4 p5 p6 p7 p8 p9 p10 p11 p12
    obtain ⟨p0, p1, p2, p3, p4, p5, p6, p7, p8, p9, p10, p11, p12⟩ := (HM.out.next T2.out hml).all
    go_wp2_with (go_at_call 14; refine (rformat_c m v s e HF ho htr B w2 (CA.out.below (T2.out.mono hBW)) (Nat.le_trans hBW T2.out.size)).mono ?_)
    rintro y3 w3 ⟨rfl, b3⟩
    have T3 := Lib.hid (bl_next T2.out b3)
    clear b3 p0 p1 p2 p3 p4 p5 p6 p7 p8 p9 p10 p11 p12
    go_wp2_with (go_at_call 12; refine (example_c _ (HW.out.next T3.out)).mono ?_)
    rintro qe we ⟨rfl, be⟩
    go_wp2
    go_ret
    exact ⟨rfl, bl_next HH0.out (bl_next T3.out be)⟩
end Go.Proofs.YthdadalmgldppaaDoor
namespace Go.Proofs.YthdadalmgldppaaDoor
open Go.RowKit
open Msg
section
open Go.ChangeShapes Go.WideShapes Go.Deep Go.Joins
variable {H : Type} {enc : TypeId × Value → H} {P : Program} {w : World} {base : Nat} {spare : Nat → Bool} {held : Bool}
theorem list_of {α : Type} {R : Nat → α → Prop} : ∀ (n : Nat), (∀ i, i < n → ∃ x, R i x) → ∃ xs : List α, xs.length = n ∧ ∀ i x, xs[i]? = some x → R i x
  | 0, _ => ⟨[], rfl, fun i x h => by simp at h⟩
  | n + 1, h => by
    obtain ⟨xs, hl, hx⟩ := list_of n fun i hi => h i (by omega)
    obtain ⟨y, hy⟩ := h n (by omega)
    refine ⟨xs ++ [y], by simp [hl], fun i x hi => ?_⟩
    by_cases hin : i < n
    · rw [List.getElem?_append_left (by omega)] at hi
      exact hx i x hi
    · have hii : i < (xs ++ [y]).length := (List.getElem?_eq_some_iff.1 hi).1
      have : i = n := by simp at hii; omega
      subst this
      rw [List.getElem?_append_right (by omega), hl, Nat.sub_self] at hi
      simp at hi
      subst hi
      exact hy
/-- A struct's cells, each with its own reading. -/
theorem read_struct {t : TypeId} {fs : Array Field} {fuel : Nat} {cs : List Value} {x : DataW H × List MemPlace} (ht : P.underlying t = some (.struct fs)) (hone : oneCellFields P fs = true) (hC : P.cellsOf t = fs.size)
    (h : DataW.trod enc P w base spare held fuel t cs = some x) :
    cs.length = fs.size ∧ ∃ n, ∀ (j : Nat) (f : Field), fs[j]? = some f → ∃ y : DataW H × List MemPlace, DataW.trod enc P w base spare held n f.type [(cs[j]?).getD (.bool false)] = some y := by
  obtain ⟨ys, k, -, -, hcl, hyl, hf⟩ := DataW.trod_struct ht h
  refine ⟨hcl.trans hC, k, fun j f hj => ?_⟩
  obtain ⟨ho, hk⟩ := hone_of hone j f hj
  have hjl : j < fs.size := (Array.getElem?_eq_some_iff.1 hj).1
  have := hf j f hj
  rw [ho, hk, List.drop_eq_getElem_cons (show j < cs.length by omega)] at this
  refine ⟨ys[j]'(by omega), ?_⟩
  rw [List.getElem?_eq_getElem (show j < cs.length by omega)]
  exact this.trans (List.getElem?_eq_getElem (by omega))
/-- A slice of structs that came in reads as a list. -/
theorem read_slice {α : Type} {cells : α → List Value} {sz : Nat} (hs : ∀ x, (cells x).length = sz) (h0 : 0 < sz) (Q : α → Prop) {t e : TypeId} {fs : Array Field} {fuel : Nat} {v : Value} {x : DataW H × List MemPlace}
    (ht : P.underlying t = some (.slice e)) (he : P.underlying e = some (.struct fs)) (hone : oneCellFields P fs = true) (hC : P.cellsOf e = fs.size) (hsz : fs.size = sz)
    (helem : ∀ (n : Nat) (g : Nat → Value), (∀ (j : Nat) (f : Field), fs[j]? = some f → ∃ y : DataW H × List MemPlace, DataW.trod enc P w base spare held n f.type [g j] = some y) → ∃ y : α, Q y ∧ ∀ j u, (cells y)[j]? = some u → u = g j)
    (h : DataW.trod enc P w base spare held fuel t [v] = some x) : ∃ xs : List α, SlIn cells sz w.heap.size w v xs ∧ ∀ y ∈ xs, Q y := by
  rcases open_slice ht h with ⟨hcs, -⟩ | ⟨a, len, cap, m, n, D, Pl, hcs, -, hl, hm, hmm, -, hi⟩
  · rw [List.cons.injEq] at hcs
    rw [hcs.1]
    exact ⟨[], slIn_nil, by simp⟩
  · rw [List.cons.injEq] at hcs
    rw [hcs.1]
    have hlm : len ≤ m := by rw [hmm]; split <;> omega
    obtain ⟨xs, hxl, hx⟩ := list_of (R := fun i (y : α) => Q y ∧ ∀ j u, (cells y)[j]? = some u → w.cell? (a.add (i * sz + j)) = some u) len fun i hil => by
      obtain ⟨vs, hc, hrd⟩ := hi i (by omega)
      rw [hC] at hc
      obtain ⟨-, hvl, hat⟩ := World.cells?_some hc
      obtain ⟨-, k, hf⟩ := read_struct he hone hC hrd
      obtain ⟨y, hQ, hy⟩ := helem k (fun j => (vs[j]?).getD (.bool false)) hf
      refine ⟨y, hQ, fun j u hu => ?_⟩
      have hjl : j < vs.length := by have := (List.getElem?_eq_some_iff.1 hu).1; rw [hs] at this; omega
      have h1 := hat j (by omega)
      rw [hy j u hu, List.getElem?_eq_getElem hjl]
      rw [List.getElem?_eq_getElem hjl, hsz, Go.Deep.add_add] at h1
      exact h1
    refine ⟨xs, ⟨some a, cap, by rw [hxl], by omega, hm, fun hpos => ?_⟩, fun y hy => ?_⟩
    · obtain ⟨y0, hy0⟩ : ∃ y0, xs[0]? = some y0 := ⟨_, List.getElem?_eq_getElem hpos⟩
      obtain ⟨u0, hu0⟩ : ∃ u0, (cells y0)[0]? = some u0 := ⟨_, List.getElem?_eq_getElem (by rw [hs]; exact h0)⟩
      have hc0 := (hx 0 y0 hy0).2 0 u0 hu0
      rw [show a.add (0 * sz + 0) = a by simp [Addr.add]] at hc0
      obtain ⟨b, o, spot⟩ := a
      have hsp : spot = none := by
        unfold World.cell? at hc0
        split at hc0
        · cases spot with
          | none => rfl
          | some s => simp at hc0
        · cases hc0
      subst hsp
      refine ⟨b, o, rfl, World.block_lt_of_cell? w _ hc0, fun i y hy j u hu => ?_⟩
      have := (hx i y hy).2 j u hu
      unfold Addr.add at this
      split at this
      · rename_i k; rw [show o + i * sz + j = o by omega]; exact this
      · rw [Nat.add_assoc]; exact this
    · obtain ⟨i, hi⟩ := List.getElem?_of_mem hy
      exact (hx i y hi).1
end
theorem int_ok {x : Int} (h : (Lit.int .i64 x).wf = true) : isI x := by
  have hmin : IntKind.i64.min = -9223372036854775808 := rfl
  have hmax : IntKind.i64.max = 9223372036854775807 := rfl
  simp only [Lit.wf, Bool.and_eq_true, decide_eq_true_eq] at h
  unfold isI
  omega
section
open Go.ChangeShapes Go.WideShapes Go.Deep Go.Joins
variable {H : Type} {enc : TypeId × Value → H} {w : World} {base : Nat} {spare : Nat → Bool} {held : Bool}
theorem cells_of5 {a b c d e : Value} {g : Nat → Value} (h0 : a = g 0) (h1 : b = g 1) (h2 : c = g 2) (h3 : d = g 3) (h4 : e = g 4) : ∀ j u, ([a, b, c, d, e] : List Value)[j]? = some u → u = g j := by
  intro j u hu
  match j with
  | 0 => simp at hu; rw [← hu]; exact h0
  | 1 => simp at hu; rw [← hu]; exact h1
  | 2 => simp at hu; rw [← hu]; exact h2
  | 3 => simp at hu; rw [← hu]; exact h3
  | 4 => simp at hu; rw [← hu]; exact h4
  | n + 5 => simp at hu
theorem read_calls {fuel : Nat} {v : Value} {x : DataW H × List MemPlace} (h : DataW.trod enc Tryd.prog w base spare held fuel 22 [v] = some x) : ∃ cs, CallsIn w.heap.size w v cs ∧ ∀ c ∈ cs, okCall c :=
  read_slice callCells_len (by omega) okCall Tryd.underlying22 Tryd.underlying46 (by kernel_rfl) (by kernel_rfl) rfl (fun n g hg => by
    obtain ⟨y0, h0⟩ := hg 0 _ rfl
    obtain ⟨y1, h1⟩ := hg 1 _ rfl
    obtain ⟨y2, h2⟩ := hg 2 _ rfl
    obtain ⟨y3, h3⟩ := hg 3 _ rfl
    obtain ⟨y4, h4⟩ := hg 4 _ rfl
    obtain ⟨a0, e0, -, w0⟩ := DataW.trod_int Tryd.underlying3 h0
    obtain ⟨a1, e1, -, w1⟩ := DataW.trod_int Tryd.underlying3 h1
    obtain ⟨a2, e2, -, w2⟩ := DataW.trod_int Tryd.underlying3 h2
    obtain ⟨a3, e3, -⟩ := DataW.trod_bool Tryd.underlying4 h3
    obtain ⟨a4, e4, -⟩ := DataW.trod_bool Tryd.underlying4 h4
    rw [List.cons.injEq] at e0 e1 e2 e3 e4
    exact ⟨⟨a0, a1, a2, a3, a4⟩, ⟨int_ok w0, int_ok w1, int_ok w2⟩, cells_of5 e0.1.symm e1.1.symm e2.1.symm e3.1.symm e4.1.symm⟩) h
/-- What is known of a message that came in. -/
structure MsgRd (w : World) (m : MsgD) (v : Value) : Prop where
  calls : CallsIn w.heap.size w v m.calls
  ok : OkM m
set_option maxRecDepth 100000 in
theorem read_msg {r : Reach} {b0 : Nat} {v : Value} {d : DataW H} {p : List MemPlace} (hv : Value.okWide Tryd.prog w r b0 24 v) (h : DataW.Trod enc Tryd.prog w base spare held 24 v d p) :
    ∃ (q : MsgD × Value), v = msgV q.1 q.2 ∧ MsgRd w q.1 q.2 := by
  obtain ⟨vs, rfl, hsz⟩ := okWide_struct Tryd.underlying24 hv
  obtain ⟨l⟩ := vs
  obtain ⟨fuel, hf⟩ := h
  obtain ⟨hl, n, hg⟩ := read_struct Tryd.underlying24 (by kernel_rfl) (by kernel_rfl) hf
  match l, hl with
  | [c0, c1, c2, c3, c4, c5, c6, c7, c8, c9, c10, c11, c12], _ =>
    obtain ⟨y0, h0⟩ := hg 0 _ rfl
    obtain ⟨y1, h1⟩ := hg 1 _ rfl
    obtain ⟨y2, h2⟩ := hg 2 _ rfl
    obtain ⟨y3, h3⟩ := hg 3 _ rfl
    obtain ⟨y4, h4⟩ := hg 4 _ rfl
    obtain ⟨y5, h5⟩ := hg 5 _ rfl
    obtain ⟨y6, h6⟩ := hg 6 _ rfl
    obtain ⟨y7, h7⟩ := hg 7 _ rfl
    obtain ⟨y8, h8⟩ := hg 8 _ rfl
    obtain ⟨y9, h9⟩ := hg 9 _ rfl
    obtain ⟨y10, h10⟩ := hg 10 _ rfl
    obtain ⟨y11, h11⟩ := hg 11 _ rfl
    obtain ⟨y12, h12⟩ := hg 12 _ rfl
    obtain ⟨a0, e0, -, w0⟩ := DataW.trod_int Tryd.underlying3 h0
    obtain ⟨a1, e1, -, w1⟩ := DataW.trod_int Tryd.underlying3 h1
    obtain ⟨a2, e2, -, w2⟩ := DataW.trod_int Tryd.underlying3 h2
    obtain ⟨a3, e3, -, w3⟩ := DataW.trod_int Tryd.underlying3 h3
    obtain ⟨a4, e4, -, w4⟩ := DataW.trod_int Tryd.underlying3 h4
    obtain ⟨a5, e5, -, -⟩ := DataW.trod_string Tryd.underlying9 h5
    obtain ⟨a6, e6, -, w6⟩ := DataW.trod_int Tryd.underlying3 h6
    obtain ⟨a7, e7, -, w7⟩ := DataW.trod_int Tryd.underlying3 h7
    obtain ⟨a8, e8, -, w8⟩ := DataW.trod_int Tryd.underlying3 h8
    obtain ⟨a9, e9, -, w9⟩ := DataW.trod_int Tryd.underlying3 h9
    obtain ⟨a10, e10, -, w10⟩ := DataW.trod_int Tryd.underlying3 h10
    obtain ⟨a11, e11, -⟩ := DataW.trod_bool Tryd.underlying4 h11
    obtain ⟨cs, hc, ho⟩ := read_calls h12
    rw [List.cons.injEq] at e0 e1 e2 e3 e4 e5 e6 e7 e8 e9 e10 e11
    obtain rfl : c0 = .int .i64 a0 := e0.1
    obtain rfl : c1 = .int .i64 a1 := e1.1
    obtain rfl : c2 = .int .i64 a2 := e2.1
    obtain rfl : c3 = .int .i64 a3 := e3.1
    obtain rfl : c4 = .int .i64 a4 := e4.1
    obtain rfl : c5 = .string a5 := e5.1
    obtain rfl : c6 = .int .i64 a6 := e6.1
    obtain rfl : c7 = .int .i64 a7 := e7.1
    obtain rfl : c8 = .int .i64 a8 := e8.1
    obtain rfl : c9 = .int .i64 a9 := e9.1
    obtain rfl : c10 = .int .i64 a10 := e10.1
    obtain rfl : c11 = .bool a11 := e11.1
    refine ⟨(⟨a0, a1, a2, a3, a4, a5.data.toList, a6, a7, a8, a9, a10, a11, cs⟩, c12), rfl, hc, ?_⟩
    exact ⟨int_ok w0, int_ok w1, int_ok w2, int_ok w3, int_ok w4, int_ok w6, int_ok w7, int_ok w8, int_ok w9, int_ok w10, ho⟩
end
set_option maxRecDepth 100000 in
theorem words_at {w : World} (h : laidMetH Tryd.prog [("transit/message.words", Rows.laid_transit_message_words)] w) : WordsAt w := by
  rw [MakeChecks.laidMetH_plain _ _ _ (by kernel_rfl)] at h
  obtain ⟨ps, ⟨g, t, cs, fuel, p, q, hg, ht, hv, htr, -, -⟩, -, -⟩ := h
  obtain rfl : g = 0 := Option.some.inj (hg.symm.trans (by kernel_rfl))
  obtain rfl : t = 50 := Option.some.inj (ht.symm.trans (by kernel_rfl))
  obtain ⟨xs, m, -, hx, hl, hn, hi⟩ := DataW.trod_array Tryd.underlying50 htr
  have hc1 : Tryd.prog.cellsOf 9 = 1 := by kernel_rfl
  have hd : xs.map (·.1) = [.lit (.string []), .lit (.string [100, 101, 108, 97, 121]), .lit (.string [99, 97, 110, 99, 101, 108]), .lit (.string [115, 107, 105, 112]), .lit (.string [114, 101, 114, 111, 117, 116, 101]), .lit (.string [97, 100, 100]), .lit (.string [114, 101, 115, 116, 111, 114, 101])] := by
    have := congrArg Prod.fst hx
    simp only [Rows.laid_transit_message_words, DataW.agg.injEq] at this
    exact this.symm
  have hcell : ∀ (i : Nat) (u : Value), cs[i]? = some u → w.cell? ⟨0, i, none⟩ = some u := fun i u hu => by
    simp only [World.var?, hg, Option.bind_some] at hv
    split at hv
    · rename_i c t' fr hb
      simp only [Option.some.injEq] at hv
      subst hv
      rw [cell_of_row w _ i c t' fr hb]
      exact hu
    · cases hv
  have key : ∀ k : Nat, k < 7 → w.cell? ⟨0, k, none⟩ = some (str (wordS k)) := fun k hk => by
    have h1 := hi k hk
    rw [hc1, Nat.mul_one] at h1
    obtain ⟨x, hx2⟩ : ∃ x, xs[k]? = some x := ⟨_, List.getElem?_eq_getElem (by omega)⟩
    rw [hx2] at h1
    obtain ⟨s, hs, hs2, -⟩ := DataW.trod_string Tryd.underlying9 h1
    have hk2 : cs[k]? = some (.string s) := by
      have := congrArg (·[0]?) hs
      simp only [List.getElem?_take, List.getElem?_drop, List.getElem?_cons_zero] at this
      simpa using this
    have hd2 := congrArg (·[k]?) hd
    simp only [List.getElem?_map, hx2, Option.map_some] at hd2
    rw [hcell k _ hk2]
    have key2 : s.data.toList = wordS k → (some (Value.string s) : Option Value) = some (str (wordS k)) := fun e => by
      rw [← e]
    rw [hs2] at hd2
    refine key2 ?_
    obtain rfl | rfl | rfl | rfl | rfl | rfl | rfl : k = 0 ∨ k = 1 ∨ k = 2 ∨ k = 3 ∨ k = 4 ∨ k = 5 ∨ k = 6 := by omega
    all_goals
      injection (Option.some.inj hd2) with e1
      injection e1 with e2
  exact ⟨key, World.block_lt_of_cell? w _ (key 0 (by decide))⟩
theorem laidOut : laidOutB Tryd.prog = true := by kernel_rfl
end Go.Proofs.YthdadalmgldppaaDoor
namespace Go.Proofs.YthdadalmgldppaaDoor.messageFormats
open Go.ChangeShapes Go.WideShapes Go.ChangeAt Go.RowKit
open Go.ChangeMaps (open_string shut_string)
set_option linter.unusedVariables false

def laidL : List (String × DataW Unit) := [("transit/message.words", Rows.laid_transit_message_words)]
theorem own : ownKnob Tryd.prog.godebug = none := by kernel_rfl
theorem laid : laidOutB Tryd.prog = true := by kernel_rfl
theorem int_wf {x : Int} (h : (Lit.int .i64 x).wf = true) : -9223372036854775808 ≤ x ∧ x ≤ 9223372036854775807 := by
  have hmin : IntKind.i64.min = -9223372036854775808 := rfl
  have hmax : IntKind.i64.max = 9223372036854775807 := rfl
  simp only [Lit.wf, Bool.and_eq_true, decide_eq_true_eq] at h
  omega
set_option maxRecDepth 100000 in
theorem lifted (os : Os) (started : os.Started) (H : Type) (enc : TypeId × Value → H) :
    ReturnsInHanded {} Tryd.checked os 4 .any (fun w args => (Rows.messageFormatsSpec.pre enc Tryd.prog Tryd.f4 [] false w args ∧ laidMetH Tryd.prog laidL w) ∧ sizedMet enc Tryd.prog Tryd.f4 (OpenSpec.ofChange Rows.messageFormatsSpec) false w args) (Rows.messageFormatsSpec.post enc Tryd.prog Tryd.f4 false true false false) := by
  refine handed_laid (C := Tryd.checked) (X := fun w _ => laidMetH Tryd.prog laidL w) (fun _ _ _ hh h => h.of_heap hh) own started (by kernel_rfl) Tryd.func4
    (ChangeSpec.witness_shaped (enc := enc) (C := Tryd.checked) (os := os) (X := fun w _ => laidMetH Tryd.prog laidL w) false (World.laidAll Tryd.prog os laidL) #[.agg #[.int .i64 0, .int .i64 0, .int .i64 0, .int .i64 0, .int .i64 0, .string ByteArray.empty, .int .i64 0, .int .i64 0, .int .i64 0, .int .i64 0, .int .i64 0, .bool false, .slice none 0 0]] 8 (World.laidAll_os _ _ _)
      (World.shaped_of_ZipB (by kernel_rfl) (by kernel_rfl)) (by kernel_rfl) (by kernel_rfl) (by kernel_rfl)
      (by rw [MakeChecks.laidMetH_plain _ _ _ (by kernel_rfl)]; exact laidMet_laidAll _ (by kernel_rfl) (by kernel_rfl))) ?_
  intro W base args ds gs before hval0 hW hsz hlaid hsh _
  have hwords := words_at hlaid
  have hval : ∀ (j : Nat) t v, Tryd.f4.params[j]? = some t → args[j]? = some v → Value.okWide Tryd.prog W .any base t v := hval0
  have hW' := hW
  obtain ⟨p, q, hA0, hV, rfl, hfz, hnd⟩ := hW
  have hA : DataW.TrodAll enc Tryd.prog W 0 (fun _ => true) true Tryd.f4.params.toList args.toList ds p := hA0
  rw [Tryd.params4] at hA hval
  obtain ⟨v0, vs0, d0, ds0, p0, q0, hargs, rfl, rfl, h0, t0⟩ := trodAll_cons hA
  obtain ⟨rfl, rfl, rfl⟩ := trodAll_nil t0
  obtain rfl : args = #[v0] := by cases args; simp_all
  obtain ⟨rfl, rfl⟩ := trodVars_none hV
  have h0k := h0
  obtain ⟨a0, rfl, r0⟩ := read_msg (hval 0 24 v0 rfl rfl) h0
  clear hA0 hval0
  simp only [List.append_nil] at hW'
  have hlt : ∀ x ∈ p0, x.block < W.heap.size := fun x hx => by simpa using hW'.lt x hx
  refine (formats_law a0.1 a0.2 r0.ok W.heap.size W hwords r0.calls (Nat.le_refl _)).mono fun e W' ⟨he, bel⟩ => ?_
  subst he
  exact ⟨_, rfl, _, _, _, [], p0 ++ [], [], hW', trodAll_cons_mk (shut_bool Tryd.underlying4 _) trodAll_mk0, (trodAll_cons_mk (Below.trod laid (by kernel_rfl) (of_decide_eq_true (by kernel_rfl)) h0k bel (fun x hx => hlt x (by simp [hx]))) trodAll_mk0), rfl, bel.frame _, fun h => by cases h⟩

theorem over : Rows.messageFormatsRow.holds Tryd.pinned (OpenSpec.ofChange Rows.messageFormatsSpec) :=
  OpenClaim.holds_of_wide 4 Tryd.f4 rfl rfl rfl rfl rfl rfl rfl ⟨rfl, rfl, rfl, rfl, rfl⟩ rfl rfl rfl rfl rfl (by kernel_rfl) Tryd.func4 (by kernel_rfl)
    (of_decide_eq_true (by kernel_rfl)) (by unfold Func.isWrapper; first | (rw [if_pos (by decide +kernel)]; kernel_rfl) | (rw [if_neg (by decide +kernel)]; exact ⟨rfl, rfl⟩))
    (fun os started H enc _ => lifted os started H enc)

/-- The given statement: the tied card. -/
theorem proved : Rows.MessageFormatsCardSaid :=
  Claim7.holds_tied_plain_at .later [] [.data] true (true, "fbb44d5942b7ac535924e88c01e70e048e1847d501acc9bdce1d2807e07517d4") false over (fun _ h => by cases h) (by kernel_rfl) (fun _ h => by cases h) messageFormats_row_tie rfl ⟨rfl, rfl⟩ (by kernel_rfl) rfl
    (fun f fn hf hfn => by
      obtain rfl : f = 4 := Option.some.inj ((show Tryd.prog.funcNamed "transit/transitlaw31.MessageFormats" = some 4 by kernel_rfl).symm.trans hf) |>.symm
      obtain rfl : fn = Tryd.f4 := (Option.some.inj (Tryd.func4.symm.trans hfn)).symm
      exact ⟨by kernel_rfl, fun j t ht => by
        rw [Tryd.params4] at ht
        have hm : t ∈ [24] := by simpa using Array.mem_of_getElem? ht
        have hall : ([24].all fun u => !Tryd.prog.wantsStandIn u) = true := by kernel_rfl
        exact (show Tryd.prog.wantsStandIn t = false by simpa using List.all_eq_true.1 hall t hm)⟩)
    (by kernel_rfl)
#print axioms proved
end Go.Proofs.YthdadalmgldppaaDoor.messageFormats
