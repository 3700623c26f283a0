/-
  THE CONTRACTS OF MESSAGE, PART V: flags, CallField, Words of the reference. Conditions: those of each contract.
  THE CONTRACTS OF MESSAGE, PART Z: the reader of the reference: kind, counts, number, call. Conditions: those of each contract.
  THE CONTRACTS OF MESSAGE, NINTH PART: Check of the reference. Conditions: those of each contract.
-/
import Derived.Test.YthdadalmgldppaaDoorMsgWalksK
import Derived.Test.YthdadalmgldppaaDoorMsgMT
import Derived.RegionTactic
import Derived.BigRegion
import Derived.Test.YthdadalmgldppaaDoorMsgWalksH
namespace Go.Proofs.YthdadalmgldppaaDoor
open Go.RowKit
open Msg Num Fld Dat

theorem rflags_c (c : CallD) (w : World) :
    Calls Tryd.prog 86 #[callV c] w fun e w' => e = .returned (str (permS c)) ∧ Bl w w' := by
  obtain ⟨s, a, d, b, al⟩ := c
  cases b <;> cases al
  all_goals
    go_enter Tryd.func86, Tryd.ntmps86
    go_wp2
    go_ret
    exact ⟨rfl, bl_alloc (bl_refl _) _⟩
theorem rwords_c (w : World) :
    Calls Tryd.prog 61 #[] w fun e w' => e = .returned (.slice (some ⟨w.heap.size, 0, none⟩) 6 6) ∧ w' = w.alloc (.cells #[str wDelay, str wCancel, str wSkip, str wReroute, str wAdd, str wRestore] 9) := by
  go_enter Tryd.func61, Tryd.ntmps61
  go_wp2
  go_ret
  exact ⟨rfl, rfl⟩
set_option maxRecDepth 20000 in
set_option maxHeartbeats 4000000 in
theorem rcallField_c (c : CallD) (hok : Hid (okCall c)) (w : World) :
    Calls Tryd.prog 62 #[callV c] w fun e w' => e = .returned (str (callText c)) ∧ Bl w w' := by
  have HT := Lib.hid (show callText c = itoa c.stop ++ ([32] ++ (itoa c.arrive ++ ([32] ++ (itoa c.depart ++ ([32] ++ permS c))))) by simp [callText])
  have f0 := fun w => Nu.refFormat_c c.stop hok.out.1.1 hok.out.1.2 w
  have f1 := fun w => Nu.refFormat_c c.arrive hok.out.2.1.1 hok.out.2.1.2 w
  have f2 := fun w => Nu.refFormat_c c.depart hok.out.2.2.1 hok.out.2.2.2 w
  have ff := fun w => rflags_c c w
  have l0 := itoa_len hok.out.1.1 hok.out.1.2
  have l1 := itoa_len hok.out.2.1.1 hok.out.2.1.2
  have l2 := itoa_len hok.out.2.2.1 hok.out.2.2.2
  have l3 : (permS c).length ≤ 6 := by
    unfold permS
    repeat' split
    all_goals decide
  obtain ⟨q0, h0⟩ : ∃ q, itoa c.stop = q := ⟨_, rfl⟩
  obtain ⟨q1, h1⟩ : ∃ q, itoa c.arrive = q := ⟨_, rfl⟩
  obtain ⟨q2, h2⟩ : ∃ q, itoa c.depart = q := ⟨_, rfl⟩
  obtain ⟨q3, h3⟩ : ∃ q, permS c = q := ⟨_, rfl⟩
  rw [h0, h1, h2, h3] at HT
  rw [h0] at f0 l0
  rw [h1] at f1 l1
  rw [h2] at f2 l2
  rw [h3] at ff l3
  clear h0 h1 h2 h3
  have hb : ∀ w', Bl (w.alloc (.cells #[.int .i64 c.stop, .int .i64 c.arrive, .int .i64 c.depart, .bool c.board, .bool c.alight] 46)) w' → (w'.cell? ⟨w.heap.size, 0, none⟩ = some (.int .i64 c.stop) ∧ w'.cell? ⟨w.heap.size, 1, none⟩ = some (.int .i64 c.arrive) ∧ w'.cell? ⟨w.heap.size, 2, none⟩ = some (.int .i64 c.depart) ∧ w'.cell? ⟨w.heap.size, 3, none⟩ = some (.bool c.board) ∧ w'.cell? ⟨w.heap.size, 4, none⟩ = some (.bool c.alight)) := fun w' h => by
    have k := blk_bl (heap_alloc_new w (.cells #[.int .i64 c.stop, .int .i64 c.arrive, .int .i64 c.depart, .bool c.board, .bool c.alight] 46)) h
    exact ⟨blk_cell k 0 _ rfl, blk_cell k 1 _ rfl, blk_cell k 2 _ rfl, blk_cell k 3 _ rfl, blk_cell k 4 _ rfl⟩
  have h0 := bl_alloc (bl_refl w) (.cells #[.int .i64 c.stop, .int .i64 c.arrive, .int .i64 c.depart, .bool c.board, .bool c.alight] 46)
  have HH := Lib.hid h0
  clear h0
  have z0 : ¬ 9223372036854775807 < q0.length + 1 := by omega
  have z1 : ¬ 9223372036854775807 < q0.length + 1 + q1.length := by omega
  have z2 : ¬ 9223372036854775807 < q0.length + 1 + q1.length + 1 := by omega
  have z3 : ¬ 9223372036854775807 < q0.length + 1 + q1.length + 1 + q2.length := by omega
  have z4 : ¬ 9223372036854775807 < q0.length + 1 + q1.length + 1 + q2.length + 1 := by omega
  have z5 : ¬ 9223372036854775807 < q0.length + 1 + q1.length + 1 + q2.length + 1 + q3.length := by omega
  go_enter Tryd.func62, Tryd.ntmps62
  go_wp2_with fail
  change Code.wp _ _ _ _ (w.alloc (.cells #[.int .i64 c.stop, .int .i64 c.arrive, .int .i64 c.depart, .bool c.board, .bool c.alight] 46))
  generalize w.alloc (.cells #[.int .i64 c.stop, .int .i64 c.arrive, .int .i64 c.depart, .bool c.board, .bool c.alight] 46) = W at hb HH ⊢
  obtain ⟨p0, p1, p2, p3, p4⟩ := hb W (bl_refl W)
  go_region_held3 (fun w' => w'.cell? ⟨w.heap.size, 0, none⟩ = some (.int .i64 c.stop) ∧ w'.cell? ⟨w.heap.size, 1, none⟩ = some (.int .i64 c.arrive) ∧ w'.cell? ⟨w.heap.size, 2, none⟩ = some (.int .i64 c.depart) ∧ w'.cell? ⟨w.heap.size, 3, none⟩ = some (.bool c.board) ∧ w'.cell? ⟨w.heap.size, 4, none⟩ = some (.bool c.alight))
    (first | exact hb _ (bl_drew (bl_refl W)) | exact hb _ (bl_next (bl_drew (bl_refl W)) b4))
    (first
      | (go_at_call 60; with_reducible (refine (f0 _).mono ?_); rintro y1 w1 ⟨rfl, rfl⟩)
      | (go_at_call 60; with_reducible (refine (f1 _).mono ?_); rintro y2 w2 ⟨rfl, rfl⟩)
      | (go_at_call 60; with_reducible (refine (f2 _).mono ?_); rintro y3 w3 ⟨rfl, rfl⟩)
      | (go_at_call 86; refine (ff _).mono ?_; rintro y4 w4 ⟨rfl, b4⟩))
  go_wp2
  go_ret
  refine ⟨?_, bl_next HH.out (bl_next (bl_drew (bl_refl W)) b4)⟩
  show Ending.returned (.string ((⟨q0.toArray⟩ : ByteArray) ++ ⟨[32].toArray⟩ ++ ⟨q1.toArray⟩ ++ ⟨[32].toArray⟩ ++ ⟨q2.toArray⟩ ++ ⟨[32].toArray⟩ ++ ⟨q3.toArray⟩)) = _
  refine congrArg (fun x => Ending.returned (Value.string x)) ?_
  rw [bytes_add, bytes_add, bytes_add, bytes_add, bytes_add, bytes_add, HT.out]
  simp only [List.append_assoc]
end Go.Proofs.YthdadalmgldppaaDoor
namespace Go.Proofs.YthdadalmgldppaaDoor
open Go.RowKit
open Msg Num Fld Dat

theorem kindOf_none {s : List UInt8} (h : ∀ t : Nat, t < 6 → (wordS ((t : Int) + 1) == s) = false) : kindOf s = 0 := by
  have h0 : (wDelay == s) = false := h 0 (by decide)
  have h1 : (wCancel == s) = false := h 1 (by decide)
  have h2 : (wSkip == s) = false := h 2 (by decide)
  have h3 : (wReroute == s) = false := h 3 (by decide)
  have h4 : (wAdd == s) = false := h 4 (by decide)
  have h5 : (wRestore == s) = false := h 5 (by decide)
  have k : ∀ (w : List UInt8), (w == s) = false → ¬ s = w := fun w e f => by rw [f] at e; simp at e
  unfold kindOf
  rw [if_neg (k _ h0), if_neg (k _ h1), if_neg (k _ h2), if_neg (k _ h3), if_neg (k _ h4), if_neg (k _ h5)]
theorem word_cellZ (X : World) (j : Nat) (h : j < 6) : (X.alloc (.cells #[str wDelay, str wCancel, str wSkip, str wReroute, str wAdd, str wRestore] 9)).cell? ⟨X.heap.size, j, none⟩ = some (str (wordS ((j : Int) + 1))) := by
  rw [World.cell?_alloc_at (hn := rfl)]
  have : j = 0 ∨ j = 1 ∨ j = 2 ∨ j = 3 ∨ j = 4 ∨ j = 5 := by omega
  rcases this with rfl | rfl | rfl | rfl | rfl | rfl <;> rfl
set_option maxHeartbeats 1000000 in
theorem rkind_c (s : List UInt8) (k : Int) (H : Hid (kindOf s = k)) (w : World) :
    Calls Tryd.prog 44 #[str s] w fun q w' => q = .returned (.int .i64 k) ∧ Bl w w' := by
  go_enter Tryd.func44, Tryd.ntmps44
  go_wp2
  go_loopw [3] (fun i wr => ∃ j : Nat, j ≤ 6 ∧ i = .int .i64 j ∧ Hid (∀ t : Nat, t < j → (wordS ((t : Int) + 1) == s) = false) ∧ Hid (Bl w wr)) (fun i _ => 6 - (intOf i).toNat)
  case atStart => exact ⟨0, by omega, rfl, fun t h => by omega, bl_refl _⟩
  case round =>
    obtain ⟨j, hj, rfl, HN, HB⟩ := hrel
    by_cases hlt : j < 6
    · have cw := word_cellZ wr j hlt
      have i1 : (j : Int) < 6 := by omega
      have HX := Lib.hid (rfl : wordS ((j : Int) + 1) = wordS ((j : Int) + 1))
      generalize hq : wordS ((j : Int) + 1) = q at cw
      have HQ := Lib.hid hq
      clear hq
      cases he : (q == s) with
      | true =>
        have HK := Lib.hid (show (j : Int) + 1 = k by
          rw [← H.out, ← (beq_iff_eq.1 he), ← HQ.out]
          exact (kind_word (by omega)).symm)
        go_wp2_with (go_at_call 61; refine (rwords_c _).mono ?_; rintro e w' ⟨rfl, rfl⟩)
        go_ret
        exact ⟨ret_int HK.out, bl_alloc HB.out _⟩
      | false =>
        have HN2 := Lib.hid (show ∀ t : Nat, t < j + 1 → (wordS ((t : Int) + 1) == s) = false from fun t ht => by
          by_cases e : t = j
          · rw [e, HQ.out, he]
          · exact HN.out t (by omega))
        go_wp2_with (go_at_call 61; refine (rwords_c _).mono ?_; rintro e w' ⟨rfl, rfl⟩)
        go_roundw
        case rel => exact ⟨j + 1, by omega, by go_num, HN2, bl_alloc HB.out _⟩
        case measure => simp [intOf]; omega
    · have HK := Lib.hid (show (0 : Int) = k by rw [← H.out, kindOf_none (fun t ht => HN.out t (by omega))])
      go_wp2
      go_ret
      exact ⟨ret_int HK.out, HB.out⟩
theorem rcounts_c (k : Int) (n : Nat) (r : Bool) (H : Hid ((if 1 ≤ k ∧ k ≤ 6 then shapedN k n else false) = r)) (w : World) :
    Calls Tryd.prog 43 #[.int .i64 k, .int .i64 n] w fun q w' => q = .returned (.bool r) ∧ w = w' := by
  go_enter Tryd.func43, Tryd.ntmps43
  go_wp2
  all_goals
    go_ret
    refine ⟨ret_bool ?_, rfl⟩
    rw [← H.out]
    unfold shapedN
    try simp_all
    try first
      | omega
      | (rw [Bool.eq_iff_iff, beq_iff_eq, beq_iff_eq]; omega)
/-- The reader's one cell. -/
def RdAt (g : Nat) (e : Int) (w : World) : Prop := w.heap[g]? = some (.cells #[.int .i64 e] 71 (0, 0))
theorem RdAt.lt {g : Nat} {e : Int} {w : World} (h : RdAt g e w) : g < w.heap.size := lt_of_block h
theorem RdAt.cell {g : Nat} {e : Int} {w : World} (h : RdAt g e w) : w.cell? ⟨g, 0, none⟩ = some (.int .i64 e) := blk_cell h 0 _ rfl
theorem RdAt.free {g : Nat} {e : Int} {w : World} (h : RdAt g e w) : w.frozen? ⟨g, 0, none⟩ = false := Lib.frozen_of_heap h 0
theorem rd_set {g : Nat} {e e2 : Int} {w : World} (h : RdAt g e w) : RdAt g e2 (w.setCell ⟨g, 0, none⟩ (.int .i64 e2)) := blk_set h 0 _
/-- What a number that is read says: the error is kept; without one the number is right. -/
def NumRd (x : List UInt8) (e : Int) (g : Nat) (w : World) (q : Ending) (w' : World) : Prop := ∃ n e2 : Int, q = .returned (.int .i64 n) ∧ RdAt g e2 w' ∧ e2 = fe e (parse x).2 ∧ (e2 = 0 → n = (parse x).1) ∧ Gr g w w'
set_option maxHeartbeats 1000000 in
theorem rnumber_c (g : Nat) (e : Int) (x : List UInt8) (hx : x.length ≤ 9223372036854775807) (w : World) (h : RdAt g e w) :
    Calls Tryd.prog 45 #[.pointer (some ⟨g, 0, none⟩), str x] w (NumRd x e g w) := by
  have hp := fun w => Nu.refParse_c ⟨x.toArray⟩ (parse x).1 (parse x).2 (by show parse x.toArray.toList = _; rfl) (by show x.toArray.size ≤ _; rw [List.size_toArray]; unfold maxLen; omega) w
  have c0 := h.cell
  have f0 := h.free
  have HR := Lib.hid h
  obtain ⟨n, hn⟩ : ∃ n, (parse x).1 = n := ⟨_, rfl⟩
  obtain ⟨e2, he2⟩ : ∃ e2, (parse x).2 = e2 := ⟨_, rfl⟩
  rw [hn, he2] at hp
  have HN := Lib.hid hn
  have HE2 := Lib.hid he2
  clear hn he2 h
  by_cases he : e = 0
  · subst he
    go_enter Tryd.func45, Tryd.ntmps45
    go_wp2_with (go_at_call 71; refine (hp _).mono ?_; rintro y1 w1 ⟨rfl, rfl⟩)
    go_ret
    exact ⟨n, e2, rfl, rd_set HR.out, by rw [HE2.out]; rfl, fun _ => HN.out.symm, gr_set g _ 0 _⟩
  · go_enter Tryd.func45, Tryd.ntmps45
    go_wp2
    go_ret
    exact ⟨0, e, rfl, HR.out, by unfold fe; rw [if_neg he], fun k => absurd k he, gr_refl g w⟩
/-- What is said of a call's field. -/
def CallRd (s : List UInt8) (w : World) (q : Ending) (w' : World) : Prop := ∃ c : CallD, q = .returned (.tuple #[callV c, .int .i64 (firstE (readCall s).2)]) ∧ (firstE (readCall s).2 = 0 → c = (readCall s).1) ∧ Bl w w'
theorem bl5 {w a : World} (h : Bl w a) {r : Nat} (hr : w.heap.size ≤ r) {v0 v1 v2 v3 v4 : Value} : Bl w (put5 a r v0 v1 v2 v3 v4) :=
  bl_set (bl_set (bl_set (bl_set (bl_set h hr _) hr _) hr _) hr _) hr _
set_option maxRecDepth 20000 in
set_option maxHeartbeats 8000000 in
theorem rcall_wBoth (x a b d : List UInt8) (hx : x.length ≤ 131072) (HL : Hid (splitL 32 x = [a, b, d, [98, 111, 116, 104]])) (w : World) :
    Calls Tryd.prog 47 #[str x] w (CallRd x w) := by
  have hp := fun w => rparts_c ⟨x.toArray⟩ (by show x.toArray.size ≤ _; rw [List.size_toArray]; omega) _ (by show _ = _; exact HL.out) w
  have hlen := splitL_lens HL.out
  have hla : a.length ≤ 9223372036854775807 := by have := hlen a (by simp); omega
  have hlb : b.length ≤ 9223372036854775807 := by have := hlen b (by simp); omega
  have hld : d.length ≤ 9223372036854775807 := by have := hlen d (by simp); omega
  clear hlen
  obtain ⟨⟨na, ea⟩, HA⟩ : ∃ p, Hid (parse a = p) := ⟨_, rfl⟩
  obtain ⟨⟨nb, eb⟩, HBB⟩ : ∃ p, Hid (parse b = p) := ⟨_, rfl⟩
  obtain ⟨⟨nd, ed⟩, HD⟩ : ∃ p, Hid (parse d = p) := ⟨_, rfl⟩
  have pca := fun w => Nu.refParse_c ⟨a.toArray⟩ na ea HA (by show a.toArray.size ≤ _; rw [List.size_toArray]; unfold maxLen; omega) w
  have pcb := fun w => Nu.refParse_c ⟨b.toArray⟩ nb eb HBB (by show b.toArray.size ≤ _; rw [List.size_toArray]; unfold maxLen; omega) w
  have pcd := fun w => Nu.refParse_c ⟨d.toArray⟩ nd ed HD (by show d.toArray.size ≤ _; rw [List.size_toArray]; unfold maxLen; omega) w
  have HRC := Lib.hid (show readCall x = (⟨na, nb, nd, true, true⟩, [0, ea, eb, ed]) by
    unfold readCall; rw [HL.out]; simp only; rw [show bitsOf [98, 111, 116, 104] = some (true, true) from by decide, HA.out, HBB.out, HD.out]; rfl)
  go_enter Tryd.func47, Tryd.ntmps47
  go_wp2_with (go_at_call 75; refine (hp _).mono ?_)
  rintro q1 w1 ⟨v1, rfl, o1, b1⟩
  obtain ⟨pb, po, pc, rfl, l1, l2, l3, hc⟩ := (ownS_in o1).open (by simp)
  have x0 : w1.cell? ⟨pb, po, none⟩ = some (str a) := hc 0 _ rfl 0 _ rfl
  have x1 : w1.cell? ⟨pb, po + 1, none⟩ = some (str b) := hc 1 _ rfl 0 _ rfl
  have x2 : w1.cell? ⟨pb, po + 2, none⟩ = some (str d) := hc 2 _ rfl 0 _ rfl
  have x3 : w1.cell? ⟨pb, po + 3, none⟩ = some (str [98, 111, 116, 104]) := hc 3 _ rfl 0 _ rfl
  have hs1 : w.heap.size < w1.heap.size := by have := b1.size; simp at this; omega
  have R1 := Lib.hid (blk_bl (heap_alloc_new w _) b1)
  have B1 := Lib.hid (bl_next (bl_alloc (bl_refl w) _) b1)
  have rf := Lib.frozen_of_heap R1.out
  have j0 := blk_cell R1.out 0 _ rfl
  have j1 := blk_cell R1.out 1 _ rfl
  have j2 := blk_cell R1.out 2 _ rfl
  have j3 := blk_cell R1.out 3 _ rfl
  have j4 := blk_cell R1.out 4 _ rfl
  clear hc o1 b1 hp
  by_cases hea : ea = 0
  · subst hea
    by_cases heb : eb = 0
    · subst heb
      by_cases hed : ed = 0
      · subst hed
        go_wp2_with fail
        refine wp_loop_rounds 4 ?_
        rw [rounds_succ]
        go_wp2_with (go_at_call 71; refine (pca _).mono ?_; rintro ya ua ⟨rfl, rfl⟩)
        rw [rounds_succ]
        go_wp2_with (go_at_call 71; refine (pcb _).mono ?_; rintro yb ub ⟨rfl, rfl⟩)
        rw [rounds_succ]
        go_wp2_with (go_at_call 71; refine (pcd _).mono ?_; rintro yd ud ⟨rfl, rfl⟩)
        rw [rounds_succ]
        go_wp2_with fail
        have HE := Lib.hid (show firstE (readCall x).2 = 0 by rw [HRC.out]; rfl)
        go_region
        all_goals
          go_wp2_with fail
          refine bodyPost_ret (results_cell_slot rfl _ _ w.heap.size 46 _ (0, 0) _ _ rfl rfl (blk_bl (store5 R1.out) (bl_drew (bl_alloc (bl_refl _) _))) Tryd.underlying46 rfl (by kernel_rfl)) rfl ?_
          exact ⟨⟨na, nb, nd, true, true⟩, by first | (rw [HE.out]; rfl) | rw [HE.out], fun _ => by rw [HRC.out], bl_drew (bl_alloc (bl5 B1.out (Nat.le_refl _)) _)⟩
      · have ned : (ed == 0) = false := by simpa using hed
        have HE := Lib.hid (show firstE (readCall x).2 = ed by rw [HRC.out]; simp [firstE, hed])
        have HNZ := Lib.hid hed
        clear hed
        go_wp2_with fail
        refine wp_loop_rounds 4 ?_
        rw [rounds_succ]
        go_wp2_with (go_at_call 71; refine (pca _).mono ?_; rintro ya ua ⟨rfl, rfl⟩)
        rw [rounds_succ]
        go_wp2_with (go_at_call 71; refine (pcb _).mono ?_; rintro yb ub ⟨rfl, rfl⟩)
        rw [rounds_succ]
        go_wp2_with (go_at_call 71; refine (pcd _).mono ?_; rintro yd ud ⟨rfl, rfl⟩)
        refine bodyPost_ret (results_cell_slot rfl _ _ w.heap.size 46 _ (0, 0) _ _ rfl rfl (blk_bl (store5 R1.out) (bl_alloc (bl_refl _) _)) Tryd.underlying46 rfl (by kernel_rfl)) rfl ?_
        exact ⟨⟨0, 0, 0, false, false⟩, by first | (rw [HE.out]; rfl) | rw [HE.out], fun k => absurd (HE.out.symm.trans k) HNZ.out, bl_alloc (bl5 B1.out (Nat.le_refl _)) _⟩
    · have neb : (eb == 0) = false := by simpa using heb
      have HE := Lib.hid (show firstE (readCall x).2 = eb by rw [HRC.out]; simp [firstE, heb])
      have HNZ := Lib.hid heb
      clear heb
      go_wp2_with fail
      refine wp_loop_rounds 4 ?_
      rw [rounds_succ]
      go_wp2_with (go_at_call 71; refine (pca _).mono ?_; rintro ya ua ⟨rfl, rfl⟩)
      rw [rounds_succ]
      go_wp2_with (go_at_call 71; refine (pcb _).mono ?_; rintro yb ub ⟨rfl, rfl⟩)
      refine bodyPost_ret (results_cell_slot rfl _ _ w.heap.size 46 _ (0, 0) _ _ rfl rfl (blk_bl (store5 R1.out) (bl_alloc (bl_refl _) _)) Tryd.underlying46 rfl (by kernel_rfl)) rfl ?_
      exact ⟨⟨0, 0, 0, false, false⟩, by first | (rw [HE.out]; rfl) | rw [HE.out], fun k => absurd (HE.out.symm.trans k) HNZ.out, bl_alloc (bl5 B1.out (Nat.le_refl _)) _⟩
  · have nea : (ea == 0) = false := by simpa using hea
    have HE := Lib.hid (show firstE (readCall x).2 = ea by rw [HRC.out]; simp [firstE, hea])
    have HNZ := Lib.hid hea
    clear hea
    go_wp2_with fail
    refine wp_loop_rounds 4 ?_
    rw [rounds_succ]
    go_wp2_with (go_at_call 71; refine (pca _).mono ?_; rintro ya ua ⟨rfl, rfl⟩)
    refine bodyPost_ret (results_cell_slot rfl _ _ w.heap.size 46 _ (0, 0) _ _ rfl rfl (blk_bl (store5 R1.out) (bl_alloc (bl_refl _) _)) Tryd.underlying46 rfl (by kernel_rfl)) rfl ?_
    exact ⟨⟨0, 0, 0, false, false⟩, by first | (rw [HE.out]; rfl) | rw [HE.out], fun k => absurd (HE.out.symm.trans k) HNZ.out, bl_alloc (bl5 B1.out (Nat.le_refl _)) _⟩
set_option maxRecDepth 20000 in
set_option maxHeartbeats 8000000 in
theorem rcall_wBoard (x a b d : List UInt8) (hx : x.length ≤ 131072) (HL : Hid (splitL 32 x = [a, b, d, [98, 111, 97, 114, 100]])) (w : World) :
    Calls Tryd.prog 47 #[str x] w (CallRd x w) := by
  have hp := fun w => rparts_c ⟨x.toArray⟩ (by show x.toArray.size ≤ _; rw [List.size_toArray]; omega) _ (by show _ = _; exact HL.out) w
  have hlen := splitL_lens HL.out
  have hla : a.length ≤ 9223372036854775807 := by have := hlen a (by simp); omega
  have hlb : b.length ≤ 9223372036854775807 := by have := hlen b (by simp); omega
  have hld : d.length ≤ 9223372036854775807 := by have := hlen d (by simp); omega
  clear hlen
  obtain ⟨⟨na, ea⟩, HA⟩ : ∃ p, Hid (parse a = p) := ⟨_, rfl⟩
  obtain ⟨⟨nb, eb⟩, HBB⟩ : ∃ p, Hid (parse b = p) := ⟨_, rfl⟩
  obtain ⟨⟨nd, ed⟩, HD⟩ : ∃ p, Hid (parse d = p) := ⟨_, rfl⟩
  have pca := fun w => Nu.refParse_c ⟨a.toArray⟩ na ea HA (by show a.toArray.size ≤ _; rw [List.size_toArray]; unfold maxLen; omega) w
  have pcb := fun w => Nu.refParse_c ⟨b.toArray⟩ nb eb HBB (by show b.toArray.size ≤ _; rw [List.size_toArray]; unfold maxLen; omega) w
  have pcd := fun w => Nu.refParse_c ⟨d.toArray⟩ nd ed HD (by show d.toArray.size ≤ _; rw [List.size_toArray]; unfold maxLen; omega) w
  have HRC := Lib.hid (show readCall x = (⟨na, nb, nd, true, false⟩, [0, ea, eb, ed]) by
    unfold readCall; rw [HL.out]; simp only; rw [show bitsOf [98, 111, 97, 114, 100] = some (true, false) from by decide, HA.out, HBB.out, HD.out]; rfl)
  go_enter Tryd.func47, Tryd.ntmps47
  go_wp2_with (go_at_call 75; refine (hp _).mono ?_)
  rintro q1 w1 ⟨v1, rfl, o1, b1⟩
  obtain ⟨pb, po, pc, rfl, l1, l2, l3, hc⟩ := (ownS_in o1).open (by simp)
  have x0 : w1.cell? ⟨pb, po, none⟩ = some (str a) := hc 0 _ rfl 0 _ rfl
  have x1 : w1.cell? ⟨pb, po + 1, none⟩ = some (str b) := hc 1 _ rfl 0 _ rfl
  have x2 : w1.cell? ⟨pb, po + 2, none⟩ = some (str d) := hc 2 _ rfl 0 _ rfl
  have x3 : w1.cell? ⟨pb, po + 3, none⟩ = some (str [98, 111, 97, 114, 100]) := hc 3 _ rfl 0 _ rfl
  have hs1 : w.heap.size < w1.heap.size := by have := b1.size; simp at this; omega
  have R1 := Lib.hid (blk_bl (heap_alloc_new w _) b1)
  have B1 := Lib.hid (bl_next (bl_alloc (bl_refl w) _) b1)
  have rf := Lib.frozen_of_heap R1.out
  have j0 := blk_cell R1.out 0 _ rfl
  have j1 := blk_cell R1.out 1 _ rfl
  have j2 := blk_cell R1.out 2 _ rfl
  have j3 := blk_cell R1.out 3 _ rfl
  have j4 := blk_cell R1.out 4 _ rfl
  clear hc o1 b1 hp
  by_cases hea : ea = 0
  · subst hea
    by_cases heb : eb = 0
    · subst heb
      by_cases hed : ed = 0
      · subst hed
        go_wp2_with fail
        refine wp_loop_rounds 4 ?_
        rw [rounds_succ]
        go_wp2_with (go_at_call 71; refine (pca _).mono ?_; rintro ya ua ⟨rfl, rfl⟩)
        rw [rounds_succ]
        go_wp2_with (go_at_call 71; refine (pcb _).mono ?_; rintro yb ub ⟨rfl, rfl⟩)
        rw [rounds_succ]
        go_wp2_with (go_at_call 71; refine (pcd _).mono ?_; rintro yd ud ⟨rfl, rfl⟩)
        rw [rounds_succ]
        go_wp2_with fail
        have HE := Lib.hid (show firstE (readCall x).2 = 0 by rw [HRC.out]; rfl)
        go_region
        all_goals
          go_wp2_with fail
          refine bodyPost_ret (results_cell_slot rfl _ _ w.heap.size 46 _ (0, 0) _ _ rfl rfl (blk_bl (store5 R1.out) (bl_drew (bl_alloc (bl_refl _) _))) Tryd.underlying46 rfl (by kernel_rfl)) rfl ?_
          exact ⟨⟨na, nb, nd, true, false⟩, by first | (rw [HE.out]; rfl) | rw [HE.out], fun _ => by rw [HRC.out], bl_drew (bl_alloc (bl5 B1.out (Nat.le_refl _)) _)⟩
      · have ned : (ed == 0) = false := by simpa using hed
        have HE := Lib.hid (show firstE (readCall x).2 = ed by rw [HRC.out]; simp [firstE, hed])
        have HNZ := Lib.hid hed
        clear hed
        go_wp2_with fail
        refine wp_loop_rounds 4 ?_
        rw [rounds_succ]
        go_wp2_with (go_at_call 71; refine (pca _).mono ?_; rintro ya ua ⟨rfl, rfl⟩)
        rw [rounds_succ]
        go_wp2_with (go_at_call 71; refine (pcb _).mono ?_; rintro yb ub ⟨rfl, rfl⟩)
        rw [rounds_succ]
        go_wp2_with (go_at_call 71; refine (pcd _).mono ?_; rintro yd ud ⟨rfl, rfl⟩)
        refine bodyPost_ret (results_cell_slot rfl _ _ w.heap.size 46 _ (0, 0) _ _ rfl rfl (blk_bl (store5 R1.out) (bl_alloc (bl_refl _) _)) Tryd.underlying46 rfl (by kernel_rfl)) rfl ?_
        exact ⟨⟨0, 0, 0, false, false⟩, by first | (rw [HE.out]; rfl) | rw [HE.out], fun k => absurd (HE.out.symm.trans k) HNZ.out, bl_alloc (bl5 B1.out (Nat.le_refl _)) _⟩
    · have neb : (eb == 0) = false := by simpa using heb
      have HE := Lib.hid (show firstE (readCall x).2 = eb by rw [HRC.out]; simp [firstE, heb])
      have HNZ := Lib.hid heb
      clear heb
      go_wp2_with fail
      refine wp_loop_rounds 4 ?_
      rw [rounds_succ]
      go_wp2_with (go_at_call 71; refine (pca _).mono ?_; rintro ya ua ⟨rfl, rfl⟩)
      rw [rounds_succ]
      go_wp2_with (go_at_call 71; refine (pcb _).mono ?_; rintro yb ub ⟨rfl, rfl⟩)
      refine bodyPost_ret (results_cell_slot rfl _ _ w.heap.size 46 _ (0, 0) _ _ rfl rfl (blk_bl (store5 R1.out) (bl_alloc (bl_refl _) _)) Tryd.underlying46 rfl (by kernel_rfl)) rfl ?_
      exact ⟨⟨0, 0, 0, false, false⟩, by first | (rw [HE.out]; rfl) | rw [HE.out], fun k => absurd (HE.out.symm.trans k) HNZ.out, bl_alloc (bl5 B1.out (Nat.le_refl _)) _⟩
  · have nea : (ea == 0) = false := by simpa using hea
    have HE := Lib.hid (show firstE (readCall x).2 = ea by rw [HRC.out]; simp [firstE, hea])
    have HNZ := Lib.hid hea
    clear hea
    go_wp2_with fail
    refine wp_loop_rounds 4 ?_
    rw [rounds_succ]
    go_wp2_with (go_at_call 71; refine (pca _).mono ?_; rintro ya ua ⟨rfl, rfl⟩)
    refine bodyPost_ret (results_cell_slot rfl _ _ w.heap.size 46 _ (0, 0) _ _ rfl rfl (blk_bl (store5 R1.out) (bl_alloc (bl_refl _) _)) Tryd.underlying46 rfl (by kernel_rfl)) rfl ?_
    exact ⟨⟨0, 0, 0, false, false⟩, by first | (rw [HE.out]; rfl) | rw [HE.out], fun k => absurd (HE.out.symm.trans k) HNZ.out, bl_alloc (bl5 B1.out (Nat.le_refl _)) _⟩
set_option maxRecDepth 20000 in
set_option maxHeartbeats 8000000 in
theorem rcall_wAlight (x a b d : List UInt8) (hx : x.length ≤ 131072) (HL : Hid (splitL 32 x = [a, b, d, [97, 108, 105, 103, 104, 116]])) (w : World) :
    Calls Tryd.prog 47 #[str x] w (CallRd x w) := by
  have hp := fun w => rparts_c ⟨x.toArray⟩ (by show x.toArray.size ≤ _; rw [List.size_toArray]; omega) _ (by show _ = _; exact HL.out) w
  have hlen := splitL_lens HL.out
  have hla : a.length ≤ 9223372036854775807 := by have := hlen a (by simp); omega
  have hlb : b.length ≤ 9223372036854775807 := by have := hlen b (by simp); omega
  have hld : d.length ≤ 9223372036854775807 := by have := hlen d (by simp); omega
  clear hlen
  obtain ⟨⟨na, ea⟩, HA⟩ : ∃ p, Hid (parse a = p) := ⟨_, rfl⟩
  obtain ⟨⟨nb, eb⟩, HBB⟩ : ∃ p, Hid (parse b = p) := ⟨_, rfl⟩
  obtain ⟨⟨nd, ed⟩, HD⟩ : ∃ p, Hid (parse d = p) := ⟨_, rfl⟩
  have pca := fun w => Nu.refParse_c ⟨a.toArray⟩ na ea HA (by show a.toArray.size ≤ _; rw [List.size_toArray]; unfold maxLen; omega) w
  have pcb := fun w => Nu.refParse_c ⟨b.toArray⟩ nb eb HBB (by show b.toArray.size ≤ _; rw [List.size_toArray]; unfold maxLen; omega) w
  have pcd := fun w => Nu.refParse_c ⟨d.toArray⟩ nd ed HD (by show d.toArray.size ≤ _; rw [List.size_toArray]; unfold maxLen; omega) w
  have HRC := Lib.hid (show readCall x = (⟨na, nb, nd, false, true⟩, [0, ea, eb, ed]) by
    unfold readCall; rw [HL.out]; simp only; rw [show bitsOf [97, 108, 105, 103, 104, 116] = some (false, true) from by decide, HA.out, HBB.out, HD.out]; rfl)
  go_enter Tryd.func47, Tryd.ntmps47
  go_wp2_with (go_at_call 75; refine (hp _).mono ?_)
  rintro q1 w1 ⟨v1, rfl, o1, b1⟩
  obtain ⟨pb, po, pc, rfl, l1, l2, l3, hc⟩ := (ownS_in o1).open (by simp)
  have x0 : w1.cell? ⟨pb, po, none⟩ = some (str a) := hc 0 _ rfl 0 _ rfl
  have x1 : w1.cell? ⟨pb, po + 1, none⟩ = some (str b) := hc 1 _ rfl 0 _ rfl
  have x2 : w1.cell? ⟨pb, po + 2, none⟩ = some (str d) := hc 2 _ rfl 0 _ rfl
  have x3 : w1.cell? ⟨pb, po + 3, none⟩ = some (str [97, 108, 105, 103, 104, 116]) := hc 3 _ rfl 0 _ rfl
  have hs1 : w.heap.size < w1.heap.size := by have := b1.size; simp at this; omega
  have R1 := Lib.hid (blk_bl (heap_alloc_new w _) b1)
  have B1 := Lib.hid (bl_next (bl_alloc (bl_refl w) _) b1)
  have rf := Lib.frozen_of_heap R1.out
  have j0 := blk_cell R1.out 0 _ rfl
  have j1 := blk_cell R1.out 1 _ rfl
  have j2 := blk_cell R1.out 2 _ rfl
  have j3 := blk_cell R1.out 3 _ rfl
  have j4 := blk_cell R1.out 4 _ rfl
  clear hc o1 b1 hp
  by_cases hea : ea = 0
  · subst hea
    by_cases heb : eb = 0
    · subst heb
      by_cases hed : ed = 0
      · subst hed
        go_wp2_with fail
        refine wp_loop_rounds 4 ?_
        rw [rounds_succ]
        go_wp2_with (go_at_call 71; refine (pca _).mono ?_; rintro ya ua ⟨rfl, rfl⟩)
        rw [rounds_succ]
        go_wp2_with (go_at_call 71; refine (pcb _).mono ?_; rintro yb ub ⟨rfl, rfl⟩)
        rw [rounds_succ]
        go_wp2_with (go_at_call 71; refine (pcd _).mono ?_; rintro yd ud ⟨rfl, rfl⟩)
        rw [rounds_succ]
        go_wp2_with fail
        have HE := Lib.hid (show firstE (readCall x).2 = 0 by rw [HRC.out]; rfl)
        go_region
        all_goals
          go_wp2_with fail
          refine bodyPost_ret (results_cell_slot rfl _ _ w.heap.size 46 _ (0, 0) _ _ rfl rfl (blk_bl (store5 R1.out) (bl_drew (bl_alloc (bl_refl _) _))) Tryd.underlying46 rfl (by kernel_rfl)) rfl ?_
          exact ⟨⟨na, nb, nd, false, true⟩, by first | (rw [HE.out]; rfl) | rw [HE.out], fun _ => by rw [HRC.out], bl_drew (bl_alloc (bl5 B1.out (Nat.le_refl _)) _)⟩
      · have ned : (ed == 0) = false := by simpa using hed
        have HE := Lib.hid (show firstE (readCall x).2 = ed by rw [HRC.out]; simp [firstE, hed])
        have HNZ := Lib.hid hed
        clear hed
        go_wp2_with fail
        refine wp_loop_rounds 4 ?_
        rw [rounds_succ]
        go_wp2_with (go_at_call 71; refine (pca _).mono ?_; rintro ya ua ⟨rfl, rfl⟩)
        rw [rounds_succ]
        go_wp2_with (go_at_call 71; refine (pcb _).mono ?_; rintro yb ub ⟨rfl, rfl⟩)
        rw [rounds_succ]
        go_wp2_with (go_at_call 71; refine (pcd _).mono ?_; rintro yd ud ⟨rfl, rfl⟩)
        refine bodyPost_ret (results_cell_slot rfl _ _ w.heap.size 46 _ (0, 0) _ _ rfl rfl (blk_bl (store5 R1.out) (bl_alloc (bl_refl _) _)) Tryd.underlying46 rfl (by kernel_rfl)) rfl ?_
        exact ⟨⟨0, 0, 0, false, false⟩, by first | (rw [HE.out]; rfl) | rw [HE.out], fun k => absurd (HE.out.symm.trans k) HNZ.out, bl_alloc (bl5 B1.out (Nat.le_refl _)) _⟩
    · have neb : (eb == 0) = false := by simpa using heb
      have HE := Lib.hid (show firstE (readCall x).2 = eb by rw [HRC.out]; simp [firstE, heb])
      have HNZ := Lib.hid heb
      clear heb
      go_wp2_with fail
      refine wp_loop_rounds 4 ?_
      rw [rounds_succ]
      go_wp2_with (go_at_call 71; refine (pca _).mono ?_; rintro ya ua ⟨rfl, rfl⟩)
      rw [rounds_succ]
      go_wp2_with (go_at_call 71; refine (pcb _).mono ?_; rintro yb ub ⟨rfl, rfl⟩)
      refine bodyPost_ret (results_cell_slot rfl _ _ w.heap.size 46 _ (0, 0) _ _ rfl rfl (blk_bl (store5 R1.out) (bl_alloc (bl_refl _) _)) Tryd.underlying46 rfl (by kernel_rfl)) rfl ?_
      exact ⟨⟨0, 0, 0, false, false⟩, by first | (rw [HE.out]; rfl) | rw [HE.out], fun k => absurd (HE.out.symm.trans k) HNZ.out, bl_alloc (bl5 B1.out (Nat.le_refl _)) _⟩
  · have nea : (ea == 0) = false := by simpa using hea
    have HE := Lib.hid (show firstE (readCall x).2 = ea by rw [HRC.out]; simp [firstE, hea])
    have HNZ := Lib.hid hea
    clear hea
    go_wp2_with fail
    refine wp_loop_rounds 4 ?_
    rw [rounds_succ]
    go_wp2_with (go_at_call 71; refine (pca _).mono ?_; rintro ya ua ⟨rfl, rfl⟩)
    refine bodyPost_ret (results_cell_slot rfl _ _ w.heap.size 46 _ (0, 0) _ _ rfl rfl (blk_bl (store5 R1.out) (bl_alloc (bl_refl _) _)) Tryd.underlying46 rfl (by kernel_rfl)) rfl ?_
    exact ⟨⟨0, 0, 0, false, false⟩, by first | (rw [HE.out]; rfl) | rw [HE.out], fun k => absurd (HE.out.symm.trans k) HNZ.out, bl_alloc (bl5 B1.out (Nat.le_refl _)) _⟩
set_option maxRecDepth 20000 in
set_option maxHeartbeats 8000000 in
theorem rcall_wNone (x a b d : List UInt8) (hx : x.length ≤ 131072) (HL : Hid (splitL 32 x = [a, b, d, [110, 111, 110, 101]])) (w : World) :
    Calls Tryd.prog 47 #[str x] w (CallRd x w) := by
  have hp := fun w => rparts_c ⟨x.toArray⟩ (by show x.toArray.size ≤ _; rw [List.size_toArray]; omega) _ (by show _ = _; exact HL.out) w
  have hlen := splitL_lens HL.out
  have hla : a.length ≤ 9223372036854775807 := by have := hlen a (by simp); omega
  have hlb : b.length ≤ 9223372036854775807 := by have := hlen b (by simp); omega
  have hld : d.length ≤ 9223372036854775807 := by have := hlen d (by simp); omega
  clear hlen
  obtain ⟨⟨na, ea⟩, HA⟩ : ∃ p, Hid (parse a = p) := ⟨_, rfl⟩
  obtain ⟨⟨nb, eb⟩, HBB⟩ : ∃ p, Hid (parse b = p) := ⟨_, rfl⟩
  obtain ⟨⟨nd, ed⟩, HD⟩ : ∃ p, Hid (parse d = p) := ⟨_, rfl⟩
  have pca := fun w => Nu.refParse_c ⟨a.toArray⟩ na ea HA (by show a.toArray.size ≤ _; rw [List.size_toArray]; unfold maxLen; omega) w
  have pcb := fun w => Nu.refParse_c ⟨b.toArray⟩ nb eb HBB (by show b.toArray.size ≤ _; rw [List.size_toArray]; unfold maxLen; omega) w
  have pcd := fun w => Nu.refParse_c ⟨d.toArray⟩ nd ed HD (by show d.toArray.size ≤ _; rw [List.size_toArray]; unfold maxLen; omega) w
  have HRC := Lib.hid (show readCall x = (⟨na, nb, nd, false, false⟩, [0, ea, eb, ed]) by
    unfold readCall; rw [HL.out]; simp only; rw [show bitsOf [110, 111, 110, 101] = some (false, false) from by decide, HA.out, HBB.out, HD.out]; rfl)
  go_enter Tryd.func47, Tryd.ntmps47
  go_wp2_with (go_at_call 75; refine (hp _).mono ?_)
  rintro q1 w1 ⟨v1, rfl, o1, b1⟩
  obtain ⟨pb, po, pc, rfl, l1, l2, l3, hc⟩ := (ownS_in o1).open (by simp)
  have x0 : w1.cell? ⟨pb, po, none⟩ = some (str a) := hc 0 _ rfl 0 _ rfl
  have x1 : w1.cell? ⟨pb, po + 1, none⟩ = some (str b) := hc 1 _ rfl 0 _ rfl
  have x2 : w1.cell? ⟨pb, po + 2, none⟩ = some (str d) := hc 2 _ rfl 0 _ rfl
  have x3 : w1.cell? ⟨pb, po + 3, none⟩ = some (str [110, 111, 110, 101]) := hc 3 _ rfl 0 _ rfl
  have hs1 : w.heap.size < w1.heap.size := by have := b1.size; simp at this; omega
  have R1 := Lib.hid (blk_bl (heap_alloc_new w _) b1)
  have B1 := Lib.hid (bl_next (bl_alloc (bl_refl w) _) b1)
  have rf := Lib.frozen_of_heap R1.out
  have j0 := blk_cell R1.out 0 _ rfl
  have j1 := blk_cell R1.out 1 _ rfl
  have j2 := blk_cell R1.out 2 _ rfl
  have j3 := blk_cell R1.out 3 _ rfl
  have j4 := blk_cell R1.out 4 _ rfl
  clear hc o1 b1 hp
  by_cases hea : ea = 0
  · subst hea
    by_cases heb : eb = 0
    · subst heb
      by_cases hed : ed = 0
      · subst hed
        go_wp2_with fail
        refine wp_loop_rounds 4 ?_
        rw [rounds_succ]
        go_wp2_with (go_at_call 71; refine (pca _).mono ?_; rintro ya ua ⟨rfl, rfl⟩)
        rw [rounds_succ]
        go_wp2_with (go_at_call 71; refine (pcb _).mono ?_; rintro yb ub ⟨rfl, rfl⟩)
        rw [rounds_succ]
        go_wp2_with (go_at_call 71; refine (pcd _).mono ?_; rintro yd ud ⟨rfl, rfl⟩)
        rw [rounds_succ]
        go_wp2_with fail
        have HE := Lib.hid (show firstE (readCall x).2 = 0 by rw [HRC.out]; rfl)
        go_region
        all_goals
          go_wp2_with fail
          refine bodyPost_ret (results_cell_slot rfl _ _ w.heap.size 46 _ (0, 0) _ _ rfl rfl (blk_bl (store5 R1.out) (bl_drew (bl_alloc (bl_refl _) _))) Tryd.underlying46 rfl (by kernel_rfl)) rfl ?_
          exact ⟨⟨na, nb, nd, false, false⟩, by first | (rw [HE.out]; rfl) | rw [HE.out], fun _ => by rw [HRC.out], bl_drew (bl_alloc (bl5 B1.out (Nat.le_refl _)) _)⟩
      · have ned : (ed == 0) = false := by simpa using hed
        have HE := Lib.hid (show firstE (readCall x).2 = ed by rw [HRC.out]; simp [firstE, hed])
        have HNZ := Lib.hid hed
        clear hed
        go_wp2_with fail
        refine wp_loop_rounds 4 ?_
        rw [rounds_succ]
        go_wp2_with (go_at_call 71; refine (pca _).mono ?_; rintro ya ua ⟨rfl, rfl⟩)
        rw [rounds_succ]
        go_wp2_with (go_at_call 71; refine (pcb _).mono ?_; rintro yb ub ⟨rfl, rfl⟩)
        rw [rounds_succ]
        go_wp2_with (go_at_call 71; refine (pcd _).mono ?_; rintro yd ud ⟨rfl, rfl⟩)
        refine bodyPost_ret (results_cell_slot rfl _ _ w.heap.size 46 _ (0, 0) _ _ rfl rfl (blk_bl (store5 R1.out) (bl_alloc (bl_refl _) _)) Tryd.underlying46 rfl (by kernel_rfl)) rfl ?_
        exact ⟨⟨0, 0, 0, false, false⟩, by first | (rw [HE.out]; rfl) | rw [HE.out], fun k => absurd (HE.out.symm.trans k) HNZ.out, bl_alloc (bl5 B1.out (Nat.le_refl _)) _⟩
    · have neb : (eb == 0) = false := by simpa using heb
      have HE := Lib.hid (show firstE (readCall x).2 = eb by rw [HRC.out]; simp [firstE, heb])
      have HNZ := Lib.hid heb
      clear heb
      go_wp2_with fail
      refine wp_loop_rounds 4 ?_
      rw [rounds_succ]
      go_wp2_with (go_at_call 71; refine (pca _).mono ?_; rintro ya ua ⟨rfl, rfl⟩)
      rw [rounds_succ]
      go_wp2_with (go_at_call 71; refine (pcb _).mono ?_; rintro yb ub ⟨rfl, rfl⟩)
      refine bodyPost_ret (results_cell_slot rfl _ _ w.heap.size 46 _ (0, 0) _ _ rfl rfl (blk_bl (store5 R1.out) (bl_alloc (bl_refl _) _)) Tryd.underlying46 rfl (by kernel_rfl)) rfl ?_
      exact ⟨⟨0, 0, 0, false, false⟩, by first | (rw [HE.out]; rfl) | rw [HE.out], fun k => absurd (HE.out.symm.trans k) HNZ.out, bl_alloc (bl5 B1.out (Nat.le_refl _)) _⟩
  · have nea : (ea == 0) = false := by simpa using hea
    have HE := Lib.hid (show firstE (readCall x).2 = ea by rw [HRC.out]; simp [firstE, hea])
    have HNZ := Lib.hid hea
    clear hea
    go_wp2_with fail
    refine wp_loop_rounds 4 ?_
    rw [rounds_succ]
    go_wp2_with (go_at_call 71; refine (pca _).mono ?_; rintro ya ua ⟨rfl, rfl⟩)
    refine bodyPost_ret (results_cell_slot rfl _ _ w.heap.size 46 _ (0, 0) _ _ rfl rfl (blk_bl (store5 R1.out) (bl_alloc (bl_refl _) _)) Tryd.underlying46 rfl (by kernel_rfl)) rfl ?_
    exact ⟨⟨0, 0, 0, false, false⟩, by first | (rw [HE.out]; rfl) | rw [HE.out], fun k => absurd (HE.out.symm.trans k) HNZ.out, bl_alloc (bl5 B1.out (Nat.le_refl _)) _⟩
set_option maxRecDepth 20000 in
set_option maxHeartbeats 4000000 in
theorem rcall_len (x : List UInt8) (l : List (List UInt8)) (hx : x.length ≤ 131072) (HL : Hid (splitL 32 x = l)) (h4 : l.length ≠ 4) (w : World) :
    Calls Tryd.prog 47 #[str x] w (CallRd x w) := by
  have hp := fun w => rparts_c ⟨x.toArray⟩ (by show x.toArray.size ≤ _; rw [List.size_toArray]; omega) _ (by show _ = _; exact HL.out) w
  have f4 : ((l.length : Int) == 4) = false := by rw [beq_eq_false_iff_ne]; omega
  have f5 : ((l.length : Int) != 4) = true := by simp [bne, f4]
  have HE := Lib.hid (show firstE (readCall x).2 = 3 by
    unfold readCall
    rw [HL.out]
    split
    · exact absurd rfl h4
    · rfl)
  clear h4
  go_enter Tryd.func47, Tryd.ntmps47
  go_wp2_with (go_at_call 75; refine (hp _).mono ?_)
  rintro q1 w1 ⟨v1, rfl, o1, b1⟩
  obtain ⟨a1, c1, rfl⟩ := ownS_form o1
  have R1 := Lib.hid (blk_bl (heap_alloc_new w _) b1)
  have B1 := Lib.hid (bl_next (bl_alloc (bl_refl w) _) b1)
  have rf := Lib.frozen_of_heap R1.out
  have j0 := blk_cell R1.out 0 _ rfl
  have j1 := blk_cell R1.out 1 _ rfl
  have j2 := blk_cell R1.out 2 _ rfl
  have j3 := blk_cell R1.out 3 _ rfl
  have j4 := blk_cell R1.out 4 _ rfl
  clear o1 b1 hp
  go_wp2_with fail
  refine bodyPost_ret (results_cell_slot rfl _ _ w.heap.size 46 _ (0, 0) _ _ rfl rfl (store5 R1.out) Tryd.underlying46 rfl (by kernel_rfl)) rfl ?_
  exact ⟨⟨0, 0, 0, false, false⟩, by first | (rw [HE.out]; rfl) | rw [HE.out], fun k => by rw [HE.out] at k; exact absurd k (by decide), bl5 B1.out (Nat.le_refl _)⟩
set_option maxRecDepth 20000 in
set_option maxHeartbeats 4000000 in
theorem rcall_other (x a b d wd : List UInt8) (hx : x.length ≤ 131072) (HL : Hid (splitL 32 x = [a, b, d, wd])) (n1 : (wd == [98, 111, 116, 104]) = false) (n2 : (wd == [98, 111, 97, 114, 100]) = false) (n3 : (wd == [97, 108, 105, 103, 104, 116]) = false) (n4 : (wd == [110, 111, 110, 101]) = false) (hb : Hid (bitsOf wd = none)) (w : World) :
    Calls Tryd.prog 47 #[str x] w (CallRd x w) := by
  have hp := fun w => rparts_c ⟨x.toArray⟩ (by show x.toArray.size ≤ _; rw [List.size_toArray]; omega) _ (by show _ = _; exact HL.out) w
  have m1 : (wd != [98, 111, 116, 104]) = true := by simp [bne, n1]
  have m2 : (wd != [98, 111, 97, 114, 100]) = true := by simp [bne, n2]
  have m3 : (wd != [97, 108, 105, 103, 104, 116]) = true := by simp [bne, n3]
  have m4 : (wd != [110, 111, 110, 101]) = true := by simp [bne, n4]
  have HE := Lib.hid (show firstE (readCall x).2 = 3 by unfold readCall; rw [HL.out]; simp only; rw [hb.out]; rfl)
  go_enter Tryd.func47, Tryd.ntmps47
  go_wp2_with (go_at_call 75; refine (hp _).mono ?_)
  rintro q1 w1 ⟨v1, rfl, o1, b1⟩
  obtain ⟨pb, po, pc, rfl, l1, l2, l3, hc⟩ := (ownS_in o1).open (by simp)
  have x3 : w1.cell? ⟨pb, po + 3, none⟩ = some (str wd) := hc 3 _ rfl 0 _ rfl
  have hs1 : w.heap.size < w1.heap.size := by have := b1.size; simp at this; omega
  clear hc
  have R1 := Lib.hid (blk_bl (heap_alloc_new w _) b1)
  have B1 := Lib.hid (bl_next (bl_alloc (bl_refl w) _) b1)
  have rf := Lib.frozen_of_heap R1.out
  have j0 := blk_cell R1.out 0 _ rfl
  have j1 := blk_cell R1.out 1 _ rfl
  have j2 := blk_cell R1.out 2 _ rfl
  have j3 := blk_cell R1.out 3 _ rfl
  have j4 := blk_cell R1.out 4 _ rfl
  clear o1 b1 hp
  go_wp2_with fail
  refine bodyPost_ret (results_cell_slot rfl _ _ w.heap.size 46 _ (0, 0) _ _ rfl rfl (store5 R1.out) Tryd.underlying46 rfl (by kernel_rfl)) rfl ?_
  exact ⟨⟨0, 0, 0, false, false⟩, by first | (rw [HE.out]; rfl) | rw [HE.out], fun k => by rw [HE.out] at k; exact absurd k (by decide), bl5 B1.out (Nat.le_refl _)⟩
theorem rcall_c (x : List UInt8) (hx : x.length ≤ 131072) (w : World) :
    Calls Tryd.prog 47 #[str x] w (CallRd x w) := by
  obtain ⟨l, hl⟩ : ∃ l, splitL 32 x = l := ⟨_, rfl⟩
  by_cases h4 : l.length = 4
  · obtain ⟨a, b, d, wd, rfl⟩ : ∃ a b d wd, l = [a, b, d, wd] := by
      match l, h4 with
      | [a, b, d, wd], _ => exact ⟨a, b, d, wd, rfl⟩
    rcases bits_cases wd with rfl | rfl | rfl | rfl | ⟨n1, n2, n3, n4, hbw⟩
    · exact rcall_wBoth x a b d hx (Lib.hid hl) w
    · exact rcall_wBoard x a b d hx (Lib.hid hl) w
    · exact rcall_wAlight x a b d hx (Lib.hid hl) w
    · exact rcall_wNone x a b d hx (Lib.hid hl) w
    · exact rcall_other x a b d wd hx (Lib.hid hl) n1 n2 n3 n4 (Lib.hid hbw) w
  · exact rcall_len x l hx (Lib.hid hl) h4 w
end Go.Proofs.YthdadalmgldppaaDoor
namespace Go.Proofs.YthdadalmgldppaaDoor
open Go.RowKit
open Msg

set_option maxRecDepth 20000 in
set_option maxHeartbeats 8000000 in
theorem rcheck_c (m : MsgD) (v : Value) (r : Int) (H : Hid (checkM m = r)) (ht : m.trip.length ≤ 9223372036854775807) (B : Nat) (w : World) (hv : CallsIn B w v m.calls) (hB : B ≤ w.heap.size) :
    Calls Tryd.prog 11 #[msgV m v] w fun e w' => e = .returned (.int .i64 r) ∧ Bl w w' := by
  have hid := fun w => rname_c ⟨m.trip.toArray⟩ (by show m.trip.toArray.size ≤ _; rw [List.size_toArray]; unfold maxLen; omega) (nameB m.trip) rfl w
  go_enter Tryd.func11, Tryd.ntmps11
  go_wp2_with (first
    | (go_at_call 28; refine (hid _).mono ?_; rintro e w' ⟨rfl, rfl⟩))
  any_goals
    go_ret
    refine ⟨ret_int ?_, bl_alloc (bl_refl _) _⟩
    rw [← H.out]
    unfold checkM outside
    simp
    try repeat' split
    all_goals first
      | rfl
      | omega
      | (simp_all; done)
      | (simp_all; omega)
  have hm := msgAt_new m v w
  have hbl : Bl w (w.alloc (.cells (msgCells m v) 24)) := bl_alloc (bl_refl _) _
  have hsz : w.heap.size < (w.alloc (.cells (msgCells m v) 24)).heap.size := by simp
  change Code.wp _ _ _ _ (w.alloc (.cells (msgCells m v) 24))
  generalize w.alloc (.cells (msgCells m v) 24) = w1 at hm hbl hsz
  have hkd : 1 ≤ m.kind ∧ m.kind ≤ 6 := by constructor <;> omega
  have HK := Lib.hid (show kindErr m = r by
    rw [← H.out]
    unfold checkM outside
    simp
    try repeat' split
    all_goals first
      | rfl
      | omega
      | (simp_all; done)
      | (simp_all; omega))
  have HV := Lib.hid hv
  obtain ⟨a, cap, rfl, l1, l2, l3⟩ := hv
  have hm' := hm
  unfold MsgAt at hm'
  simp only [Nat.zero_add] at hm'
  have m4 : w1.cell? ⟨w.heap.size, 4, none⟩ = some (.int .i64 m.kind) := hm' 4 _ rfl
  have m8 : w1.cell? ⟨w.heap.size, 8, none⟩ = some (.int .i64 m.call) := hm' 8 _ rfl
  have m9 : w1.cell? ⟨w.heap.size, 9, none⟩ = some (.int .i64 m.secs) := hm' 9 _ rfl
  have m10 : w1.cell? ⟨w.heap.size, 10, none⟩ = some (.int .i64 m.route) := hm' 10 _ rfl
  have m11 : w1.cell? ⟨w.heap.size, 11, none⟩ = some (.bool m.step) := hm' 11 _ rfl
  have m12 : w1.cell? ⟨w.heap.size, 12, none⟩ = some (.slice a m.calls.length cap) := hm' 12 _ rfl
  clear hm' l3 hid
  rcases kinds hkd with hk | hk | hk | hk | hk | hk
  · have hu1 : uCall m.kind = true := by rw [hk]; rfl
    have hu2 : uSecs m.kind = true := by rw [hk]; rfl
    have hu3 : uRoute m.kind = false := by rw [hk]; rfl
    have hu4 : uCalls m.kind = false := by rw [hk]; rfl
    have e1 : (m.kind == 1) = true := by rw [hk]; rfl
    have e3 : (m.kind == 3) = false := by rw [hk]; rfl
    have e4 : (m.kind == 4) = false := by rw [hk]; rfl
    have e5 : (m.kind == 5) = false := by rw [hk]; rfl
    have HU := Lib.hid (And.intro hu1 (And.intro hu2 (And.intro hu3 hu4)))
    clear hk hu1 hu2 hu3 hu4
    go_quiet (fail)
    go_wp2_with fail
    all_goals
      go_ret
      refine ⟨ret_int ?_, by first | exact bl_next hbl (bl_drewN (bl_refl _) _) | exact bl_next hbl (bl_drewN (bl_drewN (bl_refl _) _) _)⟩
      rw [← HK.out]
      obtain ⟨hu1, hu2, hu3, hu4⟩ := HU.out
      unfold kindErr outside
      simp only [hu1, hu2, hu3, hu4]
      rcases hem : m.calls with _ | ⟨c0, r0⟩
      all_goals simp_all
      all_goals try first
        | omega
        | (split <;> first | rfl | omega | simp_all)
  · have hu1 : uCall m.kind = false := by rw [hk]; rfl
    have hu2 : uSecs m.kind = false := by rw [hk]; rfl
    have hu3 : uRoute m.kind = false := by rw [hk]; rfl
    have hu4 : uCalls m.kind = false := by rw [hk]; rfl
    have e1 : (m.kind == 1) = false := by rw [hk]; rfl
    have e3 : (m.kind == 3) = false := by rw [hk]; rfl
    have e4 : (m.kind == 4) = false := by rw [hk]; rfl
    have e5 : (m.kind == 5) = false := by rw [hk]; rfl
    have HU := Lib.hid (And.intro hu1 (And.intro hu2 (And.intro hu3 hu4)))
    clear hk hu1 hu2 hu3 hu4
    go_quiet (fail)
    go_wp2_with fail
    all_goals
      go_ret
      refine ⟨ret_int ?_, by first | exact bl_next hbl (bl_drewN (bl_refl _) _) | exact bl_next hbl (bl_drewN (bl_drewN (bl_refl _) _) _)⟩
      rw [← HK.out]
      obtain ⟨hu1, hu2, hu3, hu4⟩ := HU.out
      unfold kindErr outside
      simp only [hu1, hu2, hu3, hu4]
      rcases hem : m.calls with _ | ⟨c0, r0⟩
      all_goals simp_all
      all_goals try first
        | omega
        | (split <;> first | rfl | omega | simp_all)
  · have hu1 : uCall m.kind = true := by rw [hk]; rfl
    have hu2 : uSecs m.kind = false := by rw [hk]; rfl
    have hu3 : uRoute m.kind = false := by rw [hk]; rfl
    have hu4 : uCalls m.kind = false := by rw [hk]; rfl
    have e1 : (m.kind == 1) = false := by rw [hk]; rfl
    have e3 : (m.kind == 3) = true := by rw [hk]; rfl
    have e4 : (m.kind == 4) = false := by rw [hk]; rfl
    have e5 : (m.kind == 5) = false := by rw [hk]; rfl
    have HU := Lib.hid (And.intro hu1 (And.intro hu2 (And.intro hu3 hu4)))
    clear hk hu1 hu2 hu3 hu4
    go_quiet (fail)
    go_wp2_with fail
    all_goals
      go_ret
      refine ⟨ret_int ?_, by first | exact bl_next hbl (bl_drewN (bl_refl _) _) | exact bl_next hbl (bl_drewN (bl_drewN (bl_refl _) _) _)⟩
      rw [← HK.out]
      obtain ⟨hu1, hu2, hu3, hu4⟩ := HU.out
      unfold kindErr outside
      simp only [hu1, hu2, hu3, hu4]
      rcases hem : m.calls with _ | ⟨c0, r0⟩
      all_goals simp_all
      all_goals try first
        | omega
        | (split <;> first | rfl | omega | simp_all)
  · have hu1 : uCall m.kind = false := by rw [hk]; rfl
    have hu2 : uSecs m.kind = false := by rw [hk]; rfl
    have hu3 : uRoute m.kind = false := by rw [hk]; rfl
    have hu4 : uCalls m.kind = true := by rw [hk]; rfl
    have e1 : (m.kind == 1) = false := by rw [hk]; rfl
    have e3 : (m.kind == 3) = false := by rw [hk]; rfl
    have e4 : (m.kind == 4) = true := by rw [hk]; rfl
    have e5 : (m.kind == 5) = false := by rw [hk]; rfl
    have HU := Lib.hid (And.intro hu1 (And.intro hu2 (And.intro hu3 hu4)))
    clear hk hu1 hu2 hu3 hu4
    go_quiet (fail)
    obtain ⟨ce, HCE⟩ : ∃ r, Hid (callsErr 64 0 3155932800 m.calls = r) := ⟨_, rfl⟩
    go_wp2_with (go_at_call 29; refine (rcalls_c _ m.calls 64 0 3155932800 ce HCE B _ (HV.out.below ((bl_next hbl (bl_drewN (bl_refl _) _)).mono hB)) (Nat.le_trans hB (bl_next hbl (bl_drewN (bl_refl _) _)).size)).mono ?_)
    rintro q2 w2 ⟨⟨i2, rfl⟩, b2⟩
    have T2 := Lib.hid (bl_next (bl_drewN (bl_refl _) _) b2)
    have hm2 := (hm.next T2.out hsz)
    unfold MsgAt at hm2
    simp only [Nat.zero_add] at hm2
    have n8 : w2.cell? ⟨w.heap.size, 8, none⟩ = some (.int .i64 m.call) := hm2 8 _ rfl
    have n9 : w2.cell? ⟨w.heap.size, 9, none⟩ = some (.int .i64 m.secs) := hm2 9 _ rfl
    have n10 : w2.cell? ⟨w.heap.size, 10, none⟩ = some (.int .i64 m.route) := hm2 10 _ rfl
    have n11 : w2.cell? ⟨w.heap.size, 11, none⟩ = some (.bool m.step) := hm2 11 _ rfl
    have n12 : w2.cell? ⟨w.heap.size, 12, none⟩ = some (.slice a m.calls.length cap) := hm2 12 _ rfl
    clear hm2 b2
    by_cases hce : ce = 0
    · have x0 : (ce != 0) = false := by rw [hce]; rfl
      go_wp2_with fail
      all_goals
        go_ret
        refine ⟨ret_int ?_, bl_next hbl T2.out⟩
        rw [← HK.out]
        obtain ⟨hu1, hu2, hu3, hu4⟩ := HU.out
        have hc0 := HCE.out
        unfold kindErr outside
        simp only [hu1, hu2, hu3, hu4, hc0, hce]
        simp_all
        try first
          | omega
          | (split <;> first | rfl | omega | simp_all)
    · have x0 : (ce != 0) = true := by rw [bne_iff_ne]; exact hce
      go_wp2_with fail
      all_goals
        go_ret
        refine ⟨ret_int ?_, bl_next hbl T2.out⟩
        rw [← HK.out]
        obtain ⟨hu1, hu2, hu3, hu4⟩ := HU.out
        have hc0 := HCE.out
        unfold kindErr outside
        simp only [hu1, hu2, hu3, hu4, hc0]
        simp_all
        try first
          | omega
          | (split <;> first | rfl | omega | simp_all)
  · have hu1 : uCall m.kind = false := by rw [hk]; rfl
    have hu2 : uSecs m.kind = false := by rw [hk]; rfl
    have hu3 : uRoute m.kind = true := by rw [hk]; rfl
    have hu4 : uCalls m.kind = true := by rw [hk]; rfl
    have e1 : (m.kind == 1) = false := by rw [hk]; rfl
    have e3 : (m.kind == 3) = false := by rw [hk]; rfl
    have e4 : (m.kind == 4) = false := by rw [hk]; rfl
    have e5 : (m.kind == 5) = true := by rw [hk]; rfl
    have HU := Lib.hid (And.intro hu1 (And.intro hu2 (And.intro hu3 hu4)))
    clear hk hu1 hu2 hu3 hu4
    go_quiet (fail)
    by_cases hrt : m.route < 0 ∨ 63 < m.route
    · rcases hrt with hrt | hrt
      all_goals
        go_wp2_with fail
        all_goals
          go_ret
          refine ⟨ret_int ?_, bl_next hbl (bl_drewN (bl_refl _) _)⟩
          rw [← HK.out]
          obtain ⟨hu1, hu2, hu3, hu4⟩ := HU.out
          unfold kindErr outside
          simp only [hu1, hu2, hu3, hu4]
          simp_all
          try first
            | omega
            | (split <;> first | rfl | omega | simp_all)
    have hr0 : ¬ m.route < 0 := fun h => hrt (.inl h)
    have hr1 : ¬ 63 < m.route := fun h => hrt (.inr h)
    clear hrt
    obtain ⟨ce, HCE⟩ : ∃ r, Hid (callsErr 64 0 3155932800 m.calls = r) := ⟨_, rfl⟩
    go_wp2_with (go_at_call 29; refine (rcalls_c _ m.calls 64 0 3155932800 ce HCE B _ (HV.out.below ((bl_next hbl (bl_drewN (bl_refl _) _)).mono hB)) (Nat.le_trans hB (bl_next hbl (bl_drewN (bl_refl _) _)).size)).mono ?_)
    rintro q2 w2 i2 rfl b2
    have T2 := Lib.hid (bl_next (bl_drewN (bl_refl _) _) b2)
    have hm2 := (hm.next T2.out hsz)
    unfold MsgAt at hm2
    simp only [Nat.zero_add] at hm2
    have n8 : w2.cell? ⟨w.heap.size, 8, none⟩ = some (.int .i64 m.call) := hm2 8 _ rfl
    have n9 : w2.cell? ⟨w.heap.size, 9, none⟩ = some (.int .i64 m.secs) := hm2 9 _ rfl
    have n10 : w2.cell? ⟨w.heap.size, 10, none⟩ = some (.int .i64 m.route) := hm2 10 _ rfl
    have n11 : w2.cell? ⟨w.heap.size, 11, none⟩ = some (.bool m.step) := hm2 11 _ rfl
    have n12 : w2.cell? ⟨w.heap.size, 12, none⟩ = some (.slice a m.calls.length cap) := hm2 12 _ rfl
    clear hm2 b2
    by_cases hce : ce = 0
    · have x0 : (ce != 0) = false := by rw [hce]; rfl
      go_wp2_with fail
      all_goals
        go_ret
        refine ⟨ret_int ?_, bl_next hbl T2.out⟩
        rw [← HK.out]
        obtain ⟨hu1, hu2, hu3, hu4⟩ := HU.out
        have hc0 := HCE.out
        unfold kindErr outside
        simp only [hu1, hu2, hu3, hu4, hc0, hce]
        simp_all
        try first
          | omega
          | (split <;> first | rfl | omega | simp_all)
    · have x0 : (ce != 0) = true := by rw [bne_iff_ne]; exact hce
      go_wp2_with fail
      all_goals
        go_ret
        refine ⟨ret_int ?_, bl_next hbl T2.out⟩
        rw [← HK.out]
        obtain ⟨hu1, hu2, hu3, hu4⟩ := HU.out
        have hc0 := HCE.out
        unfold kindErr outside
        simp only [hu1, hu2, hu3, hu4, hc0]
        simp_all
        try first
          | omega
          | (split <;> first | rfl | omega | simp_all)
  · have hu1 : uCall m.kind = false := by rw [hk]; rfl
    have hu2 : uSecs m.kind = false := by rw [hk]; rfl
    have hu3 : uRoute m.kind = false := by rw [hk]; rfl
    have hu4 : uCalls m.kind = false := by rw [hk]; rfl
    have e1 : (m.kind == 1) = false := by rw [hk]; rfl
    have e3 : (m.kind == 3) = false := by rw [hk]; rfl
    have e4 : (m.kind == 4) = false := by rw [hk]; rfl
    have e5 : (m.kind == 5) = false := by rw [hk]; rfl
    have HU := Lib.hid (And.intro hu1 (And.intro hu2 (And.intro hu3 hu4)))
    clear hk hu1 hu2 hu3 hu4
    go_quiet (fail)
    go_wp2_with fail
    all_goals
      go_ret
      refine ⟨ret_int ?_, by first | exact bl_next hbl (bl_drewN (bl_refl _) _) | exact bl_next hbl (bl_drewN (bl_drewN (bl_refl _) _) _)⟩
      rw [← HK.out]
      obtain ⟨hu1, hu2, hu3, hu4⟩ := HU.out
      unfold kindErr outside
      simp only [hu1, hu2, hu3, hu4]
      rcases hem : m.calls with _ | ⟨c0, r0⟩
      all_goals simp_all
      all_goals try first
        | omega
        | (split <;> first | rfl | omega | simp_all)
end Go.Proofs.YthdadalmgldppaaDoor
