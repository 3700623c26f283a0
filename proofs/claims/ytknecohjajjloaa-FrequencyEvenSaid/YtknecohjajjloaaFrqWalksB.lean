/-
  THE CONTRACTS OF FREQUENCY, SECOND PART: Shift, Calls, and the reference's. Conditions: those of each contract.
-/
import Derived.Test.YtknecohjajjloaaFrqWalksA
import Derived.Test.YtknecohjajjloaaMem
namespace Go.Proofs.Ytknecohjajjloaa
open Go.RowKit
open Frq

def callCells (c : CallD) : List Value := [.int .i64 c.stop, .int .i64 c.arrive, .int .i64 c.depart, .bool c.board, .bool c.alight]
theorem callCells_len (c : CallD) : (callCells c).length = 5 := rfl
/-- A slice of calls reads as a list. -/
abbrev CallsIn (B : Nat) (w : World) (v : Value) (cs : List CallD) : Prop := SlIn callCells 5 B w v cs
def okT (c : CallD) : Prop := isInt c.arrive ∧ isInt c.depart

/-! ### the reference's Shift -/
def shiftOk (t start first : Int) : Bool := (decide (0 ≤ start) && decide (start ≤ 172800)) && near t first start
def SRes (t start first : Int) (e : Ending) : Prop := ∃ n, e = .returned (.tuple #[.int .i64 n, .bool (shiftOk t start first)]) ∧ (shiftOk t start first = true → n = t - first + start)
theorem sres {t start first n : Int} {b : Bool} (hb : shiftOk t start first = b) (hn : shiftOk t start first = true → n = t - first + start) : SRes t start first (.returned (.tuple #[.int .i64 n, .bool b])) := ⟨n, by rw [hb], hn⟩
theorem shiftOk_iff (t start first : Int) : shiftOk t start first = true ↔ (0 ≤ start ∧ start ≤ 172800) ∧ (0 ≤ t - first + start ∧ t - first + start ≤ 172800) := by simp [shiftOk, near]
theorem shiftOk_no {t start first : Int} (h : ¬ ((0 ≤ start ∧ start ≤ 172800) ∧ (0 ≤ t - first + start ∧ t - first + start ≤ 172800))) : shiftOk t start first = false := by
  cases k : shiftOk t start first with
  | false => rfl
  | true => exact absurd ((shiftOk_iff _ _ _).1 k) h
theorem u64_diff (a b : Int) (h : b ≤ a) (ha : isInt a) (hb : isInt b) : IntKind.u64.wrap (IntKind.u64.wrap a - IntKind.u64.wrap b) = a - b := by
  unfold isInt at *
  have e : ∀ n, IntKind.u64.wrap n = n % 18446744073709551616 := fun n => by simp [IntKind.wrap, IntKind.bits, IntKind.signed]
  rw [e, e, e]
  omega
set_option maxHeartbeats 4000000 in
theorem shift_c (t start first : Int) (ht : isInt t) (hf : isInt first) (w : World) : Calls Try.prog 31 #[.int .i64 t, .int .i64 start, .int .i64 first] w fun e w' => SRes t start first e ∧ w = w' := by
  by_cases h0 : start < 0
  · have HN := Lib.hid (shiftOk_no (t := t) (start := start) (first := first) (by omega))
    go_enter Try.func31, Try.ntmps31
    go_wp2
    go_ret2
    exact ⟨sres HN.out (fun k => absurd (HN.out.symm.trans k) (by decide)), rfl⟩
  have h0' : 0 ≤ start := by omega
  clear h0
  by_cases h1 : 172800 < start
  · have HN := Lib.hid (shiftOk_no (t := t) (start := start) (first := first) (by omega))
    go_enter Try.func31, Try.ntmps31
    go_wp2
    go_ret2
    exact ⟨sres HN.out (fun k => absurd (HN.out.symm.trans k) (by decide)), rfl⟩
  have h1' : start ≤ 172800 := by omega
  clear h1
  by_cases hge : first ≤ t
  · have e1 := u64_diff t first hge ht hf
    unfold isInt at ht hf
    obtain ⟨t0, t1⟩ := ht
    obtain ⟨f0, f1⟩ := hf
    by_cases hd : t - first ≤ 172800
    · by_cases hn : t - first + start ≤ 172800
      · have HN := Lib.hid ((shiftOk_iff t start first).2 (by omega))
        have HV := Lib.hid (show start + (t - first) = t - first + start by omega)
        go_enter Try.func31, Try.ntmps31
        go_wp2
        go_ret2
        exact ⟨sres (HN.out.trans (by first | rfl | (symm; simp; omega))) (fun _ => HV.out), rfl⟩
      · have HN := Lib.hid (shiftOk_no (t := t) (start := start) (first := first) (by omega))
        go_enter Try.func31, Try.ntmps31
        go_wp2
        go_ret2
        exact ⟨sres (HN.out.trans (by first | rfl | (symm; simp; omega))) (fun k => absurd (HN.out.symm.trans k) (by decide)), rfl⟩
    · have HN := Lib.hid (shiftOk_no (t := t) (start := start) (first := first) (by omega))
      go_enter Try.func31, Try.ntmps31
      go_wp2
      go_ret2
      exact ⟨sres HN.out (fun k => absurd (HN.out.symm.trans k) (by decide)), rfl⟩
  · have hge' : t < first := by omega
    have e1 := u64_diff first t (by omega) hf ht
    clear hge
    unfold isInt at ht hf
    obtain ⟨t0, t1⟩ := ht
    obtain ⟨f0, f1⟩ := hf
    by_cases hd : first - t ≤ 172800
    · by_cases hn : 0 ≤ t - first + start
      · have HN := Lib.hid ((shiftOk_iff t start first).2 (by omega))
        have HV := Lib.hid (show start + (t - first) = t - first + start by omega)
        go_enter Try.func31, Try.ntmps31
        go_wp2
        go_ret2
        exact ⟨sres (HN.out.trans (by first | rfl | (symm; simp; omega))) (fun _ => HV.out), rfl⟩
      · have HN := Lib.hid (shiftOk_no (t := t) (start := start) (first := first) (by omega))
        go_enter Try.func31, Try.ntmps31
        go_wp2
        go_ret2
        exact ⟨sres (HN.out.trans (by first | rfl | (symm; simp; omega))) (fun k => absurd (HN.out.symm.trans k) (by decide)), rfl⟩
    · have HN := Lib.hid (shiftOk_no (t := t) (start := start) (first := first) (by omega))
      go_enter Try.func31, Try.ntmps31
      go_wp2
      go_ret2
      exact ⟨sres HN.out (fun k => absurd (HN.out.symm.trans k) (by decide)), rfl⟩

/-! ### the reference's Calls -/
def okR (first start : Int) (c : CallD) : Bool := shiftOk c.arrive start first && shiftOk c.depart start first
theorem info_call : (Try.prog.info? 44).map (fun i => (i.zero, i.size, i.bytes)) = some (some (.agg #[.int .i64 0, .int .i64 0, .int .i64 0, .bool false, .bool false]), 5, 32) := by kernel_rfl
/-- What Calls returns. -/
def CRes (cs : List CallD) (start : Int) (e : Ending) (w' : World) : Prop := ∃ v', e = .returned (.tuple #[v', .int .i64 (callsS cs start).2]) ∧ CallsIn w'.heap.size w' v' (callsS cs start).1
theorem cres {cs l : List CallD} {start err : Int} {v' : Value} {w' : World} (h : callsS cs start = (l, err)) (hv : CallsIn w'.heap.size w' v' l) : CRes cs start (.returned (.tuple #[v', .int .i64 err])) w' := ⟨v', by rw [h], by rw [h]; exact hv⟩
theorem callsR_yes {cs : List CallD} {x0 : CallD} {start : Int} (h0 : cs[0]? = some x0) (h : ∀ x ∈ cs, okR x0.depart start x = true) : callsS cs start = (cs.map (shiftC x0.depart start), 0) := by
  refine callsS_yes h0 ?_
  rw [List.all_eq_true]
  intro x hx
  have := h x hx
  unfold okR shiftOk at this
  unfold okC
  simp only [Bool.and_eq_true] at this ⊢
  exact ⟨this.1.2, this.2.2⟩
theorem callsR_no {cs : List CallD} {x0 x : CallD} {start : Int} (h0 : cs[0]? = some x0) (hx : x ∈ cs) (h : okR x0.depart start x = false) : callsS cs start = ([], 10) := by
  cases ha : cs.all (okC x0.depart start) with
  | true =>
    obtain ⟨s0, s1⟩ := start_of_all h0 ha
    rw [List.all_eq_true] at ha
    have k := ha x hx
    unfold okC at k
    unfold okR shiftOk at h
    simp only [Bool.and_eq_true] at k
    rw [k.1, k.2] at h
    simp [s0, s1] at h
  | false =>
    have : ∃ y ∈ cs, okC x0.depart start y = false := by
      rw [List.all_eq_false] at ha
      obtain ⟨y, hy, hn⟩ := ha
      exact ⟨y, hy, by simpa using hn⟩
    obtain ⟨y, hy, hn⟩ := this
    exact callsS_no h0 hy hn
theorem flat_snoc {α : Type} (cells : α → List Value) (l : List α) (x : α) : (l ++ [x]).flatMap cells = l.flatMap cells ++ cells x := by simp
theorem take_snoc_at {α : Type} {l : List α} {k : Nat} {x : α} (h : l[k]? = some x) : l.take (k + 1) = l.take k ++ [x] := by
  obtain ⟨hk, rfl⟩ := List.getElem?_eq_some_iff.1 h
  rw [List.take_succ_eq_append_getElem hk]
set_option maxRecDepth 100000 in
set_option maxHeartbeats 8000000 in
theorem rcalls_c (id : ByteArray) (rt cal : Int) (step : Bool) (v : Value) (cs : List CallD) (start : Int) (B : Nat) (w : World) (hcs : CallsIn B w v cs) (hB : B ≤ w.heap.size) (hok : ∀ c ∈ cs, okT c) (hlen : cs.length ≤ 1000) :
    Calls Try.prog 15 #[.agg #[.string id, .int .i64 rt, .int .i64 cal, .bool step, v], .int .i64 start] w fun e w' => CRes cs start e w' ∧ Bl w w' := by
  obtain ⟨i0, hi, hz0, hz1, hz2⟩ := info_parts info_call
  have HC := Lib.hid hcs
  have HO := Lib.hid hok
  clear hcs hok
  by_cases hlen0 : 0 < cs.length
  · obtain ⟨b, o, cap, rfl, hl1, hl2, hbB, hcell⟩ := HC.out.open hlen0
    obtain ⟨x0, hx0⟩ : ∃ x0, cs[0]? = some x0 := ⟨_, List.getElem?_eq_getElem hlen0⟩
    have d2 := hcell 0 x0 hx0 2 _ rfl
    rw [show o + 0 * 5 + 2 = o + 2 by omega] at d2
    have hlt : b < w.heap.size := by omega
    have HX0 := Lib.hid hx0
    have HCell := Lib.hid hcell
    have q0 : ((cs.length : Int) == 0) = false := by rw [beq_eq_false_iff_ne]; omega
    clear hcell hx0 HC
    go_enter Try.func15, Try.ntmps15
    go_wp2_with fail
    obtain ⟨w1, hw1⟩ : ∃ w1, w.alloc (.cells #[.string id, .int .i64 rt, .int .i64 cal, .bool step, .slice (some ⟨b, o, none⟩) cs.length cap] 33) = w1 := ⟨_, rfl⟩
    have c4 : w1.cell? ⟨w.heap.size, 4, none⟩ = some (.slice (some ⟨b, o, none⟩) cs.length cap) := by rw [← hw1, World.cell?_alloc_at (hn := rfl)]; rfl
    have s1 : w1.heap.size = w.heap.size + 1 := by rw [← hw1]; simp
    have b1 : Bl w w1 := by rw [← hw1]; exact bl_alloc (bl_refl _) _
    rw [hw1]
    have S1 := Lib.hid s1
    have C4 := Lib.hid c4
    clear hw1 d2 s1 c4
    go_loopw [7, 8] (fun vo i wr => ∃ k : Nat, k ≤ cs.length ∧ i = .int .i64 k ∧ (wr.ownsRow w1.heap.size 44 5 vo k (((cs.take k).map (shiftC x0.depart start)).flatMap callCells) ∧ (∀ x ∈ cs.take k, okR x0.depart start x = true)) ∧ Bl w1 wr) (fun _ i _ => cs.length - (intOf i).toNat)
    case atStart => exact ⟨0, Nat.zero_le _, rfl, ⟨World.ownsRow_nil _ _ _ _, by simp⟩, bl_refl _⟩
    case round =>
      obtain ⟨k, hk, rfl, hinv, hb⟩ := hrel
      have HI := Lib.hid hinv
      clear hinv
      have e4 : wr.cell? ⟨w.heap.size, 4, none⟩ = some (.slice (some ⟨b, o, none⟩) cs.length cap) := by rw [(bl_cell hb).1 _ _ (by rw [S1.out]; omega)]; exact C4.out
      have hbw := b1.trans (hb.mono (by rw [S1.out]; omega) : Below w.heap.size w1 wr)
      have hzb : b < wr.heap.size := by have := hbw.size; omega
      have hzw : w.heap.size < wr.heap.size := by have := hb.size; rw [S1.out] at this; omega
      by_cases hltk : k < cs.length
      · obtain ⟨x, hx⟩ : ∃ x, cs[k]? = some x := ⟨_, List.getElem?_eq_getElem hltk⟩
        have hc : ∀ j u, (callCells x)[j]? = some u → wr.cell? ⟨b, o + k * 5 + j, none⟩ = some u := fun j u hu => by rw [(bl_cell hbw).1 _ _ (by omega)]; exact HCell.out k x hx j u hu
        have g0 : wr.cell? ⟨b, o + k * 5, none⟩ = some (.int .i64 x.stop) := hc 0 _ rfl
        have g1 := hc 1 _ rfl
        have g2 := hc 2 _ rfl
        have g3 := hc 3 _ rfl
        have g4 := hc 4 _ rfl
        have HX := Lib.hid hx
        clear hx hc
        have HM : Hid (x ∈ cs) := List.mem_of_getElem? HX.out
        have HT := Lib.hid (take_snoc_at HX.out)
        go_wp2_with fail
        refine (shift_c x.arrive start x0.depart (HO.out x HM.out).1 (HO.out x0 (List.mem_of_getElem? HX0.out)).2 _).mono ?_
        rintro e w2 ⟨⟨n1, rfl, N1⟩, rfl⟩
        obtain ⟨p1, hp1⟩ : ∃ p, shiftOk x.arrive start x0.depart = p := ⟨_, rfl⟩
        rw [hp1] at N1
        rw [hp1]
        have P1 := Lib.hid (And.intro hp1 N1)
        clear hp1 N1
        go_wp2_with fail
        refine (shift_c x.depart start x0.depart (HO.out x HM.out).2 (HO.out x0 (List.mem_of_getElem? HX0.out)).2 _).mono ?_
        rintro e w3 ⟨⟨n2, rfl, N2⟩, rfl⟩
        obtain ⟨p2, hp2⟩ : ∃ p, shiftOk x.depart start x0.depart = p := ⟨_, rfl⟩
        rw [hp2] at N2
        rw [hp2]
        have P2 := Lib.hid (And.intro hp2 N2)
        clear hp2 N2
        cases p1 with
        | false =>
          have HR := Lib.hid (callsR_no HX0.out HM.out (show okR x0.depart start x = false by unfold okR; rw [P1.out.1]; rfl))
          go_wp2
          go_ret2
          exact ⟨cres HR.out slIn_nil, bl_next b1 (bl_alloc hb _)⟩
        | true =>
          cases p2 with
          | false =>
            have HR := Lib.hid (callsR_no HX0.out HM.out (show okR x0.depart start x = false by unfold okR; rw [P2.out.1, Bool.and_false]))
            go_wp2
            go_ret2
            exact ⟨cres HR.out slIn_nil, bl_next b1 (bl_alloc hb _)⟩
          | true =>
            obtain ⟨rfl⟩ : n1 = x.arrive - x0.depart + start := P1.out.2 rfl
            obtain ⟨rfl⟩ : n2 = x.depart - x0.depart + start := P2.out.2 rfl
            have HOK := Lib.hid (show okR x0.depart start x = true by unfold okR; rw [P1.out.1, P2.out.1]; rfl)
            go_wp2_with (at_builtin; refine wpList_append_own _ rfl _ _ 31 rfl w1.heap.size 44 i0 (.agg #[.int .i64 0, .int .i64 0, .int .i64 0, .bool false, .bool false]) 5 32 Try.underlying31 hi hz0 hz1 hz2 rfl (by decide) _ _ _ rfl ((HI.out.1.alloc _).alloc _) ⟨wr.heap.size + 1, 0, none⟩ 1 1 [.int .i64 x.stop, .int .i64 (x.arrive - x0.depart + start), .int .i64 (x.depart - x0.depart + start), .bool x.board, .bool x.alight] rfl rfl ?c1 ?c2 ?c3 ?c4 ?c5 ?_)
            case c1 => exact cells_new _ _ (by simp) (fun j u h => by simpa using h)
            case c2 => simp [Value.oneCell']
            case c3 => unfold maxLen; omega
            case c4 => omega
            case c5 => have := hb.size; simp; omega
            intro v' w2 hown' hgrow _
            have hb2 : Bl w1 w2 := ((hb.alloc hb.size _).alloc (by have := hb.size; simp; omega) _).grown hgrow (by have := hb.size; simp; omega) (fun k hk => (World.ownsRow.lt HI.out.1 k hk).1)
            have HOwn := Lib.hid hown'
            clear hown' hgrow
            go_wp2
            go_roundw
            case rel =>
              refine ⟨k + 1, by omega, by go_num, ⟨?_, ?_⟩, hb2⟩
              · rw [HT.out, List.map_append, List.map_cons, List.map_nil, flat_snoc]
                have ho := HOwn.out
                rw [← List.map_take] at ho
                exact ho
              · intro y hy
                rw [HT.out] at hy
                rcases List.mem_append.1 hy with hy | hy
                · exact HI.out.2 y hy
                · rw [List.mem_singleton.1 hy]; exact HOK.out
            case measure => simp [intOf]; omega
      · have hkn : k = cs.length := by omega
        have HF : Hid (wr.ownsRow w1.heap.size 44 5 u7 (cs.map (shiftC x0.depart start)).length ((cs.map (shiftC x0.depart start)).flatMap callCells)) := by
          have := HI.out.1
          rw [List.take_of_length_le (by omega), hkn] at this
          show World.ownsRow _ _ _ _ _ _ _
          rw [List.length_map]
          exact this
        have HR := Lib.hid (callsR_yes HX0.out (fun y hy => HI.out.2 y (by rw [List.take_of_length_le (by omega)]; exact hy)))
        clear hkn
        go_wp2
        go_ret2
        exact ⟨cres HR.out (slIn_own (fun _ => rfl) HF.out), bl_next b1 hb⟩
  · obtain ⟨a, cap, rfl, hl2, rfl⟩ := HC.out.empty (by omega)
    go_enter Try.func15, Try.ntmps15
    go_wp2
    go_ret2
    exact ⟨cres (callsS_nil start) slIn_nil, bl_alloc (bl_refl _) _⟩
end Go.Proofs.Ytknecohjajjloaa
