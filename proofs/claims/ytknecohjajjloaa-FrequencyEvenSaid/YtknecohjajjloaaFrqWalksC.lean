/-
  THE CONTRACTS OF FREQUENCY, THIRD PART: Calls. Conditions: those of each contract.
-/
import Derived.Test.YtknecohjajjloaaFrqWalksB
import Derived.Test.YtknecohjajjloaaCopyWide
namespace Go.Proofs.Ytknecohjajjloaa
open Go.RowKit
open Frq

theorem flat_len (l : List CallD) : (l.flatMap callCells).length = l.length * 5 := by
  induction l with
  | nil => rfl
  | cons c l ih => rw [List.flatMap_cons, List.length_append, ih, List.length_cons]; show 5 + _ = _; omega
theorem flat_set2 (A B : List CallD) (x : CallD) (a d : Int) (k : Nat) (hk : A.length = k) :
    (((A ++ x :: B).flatMap callCells).set (k * 5 + 1) (.int .i64 a)).set (k * 5 + 2) (.int .i64 d) = (A ++ { x with arrive := a, depart := d } :: B).flatMap callCells := by
  have hl := flat_len A
  rw [hk] at hl
  rw [List.flatMap_append, List.flatMap_append, List.flatMap_cons, List.flatMap_cons]
  rw [List.set_append_right _ _ (by omega), List.set_append_right _ _ (by omega), hl]
  rw [show k * 5 + 1 - k * 5 = 1 by omega, show k * 5 + 2 - k * 5 = 2 by omega]
  rfl
/-- The calls after k rounds. -/
def mix (cs : List CallD) (first start : Int) (k : Nat) : List CallD := (cs.take k).map (shiftC first start) ++ cs.drop k
theorem mix_at {cs : List CallD} {first start : Int} {k : Nat} {x : CallD} (h : cs[k]? = some x) : mix cs first start k = (cs.take k).map (shiftC first start) ++ x :: cs.drop (k + 1) := by
  obtain ⟨hk, rfl⟩ := List.getElem?_eq_some_iff.1 h
  unfold mix
  rw [List.drop_eq_getElem_cons hk]
theorem mix_succ {cs : List CallD} {first start : Int} {k : Nat} {x : CallD} (h : cs[k]? = some x) : mix cs first start (k + 1) = (cs.take k).map (shiftC first start) ++ shiftC first start x :: cs.drop (k + 1) := by
  unfold mix
  rw [take_snoc_at h]
  simp
theorem mix_len (cs : List CallD) (first start : Int) (k : Nat) (hk : k ≤ cs.length) : (mix cs first start k).length = cs.length := by
  simp [mix]; omega
theorem mix_get {cs : List CallD} {first start : Int} {k : Nat} {x : CallD} (h : cs[k]? = some x) : (mix cs first start k)[k]? = some x := by
  rw [mix_at h]
  have hk : k < cs.length := (List.getElem?_eq_some_iff.1 h).1
  have e : ((cs.take k).map (shiftC first start)).length = k := by simp; omega
  rw [List.getElem?_append_right (by omega), e, Nat.sub_self]
  rfl
theorem mixed_step {cs : List CallD} {first start : Int} {k : Nat} {x : CallD} (h : cs[k]? = some x) :
    (((mix cs first start k).flatMap callCells).set (k * 5 + 1) (.int .i64 (x.arrive - first + start))).set (k * 5 + 2) (.int .i64 (x.depart - first + start)) = (mix cs first start (k + 1)).flatMap callCells := by
  have hk : k < cs.length := (List.getElem?_eq_some_iff.1 h).1
  rw [mix_at h, mix_succ h, flat_set2 _ _ _ _ _ _ (by simp; omega)]
  rfl
theorem okC_no1 {first start : Int} {x : CallD} (h : near x.arrive first start = false) : okC first start x = false := by unfold okC; rw [h]; rfl
theorem okC_no2 {first start : Int} {x : CallD} (h : near x.depart first start = false) : okC first start x = false := by unfold okC; rw [h, Bool.and_false]

theorem callInfo : (Try.prog.info? 44).map (·.size) = some 5 := by kernel_rfl
set_option maxRecDepth 100000 in
set_option maxHeartbeats 8000000 in
theorem calls_c (id : ByteArray) (rt cal : Int) (step : Bool) (v : Value) (cs : List CallD) (start : Int) (hst : isInt start) (B : Nat) (w : World) (hcs : CallsIn B w v cs) (hB : B ≤ w.heap.size) (hok : ∀ c ∈ cs, okT c) (hlen : cs.length ≤ 1000) :
    Calls Try.prog 14 #[.agg #[.string id, .int .i64 rt, .int .i64 cal, .bool step, v], .int .i64 start] w fun e w' => CRes cs start e w' ∧ Bl w w' := by
  obtain ⟨i0, hi, hz0, hz1, hz2⟩ := info_parts info_call
  have HC := Lib.hid hcs
  have HO := Lib.hid hok
  have HST := Lib.hid hst
  clear hcs hok hst
  by_cases hlen0 : 0 < cs.length
  · obtain ⟨b, o, cap, rfl, hl1, hl2, hbB, hcell⟩ := HC.out.open hlen0
    obtain ⟨x0, hx0⟩ : ∃ x0, cs[0]? = some x0 := ⟨_, List.getElem?_eq_getElem hlen0⟩
    have d2 := hcell 0 x0 hx0 2 _ rfl
    rw [show o + 0 * 5 + 2 = o + 2 by omega] at d2
    have hlt : b < w.heap.size := by omega
    have HX0 := Lib.hid hx0
    have HCell := Lib.hid hcell
    have q0 : ((cs.length : Int) == 0) = false := by rw [beq_eq_false_iff_ne]; omega
    clear hcell hx0 HC
    go_enter Try.func14, Try.ntmps14
    go_wp2_with (refine wpList_make_full _ rfl _ _ 31 rfl (w.heap.size + 1) 44 i0 (.agg #[.int .i64 0, .int .i64 0, .int .i64 0, .bool false, .bool false]) 5 Try.underlying31 hi hz0 hz1 .i64 .i64 _ _ cs.length rfl rfl rfl rfl ?c1 ?c2 ?c3 ?_)
    case c1 => rw [hz2]; omega
    case c2 => unfold maxLen; omega
    case c3 => simp
    intro w2 own2 gr2
    have b2 : Bl w w2 := (bl_alloc (bl_refl w) _).grown gr2 (by simp) (fun k hk => by cases hk)
    have c4 : w2.cell? ⟨w.heap.size, 4, none⟩ = some (.slice (some ⟨b, o, none⟩) cs.length cap) := gr2.cell (by rw [World.cell?_alloc_at (hn := rfl)]; rfl) (by simp)
    have HS := Lib.hid (flat_cells (w := w2) (b := b) callCells_len cs o (fun i x hx j u hu => by rw [(bl_cell b2).1 _ _ hlt]; exact HCell.out i x hx j u hu))
    have hs2 := gr2.size
    simp only [World.size_alloc] at own2 hs2
    have O2 := Lib.hid own2
    clear own2 gr2
    go_wp2_with (refine wpList_copy_whole rfl (.tmp 24) (.tmp 26) 31 31 rfl 44 Try.underlying31 5 callInfo (w.heap.size + 1) (w.heap.size + 1) cs.length cs.length cap ⟨b, o, none⟩ rfl rfl _ O2.out (cs.flatMap callCells) (flat_len cs) HS.out ?c4 ?_)
    case c4 =>
      intro u hu
      simp only [List.mem_flatMap, callCells, List.mem_cons, List.not_mem_nil, or_false] at hu
      obtain ⟨c, _, h | h | h | h | h⟩ := hu <;> rw [h] <;> rfl
    intro w3 own3 gr3
    have b3 : Bl w w3 := b2.grown gr3 b2.size (fun k hk => by cases hk; omega)
    have hs3 := gr3.size
    have own3' : w3.ownsRow (w.heap.size + 1) 44 5 (.slice (some ⟨w.heap.size + 1, 0, none⟩) cs.length cs.length) cs.length ((mix cs x0.depart start 0).flatMap callCells) := own3
    have O3 := Lib.hid own3'
    clear own3 own3' gr3 HS O2 c4 d2
    go_wp2_with fail
    go_loopw [30] (fun i wr => ∃ k : Nat, k ≤ cs.length ∧ i = .int .i64 k ∧ (wr.ownsRow (w.heap.size + 1) 44 5 (.slice (some ⟨w.heap.size + 1, 0, none⟩) cs.length cs.length) cs.length ((mix cs x0.depart start k).flatMap callCells) ∧ (∀ x ∈ cs.take k, okC x0.depart start x = true)) ∧ Bl w wr ∧ w.heap.size + 1 < wr.heap.size) (fun i _ => cs.length - (intOf i).toNat)
    case atStart => exact ⟨0, Nat.zero_le _, rfl, ⟨O3.out, by simp⟩, b3, (World.ownsRow.lt O3.out _ rfl).2⟩
    case round =>
      obtain ⟨k, hk, rfl, hinv, hb, hgs⟩ := hrel
      have HI := Lib.hid hinv
      clear hinv
      by_cases hltk : k < cs.length
      · obtain ⟨x, hx⟩ : ∃ x, cs[k]? = some x := ⟨_, List.getElem?_eq_getElem hltk⟩
        have hc : ∀ j u, j < 5 → (callCells x)[j]? = some u → wr.cell? ⟨w.heap.size + 1, k * 5 + j, none⟩ = some u := fun j u hj hu => by
          rw [World.ownsRow.cellAt HI.out.1 (k * 5 + j) (by omega)]
          exact flat_get callCells_len (mix_get hx) hu
        have g1 := hc 1 _ (by decide) rfl
        have g2 := hc 2 _ (by decide) rfl
        have f1 := World.ownsRow.frozenAt HI.out.1 (k * 5 + 1)
        have f2 := World.ownsRow.frozenAt HI.out.1 (k * 5 + 2)
        have HX := Lib.hid hx
        have HM : Hid (x ∈ cs) := List.mem_of_getElem? HX.out
        have HT := Lib.hid (take_snoc_at HX.out)
        have HST2 := Lib.hid (mixed_step (first := x0.depart) (start := start) HX.out)
        clear hx hc
        go_wp2_with fail
        refine (moved_c x.arrive x0.depart start (HO.out x HM.out).1 (HO.out x0 (List.mem_of_getElem? HX0.out)).2 HST.out _).mono ?_
        rintro e w5 ⟨⟨n1, rfl, N1⟩, rfl⟩
        obtain ⟨p1, hp1⟩ : ∃ p, near x.arrive x0.depart start = p := ⟨_, rfl⟩
        rw [hp1] at N1
        rw [hp1]
        have P1 := Lib.hid (And.intro hp1 N1)
        clear hp1 N1
        go_wp2_with fail
        refine (moved_c x.depart x0.depart start (HO.out x HM.out).2 (HO.out x0 (List.mem_of_getElem? HX0.out)).2 HST.out _).mono ?_
        rintro e w6 ⟨⟨n2, rfl, N2⟩, rfl⟩
        obtain ⟨p2, hp2⟩ : ∃ p, near x.depart x0.depart start = p := ⟨_, rfl⟩
        rw [hp2] at N2
        rw [hp2]
        have P2 := Lib.hid (And.intro hp2 N2)
        clear hp2 N2
        cases p1 with
        | false =>
          have HR := Lib.hid (callsS_no HX0.out HM.out (okC_no1 P1.out.1))
          go_wp2
          go_ret2
          exact ⟨cres HR.out slIn_nil, bl_set (bl_set hb (by simp) _) (by simp) _⟩
        | true =>
          cases p2 with
          | false =>
            have HR := Lib.hid (callsS_no HX0.out HM.out (okC_no2 P2.out.1))
            go_wp2
            go_ret2
            exact ⟨cres HR.out slIn_nil, bl_set (bl_set hb (by simp) _) (by simp) _⟩
          | true =>
            obtain ⟨rfl⟩ : n1 = x.arrive - x0.depart + start := P1.out.2 rfl
            obtain ⟨rfl⟩ : n2 = x.depart - x0.depart + start := P2.out.2 rfl
            have HOK := Lib.hid (show okC x0.depart start x = true by unfold okC; rw [P1.out.1, P2.out.1]; rfl)
            go_wp2
            go_roundw
            case rel =>
              refine ⟨k + 1, by omega, by go_num, ⟨?_, ?_⟩, bl_set (bl_set hb (by simp) _) (by simp) _, by simpa [World.setCell] using hgs⟩
              · have := ((World.ownsRow.stored HI.out.1 (k * 5 + 1) (.int .i64 (x.arrive - x0.depart + start))).1.stored (k * 5 + 2) (.int .i64 (x.depart - x0.depart + start))).1
                rw [HST2.out] at this
                exact this
              · intro y hy
                rw [HT.out] at hy
                rcases List.mem_append.1 hy with hy | hy
                · exact HI.out.2 y hy
                · rw [List.mem_singleton.1 hy]; exact HOK.out
            case measure => simp [intOf]; omega
      · have hkn : k = cs.length := by omega
        have HF : Hid (wr.ownsRow (w.heap.size + 1) 44 5 (.slice (some ⟨w.heap.size + 1, 0, none⟩) cs.length cs.length) (cs.map (shiftC x0.depart start)).length ((cs.map (shiftC x0.depart start)).flatMap callCells)) := by
          have := HI.out.1
          unfold mix at this
          rw [List.take_of_length_le (by omega), List.drop_of_length_le (by omega), List.append_nil] at this
          show World.ownsRow _ _ _ _ _ _ _
          rw [List.length_map]
          exact this
        have HR := Lib.hid (callsS_yes HX0.out (by rw [List.all_eq_true]; exact fun y hy => HI.out.2 y (by rw [List.take_of_length_le (by omega)]; exact hy)))
        clear hkn
        go_wp2
        go_ret2
        exact ⟨cres HR.out (slIn_own (fun _ => rfl) HF.out), hb⟩
  · obtain ⟨a, cap, rfl, hl2, rfl⟩ := HC.out.empty (by omega)
    go_enter Try.func14, Try.ntmps14
    go_wp2
    go_ret2
    exact ⟨cres (callsS_nil start) slIn_nil, bl_alloc (bl_refl _) _⟩
end Go.Proofs.Ytknecohjajjloaa
