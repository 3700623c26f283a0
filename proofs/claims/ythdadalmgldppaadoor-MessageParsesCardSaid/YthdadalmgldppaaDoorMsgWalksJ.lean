/-
  THE CONTRACTS OF MESSAGE, PART J: the words of a call's flags, numbers, the fields of calls. Conditions: those of each contract.
-/
import Derived.Test.YthdadalmgldppaaDoorMsgWalksB
import Derived.Test.YthdadalmgldppaaDoorMFldWalksK
import Derived.Test.YthdadalmgldppaaDoorNuNumWalksD
import Derived.Test.YthdadalmgldppaaDoorMsgPlain3
namespace Go.Proofs.YthdadalmgldppaaDoor
open Go.RowKit
open Msg Num Fld

abbrev callV (c : CallD) : Value := .agg #[.int .i64 c.stop, .int .i64 c.arrive, .int .i64 c.depart, .bool c.board, .bool c.alight]
theorem permission_c (c : CallD) (w : World) :
    Calls Tryd.prog 57 #[callV c] w fun e w' => e = .returned (str (permS c)) ∧ Bl w w' := by
  obtain ⟨s, a, d, b, al⟩ := c
  cases b <;> cases al
  all_goals
    go_enter Tryd.func57, Tryd.ntmps57
    go_wp2
    go_ret
    exact ⟨rfl, bl_alloc (bl_refl _) _⟩

theorem ownS_app' {B : Nat} {v' : Value} {l m r : List (List UInt8)} {xs : List Value} {n : Nat} {w : World} (h : w.ownsRow B 9 1 v' n xs) (hr : l ++ m = r) (hn : n = r.length) (hx : xs = l.flatMap strCells ++ m.flatMap strCells) : OwnS B v' r w := by
  unfold OwnS
  rw [← hn, ← hr, List.flatMap_append, ← hx]
  exact h
abbrev intCells (n : Int) : List Value := [.int .i64 n]
abbrev IntsIn (B : Nat) (w : World) (v : Value) (xs : List Int) : Prop := SlIn intCells 1 B w v xs
set_option maxRecDepth 20000 in
set_option maxHeartbeats 4000000 in
theorem numbers_c (v : Value) (xs : List Int) (HX : Hid (∀ x ∈ xs, isI x)) (h1 : 0 < xs.length) (hl : xs.length ≤ 100) (B : Nat) (w : World) (hv : IntsIn B w v xs) (hB : B ≤ w.heap.size) :
    Calls Tryd.prog 31 #[v] w fun e w' => ∃ u, e = .returned u ∧ OwnS w.heap.size u (xs.map itoa) w' ∧ Bl w w' := by
  obtain ⟨i0, hi, hz0, hz1, hz2⟩ := info_parts info_str
  obtain ⟨b, o, cap, rfl, l1, l2, l3, hc⟩ := SlIn.open hv h1
  have H1 := Lib.hid hc
  have hN := Lib.hid hl
  clear hv hc hl
  go_enter Tryd.func31, Tryd.ntmps31
  go_wp2
  go_loopw [3, 8] (fun vo i wr => ∃ (k : Nat), k ≤ xs.length ∧ i = .int .i64 k ∧ Hid (OwnS w.heap.size vo ((xs.take k).map itoa) wr) ∧ Hid (Bl w wr)) (fun _ i _ => xs.length - (intOf i).toNat)
  case atStart => exact ⟨0, Nat.zero_le _, rfl, ownS_nil _ _, bl_refl _⟩
  case round =>
    obtain ⟨k, hk, rfl, HO, HB⟩ := hrel
    by_cases hlt : k < xs.length
    · obtain ⟨x, hx⟩ : ∃ x, xs[k]? = some x := ⟨_, List.getElem?_eq_getElem hlt⟩
      have c1 : wr.cell? ⟨b, o + k, none⟩ = some (.int .i64 x) := by rw [(bl_cell HB.out).1 _ _ (by omega)]; exact (by have := H1.out k x hx 0 _ rfl; simpa using this)
      have i1 : (k : Int) < (xs.length : Int) := by omega
      have hxI := HX.out x (List.mem_of_getElem? hx)
      have HT := Lib.hid (show ((xs.take k).map itoa) ++ [itoa x] = (xs.take (k + 1)).map itoa by rw [take_next hx, List.map_append]; rfl)
      have HL := Lib.hid (show ((xs.take k).map itoa).length = k by rw [List.length_map, List.length_take]; omega)
      obtain ⟨q, hq⟩ : ∃ q, itoa x = q := ⟨_, rfl⟩
      have hfc := fun w => Nu.format_c x hxI.1 hxI.2 w
      rw [hq] at hfc HT
      clear hx hq hxI
      go_wp2_with (go_at_call 32; refine (hfc _).mono ?_)
      rintro x2 w2 ⟨rfl, b2⟩
      have B2 : Hid (Bl w w2) := bl_next HB.out b2
      have O2 := Lib.hid (ownS_bl HO.out b2)
      clear b2 hfc
      go_wp2_with (at_builtin; refine wpList_append_own _ rfl _ _ 48 rfl w.heap.size 9 i0 (.string ByteArray.empty) 1 16 Tryd.underlying48 hi hz0 hz1 hz2 rfl (by decide) _ _ _ rfl (ownS_alloc O2.out _) ⟨w2.heap.size, 0, none⟩ 1 1 [str q] rfl rfl ?c1 ?c2 ?c3 ?c4 ?c5 ?_)
      case c1 => exact cells_of_lit _ (fun j u h => by simpa using h)
      case c2 => simp [Value.oneCell']
      case c3 => have := hN.out; unfold maxLen; first | (rw [HL.out]; omega) | omega
      case c4 => have := hN.out; first | (rw [HL.out]; omega) | omega
      case c5 => have := B2.out.size; simp; omega
      intro v3 w3 hown3 hgrow3 _
      have O3 := Lib.hid (ownS_app' (l := (xs.take k).map itoa) (m := [q]) hown3 HT.out (by simp; omega) (by simp))
      have B3 : Hid (Bl w w3) := (B2.out.alloc B2.out.size _).grown hgrow3 (by have := B2.out.size; simp; omega) (fun k hk => (World.ownsRow.lt O2.out k hk).1)
      clear hown3 hgrow3
      go_wp2
      go_roundw
      case rel => exact ⟨k + 1, by omega, by go_num, O3, B3⟩
      case measure => simp [intOf]; omega
    · have HF := Lib.hid (show (xs.take k).map itoa = xs.map itoa by rw [List.take_of_length_le (by omega)])
      rw [HF.out] at HO
      go_wp2
      go_ret
      exact ⟨_, rfl, HO.out, HB.out⟩
theorem bytes_add (a b : List UInt8) : (⟨a.toArray⟩ : ByteArray) ++ (⟨b.toArray⟩ : ByteArray) = ⟨(a ++ b).toArray⟩ := by
  apply ByteArray.ext
  rw [ByteArray.data_append]
  simp
theorem ints_new (xs : List Int) {C : Array Value} (hC : C = (xs.map (Value.int .i64)).toArray) (T : TypeId) (w : World) {n cap : Nat} (hn : n = xs.length) (h1 : n ≤ cap) (h2 : cap ≤ maxLen) :
    IntsIn (w.heap.size + 1) (w.alloc (.cells C T)) (.slice (some ⟨w.heap.size, 0, none⟩) n cap) xs := by
  subst hn
  refine ⟨_, _, rfl, h1, h2, fun _ => ⟨_, _, rfl, by omega, fun i x hx j u hu => ?_⟩⟩
  match j, hu with
  | 0, hu =>
    cases hu
    rw [World.cell?_alloc_at (hn := rfl), hC]
    simp [hx]
  | j + 1, hu => simp at hu
/-- The first k of some words, a blank behind each. -/
def blanks (l : List (List UInt8)) : List UInt8 := l.flatMap (fun x => x ++ [32])
theorem blanks_next {l : List (List UInt8)} {k : Nat} {x : List UInt8} (h : l[k]? = some x) : blanks (l.take (k + 1)) = blanks (l.take k) ++ (x ++ [32]) := by
  unfold blanks
  rw [take_next h, List.flatMap_append]
  simp
theorem blanks_text (c : CallD) : blanks [itoa c.stop, itoa c.arrive, itoa c.depart] ++ permS c = callText c := by
  simp [blanks, callText]
set_option maxRecDepth 20000 in
set_option maxHeartbeats 8000000 in
theorem callFields_c (v : Value) (cs : List CallD) (HX : Hid (∀ c ∈ cs, okCall c)) (hl : cs.length ≤ 100) (B : Nat) (w : World) (hv : CallsIn B w v cs) (hB : B ≤ w.heap.size) :
    Calls Tryd.prog 34 #[v] w fun e w' => ∃ u, e = .returned u ∧ OwnS w.heap.size u (cs.map callText) w' ∧ (cs = [] → u = .slice none 0 0) ∧ Bl w w' := by
  obtain ⟨i0, hi, hz0, hz1, hz2⟩ := info_parts info_str
  by_cases h1 : 0 < cs.length
  · obtain ⟨b, o, cap, rfl, l1, l2, l3, hc⟩ := SlIn.open hv h1
    have H1 := Lib.hid hc
    have hN := Lib.hid hl
    clear hv hc hl
    go_enter Tryd.func34, Tryd.ntmps34
    go_wp2
    go_loopw [3, 11] (fun vo i wr => ∃ (k : Nat), k ≤ cs.length ∧ i = .int .i64 k ∧ Hid (OwnS w.heap.size vo ((cs.take k).map callText) wr) ∧ Hid (Bl w wr)) (fun _ i _ => cs.length - (intOf i).toNat)
    case atStart => exact ⟨0, Nat.zero_le _, rfl, ownS_nil _ _, bl_refl _⟩
    case round =>
      obtain ⟨k, hk, rfl, HO, HB⟩ := hrel
      by_cases hlt : k < cs.length
      · obtain ⟨x, hx⟩ : ∃ x, cs[k]? = some x := ⟨_, List.getElem?_eq_getElem hlt⟩
        have hc0 : ∀ (j : Nat) (u : Value), (callCells x)[j]? = some u → wr.cell? ⟨b, o + k * 5 + j, none⟩ = some u := fun j u hu => by rw [(bl_cell HB.out).1 _ _ (by have := HB.out.size; omega)]; exact H1.out k x hx j u hu
        have g0 : wr.cell? ⟨b, o + k * 5, none⟩ = some (.int .i64 x.stop) := hc0 0 _ rfl
        have g1 := hc0 1 _ rfl
        have g2 := hc0 2 _ rfl
        have g3 := hc0 3 _ rfl
        have g4 := hc0 4 _ rfl
        have i1 : (k : Int) < (cs.length : Int) := by omega
        have HXI := Lib.hid (HX.out x (List.mem_of_getElem? hx))
        have HT := Lib.hid (show ((cs.take k).map callText) ++ [callText x] = (cs.take (k + 1)).map callText by rw [take_next hx, List.map_append]; rfl)
        clear hx hc0
        have HX3 := Lib.hid (show ∀ n ∈ [x.stop, x.arrive, x.depart], isI n by
          intro n hn
          have := HXI.out
          simp only [List.mem_cons, List.not_mem_nil, or_false] at hn
          rcases hn with rfl | rfl | rfl
          · exact this.1
          · exact this.2.1
          · exact this.2.2)
        go_wp2_with (go_at_call 31; refine (numbers_c _ [x.stop, x.arrive, x.depart] HX3 (by simp) (by simp) (wr.heap.size + 2) _ ?hv ?hBB).mono ?_)
        case hv =>
          have := ints_new [x.stop, x.arrive, x.depart] rfl 3 (wr.alloc (.cells #[.int .i64 x.stop, .int .i64 x.arrive, .int .i64 x.depart, .bool x.board, .bool x.alight] 46)) (n := 3) (cap := 3) rfl (by decide) (by unfold maxLen; omega)
          simpa using this
        case hBB => simp
        rintro x2 w2 ⟨u, rfl, OU, b2⟩
        have hs2 := b2.size
        simp only [World.size_alloc] at hs2
        have B2 : Hid (Bl w w2) := bl_next (bl_alloc (bl_alloc HB.out _) _) b2
        have BR : Hid (Bl wr w2) := bl_next (bl_alloc (bl_alloc (bl_refl _) _) _) b2
        have hcc : ∀ (j : Nat) (u : Value), (callCells x)[j]? = some u → w2.cell? ⟨wr.heap.size, j, none⟩ = some u := fun j u hu => by
          rw [(bl_cell b2).1 _ _ (by simp; omega), (bl_cell (bl_alloc (bl_refl (wr.alloc _)) _)).1 _ _ (by simp), World.cell?_alloc_at (hn := rfl)]
          exact (by simpa [callCells] using hu)
        have n0 : w2.cell? ⟨wr.heap.size, 0, none⟩ = some (.int .i64 x.stop) := hcc 0 _ rfl
        have n1 : w2.cell? ⟨wr.heap.size, 1, none⟩ = some (.int .i64 x.arrive) := hcc 1 _ rfl
        have n2 : w2.cell? ⟨wr.heap.size, 2, none⟩ = some (.int .i64 x.depart) := hcc 2 _ rfl
        have n3 : w2.cell? ⟨wr.heap.size, 3, none⟩ = some (.bool x.board) := hcc 3 _ rfl
        have n4 : w2.cell? ⟨wr.heap.size, 4, none⟩ = some (.bool x.alight) := hcc 4 _ rfl
        obtain ⟨b3, o3, cap3, rfl, m1, m2, m3, hc3⟩ := (ownS_in OU).open (by simp)
        have H3 := Lib.hid hc3
        have O2 := Lib.hid (ownS_bl HO.out BR.out)
        clear hcc hc3 b2 OU g0 g1 g2 g3 g4
        go_wp2_with fail
        go_loop [6, 24] (fun s i => ∃ (j : Nat), j ≤ 3 ∧ i = .int .i64 j ∧ ∃ t, s = str t ∧ t.length ≤ 21 * j ∧ Hid (blanks ([itoa x.stop, itoa x.arrive, itoa x.depart].take j) = t)) (fun _ i => 3 - (intOf i).toNat)
        case atStart => exact ⟨0, by omega, rfl, _, rfl, by decide, by show _ = _; rfl⟩
        case round =>
          obtain ⟨j, hj, rfl, t, rfl, htl, HTT⟩ := hrel
          by_cases hlt3 : j < 3
          · obtain ⟨q, hq⟩ : ∃ q, [itoa x.stop, itoa x.arrive, itoa x.depart][j]? = some q := ⟨_, List.getElem?_eq_getElem (by simpa using hlt3)⟩
            have c1 : w2.cell? ⟨b3, o3 + j, none⟩ = some (str q) := by have := H3.out j q (by simpa using hq) 0 _ rfl; simpa using this
            have i3 : (j : Int) < 3 := by omega
            have HQ := Lib.hid (show blanks ([itoa x.stop, itoa x.arrive, itoa x.depart].take (j + 1)) = t ++ (q ++ [32]) by rw [blanks_next hq, HTT.out])
            have hql : q.length ≤ 20 := by
              have := List.mem_of_getElem? hq
              simp only [List.mem_cons, List.not_mem_nil, or_false] at this
              rcases this with rfl | rfl | rfl
              · exact itoa_len HXI.out.1.1 HXI.out.1.2
              · exact itoa_len HXI.out.2.1.1 HXI.out.2.1.2
              · exact itoa_len HXI.out.2.2.1 HXI.out.2.2.2
            clear hq
            go_wp2_with fail
            go_round
            case rel => exact ⟨j + 1, by omega, by go_num, t ++ (q ++ [32]), by rw [show (#[32] : Array UInt8) = [32].toArray from rfl, bytes_add, bytes_add], by simp; omega, HQ⟩
            case measure => simp [intOf]; omega
          · have HF := Lib.hid (show t ++ permS x = callText x by rw [← HTT.out, ← blanks_text, List.take_of_length_le (by show 3 ≤ j; omega)])
            have hpl : (permS x).length ≤ 6 := by
              unfold permS
              repeat' split
              all_goals decide
            have hpc := permission_c x
            obtain ⟨p, hp⟩ : ∃ p, permS x = p := ⟨_, rfl⟩
            rw [hp] at hpc hpl HF
            clear hp
            go_wp2_with (go_at_call 57; refine (hpc _).mono ?_)
            rintro x4 w4 rfl b4
            have B4 : Hid (Bl w w4) := bl_next B2.out b4
            have O4 := Lib.hid (ownS_bl O2.out b4)
            clear b4 hpc n0 n1 n2 n3 n4
            go_wp2_with (at_builtin; refine wpList_append_own _ rfl _ _ 48 rfl w.heap.size 9 i0 (.string ByteArray.empty) 1 16 Tryd.underlying48 hi hz0 hz1 hz2 rfl (by decide) _ _ _ rfl (ownS_alloc O4.out _) ⟨w4.heap.size, 0, none⟩ 1 1 [str (t ++ p)] rfl rfl ?d1 ?d2 ?d3 ?d4 ?d5 ?_)
            case d1 => exact cells_of_lit _ (fun j u h => by rw [bytes_add]; simpa using h)
            case d2 => simp [Value.oneCell']
            case d3 => have := hN.out; unfold maxLen; simp; omega
            case d4 => have := hN.out; simp; omega
            case d5 => have := B4.out.size; simp; omega
            intro v5 w5 hown5 hgrow5 _
            have O5 := Lib.hid (ownS_app' (l := (cs.take k).map callText) (m := [t ++ p]) (r := (cs.take (k + 1)).map callText) hown5 (by rw [HF.out]; exact HT.out) (by simp; omega) (by simp))
            have B5 : Hid (Bl w w5) := (B4.out.alloc B4.out.size _).grown hgrow5 (by have := B4.out.size; simp; omega) (fun k hk => (World.ownsRow.lt O4.out k hk).1)
            clear hown5 hgrow5
            go_wp2
            go_roundw
            case rel => exact ⟨k + 1, by omega, by go_num, O5, B5⟩
            case measure => simp [intOf]; omega
      · have HF := Lib.hid (show (cs.take k).map callText = cs.map callText by rw [List.take_of_length_le (by omega)])
        rw [HF.out] at HO
        go_wp2
        go_ret
        exact ⟨_, rfl, HO.out, fun h => by rw [h] at h1; exact absurd h1 (by decide), HB.out⟩
  · obtain ⟨a1, c1, rfl, m1, rfl⟩ := hv.empty (by omega)
    go_enter Tryd.func34, Tryd.ntmps34
    go_wp2_with fail
    refine wp_loop_rounds 1 ?_
    rw [rounds_succ]
    go_wp2
    go_ret
    exact ⟨_, rfl, ownS_nil _ _, fun _ => rfl, bl_refl _⟩
end Go.Proofs.YthdadalmgldppaaDoor
