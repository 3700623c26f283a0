/-
  THE CONTRACTS OF FIELD, NINTH PART: rows of strings of the call's own; Split, of the program and of the reference. Conditions: those of each contract.
-/
import Derived.Test.YthdadalmgldppaaDoorMFldWalksH
import Derived.Test.YthdadalmgldppaaDoorMem
namespace Go.Proofs.YthdadalmgldppaaDoor
open Go.RowKit
open Fld

/-! ### rows of strings -/
abbrev strCells (x : List UInt8) : List Value := [str x]
theorem strCells_len (x : List UInt8) : (strCells x).length = 1 := rfl
/-- A slice value that reads as a list of strings. -/
abbrev StrsIn (B : Nat) (w : World) (v : Value) (l : List (List UInt8)) : Prop := SlIn strCells 1 B w v l
/-- A slice value that owns a row of strings in a block from B on. -/
def OwnS (B : Nat) (v : Value) (l : List (List UInt8)) (w : World) : Prop := w.ownsRow B 9 1 v l.length (l.flatMap strCells)
theorem info_str : (Tryd.prog.info? 9).map (fun i => (i.zero, i.size, i.bytes)) = some (some (.string ByteArray.empty), 1, 16) := by kernel_rfl
theorem ownS_nil (B : Nat) (w : World) : OwnS B (.slice none 0 0) [] w := World.ownsRow_nil w B _ 1
theorem ownS_alloc {B : Nat} {v : Value} {l : List (List UInt8)} {w : World} (h : OwnS B v l w) (o : Obj) : OwnS B v l (w.alloc o) := World.ownsRow.alloc h o
theorem ownS_bl {B : Nat} {v : Value} {l : List (List UInt8)} {w w' : World} (h : OwnS B v l w) (hb : Bl w w') : OwnS B v l w' := World.ownsRow.kept h (bl_grown hb) (by cases v.ownBlock <;> simp)
theorem ownS_app {B : Nat} {v' : Value} {l m : List (List UInt8)} {w : World} (h : w.ownsRow B 9 1 v' (l.length + m.length) (l.flatMap strCells ++ m.flatMap strCells)) : OwnS B v' (l ++ m) w := by
  unfold OwnS
  rw [List.flatMap_append, List.length_append]
  exact h
theorem ownS_in {B : Nat} {v : Value} {l : List (List UInt8)} {w : World} (h : OwnS B v l w) : StrsIn w.heap.size w v l := slIn_own strCells_len h
theorem ownS_form {B : Nat} {v : Value} {l : List (List UInt8)} {w : World} (h : OwnS B v l w) : ∃ a c, v = .slice a l.length c := by
  rcases h.2 with ⟨rfl, h0⟩ | ⟨g, cap, cur, rfl, _⟩
  · exact ⟨_, _, by rw [h0]⟩
  · exact ⟨_, _, rfl⟩

/-! ### the plain side of Split -/
/-- What is said of a line whose first fields are known. -/
def pre (out : List (List UInt8)) (r : List (List UInt8) × Int) : List (List UInt8) × Int := if r.2 = 0 then (out ++ r.1, 0) else r
theorem pre_nil (r : List (List UInt8) × Int) : pre [] r = r := by
  unfold pre
  split
  · rename_i h; rw [List.nil_append]; exact Prod.ext rfl h.symm
  · rfl
theorem pre_pre (out : List (List UInt8)) (f : List UInt8) (r : List (List UInt8) × Int) : pre out (pre [f] r) = pre (out ++ [f]) r := by
  unfold pre
  by_cases h : r.2 = 0
  · rw [if_pos h, if_pos h, if_pos rfl]
    simp
  · rw [if_neg h, if_neg h, if_neg h]
theorem pre_bad (out : List (List UInt8)) (e : Int) (he : e ≠ 0) : pre out ([], e) = ([], e) := by
  unfold pre
  rw [if_neg he]
theorem splitF_bad {n : Nat} {s : List UInt8} (h : unquoteS (s.take (extS s)) = none) : splitF (n + 1) s = ([], 3) := by
  simp only [splitF]
  rw [h]
theorem splitF_last {n : Nat} {s f : List UInt8} (h : unquoteS (s.take (extS s)) = some f) (hd : s.drop (extS s) = []) : splitF (n + 1) s = ([f], 0) := by
  simp only [splitF]
  rw [h]
  simp only
  rw [hd]
theorem splitF_more {n : Nat} {s f r : List UInt8} {c : UInt8} (h : unquoteS (s.take (extS s)) = some f) (hd : s.drop (extS s) = c :: r) (hc : c.toNat = 44) : splitF (n + 1) s = pre [f] (splitF n r) := by
  simp only [splitF]
  rw [h]
  simp only
  rw [hd]
  simp only
  rw [if_pos (by simp [hc])]
  rfl
theorem splitF_other {n : Nat} {s f r : List UInt8} {c : UInt8} (h : unquoteS (s.take (extS s)) = some f) (hd : s.drop (extS s) = c :: r) (hc : ¬ c.toNat = 44) : splitF (n + 1) s = ([], 3) := by
  simp only [splitF]
  rw [h]
  simp only
  rw [hd]
  simp only
  rw [if_neg (by simpa using hc)]
set_option maxRecDepth 20000 in
set_option maxHeartbeats 4000000 in
theorem split_c (s : ByteArray) (hs : s.size ≤ 34359738368) (l : List (List UInt8)) (e : Int) (H : Hid (splitS s.data.toList = (l, e))) (w : World) :
    Calls Tryd.prog 37 #[.string s] w fun r w' => ∃ v, r = .returned (.tuple #[v, .int .i64 e]) ∧ OwnS w.heap.size v l w' ∧ Bl w w' := by
  obtain ⟨i0, hi, hz0, hz1, hz2⟩ := info_parts info_str
  by_cases hbig : 65536 < s.size
  · have HF := Lib.hid (show (([] : List (List UInt8)), (5 : Int)) = (l, e) by rw [← H.out]; unfold splitS; rw [if_pos (by rw [len_bytes]; exact hbig)])
    obtain ⟨e1, e2⟩ := Prod.mk.inj HF.out
    clear H HF
    subst e1 e2
    go_enter Tryd.func37, Tryd.ntmps37
    go_wp2
    go_ret2
    exact ⟨_, rfl, ownS_nil _ _, bl_refl _⟩
  by_cases h0 : s.size = 0
  · have hs : s.toList = [] := toList_nil h0
    have hn := len_bytes s
    have HF := Lib.hid (show (([] : List (List UInt8)), (0 : Int)) = (l, e) by
      rw [← H.out]; unfold splitS; rw [if_neg (by rw [hn]; omega), if_pos (List.length_eq_zero_iff.1 (hn.trans h0))])
    obtain ⟨e1, e2⟩ := Prod.mk.inj HF.out
    clear H HF
    subst e1 e2
    go_enter Tryd.func37, Tryd.ntmps37
    go_wp2
    go_ret2
    exact ⟨_, rfl, ownS_nil _ _, bl_refl _⟩
  have hne := toList_ne h0
  have hne' := toList_ne' h0
  have hn := len_bytes s
  have HS := Lib.hid (show pre [] (splitF (64 - 0) (s.data.toList.drop 0)) = (l, e) by
    rw [pre_nil, ← H.out]; unfold splitS; rw [if_neg (by rw [hn]; omega), if_neg (fun h => by rw [h] at hn; simp at hn; omega)]; rfl)
  clear H
  go_enter Tryd.func37, Tryd.ntmps37
  go_wp2
  go_loopw [4, 5] (fun vo i wr => ∃ (k : Nat) (out : List (List UInt8)), k ≤ s.size ∧ out.length < 64 ∧ i = .int .i64 k ∧ Hid (OwnS w.heap.size vo out wr) ∧ Hid (pre out (splitF (64 - out.length) (s.data.toList.drop k)) = (l, e)) ∧ Hid (Bl w wr)) (fun _ i _ => s.size + 1 - (intOf i).toNat)
  case atStart => exact ⟨0, [], Nat.zero_le _, by decide, rfl, ownS_nil _ _, HS, bl_refl _⟩
  case round =>
    obtain ⟨k, out, hk, hol, rfl, HO, HD, HB⟩ := hrel
    obtain ⟨r, hr⟩ : ∃ r, k + extS (s.data.toList.drop k) = r := ⟨_, rfl⟩
    have hxl := extS_le (s.data.toList.drop k)
    rw [List.length_drop, hn] at hxl
    have hrs : r ≤ s.size := by omega
    have hkr : k ≤ r := by omega
    have HR := Lib.hid hr
    have hex := extent_c s hs k hk r HR
    have HT := Lib.hid (show (s.extract k r).data.toList = (s.data.toList.drop k).take (extS (s.data.toList.drop k)) by rw [ext_list, ← hr, Nat.add_sub_cancel_left])
    have HE := Lib.hid (show (s.data.toList.drop k).drop (extS (s.data.toList.drop k)) = s.data.toList.drop r by rw [List.drop_drop, hr])
    have h64 : 64 - out.length = (63 - out.length) + 1 := by omega
    rw [h64] at HD
    clear hr hxl
    obtain ⟨u, hu⟩ : ∃ u, unquoteS (s.extract k r).data.toList = u := ⟨_, rfl⟩
    have HU := Lib.hid (show unquoteS ((s.data.toList.drop k).take (extS (s.data.toList.drop k))) = u by rw [← HT.out]; exact hu)
    have hsz : (s.extract k r).size ≤ 34359738368 := by rw [ext_size _ _ _ hrs hkr]; omega
    cases u with
    | none =>
      have hun := unquote_c (s.extract k r) hsz [] 3 (by show _ = _; rw [hu]; rfl)
      have HF := Lib.hid (show (([] : List (List UInt8)), (3 : Int)) = (l, e) by rw [← HD.out, splitF_bad HU.out]; rfl)
      obtain ⟨e1, e2⟩ := Prod.mk.inj HF.out
      clear HF hu HD
      subst e1 e2
      go_wp2_with (go_at_call 63; refine (hex _).mono ?_)
      rintro x w1 ⟨rfl, rfl⟩
      go_wp2_with (go_at_call 64; refine (hun _).mono ?_)
      rintro x w2 ⟨rfl, b2⟩
      go_wp2
      go_ret2
      exact ⟨_, rfl, ownS_nil _ _, bl_next HB.out b2⟩
    | some f =>
      have hun := unquote_c (s.extract k r) hsz f 0 (by show _ = _; rw [hu]; rfl)
      clear hu
      by_cases hend : r < s.size
      · have HC := Lib.hid (drop_cons s r hend)
        by_cases h44 : ((s[r]'hend).toNat : Int) = 44
        · have HM := Lib.hid (show pre (out ++ [f]) (splitF (63 - out.length) (s.data.toList.drop (r + 1))) = (l, e) by
            rw [← HD.out, splitF_more HU.out (HE.out.trans HC.out) (by omega), pre_pre])
          clear HD
          go_wp2_with (go_at_call 63; refine (hex _).mono ?_)
          rintro x w1 ⟨rfl, rfl⟩
          go_wp2_with (go_at_call 64; refine (hun _).mono ?_)
          rintro x w2 ⟨rfl, b2⟩
          have B2 : Hid (Bl w w2) := bl_next HB.out b2
          have O2 := Lib.hid (ownS_bl HO.out b2)
          clear b2 hun hex
          go_wp2_with (at_builtin; refine wpList_append_own _ rfl _ _ 48 rfl w.heap.size 9 i0 (.string ByteArray.empty) 1 16 Tryd.underlying48 hi hz0 hz1 hz2 rfl (by decide) _ _ _ rfl (ownS_alloc O2.out _) ⟨w2.heap.size, 0, none⟩ 1 1 [str f] rfl rfl ?c1 ?c2 ?c3 ?c4 ?c5 ?_)
          case c1 => exact cells_of_lit _ (fun j u h => by simpa using h)
          case c2 => simp [Value.oneCell']
          case c3 => unfold maxLen; omega
          case c4 => omega
          case c5 => have := B2.out.size; simp; omega
          intro v3 w3 hown3 hgrow3 _
          have O3 := Lib.hid (ownS_app (m := [f]) hown3)
          have B3 : Hid (Bl w w3) := (B2.out.alloc B2.out.size _).grown hgrow3 (by have := B2.out.size; simp; omega) (fun k hk => (World.ownsRow.lt O2.out k hk).1)
          clear hown3 hgrow3
          obtain ⟨a3, c3, rfl⟩ := ownS_form O3.out
          have hl3 : (out ++ [f]).length = out.length + 1 := by simp
          rw [hl3] at O3 ⊢
          by_cases hfull : out.length = 63
          · have HF := Lib.hid (show (([] : List (List UInt8)), (5 : Int)) = (l, e) by
              rw [← HM.out, hfull]; rfl)
            obtain ⟨e1, e2⟩ := Prod.mk.inj HF.out
            clear HF HM
            subst e1 e2
            go_wp2
            go_ret2
            exact ⟨_, rfl, ownS_nil _ _, B3.out⟩
          · go_wp2
            go_roundw
            case rel => exact ⟨r + 1, out ++ [f], by omega, by omega, by go_num, O3, by rw [hl3, show 64 - (out.length + 1) = 63 - out.length by omega]; exact HM, B3⟩
            case measure => simp [intOf]; omega
        · have f1 : (((s[r]'hend).toNat : Int) != 44) = true := by rw [bne_iff_ne]; exact h44
          have HF := Lib.hid (show (([] : List (List UInt8)), (3 : Int)) = (l, e) by
            rw [← HD.out, splitF_other HU.out (HE.out.trans HC.out) (by omega)]; rfl)
          obtain ⟨e1, e2⟩ := Prod.mk.inj HF.out
          clear HF HD
          subst e1 e2
          go_wp2_with (go_at_call 63; refine (hex _).mono ?_)
          rintro x w1 ⟨rfl, rfl⟩
          go_wp2_with (go_at_call 64; refine (hun _).mono ?_)
          rintro x w2 ⟨rfl, b2⟩
          go_wp2
          go_ret2
          exact ⟨_, rfl, ownS_nil _ _, bl_next HB.out b2⟩
      · obtain rfl : r = s.size := by omega
        have HF := Lib.hid (show (out ++ [f], (0 : Int)) = (l, e) by
          rw [← HD.out, splitF_last HU.out (HE.out.trans (drop_end s _ (Nat.le_refl _)))]; rfl)
        obtain ⟨e1, e2⟩ := Prod.mk.inj HF.out
        clear HF HD
        subst e1 e2
        go_wp2_with (go_at_call 63; refine (hex _).mono ?_)
        rintro x w1 ⟨rfl, rfl⟩
        go_wp2_with (go_at_call 64; refine (hun _).mono ?_)
        rintro x w2 ⟨rfl, b2⟩
        have B2 : Hid (Bl w w2) := bl_next HB.out b2
        have O2 := Lib.hid (ownS_bl HO.out b2)
        clear b2 hun hex
        go_wp2_with (at_builtin; refine wpList_append_own _ rfl _ _ 48 rfl w.heap.size 9 i0 (.string ByteArray.empty) 1 16 Tryd.underlying48 hi hz0 hz1 hz2 rfl (by decide) _ _ _ rfl (ownS_alloc O2.out _) ⟨w2.heap.size, 0, none⟩ 1 1 [str f] rfl rfl ?c1 ?c2 ?c3 ?c4 ?c5 ?_)
        case c1 => exact cells_of_lit _ (fun j u h => by simpa using h)
        case c2 => simp [Value.oneCell']
        case c3 => unfold maxLen; omega
        case c4 => omega
        case c5 => have := B2.out.size; simp; omega
        intro v3 w3 hown3 hgrow3 _
        have O3 := Lib.hid (ownS_app (m := [f]) hown3)
        have B3 : Hid (Bl w w3) := (B2.out.alloc B2.out.size _).grown hgrow3 (by have := B2.out.size; simp; omega) (fun k hk => (World.ownsRow.lt O2.out k hk).1)
        clear hown3 hgrow3
        go_wp2
        go_ret2
        exact ⟨_, rfl, O3.out, B3.out⟩
end Go.Proofs.YthdadalmgldppaaDoor
