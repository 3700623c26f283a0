/-
  THE PLAIN LAW OF AN INSERTED LINE, for texts. Conditions: those of each lemma.
-/
import Derived.Test.YtakedkcjplfgeaaGreatDoorExtra
import Derived.Test.YtakedkcjplfgeaaGreatDoorFedIgn
namespace Go.Proofs.YtakedkcjplfgeaaGreatDoor.Tt
open Num Clk Dat Frq Thr Fld

theorem no_lf {l : List UInt8} (h : beginsG l 0 0 1 < 0) : (10 : UInt8) ∉ l := fun hm => by
  obtain ⟨l1, r, rfl, h1⟩ := List.eq_append_cons_of_mem hm
  rw [begins_line l1 h1 r 0 0 1 (by decide)] at h
  have : beginsG r (0 + l1.length + 1) (0 + 1) 1 = 0 + l1.length + 1 := by cases r <;> simp [beginsG]
  omega
theorem begins_far : ∀ (ls : List (List UInt8)) (_ : ∀ l ∈ ls, (10 : UInt8) ∉ l) (i a : Int) (k : Nat), ls.length < k → beginsG (textL ls) i a (a + k) = -1
  | [], _, i, a, k, hk => by
    show (if a = a + k then i else -1) = -1
    rw [if_neg (by have : 0 < k := hk; omega)]
  | l :: ls, h, i, a, 0, hk => by simp at hk
  | l :: ls, h, i, a, k + 1, hk => by
    have e : textL (l :: ls) = l ++ 10 :: textL ls := by simp [textL]
    rw [e, begins_line l (h l (List.mem_cons_self ..)) (textL ls) i a _ (by omega)]
    rw [show a + ((k + 1 : Nat) : Int) = a + 1 + (k : Int) by omega, begins_far ls (fun x hx => h x (List.mem_cons_of_mem _ hx)) _ _ k (by simpa using hk)]
theorem ign_law {text rem : List UInt8} {n : Int} {j : Nat} (hlen : text.length ≤ 8192) (hrl : rem.length ≤ 1024) (hlast : text.getLast? = some 10) (hn : 0 ≤ n) (hr : rem = [] ∨ rem.head? = some 35) (hb : beginsG rem 0 0 1 < 0) (hj : beginsG text 0 0 n = (j : Int))
    {t : TtD} {k e : Int} (h : parseF text = (t, k, e)) : j ≤ text.length ∧ parseF (text.take j ++ rem ++ [10] ++ text.drop j) = (t, (if n < k then k + 1 else k), e) := by
  have hne : text ≠ [] := fun k => by rw [k] at hlast; simp at hlast
  have hls : linesS text = (splitL 10 text.dropLast, 0) := by
    unfold linesS
    rw [if_neg (by omega), if_neg hne, if_pos hlast]
  have hno : ∀ l ∈ splitL 10 text.dropLast, (10 : UInt8) ∉ l := (splitL_parts _).1
  have htext : textL (splitL 10 text.dropLast) = text := by
    rw [(splitL_parts _).2]
    obtain ⟨g, hg⟩ := List.getLast?_eq_some_iff.1 hlast
    rw [hg, List.dropLast_concat]
  generalize splitL 10 text.dropLast = ls at hls hno htext
  obtain ⟨m, rfl⟩ : ∃ m : Nat, n = m := ⟨n.toNat, by omega⟩
  have hm : m ≤ ls.length := by
    by_cases hx : m ≤ ls.length
    · exact hx
    · have := begins_far ls hno 0 0 m (by omega)
      rw [htext, Int.zero_add, hj] at this
      omega
  have hat := begins_at ls hno 0 0 m hm
  rw [htext, Int.zero_add, Int.zero_add, hj] at hat
  have hj2 : j = (textL (ls.take m)).length := by omega
  have hsp := textL_split ls m
  rw [htext] at hsp
  have h1 : text.take j = textL (ls.take m) := by rw [hsp, hj2, List.take_left]
  have h2 : text.drop j = textL (ls.drop m) := by rw [hsp, hj2, List.drop_left]
  have hjl : j ≤ text.length := by rw [hj2, hsp, List.length_append]; omega
  refine ⟨hjl, ?_⟩
  have htx : text.take j ++ rem ++ [10] ++ text.drop j = textL (ls.take m ++ rem :: ls.drop m) := by
    rw [h1, h2]
    simp [textL]
  have hl' : linesS (text.take j ++ rem ++ [10] ++ text.drop j) = (ls.take m ++ rem :: ls.drop m, 0) := by
    have hc : (text.take j ++ rem ++ [10] ++ text.drop j).length ≤ 65536 := by
      simp only [List.length_append, List.length_take, List.length_drop, List.length_singleton]
      omega
    refine lines_text ?_
    unfold textS
    have hnl : noLf (ls.take m ++ rem :: ls.drop m) = true := by
      unfold noLf
      rw [List.all_eq_true]
      intro l hl
      have : (10 : UInt8) ∉ l := by
        rcases List.mem_append.1 hl with q | q
        · exact hno l (List.mem_of_mem_take q)
        · rcases List.mem_cons.1 q with rfl | q
          · exact no_lf hb
          · exact hno l (List.mem_of_mem_drop q)
      simpa using this
    rw [hnl, if_neg (by decide), ← htx, if_neg (by omega)]
  exact insert_law hls hl' hm hr h
end Go.Proofs.YtakedkcjplfgeaaGreatDoor.Tt
