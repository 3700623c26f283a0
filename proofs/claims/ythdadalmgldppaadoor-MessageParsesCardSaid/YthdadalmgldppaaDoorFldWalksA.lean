/-
  THE CONTRACTS OF FIELD, FIRST PART: special, plain, concat; the reference's control, plain, hex. Conditions: those of each contract.
-/
import Derived.Test.YthdadalmgldppaaDoorRows
import Derived.Test.YthdadalmgldppaaDoorShelf
import Derived.Test.YthdadalmgldppaaDoorBase
import Derived.Test.YthdadalmgldppaaDoorFldPlain
import Derived.WalkKit
import Derived.WalkSpells
import Derived.WalkLawsBesides
import Derived.Lib.Hide
import Derived.Lib.DecodeN
import Derived.Laws.RangeAny
namespace Go.Proofs.YthdadalmgldppaaDoor
open Go.RowKit
open Fld

theorem ret_int {k : IntKind} {a b : Int} (h : a = b) : Ending.returned (.int k a) = .returned (.int k b) := by rw [h]
theorem ret_bool {a b : Bool} (h : a = b) : Ending.returned (.bool a) = .returned (.bool b) := by rw [h]
/-- A string as the list of its bytes. -/
abbrev str (l : List UInt8) : Value := .string ⟨l.toArray⟩
theorem bytes_get (s : ByteArray) (k : Nat) (h : k < s.size) : s.data.toList[k]'(by simpa using h) = s[k]'h := by simp; rfl
theorem bytes_get? (s : ByteArray) (k : Nat) (h : k < s.size) : s.data.toList[k]? = some (s[k]'h) := by rw [List.getElem?_eq_getElem (by simpa using h), bytes_get s k h]
theorem toList_nil {s : ByteArray} (h : s.size = 0) : s.toList = [] := by
  rw [ByteArray.toList_eq]
  exact List.length_eq_zero_iff.1 (by simpa using h)
theorem toList_ne {s : ByteArray} (h : ¬ s.size = 0) : ¬ s.toList = [] := by
  rw [ByteArray.toList_eq]
  intro e
  exact h (by simpa using congrArg List.length e)
theorem toList_ne' {s : ByteArray} (h : ¬ s.size = 0) : s.toList.isEmpty = false := by
  have := toList_ne h
  simpa using this

/-! ### the first special byte -/
theorem first_spec (s : ByteArray) : ∃ p : Nat, p ≤ s.size ∧ (∀ k (h : k < s.size), k < p → specB (s[k]'h) = false) ∧ ∀ h : p < s.size, specB (s[p]'h) = true := by
  suffices H : ∀ n, n ≤ s.size → (∀ k (h : k < s.size), k < s.size - n → specB (s[k]'h) = false) → ∃ p : Nat, p ≤ s.size ∧ (∀ k (h : k < s.size), k < p → specB (s[k]'h) = false) ∧ ∀ h : p < s.size, specB (s[p]'h) = true from
    H s.size (Nat.le_refl _) (fun k h hk => by omega)
  intro n
  induction n with
  | zero => intro _ h; exact ⟨s.size, Nat.le_refl _, fun k hk _ => h k hk (by omega), fun h => absurd h (by omega)⟩
  | succ n ih =>
    intro hn h
    by_cases hd : specB (s[s.size - (n + 1)]'(by omega)) = false
    · refine ih (by omega) fun k hk hlt => ?_
      by_cases e : k = s.size - (n + 1)
      · subst e; exact hd
      · exact h k hk (by omega)
    · exact ⟨s.size - (n + 1), by omega, h, fun _ => by simpa using hd⟩
theorem spec_any_yes {s : ByteArray} {p : Nat} (h : p < s.size) (hp : specB (s[p]'h) = true) : plainS s.data.toList = false := by
  have : s.data.toList.any specB = true := List.any_eq_true.2 ⟨_, List.mem_of_getElem? (bytes_get? s p h), hp⟩
  unfold plainS
  rw [this]
  rfl
theorem plain_ends {s : ByteArray} (h : ∀ k (h : k < s.size), specB (s[k]'h) = false) : plainS s.data.toList = if h0 : 0 < s.size then (!((s[0]'h0).toNat == 32) && !((s[s.size - 1]'(by omega)).toNat == 32)) else false := by
  have : s.data.toList.any specB = false := by
    rw [List.any_eq_false]
    intro b hb
    obtain ⟨k, hk, rfl⟩ := List.getElem_of_mem hb
    have hk' : k < s.size := by simpa using hk
    rw [bytes_get s k hk', h k hk']
    decide
  unfold plainS
  rw [this]
  split
  · rename_i h0
    have hl : s.data.toList.length = s.size := by simp
    have hne : s.data.toList ≠ [] := fun e => by rw [e] at hl; simp at hl; omega
    have h1 : s.data.toList.head? = some (s[0]'h0) := by rw [List.head?_eq_getElem?]; exact bytes_get? s 0 h0
    have h2 : s.data.toList.getLast? = some (s[s.size - 1]'(by omega)) := by rw [List.getLast?_eq_getElem?, hl]; exact bytes_get? s _ (by omega)
    have h32 : ∀ b : UInt8, ((some b : Option UInt8) == some 32) = (b.toNat == 32) := by
      intro b
      by_cases e : b = 32
      · subst e; rfl
      · have : ¬ b.toNat = 32 := fun k => e (UInt8.toNat.inj (by simpa using k))
        rw [show (b.toNat == 32) = false by simpa using this]
        simpa using e
    rw [h1, h2, h32, h32]
    rw [show s.data.toList.isEmpty = false by simpa [List.isEmpty_iff] using hne]
    rfl
  · have hs : s.data.toList = [] := List.length_eq_zero_iff.1 (by rw [Array.length_toList]; show s.size = 0; omega)
    rw [hs]
    rfl
/-- What a rune takes behind a byte of 128 or more is of such bytes. -/
theorem decode_span (s : ByteArray) (pos : Nat) (h : pos < s.size) (ha : 128 ≤ (s[pos]'h).toNat) : pos + (Utf8.decode s pos).2 ≤ s.size ∧ ∀ k (hk : k < s.size), pos ≤ k → k < pos + (Utf8.decode s pos).2 → 128 ≤ (s[k]'hk).toNat := by
  have g : ∀ k (hk : k < s.size), s.get! k = s[k]'hk := fun k hk => get_at s k hk
  have g0 := g pos h
  obtain ⟨b0, e0⟩ : ∃ b, b = (s.get! pos).toNat := ⟨_, rfl⟩
  obtain ⟨b1, e1⟩ : ∃ b, b = (s.get! (pos + 1)).toNat := ⟨_, rfl⟩
  obtain ⟨b2, e2⟩ : ∃ b, b = (s.get! (pos + 2)).toNat := ⟨_, rfl⟩
  obtain ⟨b3, e3⟩ : ∃ b, b = (s.get! (pos + 3)).toNat := ⟨_, rfl⟩
  rw [Lib.decode_at, ← e0, ← e1, ← e2, ← e3]
  rw [← g pos h, ← e0] at ha
  have K : (Lib.decodeN (s.size - pos) b0 b1 b2 b3).2 = 1 ∨ (Lib.decodeN (s.size - pos) b0 b1 b2 b3).2 = 2 ∧ 1 < s.size - pos ∧ 128 ≤ b1 ∨ (Lib.decodeN (s.size - pos) b0 b1 b2 b3).2 = 3 ∧ 2 < s.size - pos ∧ 128 ≤ b1 ∧ 128 ≤ b2 ∨ (Lib.decodeN (s.size - pos) b0 b1 b2 b3).2 = 4 ∧ 3 < s.size - pos ∧ 128 ≤ b1 ∧ 128 ≤ b2 ∧ 128 ≤ b3 := by
    unfold Lib.decodeN
    repeat' split
    all_goals first | exact .inl rfl | exact .inr (.inl ⟨rfl, by omega, by omega⟩) | exact .inr (.inr (.inl ⟨rfl, by omega, by omega, by omega⟩)) | exact .inr (.inr (.inr ⟨rfl, by omega, by omega, by omega, by omega⟩))
  have at0 : ∀ k (hk : k < s.size), k = pos → 128 ≤ (s[k]'hk).toNat := fun k hk e => by subst e; rw [← g k hk, ← e0]; exact ha
  have at1 : 128 ≤ b1 → ∀ k (hk : k < s.size), k = pos + 1 → 128 ≤ (s[k]'hk).toNat := fun hb k hk e => by subst e; rw [← g _ hk, ← e1]; exact hb
  have at2 : 128 ≤ b2 → ∀ k (hk : k < s.size), k = pos + 2 → 128 ≤ (s[k]'hk).toNat := fun hb k hk e => by subst e; rw [← g _ hk, ← e2]; exact hb
  have at3 : 128 ≤ b3 → ∀ k (hk : k < s.size), k = pos + 3 → 128 ≤ (s[k]'hk).toNat := fun hb k hk e => by subst e; rw [← g _ hk, ← e3]; exact hb
  rcases K with K | ⟨K, n1, c1⟩ | ⟨K, n1, c1, c2⟩ | ⟨K, n1, c1, c2, c3⟩
  all_goals
    rw [K]
    refine ⟨by omega, fun k hk h1 h2 => ?_⟩
    by_cases i0 : k = pos
    · exact at0 k hk i0
    first
    | (exfalso; omega)
    | by_cases i1 : k = pos + 1
      · exact at1 c1 k hk i1
      first
      | (exfalso; omega)
      | by_cases i2 : k = pos + 2
        · exact at2 c2 k hk i2
        first
        | (exfalso; omega)
        | exact at3 c3 k hk (by omega)

/-! ### special and plain -/
def specN (n : Nat) : Bool := n == 44 || (n == 34 || (n == 92 || (decide (n < 32) || n == 127)))
theorem specB_N (b : UInt8) : specB b = specN b.toNat := rfl
theorem specN_big {n : Nat} (h : 128 ≤ n) : specN n = false := by
  unfold specN
  simp
  omega
theorem special_c (n : Nat) (hn : n ≤ 2147483647) (w : World) :
    Calls Tryd.prog 100 #[.int .i32 n] w fun e w' => e = .returned (.bool (specN n)) ∧ w = w' := by
  go_enter Tryd.func100, Tryd.ntmps100
  go_wp2
  all_goals
    go_ret
    refine ⟨ret_bool ?_, rfl⟩
    rw [Bool.eq_iff_iff]
    simp [specN]
    omega

theorem neq32 (n : Nat) : ((n : Int) != 32) = !(n == 32) := by
  have e1 : ((n : Int) == 32) = (n == 32) := by
    rw [Bool.eq_iff_iff, beq_iff_eq, beq_iff_eq]
    omega
  show (!((n : Int) == 32)) = _
  rw [e1]
theorem below_iter {B : Nat} {w0 w : World} (h : Below B w0 w) (hB : B ≤ w.heap.size) (s : ByteArray) (pos : Nat) : Below B w0 (w.iter s pos) := h.alloc hB _

set_option maxHeartbeats 400000 in
theorem plain_c (s : ByteArray) (hs : s.size ≤ maxLen) (w : World) :
    Calls Tryd.prog 79 #[.string s] w fun e w' => e = .returned (.bool (plainS s.data.toList)) ∧ Bl w w' := by
  unfold maxLen at hs
  obtain ⟨p, hp, hd, hn⟩ := first_spec s
  have HD := Lib.hid hd
  have HN := Lib.hid hn
  clear hd hn
  go_enter Tryd.func79, Tryd.ntmps79
  go_wp2
  go_loopw [4] (fun _ w' => ∃ pos : Nat, pos ≤ p ∧ w' = w.iter s pos) (fun _ w' => s.size - w'.iterPos w.heap.size)
  case atStart => exact ⟨0, Nat.zero_le _, rfl⟩
  case round =>
    obtain ⟨pos, hpos, rfl⟩ := hrel
    by_cases h1 : pos < p
    · have hps : pos < s.size := by omega
      have HS := Lib.hid (HD.out pos hps h1)
      obtain ⟨r, wd, hr, hwd, hr1, hsp, hle⟩ : ∃ r wd : Nat, (Utf8.decode s pos) = (r, wd) ∧ 1 ≤ wd ∧ r ≤ 2147483647 ∧ specN r = false ∧ pos + wd ≤ p := by
        refine ⟨(Utf8.decode s pos).1, (Utf8.decode s pos).2, Prod.eta _ |>.symm, ?_, decode_le s pos, ?_, ?_⟩
        · by_cases h3 : (s[pos]'hps).toNat < 128
          · rw [decode_ascii s pos hps h3]; exact Nat.le_refl 1
          · exact (decode_high s pos hps (by omega)).2
        · by_cases h3 : (s[pos]'hps).toNat < 128
          · rw [decode_ascii s pos hps h3]; exact (specB_N _).symm.trans HS.out
          · exact specN_big (decode_high s pos hps (by omega)).1
        · by_cases h3 : (s[pos]'hps).toNat < 128
          · rw [decode_ascii s pos hps h3]; exact h1
          · obtain ⟨k1, k2⟩ := decode_span s pos hps (by omega)
            rcases Nat.lt_or_ge p (pos + (Utf8.decode s pos).2) with hlt | hge
            · exfalso
              have hps' : p < s.size := by omega
              have a := HN.out hps'
              rw [specB_N, specN_big (k2 p hps' (by omega) hlt)] at a
              cases a
            · exact hge
      have hnx : ∀ ty, (Instr.next (.pointer (some ⟨w.heap.size, 0, none⟩)) true ty).run Tryd.prog (w.iter s pos) = _ := fun ty => run_next_any w s pos ty hps
      simp only [hr] at hnx
      have HP := Lib.hid hsp
      clear hsp hr
      go_wp2_with (go_at_call 100; refine (special_c r hr1 _).mono ?_)
      rintro e w' ⟨rfl, rfl⟩
      rw [HP.out]
      go_wp2
      go_roundw
      case rel => exact ⟨pos + wd, by omega, rfl⟩
      case measure => simp; omega
    · obtain rfl : pos = p := by omega
      by_cases h2 : pos < s.size
      · have hnd := HN.out h2
        have HF := Lib.hid (spec_any_yes h2 hnd)
        have h3 : (s[pos]'h2).toNat < 128 := by
          rcases Nat.lt_or_ge (s[pos]'h2).toNat 128 with h | h
          · exact h
          · rw [specB_N, specN_big h] at hnd; cases hnd
        have hnx : ∀ ty, (Instr.next (.pointer (some ⟨w.heap.size, 0, none⟩)) true ty).run Tryd.prog (w.iter s pos) = _ := fun ty => run_next_ascii w s pos ty h2 h3
        have HP := Lib.hid ((specB_N _).symm.trans hnd)
        clear hnd
        go_wp2_with (go_at_call 100; refine (special_c (s[pos]'h2).toNat (by omega) _).mono ?_)
        rintro e w' ⟨rfl, rfl⟩
        rw [HP.out]
        go_wp2
        go_ret
        exact ⟨ret_bool HF.out.symm, bl_iter (bl_refl _) _ _⟩
      · have hnx : ∀ ty, (Instr.next (.pointer (some ⟨w.heap.size, 0, none⟩)) true ty).run Tryd.prog (w.iter s pos) = _ := fun ty => run_next_end w s pos ty h2
        have had := plain_ends (s := s) (fun k hk => HD.out k hk (by omega))
        by_cases h0 : s.size = 0
        · have hs : s.toList = [] := toList_nil h0
          have HF := Lib.hid (show plainS s.data.toList = false by rw [had, dif_neg (by omega)])
          clear had
          go_wp2
          go_ret
          exact ⟨ret_bool HF.out.symm, bl_iter (bl_refl _) _ _⟩
        · have hps : 0 < s.size := by omega
          have HF := Lib.hid (show plainS s.data.toList = (!((s[0]'hps).toNat == 32) && !((s[s.size - 1]'(by omega)).toNat == 32)) by rw [had, dif_pos hps])
          have hne := toList_ne h0
          have hne' := toList_ne' h0
          clear had
          by_cases h4 : ((s[0]'hps).toNat : Int) = 32
          · have h6 : ((s[0]'hps).toNat == 32) = true := by rw [beq_iff_eq]; omega
            have HG := Lib.hid (show plainS s.data.toList = false by rw [HF.out, h6]; rfl)
            clear h6
            go_wp2
            go_ret
            exact ⟨ret_bool HG.out.symm, bl_iter (bl_refl _) _ _⟩
          · go_wp2
            go_ret
            exact ⟨ret_bool (by rw [HF.out, ← neq32, ← neq32]), bl_iter (bl_refl _) _ _⟩

/-! ### the reference's control, plain, hex -/
theorem rcontrol_c (b : UInt8) (w : World) :
    Calls Tryd.prog 81 #[.int .u8 b.toNat] w fun e w' => e = .returned (.bool (ctl b)) ∧ w = w' := by
  go_enter Tryd.func81, Tryd.ntmps81
  go_wp2
  all_goals
    go_ret
    refine ⟨ret_bool ?_, rfl⟩
    rw [Bool.eq_iff_iff]
    simp [ctl]
    omega
theorem rhex_c (n : Nat) (hn : n < 16) (w : World) :
    Calls Tryd.prog 82 #[.int .u8 n] w fun e w' => e = .returned (.int .u8 (hexd n).toNat) ∧ w = w' := by
  have HX := Lib.hid (hexd_val hn)
  go_enter Tryd.func82, Tryd.ntmps82
  go_wp2
  · go_ret
    refine ⟨ret_int ?_, rfl⟩
    rw [HX.out, if_pos (by omega)]
    omega
  · go_ret
    refine ⟨ret_int ?_, rfl⟩
    rw [HX.out, if_neg (by omega)]
    omega
theorem specB_cases (b : UInt8) : specB b = true ↔ b.toNat = 44 ∨ b.toNat = 34 ∨ b.toNat = 92 ∨ ctl b = true := by
  unfold specB
  simp
set_option maxHeartbeats 400000 in
theorem rplain_c (s : ByteArray) (hs : s.size ≤ maxLen) (w : World) :
    Calls Tryd.prog 80 #[.string s] w fun e w' => e = .returned (.bool (plainS s.data.toList)) ∧ w = w' := by
  unfold maxLen at hs
  obtain ⟨p, hp, hd, hn⟩ := first_spec s
  have HD := Lib.hid hd
  have HN := Lib.hid hn
  clear hd hn
  go_enter Tryd.func80, Tryd.ntmps80
  go_wp2
  go_loop [3] (fun i => ∃ k : Nat, k ≤ p ∧ i = .int .i64 k) (fun i => s.size - (intOf i).toNat)
  case atStart => exact ⟨0, by omega, rfl⟩
  case round =>
    obtain ⟨k, hk, rfl⟩ := hrel
    by_cases h1 : k < s.size
    · have HC := Lib.hid (specB_cases (s[k]'h1))
      by_cases h44 : ((s[k]'h1).toNat : Int) = 44 ∨ ((s[k]'h1).toNat : Int) = 34 ∨ ((s[k]'h1).toNat : Int) = 92
      · have HF := Lib.hid (spec_any_yes h1 (HC.out.2 (by omega)))
        rcases h44 with h | h | h
        all_goals
          go_wp2
          go_ret
          exact ⟨ret_bool HF.out.symm, rfl⟩
      · have q1 : ¬ ((s[k]'h1).toNat : Int) = 44 := fun e => h44 (.inl e)
        have q2 : ¬ ((s[k]'h1).toNat : Int) = 34 := fun e => h44 (.inr (.inl e))
        have q3 : ¬ ((s[k]'h1).toNat : Int) = 92 := fun e => h44 (.inr (.inr e))
        clear h44
        go_wp2_with (go_at_call 81; refine (rcontrol_c (s[k]'h1) _).mono ?_)
        all_goals rename_i hcb
        · have hcb : ctl (s[k]'h1) = true := by
            rcases hcb with ((h | h) | h) | h
            · exact absurd (beq_iff_eq.1 h) q1
            · exact absurd (beq_iff_eq.1 h) q2
            · exact absurd (beq_iff_eq.1 h) q3
            · exact h
          have HF := Lib.hid (spec_any_yes h1 (HC.out.2 (.inr (.inr (.inr hcb)))))
          go_ret
          exact ⟨ret_bool HF.out.symm, rfl⟩
        · have hkp : k < p := by
            rcases Nat.lt_or_ge k p with h | h
            · exact h
            · exfalso
              obtain rfl : k = p := by omega
              rcases HC.out.1 (HN.out h1) with h | h | h | h
              · omega
              · omega
              · omega
              · rw [hcb.2] at h; cases h
          go_round
          case rel => exact ⟨k + 1, by omega, by go_num⟩
          case measure => simp [intOf]; omega
    · have had := plain_ends (s := s) (fun j hj => HD.out j hj (by omega))
      by_cases h0 : s.size = 0
      · have hs : s.toList = [] := toList_nil h0
        have HF := Lib.hid (show plainS s.data.toList = false by rw [had, dif_neg (by omega)])
        clear had
        go_wp2
        go_ret
        exact ⟨ret_bool HF.out.symm, rfl⟩
      · have hps : 0 < s.size := by omega
        have HF := Lib.hid (show plainS s.data.toList = (!((s[0]'hps).toNat == 32) && !((s[s.size - 1]'(by omega)).toNat == 32)) by rw [had, dif_pos hps])
        have hne := toList_ne h0
        have hne' := toList_ne' h0
        clear had
        by_cases h4 : ((s[0]'hps).toNat : Int) = 32
        · have h6 : ((s[0]'hps).toNat == 32) = true := by rw [beq_iff_eq]; omega
          have HG := Lib.hid (show plainS s.data.toList = false by rw [HF.out, h6]; rfl)
          clear h6
          go_wp2
          go_ret
          exact ⟨ret_bool HG.out.symm, rfl⟩
        · go_wp2
          go_ret
          exact ⟨ret_bool (by rw [HF.out, ← neq32, ← neq32]), rfl⟩

/-! ### concat: of two strings -/
theorem concat_c (b o c : Nat) (x y : List UInt8) (w : World) (hx : w.cell? ⟨b, o, none⟩ = some (str x)) (hy : w.cell? ⟨b, o + 1, none⟩ = some (str y)) (hb : b < w.heap.size) (hc : 2 ≤ c) (hl : x.length + y.length ≤ 140737488355328) :
    Calls Tryd.prog 55 #[.slice (some ⟨b, o, none⟩) 2 c] w fun e w' => e = .returned (str (x ++ y)) ∧ Bl w w' := by
  have hj := Tryd.strings_Join b o c [⟨x.toArray⟩, ⟨y.toArray⟩] ⟨#[]⟩ w (by
    intro j z hz
    match j, hz with
    | 0, hz => cases hz; exact hx
    | 1, hz => cases hz; exact hy) hb (by simp) hc (by simpa [Lib.join] using hl)
  have HE := Lib.hid (show (Lib.join ([(⟨x.toArray⟩ : ByteArray), ⟨y.toArray⟩].map (·.data.toList)) (⟨#[]⟩ : ByteArray).data.toList) = x ++ y by simp [Lib.join])
  rw [HE.out] at hj
  go_enter Tryd.func55, Tryd.ntmps55
  go_wp2_with (go_at_call 78; refine hj.mono ?_)
  rintro e w' rfl hb'
  go_wp2
  go_ret
  exact ⟨rfl, hb'⟩
end Go.Proofs.YthdadalmgldppaaDoor
