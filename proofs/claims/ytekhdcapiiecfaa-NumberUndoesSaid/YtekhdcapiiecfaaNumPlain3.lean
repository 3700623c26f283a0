/-
  THE PLAIN MATHEMATICS OF PRICES. Conditions: none.
-/
import Derived.Test.YtekhdcapiiecfaaNumPlain2
namespace Go.Proofs.Ytekhdcapiiecfaa.Num

/-- The form of a price of N cents. -/
def priceText (N : Nat) : List UInt8 := decDigits (N / 100) ++ [46, UInt8.ofNat (48 + N / 10 % 10), UInt8.ofNat (48 + N % 10)]
def fmtPrice (c : Int) : List UInt8 × Int := if c < 0 ∨ 1000000 < c then ([], 2) else (priceText c.toNat, 0)

/-- Digits, a point, two digits. -/
def shaped (l : List UInt8) : Prop := ∃ (a : List UInt8) (x y : UInt8), l = a ++ [46, x, y] ∧ canon a = true ∧ isDig x = true ∧ isDig y = true
/-- The price, and the error, of a string. -/
inductive Price : List UInt8 → Int → Int → Prop
  | bad {l : List UInt8} (h : ¬ shaped l) : Price l 0 3
  | big {a : List UInt8} {x y : UInt8} (ha : canon a = true) (hx : isDig x = true) (hy : isDig y = true) (h : 10000 < val a ∨ 1000000 < 100 * val a + 10 * (x.toNat - 48) + (y.toNat - 48)) : Price (a ++ [46, x, y]) 0 2
  | ok {a : List UInt8} {x y : UInt8} (ha : canon a = true) (hx : isDig x = true) (hy : isDig y = true) (hv : val a ≤ 10000) (h : 100 * val a + 10 * (x.toNat - 48) + (y.toNat - 48) ≤ 1000000) :
      Price (a ++ [46, x, y]) (100 * val a + 10 * (x.toNat - 48) + (y.toNat - 48) : Nat) 0

theorem price_some (l : List UInt8) : ∃ n e, Price l n e := by
  by_cases h : shaped l
  · obtain ⟨a, x, y, rfl, ha, hx, hy⟩ := h
    by_cases hv : 10000 < val a ∨ 1000000 < 100 * val a + 10 * (x.toNat - 48) + (y.toNat - 48)
    · exact ⟨_, _, .big ha hx hy hv⟩
    · exact ⟨_, _, .ok ha hx hy (by omega) (by omega)⟩
  · exact ⟨_, _, .bad h⟩

theorem byte_back {x : UInt8} (h : isDig x = true) (d : Nat) (hd : d = x.toNat - 48) : UInt8.ofNat (48 + d) = x := by
  rw [isDig_iff] at h
  rw [hd, show 48 + (x.toNat - 48) = x.toNat by omega]
  simp

/-- A string that is accepted is the form of the price. -/
theorem price_text {l : List UInt8} {n e : Int} (h : Price l n e) : (e = 0 → fmtPrice n = (l, 0)) ∧ (e ≠ 0 → n = 0) := by
  cases h with
  | bad h => exact ⟨fun k => by omega, fun _ => rfl⟩
  | big ha hx hy h => exact ⟨fun k => by omega, fun _ => rfl⟩
  | @ok a x y ha hx hy hv h =>
    refine ⟨fun _ => ?_, fun k => absurd rfl k⟩
    have h1 := (isDig_iff x).1 hx
    have h2 := (isDig_iff y).1 hy
    unfold fmtPrice
    rw [if_neg (by omega), Int.toNat_natCast]
    unfold priceText
    rw [show (100 * val a + 10 * (x.toNat - 48) + (y.toNat - 48)) / 100 = val a by omega, decDigits_val ha, byte_back hx _ (by omega), byte_back hy _ (by omega)]

theorem shaped_tail {l : List UInt8} {a : List UInt8} {x y : UInt8} (h : l = a ++ [46, x, y]) : a = l.take (l.length - 3) := by
  subst h
  simp

theorem canon_49 (l : List UInt8) : canon (49 :: l) = allDig l := by
  have : isDig 49 = true := by decide
  simp [canon, allDig, this]
end Go.Proofs.Ytekhdcapiiecfaa.Num
