/-
  THE PLAIN MATHEMATICS OF MESSAGES: their check, their line, what a line reads as; no program in sight. Conditions: none.
-/
import Derived.Test.YthdadalmgldppaaDoorNumPlain
import Derived.Test.YthdadalmgldppaaDoorDatText
import Derived.Test.YthdadalmgldppaaDoorFldPlain5
namespace Go.Proofs.YthdadalmgldppaaDoor.Msg
open Num Clk Dat Fld

structure CallD where
  stop : Int
  arrive : Int
  depart : Int
  board : Bool
  alight : Bool
  deriving DecidableEq
/-- A message: all its fields. -/
structure MsgD where
  src : Int
  seq : Int
  iss : Int
  exp : Int
  kind : Int
  trip : List UInt8
  day : Int
  inst : Int
  call : Int
  secs : Int
  route : Int
  step : Bool
  calls : List CallD
  deriving DecidableEq
def zeroM : MsgD := ⟨0, 0, 0, 0, 0, [], 0, 0, 0, 0, 0, false, []⟩

/-! ### identifiers -/
def nameCh (b : UInt8) : Bool := (decide (97 ≤ b.toNat) && decide (b.toNat ≤ 122)) || ((decide (65 ≤ b.toNat) && decide (b.toNat ≤ 90)) || ((decide (48 ≤ b.toNat) && decide (b.toNat ≤ 57)) || (b.toNat == 45 || (b.toNat == 95 || b.toNat == 46))))
def nameB (l : List UInt8) : Bool := l.all nameCh && (decide (1 ≤ l.length) && decide (l.length ≤ 32))

/-! ### calls -/
def early (prev : Option CallD) (c : CallD) : Bool := match prev with
  | some p => decide (c.arrive < p.depart)
  | none => false
/-- The error of a call that stands behind another one, or is the first. -/
def callErr (stops lo hi : Int) (prev : Option CallD) (c : CallD) : Int :=
  if c.stop < 0 ∨ stops ≤ c.stop then 9
  else if (prev.map (·.stop)) = some c.stop then 13
  else if c.arrive < lo ∨ c.depart < c.arrive ∨ hi < c.depart ∨ early prev c = true then 10 else 0
def callsF (stops lo hi : Int) : Option CallD → List CallD → Int
  | _, [] => 0
  | p, c :: r => if callErr stops lo hi p c = 0 then callsF stops lo hi (some c) r else callErr stops lo hi p c
def callsErr (stops lo hi : Int) (l : List CallD) : Int := if l.length < 2 ∨ 32 < l.length then 5 else callsF stops lo hi none l

/-! ### Check -/
def uCall (k : Int) : Bool := k == 1 || k == 3
def uSecs (k : Int) : Bool := k == 1
def uRoute (k : Int) : Bool := k == 5
def uCalls (k : Int) : Bool := k == 4 || k == 5
def outside (n lo hi : Int) : Bool := decide (n < lo) || decide (hi < n)
/-- The first error of the fields that depend on the kind. -/
def kindErr (m : MsgD) : Int :=
  if (uCall m.kind && outside m.call 0 31) || ((uSecs m.kind && outside m.secs (-43200) 43200) || (uRoute m.kind && outside m.route 0 63)) then 2
  else if uCalls m.kind && !(callsErr 64 0 3155932800 m.calls == 0) then callsErr 64 0 3155932800 m.calls
  else if (!uCall m.kind && !(m.call == 0)) || ((!uSecs m.kind && !(m.secs == 0)) || ((!uRoute m.kind && !(m.route == 0)) || ((!uRoute m.kind && m.step) || (!uCalls m.kind && !m.calls.isEmpty)))) then 1 else 0
/-- The first error of a message. -/
def checkM (m : MsgD) : Int :=
  if outside m.src 0 7 then 36 else if m.seq < 1 then 2
  else if outside m.iss 0 3155932800 || (outside m.exp 0 3155932800 || decide (m.exp ≤ m.iss)) then 10
  else if outside m.kind 1 6 then 35 else if nameB m.trip = false then 12 else if outside m.day 0 36524 then 11 else if m.inst < 0 then 2 else kindErr m

/-! ### the line -/
def wDelay : List UInt8 := [100, 101, 108, 97, 121]
def wCancel : List UInt8 := [99, 97, 110, 99, 101, 108]
def wSkip : List UInt8 := [115, 107, 105, 112]
def wReroute : List UInt8 := [114, 101, 114, 111, 117, 116, 101]
def wAdd : List UInt8 := [97, 100, 100]
def wRestore : List UInt8 := [114, 101, 115, 116, 111, 114, 101]
def wordS (k : Int) : List UInt8 := if k = 1 then wDelay else if k = 2 then wCancel else if k = 3 then wSkip else if k = 4 then wReroute else if k = 5 then wAdd else if k = 6 then wRestore else []
def wBoth : List UInt8 := [98, 111, 116, 104]
def wBoard : List UInt8 := [98, 111, 97, 114, 100]
def wAlight : List UInt8 := [97, 108, 105, 103, 104, 116]
def wNone : List UInt8 := [110, 111, 110, 101]
def permS (c : CallD) : List UInt8 := if c.board && c.alight then wBoth else if c.board then wBoard else if c.alight then wAlight else wNone
def wYes : List UInt8 := [121, 101, 115]
def wNo : List UInt8 := [110, 111]
def callText (c : CallD) : List UInt8 := itoa c.stop ++ 32 :: (itoa c.arrive ++ 32 :: (itoa c.depart ++ 32 :: permS c))
def midS (m : MsgD) : List (List UInt8) := (if uCall m.kind then [itoa m.call] else []) ++ ((if uSecs m.kind then [itoa m.secs] else []) ++ (if uRoute m.kind then [itoa m.route, if m.step then wYes else wNo] else []))
def fieldsM (m : MsgD) : List (List UInt8) := [itoa m.src, itoa m.seq, itoa m.iss, itoa m.exp, wordS m.kind, m.trip, dtext m.day, itoa m.inst] ++ (midS m ++ m.calls.map callText)
/-- The line of a message, or its error. -/
def formatM (m : MsgD) : List UInt8 × Int := if checkM m = 0 then joinR (fieldsM m) else ([], checkM m)

/-! ### what a line reads as -/
/-- The day of a text, or the error. -/
def dayR (l : List UInt8) : Int × Int := if shapedB l pat10 then (match l with
  | [a, b, c, e, _, f, g, _, h, k] => (match fromCivil (100 * pair a b + pair c e) (pair f g) (pair h k) with
    | (n, true) => (n, 0)
    | (_, false) => (0, 11))
  | _ => (0, 3)) else (0, 3)
theorem dayR_day (l : List UInt8) : Day l (dayR l).1 (dayR l).2 := by
  unfold dayR
  cases hs : shapedB l pat10 with
  | false => exact .bad hs
  | true =>
    rw [if_pos rfl]
    obtain ⟨y, m, d, h⟩ := shaped10 hs
    obtain ⟨a, b, c, e, f, g, h', k, rfl, h1, h2, h3, rfl, rfl, rfl⟩ := h
    simp only
    have hd : DF [a, b, c, e, 45, f, g, 45, h', k] (100 * pair a b + pair c e) (pair f g) (pair h' k) := ⟨a, b, c, e, f, g, h', k, rfl, h1, h2, h3, rfl, rfl, rfl⟩
    rcases fromCivil_cases (100 * pair a b + pair c e) (pair f g) (pair h' k) with hc | ⟨n, hc⟩
    · rw [hc]; exact .out hd hc
    · rw [hc]; exact .ok n hd hc
/-- The first of some errors that is one. -/
def firstE : List Int → Int
  | [] => 0
  | e :: r => if e = 0 then firstE r else e
theorem firstE_app (a b : List Int) : firstE (a ++ b) = if firstE a = 0 then firstE b else firstE a := by
  induction a with
  | nil => rfl
  | cons e r ih =>
    rw [List.cons_append]
    show (if e = 0 then firstE (r ++ b) else e) = if (if e = 0 then firstE r else e) = 0 then firstE b else (if e = 0 then firstE r else e)
    by_cases h : e = 0
    · rw [if_pos h, if_pos h, ih]
    · rw [if_neg h, if_neg h, if_neg h]
def bitsOf (w : List UInt8) : Option (Bool × Bool) := if w = wBoth then some (true, true) else if w = wBoard then some (true, false) else if w = wAlight then some (false, true) else if w = wNone then some (false, false) else none
/-- The call of a field, as the program reads it, and the errors in their order. -/
def readCall (s : List UInt8) : CallD × List Int := match splitL 32 s with
  | [a, b, c, w] => (⟨(parse a).1, (parse b).1, (parse c).1, ((bitsOf w).getD (false, false)).1, ((bitsOf w).getD (false, false)).2⟩, [if (bitsOf w).isSome then 0 else 3, (parse a).2, (parse b).2, (parse c).2])
  | _ => (⟨0, 0, 0, false, false⟩, [3])
def kindOf (w : List UInt8) : Int := if w = wDelay then 1 else if w = wCancel then 2 else if w = wSkip then 3 else if w = wReroute then 4 else if w = wAdd then 5 else if w = wRestore then 6 else 0
def shapedN (k : Int) (n : Nat) : Bool := if k = 1 then n == 10 else if k = 3 then n == 9 else if k = 4 then decide (8 ≤ n) else if k = 5 then decide (10 ≤ n) else n == 8
def at' (l : List (List UInt8)) (i : Nat) : List UInt8 := l.getD i []
/-- How many fields stand ahead of the calls. -/
def restN (k : Int) : Nat := if k = 1 then 10 else if k = 3 then 9 else if k = 5 then 10 else 8
/-- The message of some fields, as the program reads it. -/
def readM (k : Int) (l : List (List UInt8)) : MsgD where
  src := (parse (at' l 0)).1
  seq := (parse (at' l 1)).1
  iss := (parse (at' l 2)).1
  exp := (parse (at' l 3)).1
  kind := k
  trip := at' l 5
  day := (dayR (at' l 6)).1
  inst := (parse (at' l 7)).1
  call := if uCall k then (parse (at' l 8)).1 else 0
  secs := if uSecs k then (parse (at' l 9)).1 else 0
  route := if uRoute k then (parse (at' l 8)).1 else 0
  step := uRoute k && at' l 9 == wYes
  calls := if uCalls k then (l.drop (restN k)).map fun s => (readCall s).1 else []
/-- The errors of the fields ahead of the calls, in their order. -/
def headE (l : List (List UInt8)) : List Int := [(parse (at' l 0)).2, (parse (at' l 1)).2, (parse (at' l 2)).2, (parse (at' l 3)).2, (dayR (at' l 6)).2, (parse (at' l 7)).2]
def midE (k : Int) (l : List (List UInt8)) : List Int := (if uCall k then [(parse (at' l 8)).2] else []) ++ ((if uSecs k then [(parse (at' l 9)).2] else []) ++ (if uRoute k then [(parse (at' l 8)).2, if at' l 9 = wYes ∨ at' l 9 = wNo then 0 else 3] else []))
def callsE (l : List (List UInt8)) : List Int := l.flatMap fun s => (readCall s).2
def readE (k : Int) (l : List (List UInt8)) : List Int := headE l ++ (midE k l ++ (if uCalls k then callsE (l.drop (restN k)) else []))
/-- What is said of some fields. -/
def takeM (k : Int) (l : List (List UInt8)) : MsgD × Int := let e := firstE (readE k l ++ [checkM (readM k l)]); if e = 0 then (readM k l, 0) else (zeroM, e)
/-- The message of a line, or the error. -/
def parseM (line : List UInt8) : MsgD × Int :=
  if (splitS line).2 ≠ 0 then (zeroM, (splitS line).2)
  else if (splitS line).1.length < 8 ∨ kindOf (at' (splitS line).1 4) = 0 ∨ shapedN (kindOf (at' (splitS line).1 4)) (splitS line).1.length = false then (zeroM, 3)
  else takeM (kindOf (at' (splitS line).1 4)) (splitS line).1

/-! ### comparing -/
def sameT (a b : MsgD) : Bool := a.trip == b.trip && (a.day == b.day && a.inst == b.inst)
def statB (k : Int) : Bool := k == 2 || (k == 4 || (k == 5 || k == 6))
def superB (a b : MsgD) : Bool := a.src == b.src && (sameT a b && (decide (b.seq < a.seq) && (statB a.kind || (a.kind == b.kind && a.call == b.call))))
end Go.Proofs.YthdadalmgldppaaDoor.Msg
