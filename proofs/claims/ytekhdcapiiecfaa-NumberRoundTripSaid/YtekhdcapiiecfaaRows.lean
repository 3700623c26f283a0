/-
  No cell of these rows narrows 'for every input' (looked for: loops, veiled, ifaces, maps, wideKeys, modest, calm, conditions, laid).
  DERIVED. THE GIVEN ROWS OF THIS SEAT. 7 by the template 'for every input the law returns true; each argument reads behind the call as it read before'; 0 by the template 'total and deterministic' (their statements: YtekhdcapiiecfaaTotals.lean).
  GIVEN WITH THE SEED: the statements are not yours to turn. If you find one false, say at which input.
  Laid BY PROGRAM, IN A SANDBOX (cutbox-rows.mjs): the forced cells as the released guide's own fill.sh prints them over the translation 034ba8b90ee1428f… (all of the seat's roots in one cut). By AI agents, Wed Nov 11 2026. No macro, syntax, notation, axiom, sorry.
-/
import Derived.Test.YtekhdcapiiecfaaChecked
import GoSem.Claim
import GoSem.ClaimJoined
import GoSem.ClaimMapViews
import Derived.JoinedTies
import Derived.KernelRfl
namespace Go.Proofs.Ytekhdcapiiecfaa
/- THE CELL 'sum', in the pinned program and in every row, IS THE sha256 OF THE DUMP (.gsa) THAT YtekhdcapiiecfaaProg.lean LOADS. Nothing in Lean hashes anything: it is a label: what it is worth is what the hold of that sum in a sandbox is worth. -/
noncomputable def Try.pinned : Pinned := { name := "ytekhdcapiiecfaa", sum := "034ba8b90ee1428f2a944adaefb11b95cbc1728d3ac432a8a66a0f38d51cae4e", checked := Try.checked }
namespace Rows
def none {H : Type} : Left H := { results := [], args := [] }

/-- 'transitlaw03.NumberFormats': WHATEVER THE INPUT: true; the input reads as it did. -/
def numberFormatsSpec : ChangeSpec := { name := "numberFormats", fn := fun _ => fun
  | [d] => { results := [.lit (.bool true)], args := [d] }
  | _ => none }
def numberFormatsRow : OpenClaim := { program := "ytekhdcapiiecfaa", sum := "034ba8b90ee1428f2a944adaefb11b95cbc1728d3ac432a8a66a0f38d51cae4e", func := "transit/transitlaw03.NumberFormats", spec := "numberFormats", unfollowed := true, recurses := true, apart := false }
def NumberFormatsSaid : Prop := numberFormatsRow.holds Try.pinned (OpenSpec.ofChange numberFormatsSpec)

/-- ITS FALSE NEIGHBOUR: 'it returns false'. Refute it at one input. -/
def numberFormatsWrong : ChangeSpec := { name := "numberFormats", fn := fun _ => fun
  | [d] => { results := [.lit (.bool false)], args := [d] }
  | _ => none }
def NumberFormatsWrongFalsely : Prop := numberFormatsRow.holds Try.pinned (OpenSpec.ofChange numberFormatsWrong)

/-- 'transitlaw03.NumberPrices': WHATEVER THE INPUT: true; the input reads as it did. -/
def numberPricesSpec : ChangeSpec := { name := "numberPrices", fn := fun _ => fun
  | [d1, d2] => { results := [.lit (.bool true)], args := [d1, d2] }
  | _ => none }
def numberPricesRow : OpenClaim := { program := "ytekhdcapiiecfaa", sum := "034ba8b90ee1428f2a944adaefb11b95cbc1728d3ac432a8a66a0f38d51cae4e", func := "transit/transitlaw03.NumberPrices", spec := "numberPrices", unfollowed := true, recurses := true, apart := false }
def NumberPricesSaid : Prop := numberPricesRow.holds Try.pinned (OpenSpec.ofChange numberPricesSpec)

/-- ITS FALSE NEIGHBOUR: 'it returns false'. Refute it at one input. -/
def numberPricesWrong : ChangeSpec := { name := "numberPrices", fn := fun _ => fun
  | [d1, d2] => { results := [.lit (.bool false)], args := [d1, d2] }
  | _ => none }
def NumberPricesWrongFalsely : Prop := numberPricesRow.holds Try.pinned (OpenSpec.ofChange numberPricesWrong)

/-- 'transitlaw03.NumberRoundTrip': WHATEVER THE INPUT: true; the input reads as it did. -/
def numberRoundTripSpec : ChangeSpec := { name := "numberRoundTrip", fn := fun _ => fun
  | [d] => { results := [.lit (.bool true)], args := [d] }
  | _ => none }
def numberRoundTripRow : OpenClaim := { program := "ytekhdcapiiecfaa", sum := "034ba8b90ee1428f2a944adaefb11b95cbc1728d3ac432a8a66a0f38d51cae4e", func := "transit/transitlaw03.NumberRoundTrip", spec := "numberRoundTrip", unfollowed := true, recurses := true, apart := false }
def NumberRoundTripSaid : Prop := numberRoundTripRow.holds Try.pinned (OpenSpec.ofChange numberRoundTripSpec)

/-- ITS FALSE NEIGHBOUR: 'it returns false'. Refute it at one input. -/
def numberRoundTripWrong : ChangeSpec := { name := "numberRoundTrip", fn := fun _ => fun
  | [d] => { results := [.lit (.bool false)], args := [d] }
  | _ => none }
def NumberRoundTripWrongFalsely : Prop := numberRoundTripRow.holds Try.pinned (OpenSpec.ofChange numberRoundTripWrong)

/-- 'transitlaw03.NumberClamps': WHATEVER THE INPUT: true; the input reads as it did. -/
def numberClampsSpec : ChangeSpec := { name := "numberClamps", fn := fun _ => fun
  | [d1, d2, d3] => { results := [.lit (.bool true)], args := [d1, d2, d3] }
  | _ => none }
def numberClampsRow : OpenClaim := { program := "ytekhdcapiiecfaa", sum := "034ba8b90ee1428f2a944adaefb11b95cbc1728d3ac432a8a66a0f38d51cae4e", func := "transit/transitlaw03.NumberClamps", spec := "numberClamps", unfollowed := true, recurses := true, apart := false }
def NumberClampsSaid : Prop := numberClampsRow.holds Try.pinned (OpenSpec.ofChange numberClampsSpec)

/-- ITS FALSE NEIGHBOUR: 'it returns false'. Refute it at one input. -/
def numberClampsWrong : ChangeSpec := { name := "numberClamps", fn := fun _ => fun
  | [d1, d2, d3] => { results := [.lit (.bool false)], args := [d1, d2, d3] }
  | _ => none }
def NumberClampsWrongFalsely : Prop := numberClampsRow.holds Try.pinned (OpenSpec.ofChange numberClampsWrong)

/-- 'transitlaw03.NumberParses': WHATEVER THE INPUT: true; the input reads as it did. -/
def numberParsesSpec : ChangeSpec := { name := "numberParses", fn := fun _ => fun
  | [d1, d2, d3] => { results := [.lit (.bool true)], args := [d1, d2, d3] }
  | _ => none }
def numberParsesRow : OpenClaim := { program := "ytekhdcapiiecfaa", sum := "034ba8b90ee1428f2a944adaefb11b95cbc1728d3ac432a8a66a0f38d51cae4e", func := "transit/transitlaw03.NumberParses", spec := "numberParses", unfollowed := true, recurses := true, apart := false }
def NumberParsesSaid : Prop := numberParsesRow.holds Try.pinned (OpenSpec.ofChange numberParsesSpec)

/-- ITS FALSE NEIGHBOUR: 'it returns false'. Refute it at one input. -/
def numberParsesWrong : ChangeSpec := { name := "numberParses", fn := fun _ => fun
  | [d1, d2, d3] => { results := [.lit (.bool false)], args := [d1, d2, d3] }
  | _ => none }
def NumberParsesWrongFalsely : Prop := numberParsesRow.holds Try.pinned (OpenSpec.ofChange numberParsesWrong)

/-- 'transitlaw03.NumberUndoes': WHATEVER THE INPUT: true; the input reads as it did. -/
def numberUndoesSpec : ChangeSpec := { name := "numberUndoes", fn := fun _ => fun
  | [d1, d2] => { results := [.lit (.bool true)], args := [d1, d2] }
  | _ => none }
def numberUndoesRow : OpenClaim := { program := "ytekhdcapiiecfaa", sum := "034ba8b90ee1428f2a944adaefb11b95cbc1728d3ac432a8a66a0f38d51cae4e", func := "transit/transitlaw03.NumberUndoes", spec := "numberUndoes", unfollowed := true, recurses := true, apart := false }
def NumberUndoesSaid : Prop := numberUndoesRow.holds Try.pinned (OpenSpec.ofChange numberUndoesSpec)

/-- ITS FALSE NEIGHBOUR: 'it returns false'. Refute it at one input. -/
def numberUndoesWrong : ChangeSpec := { name := "numberUndoes", fn := fun _ => fun
  | [d1, d2] => { results := [.lit (.bool false)], args := [d1, d2] }
  | _ => none }
def NumberUndoesWrongFalsely : Prop := numberUndoesRow.holds Try.pinned (OpenSpec.ofChange numberUndoesWrong)

/-- 'transitlaw03.NumberComputes': WHATEVER THE INPUT: true; the input reads as it did. -/
def numberComputesSpec : ChangeSpec := { name := "numberComputes", fn := fun _ => fun
  | [d1, d2] => { results := [.lit (.bool true)], args := [d1, d2] }
  | _ => none }
def numberComputesRow : OpenClaim := { program := "ytekhdcapiiecfaa", sum := "034ba8b90ee1428f2a944adaefb11b95cbc1728d3ac432a8a66a0f38d51cae4e", func := "transit/transitlaw03.NumberComputes", spec := "numberComputes", unfollowed := true, recurses := true, apart := false }
def NumberComputesSaid : Prop := numberComputesRow.holds Try.pinned (OpenSpec.ofChange numberComputesSpec)

/-- ITS FALSE NEIGHBOUR: 'it returns false'. Refute it at one input. -/
def numberComputesWrong : ChangeSpec := { name := "numberComputes", fn := fun _ => fun
  | [d1, d2] => { results := [.lit (.bool false)], args := [d1, d2] }
  | _ => none }
def NumberComputesWrongFalsely : Prop := numberComputesRow.holds Try.pinned (OpenSpec.ofChange numberComputesWrong)

/- THE SECOND FORM. 'bulk': how many values and letters a reading holds, each counted each time it is reached (what is shared counts as often as it is met; a slice's spare places count too). A statement '..UptoSaid' is the law's where the arguments, and the package variables that the reading takes, are together of bulk at most 1048576: NARROWER than '..Said'. Prove '..Said' where nothing that the law and all that it calls make is longer than what came in: it says more and counts as full. Else prove '..UptoSaid'. A law counts once. -/
mutual
def uptoBulk {H : Type} : DataW H → Nat
  | .lit (.string bytes) => bytes.length + 1
  | .lit _ => 1
  | .nil => 1
  | .ptr d => uptoBulk d + 1
  | .slice elems spare => uptoBulkAll elems + uptoBulkAll spare + 1
  | .agg parts => uptoBulkAll parts + 1
  | .iface _ d => uptoBulk d + 1
  | .map entries => uptoBulkEntries entries + 1
  | .held _ => 1
def uptoBulkAll {H : Type} : List (DataW H) → Nat
  | [] => 0
  | d :: r => uptoBulk d + uptoBulkAll r
def uptoBulkEntries {H : Type} : List (Lit × DataW H) → Nat
  | [] => 0
  | x :: r => uptoBulkEntry x + uptoBulkEntries r
def uptoBulkEntry {H : Type} : Lit × DataW H → Nat
  | (.string bytes, d) => bytes.length + uptoBulk d + 1
  | (_, d) => uptoBulk d + 1
 end
def uptoSmall : (H : Type) → List (DataW H) → Bool := fun _ ds => decide (uptoBulkAll ds ≤ 1048576)
def OpenSpec.upto (s : _root_.Go.ChangeSpec) : _root_.Go.OpenSpec := { _root_.Go.OpenSpec.ofChange s with cond := some uptoSmall }

/-- 'transitlaw03.NumberFormats', WHERE WHAT IT READS IS OF BULK AT MOST 1048576: true; the input reads as it did. -/
def numberFormatsUptoRow : OpenClaim := { program := "ytekhdcapiiecfaa", sum := "034ba8b90ee1428f2a944adaefb11b95cbc1728d3ac432a8a66a0f38d51cae4e", func := "transit/transitlaw03.NumberFormats", spec := "numberFormats", unfollowed := true, recurses := true, apart := false, narrowed := true }
def NumberFormatsUptoSaid : Prop := numberFormatsUptoRow.holds Try.pinned (OpenSpec.upto numberFormatsSpec)

/-- 'transitlaw03.NumberPrices', WHERE WHAT IT READS IS OF BULK AT MOST 1048576: true; the input reads as it did. -/
def numberPricesUptoRow : OpenClaim := { program := "ytekhdcapiiecfaa", sum := "034ba8b90ee1428f2a944adaefb11b95cbc1728d3ac432a8a66a0f38d51cae4e", func := "transit/transitlaw03.NumberPrices", spec := "numberPrices", unfollowed := true, recurses := true, apart := false, narrowed := true }
def NumberPricesUptoSaid : Prop := numberPricesUptoRow.holds Try.pinned (OpenSpec.upto numberPricesSpec)

/-- 'transitlaw03.NumberRoundTrip', WHERE WHAT IT READS IS OF BULK AT MOST 1048576: true; the input reads as it did. -/
def numberRoundTripUptoRow : OpenClaim := { program := "ytekhdcapiiecfaa", sum := "034ba8b90ee1428f2a944adaefb11b95cbc1728d3ac432a8a66a0f38d51cae4e", func := "transit/transitlaw03.NumberRoundTrip", spec := "numberRoundTrip", unfollowed := true, recurses := true, apart := false, narrowed := true }
def NumberRoundTripUptoSaid : Prop := numberRoundTripUptoRow.holds Try.pinned (OpenSpec.upto numberRoundTripSpec)

/-- 'transitlaw03.NumberClamps', WHERE WHAT IT READS IS OF BULK AT MOST 1048576: true; the input reads as it did. -/
def numberClampsUptoRow : OpenClaim := { program := "ytekhdcapiiecfaa", sum := "034ba8b90ee1428f2a944adaefb11b95cbc1728d3ac432a8a66a0f38d51cae4e", func := "transit/transitlaw03.NumberClamps", spec := "numberClamps", unfollowed := true, recurses := true, apart := false, narrowed := true }
def NumberClampsUptoSaid : Prop := numberClampsUptoRow.holds Try.pinned (OpenSpec.upto numberClampsSpec)

/-- 'transitlaw03.NumberParses', WHERE WHAT IT READS IS OF BULK AT MOST 1048576: true; the input reads as it did. -/
def numberParsesUptoRow : OpenClaim := { program := "ytekhdcapiiecfaa", sum := "034ba8b90ee1428f2a944adaefb11b95cbc1728d3ac432a8a66a0f38d51cae4e", func := "transit/transitlaw03.NumberParses", spec := "numberParses", unfollowed := true, recurses := true, apart := false, narrowed := true }
def NumberParsesUptoSaid : Prop := numberParsesUptoRow.holds Try.pinned (OpenSpec.upto numberParsesSpec)

/-- 'transitlaw03.NumberUndoes', WHERE WHAT IT READS IS OF BULK AT MOST 1048576: true; the input reads as it did. -/
def numberUndoesUptoRow : OpenClaim := { program := "ytekhdcapiiecfaa", sum := "034ba8b90ee1428f2a944adaefb11b95cbc1728d3ac432a8a66a0f38d51cae4e", func := "transit/transitlaw03.NumberUndoes", spec := "numberUndoes", unfollowed := true, recurses := true, apart := false, narrowed := true }
def NumberUndoesUptoSaid : Prop := numberUndoesUptoRow.holds Try.pinned (OpenSpec.upto numberUndoesSpec)

/-- 'transitlaw03.NumberComputes', WHERE WHAT IT READS IS OF BULK AT MOST 1048576: true; the input reads as it did. -/
def numberComputesUptoRow : OpenClaim := { program := "ytekhdcapiiecfaa", sum := "034ba8b90ee1428f2a944adaefb11b95cbc1728d3ac432a8a66a0f38d51cae4e", func := "transit/transitlaw03.NumberComputes", spec := "numberComputes", unfollowed := true, recurses := true, apart := false, narrowed := true }
def NumberComputesUptoSaid : Prop := numberComputesUptoRow.holds Try.pinned (OpenSpec.upto numberComputesSpec)

end Rows
end Go.Proofs.Ytekhdcapiiecfaa
