/-
  No cell of these rows narrows 'for every input' (looked for: loops, veiled, ifaces, maps, wideKeys, modest, calm, conditions, laid).
  DERIVED. THE GIVEN ROWS OF THIS SEAT. 9 by the template 'for every input the law returns true; each argument reads behind the call as it read before'; 0 by the template 'total and deterministic' (their statements: YtnmapjflofoflaaTotals.lean).
  GIVEN WITH THE SEED: the statements are not yours to turn. If you find one false, say at which input.
  Laid BY PROGRAM, IN A SANDBOX (cutbox-rows.mjs): the forced cells as the released guide's own fill.sh prints them over the translation bbf1f7eb64c3c87c… (all of the seat's roots in one cut). By AI agents, Wed Nov 11 2026. No macro, syntax, notation, axiom, sorry.
-/
import Derived.Test.YtnmapjflofoflaaChecked
import GoSem.Claim
import GoSem.ClaimJoined
import GoSem.ClaimMapViews
import Derived.JoinedTies
import Derived.KernelRfl
namespace Go.Proofs.Ytnmapjflofoflaa
/- THE CELL 'sum', in the pinned program and in every row, IS THE sha256 OF THE DUMP (.gsa) THAT YtnmapjflofoflaaProg.lean LOADS. Nothing in Lean hashes anything: it is a label: what it is worth is what the hold of that sum in a sandbox is worth. -/
noncomputable def Try.pinned : Pinned := { name := "ytnmapjflofoflaa", sum := "bbf1f7eb64c3c87ce6aad948d479c920e1f3207fcdb06fa8d154ff725fcc58db", checked := Try.checked }
namespace Rows
def none {H : Type} : Left H := { results := [], args := [] }

/-- 'transitlaw01.ClockSplits': WHATEVER THE INPUT: true; the input reads as it did. -/
def clockSplitsSpec : ChangeSpec := { name := "clockSplits", fn := fun _ => fun
  | [d] => { results := [.lit (.bool true)], args := [d] }
  | _ => none }
def clockSplitsRow : OpenClaim := { program := "ytnmapjflofoflaa", sum := "bbf1f7eb64c3c87ce6aad948d479c920e1f3207fcdb06fa8d154ff725fcc58db", func := "transit/transitlaw01.ClockSplits", spec := "clockSplits", inPlace := ["internal/abi.NoEscape", "internal/bytealg.IndexByteString", "internal/bytealg.IndexString"], named := ["internal/bytealg.MaxLen"], apart := false }
def ClockSplitsSaid : Prop := clockSplitsRow.holds Try.pinned (OpenSpec.ofChange clockSplitsSpec)

/-- ITS FALSE NEIGHBOUR: 'it returns false'. Refute it at one input. -/
def clockSplitsWrong : ChangeSpec := { name := "clockSplits", fn := fun _ => fun
  | [d] => { results := [.lit (.bool false)], args := [d] }
  | _ => none }
def ClockSplitsWrongFalsely : Prop := clockSplitsRow.holds Try.pinned (OpenSpec.ofChange clockSplitsWrong)

/-- 'transitlaw01.ClockJoins': WHATEVER THE INPUT: true; the input reads as it did. -/
def clockJoinsSpec : ChangeSpec := { name := "clockJoins", fn := fun _ => fun
  | [d1, d2, d3] => { results := [.lit (.bool true)], args := [d1, d2, d3] }
  | _ => none }
def clockJoinsRow : OpenClaim := { program := "ytnmapjflofoflaa", sum := "bbf1f7eb64c3c87ce6aad948d479c920e1f3207fcdb06fa8d154ff725fcc58db", func := "transit/transitlaw01.ClockJoins", spec := "clockJoins", inPlace := ["internal/abi.NoEscape", "internal/bytealg.IndexByteString", "internal/bytealg.IndexString"], named := ["internal/bytealg.MaxLen"], apart := false }
def ClockJoinsSaid : Prop := clockJoinsRow.holds Try.pinned (OpenSpec.ofChange clockJoinsSpec)

/-- ITS FALSE NEIGHBOUR: 'it returns false'. Refute it at one input. -/
def clockJoinsWrong : ChangeSpec := { name := "clockJoins", fn := fun _ => fun
  | [d1, d2, d3] => { results := [.lit (.bool false)], args := [d1, d2, d3] }
  | _ => none }
def ClockJoinsWrongFalsely : Prop := clockJoinsRow.holds Try.pinned (OpenSpec.ofChange clockJoinsWrong)

/-- 'transitlaw01.ClockFormats': WHATEVER THE INPUT: true; the input reads as it did. -/
def clockFormatsSpec : ChangeSpec := { name := "clockFormats", fn := fun _ => fun
  | [d] => { results := [.lit (.bool true)], args := [d] }
  | _ => none }
def clockFormatsRow : OpenClaim := { program := "ytnmapjflofoflaa", sum := "bbf1f7eb64c3c87ce6aad948d479c920e1f3207fcdb06fa8d154ff725fcc58db", func := "transit/transitlaw01.ClockFormats", spec := "clockFormats", inPlace := ["internal/abi.NoEscape", "internal/bytealg.IndexByteString", "internal/bytealg.IndexString"], named := ["internal/bytealg.MaxLen"], apart := false }
def ClockFormatsSaid : Prop := clockFormatsRow.holds Try.pinned (OpenSpec.ofChange clockFormatsSpec)

/-- ITS FALSE NEIGHBOUR: 'it returns false'. Refute it at one input. -/
def clockFormatsWrong : ChangeSpec := { name := "clockFormats", fn := fun _ => fun
  | [d] => { results := [.lit (.bool false)], args := [d] }
  | _ => none }
def ClockFormatsWrongFalsely : Prop := clockFormatsRow.holds Try.pinned (OpenSpec.ofChange clockFormatsWrong)

/-- 'transitlaw01.ClockParses': WHATEVER THE INPUT: true; the input reads as it did. -/
def clockParsesSpec : ChangeSpec := { name := "clockParses", fn := fun _ => fun
  | [d] => { results := [.lit (.bool true)], args := [d] }
  | _ => none }
def clockParsesRow : OpenClaim := { program := "ytnmapjflofoflaa", sum := "bbf1f7eb64c3c87ce6aad948d479c920e1f3207fcdb06fa8d154ff725fcc58db", func := "transit/transitlaw01.ClockParses", spec := "clockParses", inPlace := ["internal/abi.NoEscape", "internal/bytealg.IndexByteString", "internal/bytealg.IndexString"], named := ["internal/bytealg.MaxLen"], apart := false }
def ClockParsesSaid : Prop := clockParsesRow.holds Try.pinned (OpenSpec.ofChange clockParsesSpec)

/-- ITS FALSE NEIGHBOUR: 'it returns false'. Refute it at one input. -/
def clockParsesWrong : ChangeSpec := { name := "clockParses", fn := fun _ => fun
  | [d] => { results := [.lit (.bool false)], args := [d] }
  | _ => none }
def ClockParsesWrongFalsely : Prop := clockParsesRow.holds Try.pinned (OpenSpec.ofChange clockParsesWrong)

/-- 'transitlaw01.ClockOrders': WHATEVER THE INPUT: true; the input reads as it did. -/
def clockOrdersSpec : ChangeSpec := { name := "clockOrders", fn := fun _ => fun
  | [d1, d2] => { results := [.lit (.bool true)], args := [d1, d2] }
  | _ => none }
def clockOrdersRow : OpenClaim := { program := "ytnmapjflofoflaa", sum := "bbf1f7eb64c3c87ce6aad948d479c920e1f3207fcdb06fa8d154ff725fcc58db", func := "transit/transitlaw01.ClockOrders", spec := "clockOrders", inPlace := ["internal/abi.NoEscape", "internal/bytealg.IndexByteString", "internal/bytealg.IndexString"], named := ["internal/bytealg.MaxLen"], apart := false }
def ClockOrdersSaid : Prop := clockOrdersRow.holds Try.pinned (OpenSpec.ofChange clockOrdersSpec)

/-- ITS FALSE NEIGHBOUR: 'it returns false'. Refute it at one input. -/
def clockOrdersWrong : ChangeSpec := { name := "clockOrders", fn := fun _ => fun
  | [d1, d2] => { results := [.lit (.bool false)], args := [d1, d2] }
  | _ => none }
def ClockOrdersWrongFalsely : Prop := clockOrdersRow.holds Try.pinned (OpenSpec.ofChange clockOrdersWrong)

/-- 'transitlaw01.ClockCounts': WHATEVER THE INPUT: true; the input reads as it did. -/
def clockCountsSpec : ChangeSpec := { name := "clockCounts", fn := fun _ => fun
  | [d] => { results := [.lit (.bool true)], args := [d] }
  | _ => none }
def clockCountsRow : OpenClaim := { program := "ytnmapjflofoflaa", sum := "bbf1f7eb64c3c87ce6aad948d479c920e1f3207fcdb06fa8d154ff725fcc58db", func := "transit/transitlaw01.ClockCounts", spec := "clockCounts", inPlace := ["internal/abi.NoEscape", "internal/bytealg.IndexByteString", "internal/bytealg.IndexString"], named := ["internal/bytealg.MaxLen"], apart := false }
def ClockCountsSaid : Prop := clockCountsRow.holds Try.pinned (OpenSpec.ofChange clockCountsSpec)

/-- ITS FALSE NEIGHBOUR: 'it returns false'. Refute it at one input. -/
def clockCountsWrong : ChangeSpec := { name := "clockCounts", fn := fun _ => fun
  | [d] => { results := [.lit (.bool false)], args := [d] }
  | _ => none }
def ClockCountsWrongFalsely : Prop := clockCountsRow.holds Try.pinned (OpenSpec.ofChange clockCountsWrong)

/-- 'transitlaw01.ClockDurations': WHATEVER THE INPUT: true; the input reads as it did. -/
def clockDurationsSpec : ChangeSpec := { name := "clockDurations", fn := fun _ => fun
  | [d] => { results := [.lit (.bool true)], args := [d] }
  | _ => none }
def clockDurationsRow : OpenClaim := { program := "ytnmapjflofoflaa", sum := "bbf1f7eb64c3c87ce6aad948d479c920e1f3207fcdb06fa8d154ff725fcc58db", func := "transit/transitlaw01.ClockDurations", spec := "clockDurations", inPlace := ["internal/abi.NoEscape", "internal/bytealg.IndexByteString", "internal/bytealg.IndexString"], named := ["internal/bytealg.MaxLen"], apart := false }
def ClockDurationsSaid : Prop := clockDurationsRow.holds Try.pinned (OpenSpec.ofChange clockDurationsSpec)

/-- ITS FALSE NEIGHBOUR: 'it returns false'. Refute it at one input. -/
def clockDurationsWrong : ChangeSpec := { name := "clockDurations", fn := fun _ => fun
  | [d] => { results := [.lit (.bool false)], args := [d] }
  | _ => none }
def ClockDurationsWrongFalsely : Prop := clockDurationsRow.holds Try.pinned (OpenSpec.ofChange clockDurationsWrong)

/-- 'transitlaw01.ClockReads': WHATEVER THE INPUT: true; the input reads as it did. -/
def clockReadsSpec : ChangeSpec := { name := "clockReads", fn := fun _ => fun
  | [d] => { results := [.lit (.bool true)], args := [d] }
  | _ => none }
def clockReadsRow : OpenClaim := { program := "ytnmapjflofoflaa", sum := "bbf1f7eb64c3c87ce6aad948d479c920e1f3207fcdb06fa8d154ff725fcc58db", func := "transit/transitlaw01.ClockReads", spec := "clockReads", inPlace := ["internal/abi.NoEscape", "internal/bytealg.IndexByteString", "internal/bytealg.IndexString"], named := ["internal/bytealg.MaxLen"], apart := false }
def ClockReadsSaid : Prop := clockReadsRow.holds Try.pinned (OpenSpec.ofChange clockReadsSpec)

/-- ITS FALSE NEIGHBOUR: 'it returns false'. Refute it at one input. -/
def clockReadsWrong : ChangeSpec := { name := "clockReads", fn := fun _ => fun
  | [d] => { results := [.lit (.bool false)], args := [d] }
  | _ => none }
def ClockReadsWrongFalsely : Prop := clockReadsRow.holds Try.pinned (OpenSpec.ofChange clockReadsWrong)

/-- 'transitlaw01.ClockRoundTrip': WHATEVER THE INPUT: true; the input reads as it did. -/
def clockRoundTripSpec : ChangeSpec := { name := "clockRoundTrip", fn := fun _ => fun
  | [d1, d2] => { results := [.lit (.bool true)], args := [d1, d2] }
  | _ => none }
def clockRoundTripRow : OpenClaim := { program := "ytnmapjflofoflaa", sum := "bbf1f7eb64c3c87ce6aad948d479c920e1f3207fcdb06fa8d154ff725fcc58db", func := "transit/transitlaw01.ClockRoundTrip", spec := "clockRoundTrip", inPlace := ["internal/abi.NoEscape", "internal/bytealg.IndexByteString", "internal/bytealg.IndexString"], named := ["internal/bytealg.MaxLen"], apart := false }
def ClockRoundTripSaid : Prop := clockRoundTripRow.holds Try.pinned (OpenSpec.ofChange clockRoundTripSpec)

/-- ITS FALSE NEIGHBOUR: 'it returns false'. Refute it at one input. -/
def clockRoundTripWrong : ChangeSpec := { name := "clockRoundTrip", fn := fun _ => fun
  | [d1, d2] => { results := [.lit (.bool false)], args := [d1, d2] }
  | _ => none }
def ClockRoundTripWrongFalsely : Prop := clockRoundTripRow.holds Try.pinned (OpenSpec.ofChange clockRoundTripWrong)

/- THE SECOND FORM. 'bulk': how many values and letters a reading holds, each counted each time it is reached (what is shared counts as often as it is met; a slice's spare places count too). A statement '..UptoSaid' is the law's where the arguments, and the package variables that the reading takes, are together of bulk at most 1048576: NARROWER than '..Said'. Prove '..Said' where nothing that the law and all that it calls make is longer than what came in: it says more and counts as full. Else prove '..UptoSaid'. A law counts once. -/
mutual
def uptoBulk {H : Type} : DataW H → Nat
  | .lit (.string bytes) => bytes.length + 1
  | .lit _ => 1
  | .nil => 1
  | .ptr d => uptoBulk d + 1
  | .slice elems spare => uptoBulkAll elems + uptoBulkAll spare + 1
  | .agg parts => uptoBulkAll parts + 1
  | .iface _ d => uptoBulk d + 1
  | .map entries => uptoBulkEntries entries + 1
  | .held _ => 1
def uptoBulkAll {H : Type} : List (DataW H) → Nat
  | [] => 0
  | d :: r => uptoBulk d + uptoBulkAll r
def uptoBulkEntries {H : Type} : List (Lit × DataW H) → Nat
  | [] => 0
  | x :: r => uptoBulkEntry x + uptoBulkEntries r
def uptoBulkEntry {H : Type} : Lit × DataW H → Nat
  | (.string bytes, d) => bytes.length + uptoBulk d + 1
  | (_, d) => uptoBulk d + 1
 end
def uptoSmall : (H : Type) → List (DataW H) → Bool := fun _ ds => decide (uptoBulkAll ds ≤ 1048576)
def OpenSpec.upto (s : _root_.Go.ChangeSpec) : _root_.Go.OpenSpec := { _root_.Go.OpenSpec.ofChange s with cond := some uptoSmall }

/-- 'transitlaw01.ClockSplits', WHERE WHAT IT READS IS OF BULK AT MOST 1048576: true; the input reads as it did. -/
def clockSplitsUptoRow : OpenClaim := { program := "ytnmapjflofoflaa", sum := "bbf1f7eb64c3c87ce6aad948d479c920e1f3207fcdb06fa8d154ff725fcc58db", func := "transit/transitlaw01.ClockSplits", spec := "clockSplits", inPlace := ["internal/abi.NoEscape", "internal/bytealg.IndexByteString", "internal/bytealg.IndexString"], named := ["internal/bytealg.MaxLen"], apart := false, narrowed := true }
def ClockSplitsUptoSaid : Prop := clockSplitsUptoRow.holds Try.pinned (OpenSpec.upto clockSplitsSpec)

/-- 'transitlaw01.ClockJoins', WHERE WHAT IT READS IS OF BULK AT MOST 1048576: true; the input reads as it did. -/
def clockJoinsUptoRow : OpenClaim := { program := "ytnmapjflofoflaa", sum := "bbf1f7eb64c3c87ce6aad948d479c920e1f3207fcdb06fa8d154ff725fcc58db", func := "transit/transitlaw01.ClockJoins", spec := "clockJoins", inPlace := ["internal/abi.NoEscape", "internal/bytealg.IndexByteString", "internal/bytealg.IndexString"], named := ["internal/bytealg.MaxLen"], apart := false, narrowed := true }
def ClockJoinsUptoSaid : Prop := clockJoinsUptoRow.holds Try.pinned (OpenSpec.upto clockJoinsSpec)

/-- 'transitlaw01.ClockFormats', WHERE WHAT IT READS IS OF BULK AT MOST 1048576: true; the input reads as it did. -/
def clockFormatsUptoRow : OpenClaim := { program := "ytnmapjflofoflaa", sum := "bbf1f7eb64c3c87ce6aad948d479c920e1f3207fcdb06fa8d154ff725fcc58db", func := "transit/transitlaw01.ClockFormats", spec := "clockFormats", inPlace := ["internal/abi.NoEscape", "internal/bytealg.IndexByteString", "internal/bytealg.IndexString"], named := ["internal/bytealg.MaxLen"], apart := false, narrowed := true }
def ClockFormatsUptoSaid : Prop := clockFormatsUptoRow.holds Try.pinned (OpenSpec.upto clockFormatsSpec)

/-- 'transitlaw01.ClockParses', WHERE WHAT IT READS IS OF BULK AT MOST 1048576: true; the input reads as it did. -/
def clockParsesUptoRow : OpenClaim := { program := "ytnmapjflofoflaa", sum := "bbf1f7eb64c3c87ce6aad948d479c920e1f3207fcdb06fa8d154ff725fcc58db", func := "transit/transitlaw01.ClockParses", spec := "clockParses", inPlace := ["internal/abi.NoEscape", "internal/bytealg.IndexByteString", "internal/bytealg.IndexString"], named := ["internal/bytealg.MaxLen"], apart := false, narrowed := true }
def ClockParsesUptoSaid : Prop := clockParsesUptoRow.holds Try.pinned (OpenSpec.upto clockParsesSpec)

/-- 'transitlaw01.ClockOrders', WHERE WHAT IT READS IS OF BULK AT MOST 1048576: true; the input reads as it did. -/
def clockOrdersUptoRow : OpenClaim := { program := "ytnmapjflofoflaa", sum := "bbf1f7eb64c3c87ce6aad948d479c920e1f3207fcdb06fa8d154ff725fcc58db", func := "transit/transitlaw01.ClockOrders", spec := "clockOrders", inPlace := ["internal/abi.NoEscape", "internal/bytealg.IndexByteString", "internal/bytealg.IndexString"], named := ["internal/bytealg.MaxLen"], apart := false, narrowed := true }
def ClockOrdersUptoSaid : Prop := clockOrdersUptoRow.holds Try.pinned (OpenSpec.upto clockOrdersSpec)

/-- 'transitlaw01.ClockCounts', WHERE WHAT IT READS IS OF BULK AT MOST 1048576: true; the input reads as it did. -/
def clockCountsUptoRow : OpenClaim := { program := "ytnmapjflofoflaa", sum := "bbf1f7eb64c3c87ce6aad948d479c920e1f3207fcdb06fa8d154ff725fcc58db", func := "transit/transitlaw01.ClockCounts", spec := "clockCounts", inPlace := ["internal/abi.NoEscape", "internal/bytealg.IndexByteString", "internal/bytealg.IndexString"], named := ["internal/bytealg.MaxLen"], apart := false, narrowed := true }
def ClockCountsUptoSaid : Prop := clockCountsUptoRow.holds Try.pinned (OpenSpec.upto clockCountsSpec)

/-- 'transitlaw01.ClockDurations', WHERE WHAT IT READS IS OF BULK AT MOST 1048576: true; the input reads as it did. -/
def clockDurationsUptoRow : OpenClaim := { program := "ytnmapjflofoflaa", sum := "bbf1f7eb64c3c87ce6aad948d479c920e1f3207fcdb06fa8d154ff725fcc58db", func := "transit/transitlaw01.ClockDurations", spec := "clockDurations", inPlace := ["internal/abi.NoEscape", "internal/bytealg.IndexByteString", "internal/bytealg.IndexString"], named := ["internal/bytealg.MaxLen"], apart := false, narrowed := true }
def ClockDurationsUptoSaid : Prop := clockDurationsUptoRow.holds Try.pinned (OpenSpec.upto clockDurationsSpec)

/-- 'transitlaw01.ClockReads', WHERE WHAT IT READS IS OF BULK AT MOST 1048576: true; the input reads as it did. -/
def clockReadsUptoRow : OpenClaim := { program := "ytnmapjflofoflaa", sum := "bbf1f7eb64c3c87ce6aad948d479c920e1f3207fcdb06fa8d154ff725fcc58db", func := "transit/transitlaw01.ClockReads", spec := "clockReads", inPlace := ["internal/abi.NoEscape", "internal/bytealg.IndexByteString", "internal/bytealg.IndexString"], named := ["internal/bytealg.MaxLen"], apart := false, narrowed := true }
def ClockReadsUptoSaid : Prop := clockReadsUptoRow.holds Try.pinned (OpenSpec.upto clockReadsSpec)

/-- 'transitlaw01.ClockRoundTrip', WHERE WHAT IT READS IS OF BULK AT MOST 1048576: true; the input reads as it did. -/
def clockRoundTripUptoRow : OpenClaim := { program := "ytnmapjflofoflaa", sum := "bbf1f7eb64c3c87ce6aad948d479c920e1f3207fcdb06fa8d154ff725fcc58db", func := "transit/transitlaw01.ClockRoundTrip", spec := "clockRoundTrip", inPlace := ["internal/abi.NoEscape", "internal/bytealg.IndexByteString", "internal/bytealg.IndexString"], named := ["internal/bytealg.MaxLen"], apart := false, narrowed := true }
def ClockRoundTripUptoSaid : Prop := clockRoundTripUptoRow.holds Try.pinned (OpenSpec.upto clockRoundTripSpec)

end Rows
end Go.Proofs.Ytnmapjflofoflaa
