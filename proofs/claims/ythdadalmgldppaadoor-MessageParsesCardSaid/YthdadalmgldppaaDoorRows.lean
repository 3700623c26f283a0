/-
  NARROWER THAN 'FOR EVERY INPUT', by the rows' own cells (each row's printed sentence says how): MessageChecks: laid · MessageFormats: laid · MessageParses: laid · MessageRoundTrip: laid · MessageOrder: laid · MessageCompares: laid.
  DERIVED. THE GIVEN ROWS OF THIS SEAT. 6 by the template 'for every input the law returns true; each argument reads behind the call as it read before'; 0 by the template 'total and deterministic' (their statements: YthdadalmgldppaaDoorTotals.lean).
  GIVEN WITH THE SEED: the statements are not yours to turn. If you find one false, say at which input.
  Laid BY PROGRAM, IN A SANDBOX (cutbox-rows.mjs): the forced cells as the released guide's own fill.sh prints them over the translation d5f3882615982689… (all of the seat's roots in one cut). By AI agents, Wed Nov 11 2026. No macro, syntax, notation, axiom, sorry.
-/
import Derived.Test.YthdadalmgldppaaDoorChecked
import GoSem.Claim
import GoSem.ClaimJoined
import GoSem.ClaimMapViews
import Derived.JoinedTies
import Derived.KernelRfl
namespace Go.Proofs.YthdadalmgldppaaDoor
/- THE CELL 'sum', in the pinned program and in every row, IS THE sha256 OF THE DUMP (.gsa) THAT YthdadalmgldppaaDoorProg.lean LOADS. Nothing in Lean hashes anything: it is a label: what it is worth is what the hold of that sum in a sandbox is worth. -/
noncomputable def Tryd.pinned : Pinned := { name := "ythdadalmgldppaadoor", sum := "d5f3882615982689f585729faee030d3875a7668bd2ddbedac44867c8e95de8a", checked := Tryd.checked }
namespace Rows
def none {H : Type} : Left H := { results := [], args := [] }

/- WHAT THE LISTED PACKAGE-LEVEL VARIABLES READ AS WHEN THE CALL BEGINS. Each datum BY PROGRAM (the guide's laid-datum.mjs) off the statement by which the dump's own 'gosem.cut.vars' lays the variable. In a bare row this is a premise. The card (YthdadalmgldppaaDoorCards.lean) ties it to the program's text. -/
def laid_transit_message_words {H : Type} : DataW H := .agg [.lit (.string []), .lit (.string [100, 101, 108, 97, 121]), .lit (.string [99, 97, 110, 99, 101, 108]), .lit (.string [115, 107, 105, 112]), .lit (.string [114, 101, 114, 111, 117, 116, 101]), .lit (.string [97, 100, 100]), .lit (.string [114, 101, 115, 116, 111, 114, 101])]

/-- 'transitlaw31.MessageChecks': WHATEVER THE INPUT: true; the input reads as it did. -/
def messageChecksSpec : ChangeSpec := { name := "messageChecks", fn := fun _ => fun
  | [d] => { results := [.lit (.bool true)], args := [d] }
  | _ => none }
def messageChecksRow : OpenClaim := { program := "ythdadalmgldppaadoor", sum := "d5f3882615982689f585729faee030d3875a7668bd2ddbedac44867c8e95de8a", func := "transit/transitlaw31.MessageChecks", spec := "messageChecks", inPlace := ["internal/bytealg.IndexByteString", "internal/abi.NoEscape", "internal/bytealg.MakeNoZero"], named := ["transit/message.words"], apart := false, laid := [("transit/message.words", laid_transit_message_words)] }
def MessageChecksSaid : Prop := messageChecksRow.holds Tryd.pinned (OpenSpec.ofChange messageChecksSpec)

/-- ITS FALSE NEIGHBOUR: 'it returns false'. Refute it at one input. -/
def messageChecksWrong : ChangeSpec := { name := "messageChecks", fn := fun _ => fun
  | [d] => { results := [.lit (.bool false)], args := [d] }
  | _ => none }
def MessageChecksWrongFalsely : Prop := messageChecksRow.holds Tryd.pinned (OpenSpec.ofChange messageChecksWrong)

/-- 'transitlaw31.MessageFormats': WHATEVER THE INPUT: true; the input reads as it did. -/
def messageFormatsSpec : ChangeSpec := { name := "messageFormats", fn := fun _ => fun
  | [d] => { results := [.lit (.bool true)], args := [d] }
  | _ => none }
def messageFormatsRow : OpenClaim := { program := "ythdadalmgldppaadoor", sum := "d5f3882615982689f585729faee030d3875a7668bd2ddbedac44867c8e95de8a", func := "transit/transitlaw31.MessageFormats", spec := "messageFormats", inPlace := ["internal/bytealg.IndexByteString", "internal/abi.NoEscape", "internal/bytealg.MakeNoZero"], named := ["transit/message.words"], apart := false, laid := [("transit/message.words", laid_transit_message_words)] }
def MessageFormatsSaid : Prop := messageFormatsRow.holds Tryd.pinned (OpenSpec.ofChange messageFormatsSpec)

/-- ITS FALSE NEIGHBOUR: 'it returns false'. Refute it at one input. -/
def messageFormatsWrong : ChangeSpec := { name := "messageFormats", fn := fun _ => fun
  | [d] => { results := [.lit (.bool false)], args := [d] }
  | _ => none }
def MessageFormatsWrongFalsely : Prop := messageFormatsRow.holds Tryd.pinned (OpenSpec.ofChange messageFormatsWrong)

/-- 'transitlaw31.MessageParses': WHATEVER THE INPUT: true; the input reads as it did. -/
def messageParsesSpec : ChangeSpec := { name := "messageParses", fn := fun _ => fun
  | [d] => { results := [.lit (.bool true)], args := [d] }
  | _ => none }
def messageParsesRow : OpenClaim := { program := "ythdadalmgldppaadoor", sum := "d5f3882615982689f585729faee030d3875a7668bd2ddbedac44867c8e95de8a", func := "transit/transitlaw31.MessageParses", spec := "messageParses", inPlace := ["internal/bytealg.IndexByteString", "internal/abi.NoEscape", "internal/bytealg.MakeNoZero"], named := ["transit/message.words"], apart := false, laid := [("transit/message.words", laid_transit_message_words)] }
def MessageParsesSaid : Prop := messageParsesRow.holds Tryd.pinned (OpenSpec.ofChange messageParsesSpec)

/-- ITS FALSE NEIGHBOUR: 'it returns false'. Refute it at one input. -/
def messageParsesWrong : ChangeSpec := { name := "messageParses", fn := fun _ => fun
  | [d] => { results := [.lit (.bool false)], args := [d] }
  | _ => none }
def MessageParsesWrongFalsely : Prop := messageParsesRow.holds Tryd.pinned (OpenSpec.ofChange messageParsesWrong)

/-- 'transitlaw31.MessageRoundTrip': WHATEVER THE INPUT: true; the input reads as it did. -/
def messageRoundTripSpec : ChangeSpec := { name := "messageRoundTrip", fn := fun _ => fun
  | [d1, d2] => { results := [.lit (.bool true)], args := [d1, d2] }
  | _ => none }
def messageRoundTripRow : OpenClaim := { program := "ythdadalmgldppaadoor", sum := "d5f3882615982689f585729faee030d3875a7668bd2ddbedac44867c8e95de8a", func := "transit/transitlaw31.MessageRoundTrip", spec := "messageRoundTrip", inPlace := ["internal/bytealg.IndexByteString", "internal/abi.NoEscape", "internal/bytealg.MakeNoZero"], named := ["transit/message.words"], apart := false, laid := [("transit/message.words", laid_transit_message_words)] }
def MessageRoundTripSaid : Prop := messageRoundTripRow.holds Tryd.pinned (OpenSpec.ofChange messageRoundTripSpec)

/-- ITS FALSE NEIGHBOUR: 'it returns false'. Refute it at one input. -/
def messageRoundTripWrong : ChangeSpec := { name := "messageRoundTrip", fn := fun _ => fun
  | [d1, d2] => { results := [.lit (.bool false)], args := [d1, d2] }
  | _ => none }
def MessageRoundTripWrongFalsely : Prop := messageRoundTripRow.holds Tryd.pinned (OpenSpec.ofChange messageRoundTripWrong)

/-- 'transitlaw31.MessageOrder': WHATEVER THE INPUT: true; the input reads as it did. -/
def messageOrderSpec : ChangeSpec := { name := "messageOrder", fn := fun _ => fun
  | [d1, d2, d3] => { results := [.lit (.bool true)], args := [d1, d2, d3] }
  | _ => none }
def messageOrderRow : OpenClaim := { program := "ythdadalmgldppaadoor", sum := "d5f3882615982689f585729faee030d3875a7668bd2ddbedac44867c8e95de8a", func := "transit/transitlaw31.MessageOrder", spec := "messageOrder", inPlace := ["internal/bytealg.IndexByteString", "internal/abi.NoEscape", "internal/bytealg.MakeNoZero"], named := ["transit/message.words"], apart := false, laid := [("transit/message.words", laid_transit_message_words)] }
def MessageOrderSaid : Prop := messageOrderRow.holds Tryd.pinned (OpenSpec.ofChange messageOrderSpec)

/-- ITS FALSE NEIGHBOUR: 'it returns false'. Refute it at one input. -/
def messageOrderWrong : ChangeSpec := { name := "messageOrder", fn := fun _ => fun
  | [d1, d2, d3] => { results := [.lit (.bool false)], args := [d1, d2, d3] }
  | _ => none }
def MessageOrderWrongFalsely : Prop := messageOrderRow.holds Tryd.pinned (OpenSpec.ofChange messageOrderWrong)

/-- 'transitlaw31.MessageCompares': WHATEVER THE INPUT: true; the input reads as it did. -/
def messageComparesSpec : ChangeSpec := { name := "messageCompares", fn := fun _ => fun
  | [d1, d2] => { results := [.lit (.bool true)], args := [d1, d2] }
  | _ => none }
def messageComparesRow : OpenClaim := { program := "ythdadalmgldppaadoor", sum := "d5f3882615982689f585729faee030d3875a7668bd2ddbedac44867c8e95de8a", func := "transit/transitlaw31.MessageCompares", spec := "messageCompares", inPlace := ["internal/bytealg.IndexByteString", "internal/abi.NoEscape", "internal/bytealg.MakeNoZero"], named := ["transit/message.words"], apart := false, laid := [("transit/message.words", laid_transit_message_words)] }
def MessageComparesSaid : Prop := messageComparesRow.holds Tryd.pinned (OpenSpec.ofChange messageComparesSpec)

/-- ITS FALSE NEIGHBOUR: 'it returns false'. Refute it at one input. -/
def messageComparesWrong : ChangeSpec := { name := "messageCompares", fn := fun _ => fun
  | [d1, d2] => { results := [.lit (.bool false)], args := [d1, d2] }
  | _ => none }
def MessageComparesWrongFalsely : Prop := messageComparesRow.holds Tryd.pinned (OpenSpec.ofChange messageComparesWrong)

/- THE SECOND FORM. 'bulk': how many values and letters a reading holds, each counted each time it is reached (what is shared counts as often as it is met; a slice's spare places count too). A statement '..UptoSaid' is the law's where the arguments, and the package variables that the reading takes, are together of bulk at most 1048576: NARROWER than '..Said'. Prove '..Said' where nothing that the law and all that it calls make is longer than what came in: it says more and counts as full. Else prove '..UptoSaid'. A law counts once. -/
mutual
def uptoBulk {H : Type} : DataW H → Nat
  | .lit (.string bytes) => bytes.length + 1
  | .lit _ => 1
  | .nil => 1
  | .ptr d => uptoBulk d + 1
  | .slice elems spare => uptoBulkAll elems + uptoBulkAll spare + 1
  | .agg parts => uptoBulkAll parts + 1
  | .iface _ d => uptoBulk d + 1
  | .map entries => uptoBulkEntries entries + 1
  | .held _ => 1
def uptoBulkAll {H : Type} : List (DataW H) → Nat
  | [] => 0
  | d :: r => uptoBulk d + uptoBulkAll r
def uptoBulkEntries {H : Type} : List (Lit × DataW H) → Nat
  | [] => 0
  | x :: r => uptoBulkEntry x + uptoBulkEntries r
def uptoBulkEntry {H : Type} : Lit × DataW H → Nat
  | (.string bytes, d) => bytes.length + uptoBulk d + 1
  | (_, d) => uptoBulk d + 1
 end
def uptoSmall : (H : Type) → List (DataW H) → Bool := fun _ ds => decide (uptoBulkAll ds ≤ 1048576)
def OpenSpec.upto (s : _root_.Go.ChangeSpec) : _root_.Go.OpenSpec := { _root_.Go.OpenSpec.ofChange s with cond := some uptoSmall }

/-- 'transitlaw31.MessageChecks', WHERE WHAT IT READS IS OF BULK AT MOST 1048576: true; the input reads as it did. -/
def messageChecksUptoRow : OpenClaim := { program := "ythdadalmgldppaadoor", sum := "d5f3882615982689f585729faee030d3875a7668bd2ddbedac44867c8e95de8a", func := "transit/transitlaw31.MessageChecks", spec := "messageChecks", inPlace := ["internal/bytealg.IndexByteString", "internal/abi.NoEscape", "internal/bytealg.MakeNoZero"], named := ["transit/message.words"], apart := false, laid := [("transit/message.words", laid_transit_message_words)], narrowed := true }
def MessageChecksUptoSaid : Prop := messageChecksUptoRow.holds Tryd.pinned (OpenSpec.upto messageChecksSpec)

/-- 'transitlaw31.MessageFormats', WHERE WHAT IT READS IS OF BULK AT MOST 1048576: true; the input reads as it did. -/
def messageFormatsUptoRow : OpenClaim := { program := "ythdadalmgldppaadoor", sum := "d5f3882615982689f585729faee030d3875a7668bd2ddbedac44867c8e95de8a", func := "transit/transitlaw31.MessageFormats", spec := "messageFormats", inPlace := ["internal/bytealg.IndexByteString", "internal/abi.NoEscape", "internal/bytealg.MakeNoZero"], named := ["transit/message.words"], apart := false, laid := [("transit/message.words", laid_transit_message_words)], narrowed := true }
def MessageFormatsUptoSaid : Prop := messageFormatsUptoRow.holds Tryd.pinned (OpenSpec.upto messageFormatsSpec)

/-- 'transitlaw31.MessageParses', WHERE WHAT IT READS IS OF BULK AT MOST 1048576: true; the input reads as it did. -/
def messageParsesUptoRow : OpenClaim := { program := "ythdadalmgldppaadoor", sum := "d5f3882615982689f585729faee030d3875a7668bd2ddbedac44867c8e95de8a", func := "transit/transitlaw31.MessageParses", spec := "messageParses", inPlace := ["internal/bytealg.IndexByteString", "internal/abi.NoEscape", "internal/bytealg.MakeNoZero"], named := ["transit/message.words"], apart := false, laid := [("transit/message.words", laid_transit_message_words)], narrowed := true }
def MessageParsesUptoSaid : Prop := messageParsesUptoRow.holds Tryd.pinned (OpenSpec.upto messageParsesSpec)

/-- 'transitlaw31.MessageRoundTrip', WHERE WHAT IT READS IS OF BULK AT MOST 1048576: true; the input reads as it did. -/
def messageRoundTripUptoRow : OpenClaim := { program := "ythdadalmgldppaadoor", sum := "d5f3882615982689f585729faee030d3875a7668bd2ddbedac44867c8e95de8a", func := "transit/transitlaw31.MessageRoundTrip", spec := "messageRoundTrip", inPlace := ["internal/bytealg.IndexByteString", "internal/abi.NoEscape", "internal/bytealg.MakeNoZero"], named := ["transit/message.words"], apart := false, laid := [("transit/message.words", laid_transit_message_words)], narrowed := true }
def MessageRoundTripUptoSaid : Prop := messageRoundTripUptoRow.holds Tryd.pinned (OpenSpec.upto messageRoundTripSpec)

/-- 'transitlaw31.MessageOrder', WHERE WHAT IT READS IS OF BULK AT MOST 1048576: true; the input reads as it did. -/
def messageOrderUptoRow : OpenClaim := { program := "ythdadalmgldppaadoor", sum := "d5f3882615982689f585729faee030d3875a7668bd2ddbedac44867c8e95de8a", func := "transit/transitlaw31.MessageOrder", spec := "messageOrder", inPlace := ["internal/bytealg.IndexByteString", "internal/abi.NoEscape", "internal/bytealg.MakeNoZero"], named := ["transit/message.words"], apart := false, laid := [("transit/message.words", laid_transit_message_words)], narrowed := true }
def MessageOrderUptoSaid : Prop := messageOrderUptoRow.holds Tryd.pinned (OpenSpec.upto messageOrderSpec)

/-- 'transitlaw31.MessageCompares', WHERE WHAT IT READS IS OF BULK AT MOST 1048576: true; the input reads as it did. -/
def messageComparesUptoRow : OpenClaim := { program := "ythdadalmgldppaadoor", sum := "d5f3882615982689f585729faee030d3875a7668bd2ddbedac44867c8e95de8a", func := "transit/transitlaw31.MessageCompares", spec := "messageCompares", inPlace := ["internal/bytealg.IndexByteString", "internal/abi.NoEscape", "internal/bytealg.MakeNoZero"], named := ["transit/message.words"], apart := false, laid := [("transit/message.words", laid_transit_message_words)], narrowed := true }
def MessageComparesUptoSaid : Prop := messageComparesUptoRow.holds Tryd.pinned (OpenSpec.upto messageComparesSpec)

end Rows
end Go.Proofs.YthdadalmgldppaaDoor
