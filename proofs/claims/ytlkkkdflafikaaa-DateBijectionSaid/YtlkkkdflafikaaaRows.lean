/-
  No cell of these rows narrows 'for every input' (looked for: loops, veiled, ifaces, maps, wideKeys, modest, calm, conditions, laid).
  DERIVED. THE GIVEN ROWS OF THIS SEAT. 11 by the template 'for every input the law returns true; each argument reads behind the call as it read before'; 0 by the template 'total and deterministic' (their statements: YtlkkkdflafikaaaTotals.lean).
  GIVEN WITH THE SEED: the statements are not yours to turn. If you find one false, say at which input.
  Laid BY PROGRAM, IN A SANDBOX (cutbox-rows.mjs): the forced cells as the released guide's own fill.sh prints them over the translation e112ae105db02fd5… (all of the seat's roots in one cut). By AI agents, Wed Nov 11 2026. No macro, syntax, notation, axiom, sorry.
-/
import Derived.Test.YtlkkkdflafikaaaChecked
import GoSem.Claim
import GoSem.ClaimJoined
import GoSem.ClaimMapViews
import Derived.JoinedTies
import Derived.KernelRfl
namespace Go.Proofs.Ytlkkkdflafikaaa
/- THE CELL 'sum', in the pinned program and in every row, IS THE sha256 OF THE DUMP (.gsa) THAT YtlkkkdflafikaaaProg.lean LOADS. Nothing in Lean hashes anything: it is a label: what it is worth is what the hold of that sum in a sandbox is worth. -/
noncomputable def Try.pinned : Pinned := { name := "ytlkkkdflafikaaa", sum := "e112ae105db02fd56bb315cb1b5a97fd8edbfd0a869ecf82a6a29187dd4acad1", checked := Try.checked }
namespace Rows
def none {H : Type} : Left H := { results := [], args := [] }

/-- 'transitlaw02.DateMonths': WHATEVER THE INPUT: true; the input reads as it did. -/
def dateMonthsSpec : ChangeSpec := { name := "dateMonths", fn := fun _ => fun
  | [d1, d2, d3] => { results := [.lit (.bool true)], args := [d1, d2, d3] }
  | _ => none }
def dateMonthsRow : OpenClaim := { program := "ytlkkkdflafikaaa", sum := "e112ae105db02fd56bb315cb1b5a97fd8edbfd0a869ecf82a6a29187dd4acad1", func := "transit/transitlaw02.DateMonths", spec := "dateMonths", inPlace := ["internal/abi.NoEscape"], apart := false }
def DateMonthsSaid : Prop := dateMonthsRow.holds Try.pinned (OpenSpec.ofChange dateMonthsSpec)

/-- ITS FALSE NEIGHBOUR: 'it returns false'. Refute it at one input. -/
def dateMonthsWrong : ChangeSpec := { name := "dateMonths", fn := fun _ => fun
  | [d1, d2, d3] => { results := [.lit (.bool false)], args := [d1, d2, d3] }
  | _ => none }
def DateMonthsWrongFalsely : Prop := dateMonthsRow.holds Try.pinned (OpenSpec.ofChange dateMonthsWrong)

/-- 'transitlaw02.DateFromCivils': WHATEVER THE INPUT: true; the input reads as it did. -/
def dateFromCivilsSpec : ChangeSpec := { name := "dateFromCivils", fn := fun _ => fun
  | [d1, d2, d3] => { results := [.lit (.bool true)], args := [d1, d2, d3] }
  | _ => none }
def dateFromCivilsRow : OpenClaim := { program := "ytlkkkdflafikaaa", sum := "e112ae105db02fd56bb315cb1b5a97fd8edbfd0a869ecf82a6a29187dd4acad1", func := "transit/transitlaw02.DateFromCivils", spec := "dateFromCivils", inPlace := ["internal/abi.NoEscape"], apart := false }
def DateFromCivilsSaid : Prop := dateFromCivilsRow.holds Try.pinned (OpenSpec.ofChange dateFromCivilsSpec)

/-- ITS FALSE NEIGHBOUR: 'it returns false'. Refute it at one input. -/
def dateFromCivilsWrong : ChangeSpec := { name := "dateFromCivils", fn := fun _ => fun
  | [d1, d2, d3] => { results := [.lit (.bool false)], args := [d1, d2, d3] }
  | _ => none }
def DateFromCivilsWrongFalsely : Prop := dateFromCivilsRow.holds Try.pinned (OpenSpec.ofChange dateFromCivilsWrong)

/-- 'transitlaw02.DateCivils': WHATEVER THE INPUT: true; the input reads as it did. -/
def dateCivilsSpec : ChangeSpec := { name := "dateCivils", fn := fun _ => fun
  | [d] => { results := [.lit (.bool true)], args := [d] }
  | _ => none }
def dateCivilsRow : OpenClaim := { program := "ytlkkkdflafikaaa", sum := "e112ae105db02fd56bb315cb1b5a97fd8edbfd0a869ecf82a6a29187dd4acad1", func := "transit/transitlaw02.DateCivils", spec := "dateCivils", inPlace := ["internal/abi.NoEscape"], apart := false }
def DateCivilsSaid : Prop := dateCivilsRow.holds Try.pinned (OpenSpec.ofChange dateCivilsSpec)

/-- ITS FALSE NEIGHBOUR: 'it returns false'. Refute it at one input. -/
def dateCivilsWrong : ChangeSpec := { name := "dateCivils", fn := fun _ => fun
  | [d] => { results := [.lit (.bool false)], args := [d] }
  | _ => none }
def DateCivilsWrongFalsely : Prop := dateCivilsRow.holds Try.pinned (OpenSpec.ofChange dateCivilsWrong)

/-- 'transitlaw02.DateFormats': WHATEVER THE INPUT: true; the input reads as it did. -/
def dateFormatsSpec : ChangeSpec := { name := "dateFormats", fn := fun _ => fun
  | [d] => { results := [.lit (.bool true)], args := [d] }
  | _ => none }
def dateFormatsRow : OpenClaim := { program := "ytlkkkdflafikaaa", sum := "e112ae105db02fd56bb315cb1b5a97fd8edbfd0a869ecf82a6a29187dd4acad1", func := "transit/transitlaw02.DateFormats", spec := "dateFormats", inPlace := ["internal/abi.NoEscape"], apart := false }
def DateFormatsSaid : Prop := dateFormatsRow.holds Try.pinned (OpenSpec.ofChange dateFormatsSpec)

/-- ITS FALSE NEIGHBOUR: 'it returns false'. Refute it at one input. -/
def dateFormatsWrong : ChangeSpec := { name := "dateFormats", fn := fun _ => fun
  | [d] => { results := [.lit (.bool false)], args := [d] }
  | _ => none }
def DateFormatsWrongFalsely : Prop := dateFormatsRow.holds Try.pinned (OpenSpec.ofChange dateFormatsWrong)

/-- 'transitlaw02.DateParses': WHATEVER THE INPUT: true; the input reads as it did. -/
def dateParsesSpec : ChangeSpec := { name := "dateParses", fn := fun _ => fun
  | [d] => { results := [.lit (.bool true)], args := [d] }
  | _ => none }
def dateParsesRow : OpenClaim := { program := "ytlkkkdflafikaaa", sum := "e112ae105db02fd56bb315cb1b5a97fd8edbfd0a869ecf82a6a29187dd4acad1", func := "transit/transitlaw02.DateParses", spec := "dateParses", inPlace := ["internal/abi.NoEscape"], apart := false }
def DateParsesSaid : Prop := dateParsesRow.holds Try.pinned (OpenSpec.ofChange dateParsesSpec)

/-- ITS FALSE NEIGHBOUR: 'it returns false'. Refute it at one input. -/
def dateParsesWrong : ChangeSpec := { name := "dateParses", fn := fun _ => fun
  | [d] => { results := [.lit (.bool false)], args := [d] }
  | _ => none }
def DateParsesWrongFalsely : Prop := dateParsesRow.holds Try.pinned (OpenSpec.ofChange dateParsesWrong)

/-- 'transitlaw02.DateMoments': WHATEVER THE INPUT: true; the input reads as it did. -/
def dateMomentsSpec : ChangeSpec := { name := "dateMoments", fn := fun _ => fun
  | [d1, d2, d3] => { results := [.lit (.bool true)], args := [d1, d2, d3] }
  | _ => none }
def dateMomentsRow : OpenClaim := { program := "ytlkkkdflafikaaa", sum := "e112ae105db02fd56bb315cb1b5a97fd8edbfd0a869ecf82a6a29187dd4acad1", func := "transit/transitlaw02.DateMoments", spec := "dateMoments", inPlace := ["internal/abi.NoEscape"], apart := false }
def DateMomentsSaid : Prop := dateMomentsRow.holds Try.pinned (OpenSpec.ofChange dateMomentsSpec)

/-- ITS FALSE NEIGHBOUR: 'it returns false'. Refute it at one input. -/
def dateMomentsWrong : ChangeSpec := { name := "dateMoments", fn := fun _ => fun
  | [d1, d2, d3] => { results := [.lit (.bool false)], args := [d1, d2, d3] }
  | _ => none }
def DateMomentsWrongFalsely : Prop := dateMomentsRow.holds Try.pinned (OpenSpec.ofChange dateMomentsWrong)

/-- 'transitlaw02.DateStamps': WHATEVER THE INPUT: true; the input reads as it did. -/
def dateStampsSpec : ChangeSpec := { name := "dateStamps", fn := fun _ => fun
  | [d] => { results := [.lit (.bool true)], args := [d] }
  | _ => none }
def dateStampsRow : OpenClaim := { program := "ytlkkkdflafikaaa", sum := "e112ae105db02fd56bb315cb1b5a97fd8edbfd0a869ecf82a6a29187dd4acad1", func := "transit/transitlaw02.DateStamps", spec := "dateStamps", inPlace := ["internal/abi.NoEscape"], apart := false }
def DateStampsSaid : Prop := dateStampsRow.holds Try.pinned (OpenSpec.ofChange dateStampsSpec)

/-- ITS FALSE NEIGHBOUR: 'it returns false'. Refute it at one input. -/
def dateStampsWrong : ChangeSpec := { name := "dateStamps", fn := fun _ => fun
  | [d] => { results := [.lit (.bool false)], args := [d] }
  | _ => none }
def DateStampsWrongFalsely : Prop := dateStampsRow.holds Try.pinned (OpenSpec.ofChange dateStampsWrong)

/-- 'transitlaw02.DateReads': WHATEVER THE INPUT: true; the input reads as it did. -/
def dateReadsSpec : ChangeSpec := { name := "dateReads", fn := fun _ => fun
  | [d] => { results := [.lit (.bool true)], args := [d] }
  | _ => none }
def dateReadsRow : OpenClaim := { program := "ytlkkkdflafikaaa", sum := "e112ae105db02fd56bb315cb1b5a97fd8edbfd0a869ecf82a6a29187dd4acad1", func := "transit/transitlaw02.DateReads", spec := "dateReads", inPlace := ["internal/abi.NoEscape"], apart := false }
def DateReadsSaid : Prop := dateReadsRow.holds Try.pinned (OpenSpec.ofChange dateReadsSpec)

/-- ITS FALSE NEIGHBOUR: 'it returns false'. Refute it at one input. -/
def dateReadsWrong : ChangeSpec := { name := "dateReads", fn := fun _ => fun
  | [d] => { results := [.lit (.bool false)], args := [d] }
  | _ => none }
def DateReadsWrongFalsely : Prop := dateReadsRow.holds Try.pinned (OpenSpec.ofChange dateReadsWrong)

/-- 'transitlaw02.DateBijection': WHATEVER THE INPUT: true; the input reads as it did. -/
def dateBijectionSpec : ChangeSpec := { name := "dateBijection", fn := fun _ => fun
  | [d1, d2, d3] => { results := [.lit (.bool true)], args := [d1, d2, d3] }
  | _ => none }
def dateBijectionRow : OpenClaim := { program := "ytlkkkdflafikaaa", sum := "e112ae105db02fd56bb315cb1b5a97fd8edbfd0a869ecf82a6a29187dd4acad1", func := "transit/transitlaw02.DateBijection", spec := "dateBijection", inPlace := ["internal/abi.NoEscape"], apart := false }
def DateBijectionSaid : Prop := dateBijectionRow.holds Try.pinned (OpenSpec.ofChange dateBijectionSpec)

/-- ITS FALSE NEIGHBOUR: 'it returns false'. Refute it at one input. -/
def dateBijectionWrong : ChangeSpec := { name := "dateBijection", fn := fun _ => fun
  | [d1, d2, d3] => { results := [.lit (.bool false)], args := [d1, d2, d3] }
  | _ => none }
def DateBijectionWrongFalsely : Prop := dateBijectionRow.holds Try.pinned (OpenSpec.ofChange dateBijectionWrong)

/-- 'transitlaw02.DateWeeks': WHATEVER THE INPUT: true; the input reads as it did. -/
def dateWeeksSpec : ChangeSpec := { name := "dateWeeks", fn := fun _ => fun
  | [d] => { results := [.lit (.bool true)], args := [d] }
  | _ => none }
def dateWeeksRow : OpenClaim := { program := "ytlkkkdflafikaaa", sum := "e112ae105db02fd56bb315cb1b5a97fd8edbfd0a869ecf82a6a29187dd4acad1", func := "transit/transitlaw02.DateWeeks", spec := "dateWeeks", inPlace := ["internal/abi.NoEscape"], apart := false }
def DateWeeksSaid : Prop := dateWeeksRow.holds Try.pinned (OpenSpec.ofChange dateWeeksSpec)

/-- ITS FALSE NEIGHBOUR: 'it returns false'. Refute it at one input. -/
def dateWeeksWrong : ChangeSpec := { name := "dateWeeks", fn := fun _ => fun
  | [d] => { results := [.lit (.bool false)], args := [d] }
  | _ => none }
def DateWeeksWrongFalsely : Prop := dateWeeksRow.holds Try.pinned (OpenSpec.ofChange dateWeeksWrong)

/-- 'transitlaw02.DateOrders': WHATEVER THE INPUT: true; the input reads as it did. -/
def dateOrdersSpec : ChangeSpec := { name := "dateOrders", fn := fun _ => fun
  | [d1, d2] => { results := [.lit (.bool true)], args := [d1, d2] }
  | _ => none }
def dateOrdersRow : OpenClaim := { program := "ytlkkkdflafikaaa", sum := "e112ae105db02fd56bb315cb1b5a97fd8edbfd0a869ecf82a6a29187dd4acad1", func := "transit/transitlaw02.DateOrders", spec := "dateOrders", inPlace := ["internal/abi.NoEscape"], apart := false }
def DateOrdersSaid : Prop := dateOrdersRow.holds Try.pinned (OpenSpec.ofChange dateOrdersSpec)

/-- ITS FALSE NEIGHBOUR: 'it returns false'. Refute it at one input. -/
def dateOrdersWrong : ChangeSpec := { name := "dateOrders", fn := fun _ => fun
  | [d1, d2] => { results := [.lit (.bool false)], args := [d1, d2] }
  | _ => none }
def DateOrdersWrongFalsely : Prop := dateOrdersRow.holds Try.pinned (OpenSpec.ofChange dateOrdersWrong)

/- THE SECOND FORM. 'bulk': how many values and letters a reading holds, each counted each time it is reached (what is shared counts as often as it is met; a slice's spare places count too). A statement '..UptoSaid' is the law's where the arguments, and the package variables that the reading takes, are together of bulk at most 1048576: NARROWER than '..Said'. Prove '..Said' where nothing that the law and all that it calls make is longer than what came in: it says more and counts as full. Else prove '..UptoSaid'. A law counts once. -/
mutual
def uptoBulk {H : Type} : DataW H → Nat
  | .lit (.string bytes) => bytes.length + 1
  | .lit _ => 1
  | .nil => 1
  | .ptr d => uptoBulk d + 1
  | .slice elems spare => uptoBulkAll elems + uptoBulkAll spare + 1
  | .agg parts => uptoBulkAll parts + 1
  | .iface _ d => uptoBulk d + 1
  | .map entries => uptoBulkEntries entries + 1
  | .held _ => 1
def uptoBulkAll {H : Type} : List (DataW H) → Nat
  | [] => 0
  | d :: r => uptoBulk d + uptoBulkAll r
def uptoBulkEntries {H : Type} : List (Lit × DataW H) → Nat
  | [] => 0
  | x :: r => uptoBulkEntry x + uptoBulkEntries r
def uptoBulkEntry {H : Type} : Lit × DataW H → Nat
  | (.string bytes, d) => bytes.length + uptoBulk d + 1
  | (_, d) => uptoBulk d + 1
 end
def uptoSmall : (H : Type) → List (DataW H) → Bool := fun _ ds => decide (uptoBulkAll ds ≤ 1048576)
def OpenSpec.upto (s : _root_.Go.ChangeSpec) : _root_.Go.OpenSpec := { _root_.Go.OpenSpec.ofChange s with cond := some uptoSmall }

/-- 'transitlaw02.DateMonths', WHERE WHAT IT READS IS OF BULK AT MOST 1048576: true; the input reads as it did. -/
def dateMonthsUptoRow : OpenClaim := { program := "ytlkkkdflafikaaa", sum := "e112ae105db02fd56bb315cb1b5a97fd8edbfd0a869ecf82a6a29187dd4acad1", func := "transit/transitlaw02.DateMonths", spec := "dateMonths", inPlace := ["internal/abi.NoEscape"], apart := false, narrowed := true }
def DateMonthsUptoSaid : Prop := dateMonthsUptoRow.holds Try.pinned (OpenSpec.upto dateMonthsSpec)

/-- 'transitlaw02.DateFromCivils', WHERE WHAT IT READS IS OF BULK AT MOST 1048576: true; the input reads as it did. -/
def dateFromCivilsUptoRow : OpenClaim := { program := "ytlkkkdflafikaaa", sum := "e112ae105db02fd56bb315cb1b5a97fd8edbfd0a869ecf82a6a29187dd4acad1", func := "transit/transitlaw02.DateFromCivils", spec := "dateFromCivils", inPlace := ["internal/abi.NoEscape"], apart := false, narrowed := true }
def DateFromCivilsUptoSaid : Prop := dateFromCivilsUptoRow.holds Try.pinned (OpenSpec.upto dateFromCivilsSpec)

/-- 'transitlaw02.DateCivils', WHERE WHAT IT READS IS OF BULK AT MOST 1048576: true; the input reads as it did. -/
def dateCivilsUptoRow : OpenClaim := { program := "ytlkkkdflafikaaa", sum := "e112ae105db02fd56bb315cb1b5a97fd8edbfd0a869ecf82a6a29187dd4acad1", func := "transit/transitlaw02.DateCivils", spec := "dateCivils", inPlace := ["internal/abi.NoEscape"], apart := false, narrowed := true }
def DateCivilsUptoSaid : Prop := dateCivilsUptoRow.holds Try.pinned (OpenSpec.upto dateCivilsSpec)

/-- 'transitlaw02.DateFormats', WHERE WHAT IT READS IS OF BULK AT MOST 1048576: true; the input reads as it did. -/
def dateFormatsUptoRow : OpenClaim := { program := "ytlkkkdflafikaaa", sum := "e112ae105db02fd56bb315cb1b5a97fd8edbfd0a869ecf82a6a29187dd4acad1", func := "transit/transitlaw02.DateFormats", spec := "dateFormats", inPlace := ["internal/abi.NoEscape"], apart := false, narrowed := true }
def DateFormatsUptoSaid : Prop := dateFormatsUptoRow.holds Try.pinned (OpenSpec.upto dateFormatsSpec)

/-- 'transitlaw02.DateParses', WHERE WHAT IT READS IS OF BULK AT MOST 1048576: true; the input reads as it did. -/
def dateParsesUptoRow : OpenClaim := { program := "ytlkkkdflafikaaa", sum := "e112ae105db02fd56bb315cb1b5a97fd8edbfd0a869ecf82a6a29187dd4acad1", func := "transit/transitlaw02.DateParses", spec := "dateParses", inPlace := ["internal/abi.NoEscape"], apart := false, narrowed := true }
def DateParsesUptoSaid : Prop := dateParsesUptoRow.holds Try.pinned (OpenSpec.upto dateParsesSpec)

/-- 'transitlaw02.DateMoments', WHERE WHAT IT READS IS OF BULK AT MOST 1048576: true; the input reads as it did. -/
def dateMomentsUptoRow : OpenClaim := { program := "ytlkkkdflafikaaa", sum := "e112ae105db02fd56bb315cb1b5a97fd8edbfd0a869ecf82a6a29187dd4acad1", func := "transit/transitlaw02.DateMoments", spec := "dateMoments", inPlace := ["internal/abi.NoEscape"], apart := false, narrowed := true }
def DateMomentsUptoSaid : Prop := dateMomentsUptoRow.holds Try.pinned (OpenSpec.upto dateMomentsSpec)

/-- 'transitlaw02.DateStamps', WHERE WHAT IT READS IS OF BULK AT MOST 1048576: true; the input reads as it did. -/
def dateStampsUptoRow : OpenClaim := { program := "ytlkkkdflafikaaa", sum := "e112ae105db02fd56bb315cb1b5a97fd8edbfd0a869ecf82a6a29187dd4acad1", func := "transit/transitlaw02.DateStamps", spec := "dateStamps", inPlace := ["internal/abi.NoEscape"], apart := false, narrowed := true }
def DateStampsUptoSaid : Prop := dateStampsUptoRow.holds Try.pinned (OpenSpec.upto dateStampsSpec)

/-- 'transitlaw02.DateReads', WHERE WHAT IT READS IS OF BULK AT MOST 1048576: true; the input reads as it did. -/
def dateReadsUptoRow : OpenClaim := { program := "ytlkkkdflafikaaa", sum := "e112ae105db02fd56bb315cb1b5a97fd8edbfd0a869ecf82a6a29187dd4acad1", func := "transit/transitlaw02.DateReads", spec := "dateReads", inPlace := ["internal/abi.NoEscape"], apart := false, narrowed := true }
def DateReadsUptoSaid : Prop := dateReadsUptoRow.holds Try.pinned (OpenSpec.upto dateReadsSpec)

/-- 'transitlaw02.DateBijection', WHERE WHAT IT READS IS OF BULK AT MOST 1048576: true; the input reads as it did. -/
def dateBijectionUptoRow : OpenClaim := { program := "ytlkkkdflafikaaa", sum := "e112ae105db02fd56bb315cb1b5a97fd8edbfd0a869ecf82a6a29187dd4acad1", func := "transit/transitlaw02.DateBijection", spec := "dateBijection", inPlace := ["internal/abi.NoEscape"], apart := false, narrowed := true }
def DateBijectionUptoSaid : Prop := dateBijectionUptoRow.holds Try.pinned (OpenSpec.upto dateBijectionSpec)

/-- 'transitlaw02.DateWeeks', WHERE WHAT IT READS IS OF BULK AT MOST 1048576: true; the input reads as it did. -/
def dateWeeksUptoRow : OpenClaim := { program := "ytlkkkdflafikaaa", sum := "e112ae105db02fd56bb315cb1b5a97fd8edbfd0a869ecf82a6a29187dd4acad1", func := "transit/transitlaw02.DateWeeks", spec := "dateWeeks", inPlace := ["internal/abi.NoEscape"], apart := false, narrowed := true }
def DateWeeksUptoSaid : Prop := dateWeeksUptoRow.holds Try.pinned (OpenSpec.upto dateWeeksSpec)

/-- 'transitlaw02.DateOrders', WHERE WHAT IT READS IS OF BULK AT MOST 1048576: true; the input reads as it did. -/
def dateOrdersUptoRow : OpenClaim := { program := "ytlkkkdflafikaaa", sum := "e112ae105db02fd56bb315cb1b5a97fd8edbfd0a869ecf82a6a29187dd4acad1", func := "transit/transitlaw02.DateOrders", spec := "dateOrders", inPlace := ["internal/abi.NoEscape"], apart := false, narrowed := true }
def DateOrdersUptoSaid : Prop := dateOrdersUptoRow.holds Try.pinned (OpenSpec.upto dateOrdersSpec)

end Rows
end Go.Proofs.Ytlkkkdflafikaaa
