/-
  DERIVED. GIVEN WITH THE SEED: THE CARDS: each row of YtonmfcnkdgdkbaaDoorRows.lean that lists a variable, with what it lists TIED to the program's text (the seventh form; the later family's looks); each row that meets fmt, with fmt's text TOLD by the authors' own Lean function (tested against real Go, not proved from fmt's source: count such statements apart). THE CARD IS WHAT COUNTS. Prove the row's statement (the work); the ties are given (YtonmfcnkdgdkbaaDoorTie.lean); close each card by the builder's one call (the guide's Derived/Test/ToyasCard.lean, 'card_holds'). Laid BY PROGRAM, IN A SANDBOX (cutbox-door.mjs). By AI agents, Wed Nov 11 2026. No macro, syntax, notation, axiom, sorry.
-/
import Derived.Test.YtonmfcnkdgdkbaaDoorRows
import GoSem.ClaimSeven
namespace Go.Proofs.YtonmfcnkdgdkbaaDoor
namespace Rows

/-- THE TIED CARD OF 'transitlaw04.FieldQuotes'. -/
def fieldQuotesCard : Claim7 := { stood := { row := fieldQuotesRow, standIns := [], harness := (true, "3a0601e6f9d01c6773953a0c4217c699e7e8a01b1d9a32f4eab04d10e64828c0"), looks := false }, kinds := [], alts := [], laidByText := true, laidKinds := [.data, .pinned], laidTests := true, laidLooks := .later }
def FieldQuotesCardSaid : Prop := Claim7.holds Tryd.pinned (.plain (OpenSpec.ofChange fieldQuotesSpec)) fieldQuotesCard

/-- THE TIED CARD OF 'transitlaw04.FieldUnquotes'. -/
def fieldUnquotesCard : Claim7 := { stood := { row := fieldUnquotesRow, standIns := [], harness := (true, "3a0601e6f9d01c6773953a0c4217c699e7e8a01b1d9a32f4eab04d10e64828c0"), looks := false }, kinds := [], alts := [], laidByText := true, laidKinds := [.data, .pinned], laidTests := true, laidLooks := .later }
def FieldUnquotesCardSaid : Prop := Claim7.holds Tryd.pinned (.plain (OpenSpec.ofChange fieldUnquotesSpec)) fieldUnquotesCard

/-- THE TIED CARD OF 'transitlaw04.FieldSafe'. -/
def fieldSafeCard : Claim7 := { stood := { row := fieldSafeRow, standIns := [], harness := (true, "3a0601e6f9d01c6773953a0c4217c699e7e8a01b1d9a32f4eab04d10e64828c0"), looks := false }, kinds := [], alts := [], laidByText := true, laidKinds := [.data, .pinned], laidTests := true, laidLooks := .later }
def FieldSafeCardSaid : Prop := Claim7.holds Tryd.pinned (.plain (OpenSpec.ofChange fieldSafeSpec)) fieldSafeCard

/-- THE TIED CARD OF 'transitlaw04.FieldJoins'. -/
def fieldJoinsCard : Claim7 := { stood := { row := fieldJoinsRow, standIns := [], harness := (true, "3a0601e6f9d01c6773953a0c4217c699e7e8a01b1d9a32f4eab04d10e64828c0"), looks := false }, kinds := [], alts := [], laidByText := true, laidKinds := [.data, .pinned], laidTests := true, laidLooks := .later }
def FieldJoinsCardSaid : Prop := Claim7.holds Tryd.pinned (.plain (OpenSpec.ofChange fieldJoinsSpec)) fieldJoinsCard

/-- THE TIED CARD OF 'transitlaw04.FieldSplits'. -/
def fieldSplitsCard : Claim7 := { stood := { row := fieldSplitsRow, standIns := [], harness := (true, "3a0601e6f9d01c6773953a0c4217c699e7e8a01b1d9a32f4eab04d10e64828c0"), looks := false }, kinds := [], alts := [], laidByText := true, laidKinds := [.data, .pinned], laidTests := true, laidLooks := .later }
def FieldSplitsCardSaid : Prop := Claim7.holds Tryd.pinned (.plain (OpenSpec.ofChange fieldSplitsSpec)) fieldSplitsCard

/-- THE TIED CARD OF 'transitlaw04.FieldLines'. -/
def fieldLinesCard : Claim7 := { stood := { row := fieldLinesRow, standIns := [], harness := (true, "3a0601e6f9d01c6773953a0c4217c699e7e8a01b1d9a32f4eab04d10e64828c0"), looks := false }, kinds := [], alts := [], laidByText := true, laidKinds := [.data, .pinned], laidTests := true, laidLooks := .later }
def FieldLinesCardSaid : Prop := Claim7.holds Tryd.pinned (.plain (OpenSpec.ofChange fieldLinesSpec)) fieldLinesCard

/-- THE TIED CARD OF 'transitlaw04.FieldRoundTrip'. -/
def fieldRoundTripCard : Claim7 := { stood := { row := fieldRoundTripRow, standIns := [], harness := (true, "3a0601e6f9d01c6773953a0c4217c699e7e8a01b1d9a32f4eab04d10e64828c0"), looks := false }, kinds := [], alts := [], laidByText := true, laidKinds := [.data, .pinned], laidTests := true, laidLooks := .later }
def FieldRoundTripCardSaid : Prop := Claim7.holds Tryd.pinned (.plain (OpenSpec.ofChange fieldRoundTripSpec)) fieldRoundTripCard

/-- THE TIED CARD OF 'transitlaw04.FieldAppends'. -/
def fieldAppendsCard : Claim7 := { stood := { row := fieldAppendsRow, standIns := [], harness := (true, "3a0601e6f9d01c6773953a0c4217c699e7e8a01b1d9a32f4eab04d10e64828c0"), looks := false }, kinds := [], alts := [], laidByText := true, laidKinds := [.data, .pinned], laidTests := true, laidLooks := .later }
def FieldAppendsCardSaid : Prop := Claim7.holds Tryd.pinned (.plain (OpenSpec.ofChange fieldAppendsSpec)) fieldAppendsCard

/-- THE TIED CARD OF 'transitlaw04.FieldTexts'. -/
def fieldTextsCard : Claim7 := { stood := { row := fieldTextsRow, standIns := [], harness := (true, "3a0601e6f9d01c6773953a0c4217c699e7e8a01b1d9a32f4eab04d10e64828c0"), looks := false }, kinds := [], alts := [], laidByText := true, laidKinds := [.data, .pinned], laidTests := true, laidLooks := .later }
def FieldTextsCardSaid : Prop := Claim7.holds Tryd.pinned (.plain (OpenSpec.ofChange fieldTextsSpec)) fieldTextsCard

/-- THE SECOND FORM's CARD OF 'transitlaw04.FieldQuotes'. -/
def fieldQuotesUptoCard : Claim7 := { stood := { row := fieldQuotesUptoRow, standIns := [], harness := (true, "3a0601e6f9d01c6773953a0c4217c699e7e8a01b1d9a32f4eab04d10e64828c0"), looks := false }, kinds := [], alts := [], laidByText := true, laidKinds := [.data, .pinned], laidTests := true, laidLooks := .later }
def FieldQuotesUptoCardSaid : Prop := Claim7.holds Tryd.pinned (.plain (OpenSpec.upto fieldQuotesSpec)) fieldQuotesUptoCard

/-- THE SECOND FORM's CARD OF 'transitlaw04.FieldUnquotes'. -/
def fieldUnquotesUptoCard : Claim7 := { stood := { row := fieldUnquotesUptoRow, standIns := [], harness := (true, "3a0601e6f9d01c6773953a0c4217c699e7e8a01b1d9a32f4eab04d10e64828c0"), looks := false }, kinds := [], alts := [], laidByText := true, laidKinds := [.data, .pinned], laidTests := true, laidLooks := .later }
def FieldUnquotesUptoCardSaid : Prop := Claim7.holds Tryd.pinned (.plain (OpenSpec.upto fieldUnquotesSpec)) fieldUnquotesUptoCard

/-- THE SECOND FORM's CARD OF 'transitlaw04.FieldSafe'. -/
def fieldSafeUptoCard : Claim7 := { stood := { row := fieldSafeUptoRow, standIns := [], harness := (true, "3a0601e6f9d01c6773953a0c4217c699e7e8a01b1d9a32f4eab04d10e64828c0"), looks := false }, kinds := [], alts := [], laidByText := true, laidKinds := [.data, .pinned], laidTests := true, laidLooks := .later }
def FieldSafeUptoCardSaid : Prop := Claim7.holds Tryd.pinned (.plain (OpenSpec.upto fieldSafeSpec)) fieldSafeUptoCard

/-- THE SECOND FORM's CARD OF 'transitlaw04.FieldJoins'. -/
def fieldJoinsUptoCard : Claim7 := { stood := { row := fieldJoinsUptoRow, standIns := [], harness := (true, "3a0601e6f9d01c6773953a0c4217c699e7e8a01b1d9a32f4eab04d10e64828c0"), looks := false }, kinds := [], alts := [], laidByText := true, laidKinds := [.data, .pinned], laidTests := true, laidLooks := .later }
def FieldJoinsUptoCardSaid : Prop := Claim7.holds Tryd.pinned (.plain (OpenSpec.upto fieldJoinsSpec)) fieldJoinsUptoCard

/-- THE SECOND FORM's CARD OF 'transitlaw04.FieldSplits'. -/
def fieldSplitsUptoCard : Claim7 := { stood := { row := fieldSplitsUptoRow, standIns := [], harness := (true, "3a0601e6f9d01c6773953a0c4217c699e7e8a01b1d9a32f4eab04d10e64828c0"), looks := false }, kinds := [], alts := [], laidByText := true, laidKinds := [.data, .pinned], laidTests := true, laidLooks := .later }
def FieldSplitsUptoCardSaid : Prop := Claim7.holds Tryd.pinned (.plain (OpenSpec.upto fieldSplitsSpec)) fieldSplitsUptoCard

/-- THE SECOND FORM's CARD OF 'transitlaw04.FieldLines'. -/
def fieldLinesUptoCard : Claim7 := { stood := { row := fieldLinesUptoRow, standIns := [], harness := (true, "3a0601e6f9d01c6773953a0c4217c699e7e8a01b1d9a32f4eab04d10e64828c0"), looks := false }, kinds := [], alts := [], laidByText := true, laidKinds := [.data, .pinned], laidTests := true, laidLooks := .later }
def FieldLinesUptoCardSaid : Prop := Claim7.holds Tryd.pinned (.plain (OpenSpec.upto fieldLinesSpec)) fieldLinesUptoCard

/-- THE SECOND FORM's CARD OF 'transitlaw04.FieldRoundTrip'. -/
def fieldRoundTripUptoCard : Claim7 := { stood := { row := fieldRoundTripUptoRow, standIns := [], harness := (true, "3a0601e6f9d01c6773953a0c4217c699e7e8a01b1d9a32f4eab04d10e64828c0"), looks := false }, kinds := [], alts := [], laidByText := true, laidKinds := [.data, .pinned], laidTests := true, laidLooks := .later }
def FieldRoundTripUptoCardSaid : Prop := Claim7.holds Tryd.pinned (.plain (OpenSpec.upto fieldRoundTripSpec)) fieldRoundTripUptoCard

/-- THE SECOND FORM's CARD OF 'transitlaw04.FieldAppends'. -/
def fieldAppendsUptoCard : Claim7 := { stood := { row := fieldAppendsUptoRow, standIns := [], harness := (true, "3a0601e6f9d01c6773953a0c4217c699e7e8a01b1d9a32f4eab04d10e64828c0"), looks := false }, kinds := [], alts := [], laidByText := true, laidKinds := [.data, .pinned], laidTests := true, laidLooks := .later }
def FieldAppendsUptoCardSaid : Prop := Claim7.holds Tryd.pinned (.plain (OpenSpec.upto fieldAppendsSpec)) fieldAppendsUptoCard

/-- THE SECOND FORM's CARD OF 'transitlaw04.FieldTexts'. -/
def fieldTextsUptoCard : Claim7 := { stood := { row := fieldTextsUptoRow, standIns := [], harness := (true, "3a0601e6f9d01c6773953a0c4217c699e7e8a01b1d9a32f4eab04d10e64828c0"), looks := false }, kinds := [], alts := [], laidByText := true, laidKinds := [.data, .pinned], laidTests := true, laidLooks := .later }
def FieldTextsUptoCardSaid : Prop := Claim7.holds Tryd.pinned (.plain (OpenSpec.upto fieldTextsSpec)) fieldTextsUptoCard
end Rows
end Go.Proofs.YtonmfcnkdgdkbaaDoor
