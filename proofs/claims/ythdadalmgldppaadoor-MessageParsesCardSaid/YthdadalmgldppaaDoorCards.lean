/-
  DERIVED. GIVEN WITH THE SEED: THE CARDS: each row of YthdadalmgldppaaDoorRows.lean that lists a variable, with what it lists TIED to the program's text (the seventh form; the later family's looks); each row that meets fmt, with fmt's text TOLD by the authors' own Lean function (tested against real Go, not proved from fmt's source: count such statements apart). THE CARD IS WHAT COUNTS. Prove the row's statement (the work); the ties are given (YthdadalmgldppaaDoorTie.lean); close each card by the builder's one call (the guide's Derived/Test/ToyasCard.lean, 'card_holds'). Laid BY PROGRAM, IN A SANDBOX (cutbox-door.mjs). By AI agents, Wed Nov 11 2026. No macro, syntax, notation, axiom, sorry.
-/
import Derived.Test.YthdadalmgldppaaDoorRows
import GoSem.ClaimSeven
namespace Go.Proofs.YthdadalmgldppaaDoor
namespace Rows

/-- THE TIED CARD OF 'transitlaw31.MessageChecks'. -/
def messageChecksCard : Claim7 := { stood := { row := messageChecksRow, standIns := [], harness := (true, "fbb44d5942b7ac535924e88c01e70e048e1847d501acc9bdce1d2807e07517d4"), looks := false }, kinds := [], alts := [], laidByText := true, laidKinds := [.data], laidTests := true, laidLooks := .later }
def MessageChecksCardSaid : Prop := Claim7.holds Tryd.pinned (.plain (OpenSpec.ofChange messageChecksSpec)) messageChecksCard

/-- THE TIED CARD OF 'transitlaw31.MessageFormats'. -/
def messageFormatsCard : Claim7 := { stood := { row := messageFormatsRow, standIns := [], harness := (true, "fbb44d5942b7ac535924e88c01e70e048e1847d501acc9bdce1d2807e07517d4"), looks := false }, kinds := [], alts := [], laidByText := true, laidKinds := [.data], laidTests := true, laidLooks := .later }
def MessageFormatsCardSaid : Prop := Claim7.holds Tryd.pinned (.plain (OpenSpec.ofChange messageFormatsSpec)) messageFormatsCard

/-- THE TIED CARD OF 'transitlaw31.MessageParses'. -/
def messageParsesCard : Claim7 := { stood := { row := messageParsesRow, standIns := [], harness := (true, "fbb44d5942b7ac535924e88c01e70e048e1847d501acc9bdce1d2807e07517d4"), looks := false }, kinds := [], alts := [], laidByText := true, laidKinds := [.data], laidTests := true, laidLooks := .later }
def MessageParsesCardSaid : Prop := Claim7.holds Tryd.pinned (.plain (OpenSpec.ofChange messageParsesSpec)) messageParsesCard

/-- THE TIED CARD OF 'transitlaw31.MessageRoundTrip'. -/
def messageRoundTripCard : Claim7 := { stood := { row := messageRoundTripRow, standIns := [], harness := (true, "fbb44d5942b7ac535924e88c01e70e048e1847d501acc9bdce1d2807e07517d4"), looks := false }, kinds := [], alts := [], laidByText := true, laidKinds := [.data], laidTests := true, laidLooks := .later }
def MessageRoundTripCardSaid : Prop := Claim7.holds Tryd.pinned (.plain (OpenSpec.ofChange messageRoundTripSpec)) messageRoundTripCard

/-- THE TIED CARD OF 'transitlaw31.MessageOrder'. -/
def messageOrderCard : Claim7 := { stood := { row := messageOrderRow, standIns := [], harness := (true, "fbb44d5942b7ac535924e88c01e70e048e1847d501acc9bdce1d2807e07517d4"), looks := false }, kinds := [], alts := [], laidByText := true, laidKinds := [.data], laidTests := true, laidLooks := .later }
def MessageOrderCardSaid : Prop := Claim7.holds Tryd.pinned (.plain (OpenSpec.ofChange messageOrderSpec)) messageOrderCard

/-- THE TIED CARD OF 'transitlaw31.MessageCompares'. -/
def messageComparesCard : Claim7 := { stood := { row := messageComparesRow, standIns := [], harness := (true, "fbb44d5942b7ac535924e88c01e70e048e1847d501acc9bdce1d2807e07517d4"), looks := false }, kinds := [], alts := [], laidByText := true, laidKinds := [.data], laidTests := true, laidLooks := .later }
def MessageComparesCardSaid : Prop := Claim7.holds Tryd.pinned (.plain (OpenSpec.ofChange messageComparesSpec)) messageComparesCard

/-- THE SECOND FORM's CARD OF 'transitlaw31.MessageChecks'. -/
def messageChecksUptoCard : Claim7 := { stood := { row := messageChecksUptoRow, standIns := [], harness := (true, "fbb44d5942b7ac535924e88c01e70e048e1847d501acc9bdce1d2807e07517d4"), looks := false }, kinds := [], alts := [], laidByText := true, laidKinds := [.data], laidTests := true, laidLooks := .later }
def MessageChecksUptoCardSaid : Prop := Claim7.holds Tryd.pinned (.plain (OpenSpec.upto messageChecksSpec)) messageChecksUptoCard

/-- THE SECOND FORM's CARD OF 'transitlaw31.MessageFormats'. -/
def messageFormatsUptoCard : Claim7 := { stood := { row := messageFormatsUptoRow, standIns := [], harness := (true, "fbb44d5942b7ac535924e88c01e70e048e1847d501acc9bdce1d2807e07517d4"), looks := false }, kinds := [], alts := [], laidByText := true, laidKinds := [.data], laidTests := true, laidLooks := .later }
def MessageFormatsUptoCardSaid : Prop := Claim7.holds Tryd.pinned (.plain (OpenSpec.upto messageFormatsSpec)) messageFormatsUptoCard

/-- THE SECOND FORM's CARD OF 'transitlaw31.MessageParses'. -/
def messageParsesUptoCard : Claim7 := { stood := { row := messageParsesUptoRow, standIns := [], harness := (true, "fbb44d5942b7ac535924e88c01e70e048e1847d501acc9bdce1d2807e07517d4"), looks := false }, kinds := [], alts := [], laidByText := true, laidKinds := [.data], laidTests := true, laidLooks := .later }
def MessageParsesUptoCardSaid : Prop := Claim7.holds Tryd.pinned (.plain (OpenSpec.upto messageParsesSpec)) messageParsesUptoCard

/-- THE SECOND FORM's CARD OF 'transitlaw31.MessageRoundTrip'. -/
def messageRoundTripUptoCard : Claim7 := { stood := { row := messageRoundTripUptoRow, standIns := [], harness := (true, "fbb44d5942b7ac535924e88c01e70e048e1847d501acc9bdce1d2807e07517d4"), looks := false }, kinds := [], alts := [], laidByText := true, laidKinds := [.data], laidTests := true, laidLooks := .later }
def MessageRoundTripUptoCardSaid : Prop := Claim7.holds Tryd.pinned (.plain (OpenSpec.upto messageRoundTripSpec)) messageRoundTripUptoCard

/-- THE SECOND FORM's CARD OF 'transitlaw31.MessageOrder'. -/
def messageOrderUptoCard : Claim7 := { stood := { row := messageOrderUptoRow, standIns := [], harness := (true, "fbb44d5942b7ac535924e88c01e70e048e1847d501acc9bdce1d2807e07517d4"), looks := false }, kinds := [], alts := [], laidByText := true, laidKinds := [.data], laidTests := true, laidLooks := .later }
def MessageOrderUptoCardSaid : Prop := Claim7.holds Tryd.pinned (.plain (OpenSpec.upto messageOrderSpec)) messageOrderUptoCard

/-- THE SECOND FORM's CARD OF 'transitlaw31.MessageCompares'. -/
def messageComparesUptoCard : Claim7 := { stood := { row := messageComparesUptoRow, standIns := [], harness := (true, "fbb44d5942b7ac535924e88c01e70e048e1847d501acc9bdce1d2807e07517d4"), looks := false }, kinds := [], alts := [], laidByText := true, laidKinds := [.data], laidTests := true, laidLooks := .later }
def MessageComparesUptoCardSaid : Prop := Claim7.holds Tryd.pinned (.plain (OpenSpec.upto messageComparesSpec)) messageComparesUptoCard
end Rows
end Go.Proofs.YthdadalmgldppaaDoor
