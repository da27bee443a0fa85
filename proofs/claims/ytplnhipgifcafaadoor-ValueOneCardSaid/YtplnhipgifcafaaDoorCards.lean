/-
  DERIVED. GIVEN WITH THE SEED: THE CARDS: each row of YtplnhipgifcafaaDoorRows.lean that lists a variable, with what it lists TIED to the program's text (the seventh form; the later family's looks); each row that meets fmt, with fmt's text TOLD by the authors' own Lean function (tested against real Go, not proved from fmt's source: count such statements apart). THE CARD IS WHAT COUNTS. Prove the row's statement (the work); the ties are given (YtplnhipgifcafaaDoorTie.lean); close each card by the builder's one call (the guide's Derived/Test/ToyasCard.lean, 'card_holds'). Laid BY PROGRAM, IN A SANDBOX (cutbox-door.mjs). By AI agents, Wed Nov 11 2026. No macro, syntax, notation, axiom, sorry.
-/
import Derived.Test.YtplnhipgifcafaaDoorRows
import GoSem.ClaimSeven
namespace Go.Proofs.YtplnhipgifcafaaDoor
namespace Rows

/-- THE TIED CARD OF 'chordmaillaw01.LexEach'. -/
def lexEachCard : Claim7 := { stood := { row := lexEachRow, standIns := [], harness := (true, "b04926885f4b71a2ef47fd4abf57d2f4096b5e28d4065e19a187553d05f01448"), looks := true }, kinds := [], alts := [], laidByText := true, laidKinds := [.data, .data, .data, .sentinel, .sentinel], laidTests := true, laidLooks := .later }
def LexEachCardSaid : Prop := Claim7.holds Tryd.pinned (.plain (OpenSpec.ofChange lexEachSpec)) lexEachCard

/-- THE TIED CARD OF 'chordmaillaw01.LexScans'. -/
def lexScansCard : Claim7 := { stood := { row := lexScansRow, standIns := [], harness := (true, "b04926885f4b71a2ef47fd4abf57d2f4096b5e28d4065e19a187553d05f01448"), looks := true }, kinds := [], alts := [], laidByText := true, laidKinds := [.data, .data, .data, .sentinel, .sentinel], laidTests := true, laidLooks := .later }
def LexScansCardSaid : Prop := Claim7.holds Tryd.pinned (.plain (OpenSpec.ofChange lexScansSpec)) lexScansCard

/-- THE TIED CARD OF 'chordmaillaw01.LexParts'. -/
def lexPartsCard : Claim7 := { stood := { row := lexPartsRow, standIns := [], harness := (true, "b04926885f4b71a2ef47fd4abf57d2f4096b5e28d4065e19a187553d05f01448"), looks := true }, kinds := [], alts := [], laidByText := true, laidKinds := [.data, .data, .data, .sentinel, .sentinel], laidTests := true, laidLooks := .later }
def LexPartsCardSaid : Prop := Claim7.holds Tryd.pinned (.plain (OpenSpec.ofChange lexPartsSpec)) lexPartsCard

/-- THE TIED CARD OF 'chordmaillaw01.LexJoined'. -/
def lexJoinedCard : Claim7 := { stood := { row := lexJoinedRow, standIns := [], harness := (true, "b04926885f4b71a2ef47fd4abf57d2f4096b5e28d4065e19a187553d05f01448"), looks := true }, kinds := [], alts := [], laidByText := true, laidKinds := [.data, .data, .data, .sentinel, .sentinel], laidTests := true, laidLooks := .later }
def LexJoinedCardSaid : Prop := Claim7.holds Tryd.pinned (.plain (OpenSpec.ofChange lexJoinedSpec)) lexJoinedCard

/-- THE TIED CARD OF 'chordmaillaw01.LexQuotes'. -/
def lexQuotesCard : Claim7 := { stood := { row := lexQuotesRow, standIns := [], harness := (true, "b04926885f4b71a2ef47fd4abf57d2f4096b5e28d4065e19a187553d05f01448"), looks := true }, kinds := [], alts := [], laidByText := true, laidKinds := [.data, .data, .data, .sentinel, .sentinel], laidTests := true, laidLooks := .later }
def LexQuotesCardSaid : Prop := Claim7.holds Tryd.pinned (.plain (OpenSpec.ofChange lexQuotesSpec)) lexQuotesCard

/-- THE TIED CARD OF 'chordmaillaw01.LexReals'. -/
def lexRealsCard : Claim7 := { stood := { row := lexRealsRow, standIns := [], harness := (true, "b04926885f4b71a2ef47fd4abf57d2f4096b5e28d4065e19a187553d05f01448"), looks := true }, kinds := [], alts := [], laidByText := true, laidKinds := [.data, .data, .data, .sentinel, .sentinel], laidTests := true, laidLooks := .later }
def LexRealsCardSaid : Prop := Claim7.holds Tryd.pinned (.plain (OpenSpec.ofChange lexRealsSpec)) lexRealsCard

/-- THE TIED CARD OF 'chordmaillaw01.LexOwn'. -/
def lexOwnCard : Claim7 := { stood := { row := lexOwnRow, standIns := [], harness := (true, "b04926885f4b71a2ef47fd4abf57d2f4096b5e28d4065e19a187553d05f01448"), looks := true }, kinds := [], alts := [], laidByText := true, laidKinds := [.data, .data, .data, .sentinel, .sentinel], laidTests := true, laidLooks := .later }
def LexOwnCardSaid : Prop := Claim7.holds Tryd.pinned (.plain (OpenSpec.ofChange lexOwnSpec)) lexOwnCard

/-- THE TIED CARD OF 'chordmaillaw02.ValueOne'. -/
def valueOneCard : Claim7 := { stood := { row := valueOneRow, standIns := [], harness := (true, "b04926885f4b71a2ef47fd4abf57d2f4096b5e28d4065e19a187553d05f01448"), looks := true }, kinds := [], alts := [], laidByText := true, laidKinds := [.data, .data, .data, .sentinel, .sentinel], laidTests := true, laidLooks := .later }
def ValueOneCardSaid : Prop := Claim7.holds Tryd.pinned (.plain (OpenSpec.ofChange valueOneSpec)) valueOneCard

/-- THE SECOND FORM's CARD OF 'chordmaillaw01.LexEach'. -/
def lexEachUptoCard : Claim7 := { stood := { row := lexEachUptoRow, standIns := [], harness := (true, "b04926885f4b71a2ef47fd4abf57d2f4096b5e28d4065e19a187553d05f01448"), looks := true }, kinds := [], alts := [], laidByText := true, laidKinds := [.data, .data, .data, .sentinel, .sentinel], laidTests := true, laidLooks := .later }
def LexEachUptoCardSaid : Prop := Claim7.holds Tryd.pinned (.plain (OpenSpec.upto lexEachSpec)) lexEachUptoCard

/-- THE SECOND FORM's CARD OF 'chordmaillaw01.LexScans'. -/
def lexScansUptoCard : Claim7 := { stood := { row := lexScansUptoRow, standIns := [], harness := (true, "b04926885f4b71a2ef47fd4abf57d2f4096b5e28d4065e19a187553d05f01448"), looks := true }, kinds := [], alts := [], laidByText := true, laidKinds := [.data, .data, .data, .sentinel, .sentinel], laidTests := true, laidLooks := .later }
def LexScansUptoCardSaid : Prop := Claim7.holds Tryd.pinned (.plain (OpenSpec.upto lexScansSpec)) lexScansUptoCard

/-- THE SECOND FORM's CARD OF 'chordmaillaw01.LexParts'. -/
def lexPartsUptoCard : Claim7 := { stood := { row := lexPartsUptoRow, standIns := [], harness := (true, "b04926885f4b71a2ef47fd4abf57d2f4096b5e28d4065e19a187553d05f01448"), looks := true }, kinds := [], alts := [], laidByText := true, laidKinds := [.data, .data, .data, .sentinel, .sentinel], laidTests := true, laidLooks := .later }
def LexPartsUptoCardSaid : Prop := Claim7.holds Tryd.pinned (.plain (OpenSpec.upto lexPartsSpec)) lexPartsUptoCard

/-- THE SECOND FORM's CARD OF 'chordmaillaw01.LexJoined'. -/
def lexJoinedUptoCard : Claim7 := { stood := { row := lexJoinedUptoRow, standIns := [], harness := (true, "b04926885f4b71a2ef47fd4abf57d2f4096b5e28d4065e19a187553d05f01448"), looks := true }, kinds := [], alts := [], laidByText := true, laidKinds := [.data, .data, .data, .sentinel, .sentinel], laidTests := true, laidLooks := .later }
def LexJoinedUptoCardSaid : Prop := Claim7.holds Tryd.pinned (.plain (OpenSpec.upto lexJoinedSpec)) lexJoinedUptoCard

/-- THE SECOND FORM's CARD OF 'chordmaillaw01.LexQuotes'. -/
def lexQuotesUptoCard : Claim7 := { stood := { row := lexQuotesUptoRow, standIns := [], harness := (true, "b04926885f4b71a2ef47fd4abf57d2f4096b5e28d4065e19a187553d05f01448"), looks := true }, kinds := [], alts := [], laidByText := true, laidKinds := [.data, .data, .data, .sentinel, .sentinel], laidTests := true, laidLooks := .later }
def LexQuotesUptoCardSaid : Prop := Claim7.holds Tryd.pinned (.plain (OpenSpec.upto lexQuotesSpec)) lexQuotesUptoCard

/-- THE SECOND FORM's CARD OF 'chordmaillaw01.LexReals'. -/
def lexRealsUptoCard : Claim7 := { stood := { row := lexRealsUptoRow, standIns := [], harness := (true, "b04926885f4b71a2ef47fd4abf57d2f4096b5e28d4065e19a187553d05f01448"), looks := true }, kinds := [], alts := [], laidByText := true, laidKinds := [.data, .data, .data, .sentinel, .sentinel], laidTests := true, laidLooks := .later }
def LexRealsUptoCardSaid : Prop := Claim7.holds Tryd.pinned (.plain (OpenSpec.upto lexRealsSpec)) lexRealsUptoCard

/-- THE SECOND FORM's CARD OF 'chordmaillaw01.LexOwn'. -/
def lexOwnUptoCard : Claim7 := { stood := { row := lexOwnUptoRow, standIns := [], harness := (true, "b04926885f4b71a2ef47fd4abf57d2f4096b5e28d4065e19a187553d05f01448"), looks := true }, kinds := [], alts := [], laidByText := true, laidKinds := [.data, .data, .data, .sentinel, .sentinel], laidTests := true, laidLooks := .later }
def LexOwnUptoCardSaid : Prop := Claim7.holds Tryd.pinned (.plain (OpenSpec.upto lexOwnSpec)) lexOwnUptoCard

/-- THE SECOND FORM's CARD OF 'chordmaillaw02.ValueOne'. -/
def valueOneUptoCard : Claim7 := { stood := { row := valueOneUptoRow, standIns := [], harness := (true, "b04926885f4b71a2ef47fd4abf57d2f4096b5e28d4065e19a187553d05f01448"), looks := true }, kinds := [], alts := [], laidByText := true, laidKinds := [.data, .data, .data, .sentinel, .sentinel], laidTests := true, laidLooks := .later }
def ValueOneUptoCardSaid : Prop := Claim7.holds Tryd.pinned (.plain (OpenSpec.upto valueOneSpec)) valueOneUptoCard
end Rows
end Go.Proofs.YtplnhipgifcafaaDoor
