/-
  DERIVED. GIVEN WITH THE SEED: THE CARDS: each row of YtlobiioioicmhaaGreatDoorRows.lean that lists a variable, with what it lists TIED to the program's text (the seventh form; the later family's looks); each row that meets fmt, with fmt's text TOLD by the authors' own Lean function (tested against real Go, not proved from fmt's source: count such statements apart). THE CARD IS WHAT COUNTS. Prove the row's statement (the work); the ties are given (YtlobiioioicmhaaGreatDoorTie.lean); close each card by the builder's one call (the guide's Derived/Test/ToyasCard.lean, 'card_holds'). Laid BY PROGRAM, IN A SANDBOX (cutbox-door.mjs). By AI agents, Wed Nov 11 2026. No macro, syntax, notation, axiom, sorry.
-/
import Derived.Test.YtlobiioioicmhaaGreatDoorRows
import GoSem.ClaimSeven
namespace Go.Proofs.YtlobiioioicmhaaGreatDoor
namespace Rows

/-- THE TIED CARD OF 'chordmaillaw02.ValueReads'. -/
def valueReadsCard : Claim7 := { stood := { row := valueReadsRow, standIns := [], harness := (true, "f79ad9558bceba049df6f76b45604f302acd9aa4817135c892a8e648197ddfca"), looks := true }, kinds := [], alts := [], laidByText := true, laidKinds := [.data, .data, .data, .sentinel, .sentinel], laidTests := true, laidLooks := .later }
def ValueReadsCardSaid : Prop := Claim7.holds Tryz.pinned (.plain (OpenSpec.ofChange valueReadsSpec)) valueReadsCard

/-- THE TIED CARD OF 'chordmaillaw05.ExprParses'. -/
def exprParsesCard : Claim7 := { stood := { row := exprParsesRow, standIns := [], harness := (true, "f79ad9558bceba049df6f76b45604f302acd9aa4817135c892a8e648197ddfca"), looks := true }, kinds := [], alts := [], laidByText := true, laidKinds := [.data, .data, .data, .sentinel, .sentinel], laidTests := true, laidLooks := .later }
def ExprParsesCardSaid : Prop := Claim7.holds Tryz.pinned (.plain (OpenSpec.ofChange exprParsesSpec)) exprParsesCard

/-- THE TIED CARD OF 'chordmaillaw05.ExprReads'. -/
def exprReadsCard : Claim7 := { stood := { row := exprReadsRow, standIns := [], harness := (true, "f79ad9558bceba049df6f76b45604f302acd9aa4817135c892a8e648197ddfca"), looks := true }, kinds := [], alts := [], laidByText := true, laidKinds := [.data, .data, .data, .sentinel, .sentinel], laidTests := true, laidLooks := .later }
def ExprReadsCardSaid : Prop := Claim7.holds Tryz.pinned (.plain (OpenSpec.ofChange exprReadsSpec)) exprReadsCard

/-- THE TIED CARD OF 'chordmaillaw08.DeclChords'. -/
def declChordsCard : Claim7 := { stood := { row := declChordsRow, standIns := [], harness := (true, "f79ad9558bceba049df6f76b45604f302acd9aa4817135c892a8e648197ddfca"), looks := true }, kinds := [], alts := [], laidByText := true, laidKinds := [.data, .data, .data, .sentinel, .sentinel], laidTests := true, laidLooks := .later }
def DeclChordsCardSaid : Prop := Claim7.holds Tryz.pinned (.plain (OpenSpec.ofChange declChordsSpec)) declChordsCard

/-- THE TIED CARD OF 'chordmaillaw08.DeclReads'. -/
def declReadsCard : Claim7 := { stood := { row := declReadsRow, standIns := [], harness := (true, "f79ad9558bceba049df6f76b45604f302acd9aa4817135c892a8e648197ddfca"), looks := true }, kinds := [], alts := [], laidByText := true, laidKinds := [.data, .data, .data, .sentinel, .sentinel], laidTests := true, laidLooks := .later }
def DeclReadsCardSaid : Prop := Claim7.holds Tryz.pinned (.plain (OpenSpec.ofChange declReadsSpec)) declReadsCard

/-- THE TIED CARD OF 'chordmaillaw08.DeclJoins'. -/
def declJoinsCard : Claim7 := { stood := { row := declJoinsRow, standIns := [], harness := (true, "f79ad9558bceba049df6f76b45604f302acd9aa4817135c892a8e648197ddfca"), looks := true }, kinds := [], alts := [], laidByText := true, laidKinds := [.data, .data, .data, .sentinel, .sentinel], laidTests := true, laidLooks := .later }
def DeclJoinsCardSaid : Prop := Claim7.holds Tryz.pinned (.plain (OpenSpec.ofChange declJoinsSpec)) declJoinsCard

/-- THE TIED CARD OF 'chordmaillaw08.DeclBlanks'. -/
def declBlanksCard : Claim7 := { stood := { row := declBlanksRow, standIns := [], harness := (true, "f79ad9558bceba049df6f76b45604f302acd9aa4817135c892a8e648197ddfca"), looks := true }, kinds := [], alts := [], laidByText := true, laidKinds := [.data, .data, .data, .sentinel, .sentinel], laidTests := true, laidLooks := .later }
def DeclBlanksCardSaid : Prop := Claim7.holds Tryz.pinned (.plain (OpenSpec.ofChange declBlanksSpec)) declBlanksCard

/-- THE TIED CARD OF 'chordmaillaw08.DeclOwn'. -/
def declOwnCard : Claim7 := { stood := { row := declOwnRow, standIns := [], harness := (true, "f79ad9558bceba049df6f76b45604f302acd9aa4817135c892a8e648197ddfca"), looks := true }, kinds := [], alts := [], laidByText := true, laidKinds := [.data, .data, .data, .sentinel, .sentinel], laidTests := true, laidLooks := .later }
def DeclOwnCardSaid : Prop := Claim7.holds Tryz.pinned (.plain (OpenSpec.ofChange declOwnSpec)) declOwnCard

/-- THE TIED CARD OF 'chordmaillaw10.PrintOne'. -/
def printOneCard : Claim7 := { stood := { row := printOneRow, standIns := [], harness := (true, "f79ad9558bceba049df6f76b45604f302acd9aa4817135c892a8e648197ddfca"), looks := true }, kinds := [], alts := [], laidByText := true, laidKinds := [.data, .data, .data, .sentinel, .sentinel], laidTests := true, laidLooks := .later }
def PrintOneCardSaid : Prop := Claim7.holds Tryz.pinned (.plain (OpenSpec.ofChange printOneSpec)) printOneCard

/-- THE SECOND FORM's CARD OF 'chordmaillaw02.ValueReads'. -/
def valueReadsUptoCard : Claim7 := { stood := { row := valueReadsUptoRow, standIns := [], harness := (true, "f79ad9558bceba049df6f76b45604f302acd9aa4817135c892a8e648197ddfca"), looks := true }, kinds := [], alts := [], laidByText := true, laidKinds := [.data, .data, .data, .sentinel, .sentinel], laidTests := true, laidLooks := .later }
def ValueReadsUptoCardSaid : Prop := Claim7.holds Tryz.pinned (.plain (OpenSpec.upto valueReadsSpec)) valueReadsUptoCard

/-- THE SECOND FORM's CARD OF 'chordmaillaw05.ExprParses'. -/
def exprParsesUptoCard : Claim7 := { stood := { row := exprParsesUptoRow, standIns := [], harness := (true, "f79ad9558bceba049df6f76b45604f302acd9aa4817135c892a8e648197ddfca"), looks := true }, kinds := [], alts := [], laidByText := true, laidKinds := [.data, .data, .data, .sentinel, .sentinel], laidTests := true, laidLooks := .later }
def ExprParsesUptoCardSaid : Prop := Claim7.holds Tryz.pinned (.plain (OpenSpec.upto exprParsesSpec)) exprParsesUptoCard

/-- THE SECOND FORM's CARD OF 'chordmaillaw05.ExprReads'. -/
def exprReadsUptoCard : Claim7 := { stood := { row := exprReadsUptoRow, standIns := [], harness := (true, "f79ad9558bceba049df6f76b45604f302acd9aa4817135c892a8e648197ddfca"), looks := true }, kinds := [], alts := [], laidByText := true, laidKinds := [.data, .data, .data, .sentinel, .sentinel], laidTests := true, laidLooks := .later }
def ExprReadsUptoCardSaid : Prop := Claim7.holds Tryz.pinned (.plain (OpenSpec.upto exprReadsSpec)) exprReadsUptoCard

/-- THE SECOND FORM's CARD OF 'chordmaillaw08.DeclChords'. -/
def declChordsUptoCard : Claim7 := { stood := { row := declChordsUptoRow, standIns := [], harness := (true, "f79ad9558bceba049df6f76b45604f302acd9aa4817135c892a8e648197ddfca"), looks := true }, kinds := [], alts := [], laidByText := true, laidKinds := [.data, .data, .data, .sentinel, .sentinel], laidTests := true, laidLooks := .later }
def DeclChordsUptoCardSaid : Prop := Claim7.holds Tryz.pinned (.plain (OpenSpec.upto declChordsSpec)) declChordsUptoCard

/-- THE SECOND FORM's CARD OF 'chordmaillaw08.DeclReads'. -/
def declReadsUptoCard : Claim7 := { stood := { row := declReadsUptoRow, standIns := [], harness := (true, "f79ad9558bceba049df6f76b45604f302acd9aa4817135c892a8e648197ddfca"), looks := true }, kinds := [], alts := [], laidByText := true, laidKinds := [.data, .data, .data, .sentinel, .sentinel], laidTests := true, laidLooks := .later }
def DeclReadsUptoCardSaid : Prop := Claim7.holds Tryz.pinned (.plain (OpenSpec.upto declReadsSpec)) declReadsUptoCard

/-- THE SECOND FORM's CARD OF 'chordmaillaw08.DeclJoins'. -/
def declJoinsUptoCard : Claim7 := { stood := { row := declJoinsUptoRow, standIns := [], harness := (true, "f79ad9558bceba049df6f76b45604f302acd9aa4817135c892a8e648197ddfca"), looks := true }, kinds := [], alts := [], laidByText := true, laidKinds := [.data, .data, .data, .sentinel, .sentinel], laidTests := true, laidLooks := .later }
def DeclJoinsUptoCardSaid : Prop := Claim7.holds Tryz.pinned (.plain (OpenSpec.upto declJoinsSpec)) declJoinsUptoCard

/-- THE SECOND FORM's CARD OF 'chordmaillaw08.DeclBlanks'. -/
def declBlanksUptoCard : Claim7 := { stood := { row := declBlanksUptoRow, standIns := [], harness := (true, "f79ad9558bceba049df6f76b45604f302acd9aa4817135c892a8e648197ddfca"), looks := true }, kinds := [], alts := [], laidByText := true, laidKinds := [.data, .data, .data, .sentinel, .sentinel], laidTests := true, laidLooks := .later }
def DeclBlanksUptoCardSaid : Prop := Claim7.holds Tryz.pinned (.plain (OpenSpec.upto declBlanksSpec)) declBlanksUptoCard

/-- THE SECOND FORM's CARD OF 'chordmaillaw08.DeclOwn'. -/
def declOwnUptoCard : Claim7 := { stood := { row := declOwnUptoRow, standIns := [], harness := (true, "f79ad9558bceba049df6f76b45604f302acd9aa4817135c892a8e648197ddfca"), looks := true }, kinds := [], alts := [], laidByText := true, laidKinds := [.data, .data, .data, .sentinel, .sentinel], laidTests := true, laidLooks := .later }
def DeclOwnUptoCardSaid : Prop := Claim7.holds Tryz.pinned (.plain (OpenSpec.upto declOwnSpec)) declOwnUptoCard

/-- THE SECOND FORM's CARD OF 'chordmaillaw10.PrintOne'. -/
def printOneUptoCard : Claim7 := { stood := { row := printOneUptoRow, standIns := [], harness := (true, "f79ad9558bceba049df6f76b45604f302acd9aa4817135c892a8e648197ddfca"), looks := true }, kinds := [], alts := [], laidByText := true, laidKinds := [.data, .data, .data, .sentinel, .sentinel], laidTests := true, laidLooks := .later }
def PrintOneUptoCardSaid : Prop := Claim7.holds Tryz.pinned (.plain (OpenSpec.upto printOneSpec)) printOneUptoCard
end Rows
end Go.Proofs.YtlobiioioicmhaaGreatDoor
