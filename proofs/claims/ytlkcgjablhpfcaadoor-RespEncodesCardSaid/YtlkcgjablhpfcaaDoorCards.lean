/-
  DERIVED. GIVEN WITH THE SEED: THE CARDS: each row of YtlkcgjablhpfcaaDoorRows.lean that lists a variable, with what it lists TIED to the program's text (the seventh form; the later family's looks); each row that meets fmt, with fmt's text TOLD by the authors' own Lean function (tested against real Go, not proved from fmt's source: count such statements apart). THE CARD IS WHAT COUNTS. Prove the row's statement (the work); the ties are given (YtlkcgjablhpfcaaDoorTie.lean); close each card by the builder's one call (the guide's Derived/Test/ToyasCard.lean, 'card_holds'). Laid BY PROGRAM, IN A SANDBOX (cutbox-door.mjs). By AI agents, Wed Nov 11 2026. No macro, syntax, notation, axiom, sorry.
-/
import Derived.Test.YtlkcgjablhpfcaaDoorRows
import GoSem.ClaimSeven
namespace Go.Proofs.YtlkcgjablhpfcaaDoor
namespace Rows

/-- THE TIED CARD OF 'intagliolaw19.RespCommands'. -/
def respCommandsCard : Claim7 := { stood := { row := respCommandsRow, standIns := [], harness := (true, "b664dd1525fbf5f3697acb6fbe5d0127680647e0ec5382ccdd70b48142c13e85"), looks := true }, kinds := [], alts := [], laidByText := true, laidKinds := [.data, .data, .data, .sentinel, .sentinel], laidTests := true, laidLooks := .later }
def RespCommandsCardSaid : Prop := Claim7.holds Tryd.pinned (.plain (OpenSpec.ofChange respCommandsSpec)) respCommandsCard

/-- THE TIED CARD OF 'intagliolaw19.RespParses'. -/
def respParsesCard : Claim7 := { stood := { row := respParsesRow, standIns := [], harness := (true, "b664dd1525fbf5f3697acb6fbe5d0127680647e0ec5382ccdd70b48142c13e85"), looks := true }, kinds := [], alts := [], laidByText := true, laidKinds := [.data, .data, .data, .sentinel, .sentinel], laidTests := true, laidLooks := .later }
def RespParsesCardSaid : Prop := Claim7.holds Tryd.pinned (.plain (OpenSpec.ofChange respParsesSpec)) respParsesCard

/-- THE TIED CARD OF 'intagliolaw19.RespPieces'. -/
def respPiecesCard : Claim7 := { stood := { row := respPiecesRow, standIns := [], harness := (true, "b664dd1525fbf5f3697acb6fbe5d0127680647e0ec5382ccdd70b48142c13e85"), looks := true }, kinds := [], alts := [], laidByText := true, laidKinds := [.data, .data, .data, .sentinel, .sentinel], laidTests := true, laidLooks := .later }
def RespPiecesCardSaid : Prop := Claim7.holds Tryd.pinned (.plain (OpenSpec.ofChange respPiecesSpec)) respPiecesCard

/-- THE TIED CARD OF 'intagliolaw19.RespNobody'. -/
def respNobodyCard : Claim7 := { stood := { row := respNobodyRow, standIns := [], harness := (true, "b664dd1525fbf5f3697acb6fbe5d0127680647e0ec5382ccdd70b48142c13e85"), looks := true }, kinds := [], alts := [], laidByText := true, laidKinds := [.data, .data, .data, .sentinel, .sentinel], laidTests := true, laidLooks := .later }
def RespNobodyCardSaid : Prop := Claim7.holds Tryd.pinned (.plain (OpenSpec.ofChange respNobodySpec)) respNobodyCard

/-- THE TIED CARD OF 'intagliolaw19.RespEncodes'. -/
def respEncodesCard : Claim7 := { stood := { row := respEncodesRow, standIns := [], harness := (true, "b664dd1525fbf5f3697acb6fbe5d0127680647e0ec5382ccdd70b48142c13e85"), looks := true }, kinds := [], alts := [], laidByText := true, laidKinds := [.data, .data, .data, .sentinel, .sentinel], laidTests := true, laidLooks := .later }
def RespEncodesCardSaid : Prop := Claim7.holds Tryd.pinned (.plain (OpenSpec.ofChange respEncodesSpec)) respEncodesCard

/-- THE TIED CARD OF 'intagliolaw19.RespReplies'. -/
def respRepliesCard : Claim7 := { stood := { row := respRepliesRow, standIns := [], harness := (true, "b664dd1525fbf5f3697acb6fbe5d0127680647e0ec5382ccdd70b48142c13e85"), looks := true }, kinds := [], alts := [], laidByText := true, laidKinds := [.data, .data, .data, .sentinel, .sentinel], laidTests := true, laidLooks := .later }
def RespRepliesCardSaid : Prop := Claim7.holds Tryd.pinned (.plain (OpenSpec.ofChange respRepliesSpec)) respRepliesCard

/-- THE SECOND FORM's CARD OF 'intagliolaw19.RespCommands'. -/
def respCommandsUptoCard : Claim7 := { stood := { row := respCommandsUptoRow, standIns := [], harness := (true, "b664dd1525fbf5f3697acb6fbe5d0127680647e0ec5382ccdd70b48142c13e85"), looks := true }, kinds := [], alts := [], laidByText := true, laidKinds := [.data, .data, .data, .sentinel, .sentinel], laidTests := true, laidLooks := .later }
def RespCommandsUptoCardSaid : Prop := Claim7.holds Tryd.pinned (.plain (OpenSpec.upto respCommandsSpec)) respCommandsUptoCard

/-- THE SECOND FORM's CARD OF 'intagliolaw19.RespParses'. -/
def respParsesUptoCard : Claim7 := { stood := { row := respParsesUptoRow, standIns := [], harness := (true, "b664dd1525fbf5f3697acb6fbe5d0127680647e0ec5382ccdd70b48142c13e85"), looks := true }, kinds := [], alts := [], laidByText := true, laidKinds := [.data, .data, .data, .sentinel, .sentinel], laidTests := true, laidLooks := .later }
def RespParsesUptoCardSaid : Prop := Claim7.holds Tryd.pinned (.plain (OpenSpec.upto respParsesSpec)) respParsesUptoCard

/-- THE SECOND FORM's CARD OF 'intagliolaw19.RespPieces'. -/
def respPiecesUptoCard : Claim7 := { stood := { row := respPiecesUptoRow, standIns := [], harness := (true, "b664dd1525fbf5f3697acb6fbe5d0127680647e0ec5382ccdd70b48142c13e85"), looks := true }, kinds := [], alts := [], laidByText := true, laidKinds := [.data, .data, .data, .sentinel, .sentinel], laidTests := true, laidLooks := .later }
def RespPiecesUptoCardSaid : Prop := Claim7.holds Tryd.pinned (.plain (OpenSpec.upto respPiecesSpec)) respPiecesUptoCard

/-- THE SECOND FORM's CARD OF 'intagliolaw19.RespNobody'. -/
def respNobodyUptoCard : Claim7 := { stood := { row := respNobodyUptoRow, standIns := [], harness := (true, "b664dd1525fbf5f3697acb6fbe5d0127680647e0ec5382ccdd70b48142c13e85"), looks := true }, kinds := [], alts := [], laidByText := true, laidKinds := [.data, .data, .data, .sentinel, .sentinel], laidTests := true, laidLooks := .later }
def RespNobodyUptoCardSaid : Prop := Claim7.holds Tryd.pinned (.plain (OpenSpec.upto respNobodySpec)) respNobodyUptoCard

/-- THE SECOND FORM's CARD OF 'intagliolaw19.RespEncodes'. -/
def respEncodesUptoCard : Claim7 := { stood := { row := respEncodesUptoRow, standIns := [], harness := (true, "b664dd1525fbf5f3697acb6fbe5d0127680647e0ec5382ccdd70b48142c13e85"), looks := true }, kinds := [], alts := [], laidByText := true, laidKinds := [.data, .data, .data, .sentinel, .sentinel], laidTests := true, laidLooks := .later }
def RespEncodesUptoCardSaid : Prop := Claim7.holds Tryd.pinned (.plain (OpenSpec.upto respEncodesSpec)) respEncodesUptoCard

/-- THE SECOND FORM's CARD OF 'intagliolaw19.RespReplies'. -/
def respRepliesUptoCard : Claim7 := { stood := { row := respRepliesUptoRow, standIns := [], harness := (true, "b664dd1525fbf5f3697acb6fbe5d0127680647e0ec5382ccdd70b48142c13e85"), looks := true }, kinds := [], alts := [], laidByText := true, laidKinds := [.data, .data, .data, .sentinel, .sentinel], laidTests := true, laidLooks := .later }
def RespRepliesUptoCardSaid : Prop := Claim7.holds Tryd.pinned (.plain (OpenSpec.upto respRepliesSpec)) respRepliesUptoCard
end Rows
end Go.Proofs.YtlkcgjablhpfcaaDoor
