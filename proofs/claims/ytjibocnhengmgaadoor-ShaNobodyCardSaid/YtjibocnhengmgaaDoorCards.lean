/-
  DERIVED. GIVEN WITH THE SEED: THE CARDS: each row of YtjibocnhengmgaaDoorRows.lean that lists a variable, with what it lists TIED to the program's text (the seventh form; the later family's looks); each row that meets fmt, with fmt's text TOLD by the authors' own Lean function (tested against real Go, not proved from fmt's source: count such statements apart). THE CARD IS WHAT COUNTS. Prove the row's statement (the work); the ties are given (YtjibocnhengmgaaDoorTie.lean); close each card by the builder's one call (the guide's Derived/Test/ToyasCard.lean, 'card_holds'). Laid BY PROGRAM, IN A SANDBOX (cutbox-door.mjs). By AI agents, Wed Nov 11 2026. No macro, syntax, notation, axiom, sorry.
-/
import Derived.Test.YtjibocnhengmgaaDoorRows
import GoSem.ClaimSeven
namespace Go.Proofs.YtjibocnhengmgaaDoor
namespace Rows

/-- THE TIED CARD OF 'intagliolaw05.ShaPads'. -/
def shaPadsCard : Claim7 := { stood := { row := shaPadsRow, standIns := [], harness := (true, "ebab80abdfbb020aaa3b038a512731078f178629b589563f99c13bca4a9c9b6a"), looks := false }, kinds := [], alts := [], laidByText := true, laidKinds := [.data, .data], laidTests := true, laidLooks := .later }
def ShaPadsCardSaid : Prop := Claim7.holds Tryd.pinned (.plain (OpenSpec.ofChange shaPadsSpec)) shaPadsCard

/-- THE TIED CARD OF 'intagliolaw05.ShaHashes'. -/
def shaHashesCard : Claim7 := { stood := { row := shaHashesRow, standIns := [], harness := (true, "ebab80abdfbb020aaa3b038a512731078f178629b589563f99c13bca4a9c9b6a"), looks := false }, kinds := [], alts := [], laidByText := true, laidKinds := [.data, .data], laidTests := true, laidLooks := .later }
def ShaHashesCardSaid : Prop := Claim7.holds Tryd.pinned (.plain (OpenSpec.ofChange shaHashesSpec)) shaHashesCard

/-- THE TIED CARD OF 'intagliolaw05.ShaPieces'. -/
def shaPiecesCard : Claim7 := { stood := { row := shaPiecesRow, standIns := [], harness := (true, "ebab80abdfbb020aaa3b038a512731078f178629b589563f99c13bca4a9c9b6a"), looks := false }, kinds := [], alts := [], laidByText := true, laidKinds := [.data, .data], laidTests := true, laidLooks := .later }
def ShaPiecesCardSaid : Prop := Claim7.holds Tryd.pinned (.plain (OpenSpec.ofChange shaPiecesSpec)) shaPiecesCard

/-- THE TIED CARD OF 'intagliolaw05.ShaNobody'. -/
def shaNobodyCard : Claim7 := { stood := { row := shaNobodyRow, standIns := [], harness := (true, "ebab80abdfbb020aaa3b038a512731078f178629b589563f99c13bca4a9c9b6a"), looks := false }, kinds := [], alts := [], laidByText := true, laidKinds := [.data, .data], laidTests := true, laidLooks := .later }
def ShaNobodyCardSaid : Prop := Claim7.holds Tryd.pinned (.plain (OpenSpec.ofChange shaNobodySpec)) shaNobodyCard

/-- THE TIED CARD OF 'intagliolaw05.ShaSum'. -/
def shaSumCard : Claim7 := { stood := { row := shaSumRow, standIns := [], harness := (true, "ebab80abdfbb020aaa3b038a512731078f178629b589563f99c13bca4a9c9b6a"), looks := false }, kinds := [], alts := [], laidByText := true, laidKinds := [.data, .data], laidTests := true, laidLooks := .later }
def ShaSumCardSaid : Prop := Claim7.holds Tryd.pinned (.plain (OpenSpec.ofChange shaSumSpec)) shaSumCard

/-- THE SECOND FORM's CARD OF 'intagliolaw05.ShaPads'. -/
def shaPadsUptoCard : Claim7 := { stood := { row := shaPadsUptoRow, standIns := [], harness := (true, "ebab80abdfbb020aaa3b038a512731078f178629b589563f99c13bca4a9c9b6a"), looks := false }, kinds := [], alts := [], laidByText := true, laidKinds := [.data, .data], laidTests := true, laidLooks := .later }
def ShaPadsUptoCardSaid : Prop := Claim7.holds Tryd.pinned (.plain (OpenSpec.upto shaPadsSpec)) shaPadsUptoCard

/-- THE SECOND FORM's CARD OF 'intagliolaw05.ShaHashes'. -/
def shaHashesUptoCard : Claim7 := { stood := { row := shaHashesUptoRow, standIns := [], harness := (true, "ebab80abdfbb020aaa3b038a512731078f178629b589563f99c13bca4a9c9b6a"), looks := false }, kinds := [], alts := [], laidByText := true, laidKinds := [.data, .data], laidTests := true, laidLooks := .later }
def ShaHashesUptoCardSaid : Prop := Claim7.holds Tryd.pinned (.plain (OpenSpec.upto shaHashesSpec)) shaHashesUptoCard

/-- THE SECOND FORM's CARD OF 'intagliolaw05.ShaPieces'. -/
def shaPiecesUptoCard : Claim7 := { stood := { row := shaPiecesUptoRow, standIns := [], harness := (true, "ebab80abdfbb020aaa3b038a512731078f178629b589563f99c13bca4a9c9b6a"), looks := false }, kinds := [], alts := [], laidByText := true, laidKinds := [.data, .data], laidTests := true, laidLooks := .later }
def ShaPiecesUptoCardSaid : Prop := Claim7.holds Tryd.pinned (.plain (OpenSpec.upto shaPiecesSpec)) shaPiecesUptoCard

/-- THE SECOND FORM's CARD OF 'intagliolaw05.ShaNobody'. -/
def shaNobodyUptoCard : Claim7 := { stood := { row := shaNobodyUptoRow, standIns := [], harness := (true, "ebab80abdfbb020aaa3b038a512731078f178629b589563f99c13bca4a9c9b6a"), looks := false }, kinds := [], alts := [], laidByText := true, laidKinds := [.data, .data], laidTests := true, laidLooks := .later }
def ShaNobodyUptoCardSaid : Prop := Claim7.holds Tryd.pinned (.plain (OpenSpec.upto shaNobodySpec)) shaNobodyUptoCard

/-- THE SECOND FORM's CARD OF 'intagliolaw05.ShaSum'. -/
def shaSumUptoCard : Claim7 := { stood := { row := shaSumUptoRow, standIns := [], harness := (true, "ebab80abdfbb020aaa3b038a512731078f178629b589563f99c13bca4a9c9b6a"), looks := false }, kinds := [], alts := [], laidByText := true, laidKinds := [.data, .data], laidTests := true, laidLooks := .later }
def ShaSumUptoCardSaid : Prop := Claim7.holds Tryd.pinned (.plain (OpenSpec.upto shaSumSpec)) shaSumUptoCard
end Rows
end Go.Proofs.YtjibocnhengmgaaDoor
