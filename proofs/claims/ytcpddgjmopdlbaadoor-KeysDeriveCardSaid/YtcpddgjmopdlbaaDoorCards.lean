/-
  DERIVED. GIVEN WITH THE SEED: THE CARDS: each row of YtcpddgjmopdlbaaDoorRows.lean that lists a variable, with what it lists TIED to the program's text (the seventh form; the later family's looks); each row that meets fmt, with fmt's text TOLD by the authors' own Lean function (tested against real Go, not proved from fmt's source: count such statements apart). THE CARD IS WHAT COUNTS. Prove the row's statement (the work); the ties are given (YtcpddgjmopdlbaaDoorTie.lean); close each card by the builder's one call (the guide's Derived/Test/ToyasCard.lean, 'card_holds'). Laid BY PROGRAM, IN A SANDBOX (cutbox-door.mjs). By AI agents, Wed Nov 11 2026. No macro, syntax, notation, axiom, sorry.
-/
import Derived.Test.YtcpddgjmopdlbaaDoorRows
import GoSem.ClaimSeven
namespace Go.Proofs.YtcpddgjmopdlbaaDoor
namespace Rows

/-- THE TIED CARD OF 'intagliolaw07.KeysDerive'. -/
def keysDeriveCard : Claim7 := { stood := { row := keysDeriveRow, standIns := [], harness := (true, "edcdd7d0f11bf663464e3a5ffb084dc1f4ccf7268340600c148a20d795cb5080"), looks := false }, kinds := [], alts := [], laidByText := true, laidKinds := [.data, .data], laidTests := true, laidLooks := .later }
def KeysDeriveCardSaid : Prop := Claim7.holds Tryd.pinned (.plain (OpenSpec.ofChange keysDeriveSpec)) keysDeriveCard

/-- THE SECOND FORM's CARD OF 'intagliolaw07.KeysDerive'. -/
def keysDeriveUptoCard : Claim7 := { stood := { row := keysDeriveUptoRow, standIns := [], harness := (true, "edcdd7d0f11bf663464e3a5ffb084dc1f4ccf7268340600c148a20d795cb5080"), looks := false }, kinds := [], alts := [], laidByText := true, laidKinds := [.data, .data], laidTests := true, laidLooks := .later }
def KeysDeriveUptoCardSaid : Prop := Claim7.holds Tryd.pinned (.plain (OpenSpec.upto keysDeriveSpec)) keysDeriveUptoCard
end Rows
end Go.Proofs.YtcpddgjmopdlbaaDoor
