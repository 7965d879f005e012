/-
  DERIVED. GIVEN WITH THE SEED: THE CARDS: each row of YtjkedbgoepbbcaaDoorRows.lean that lists a variable, with what it lists TIED to the program's text (the seventh form; the later family's looks); each row that meets fmt, with fmt's text TOLD by the authors' own Lean function (tested against real Go, not proved from fmt's source: count such statements apart). THE CARD IS WHAT COUNTS. Prove the row's statement (the work); the ties are given (YtjkedbgoepbbcaaDoorTie.lean); close each card by the builder's one call (the guide's Derived/Test/ToyasCard.lean, 'card_holds'). Laid BY PROGRAM, IN A SANDBOX (cutbox-door.mjs). By AI agents, Wed Nov 11 2026. No macro, syntax, notation, axiom, sorry.
-/
import Derived.Test.YtjkedbgoepbbcaaDoorRows
import GoSem.ClaimSeven
namespace Go.Proofs.YtjkedbgoepbbcaaDoor
namespace Rows

/-- THE TIED CARD OF 'intagliolaw06.MacHmac'. -/
def macHmacCard : Claim7 := { stood := { row := macHmacRow, standIns := [], harness := (true, "82f21629fb6f40a3715fbff2342f99b7a973f9c53f8345cdf58dd8264e7c9d90"), looks := false }, kinds := [], alts := [], laidByText := true, laidKinds := [.data, .data], laidTests := true, laidLooks := .later }
def MacHmacCardSaid : Prop := Claim7.holds Tryd.pinned (.plain (OpenSpec.ofChange macHmacSpec)) macHmacCard

/-- THE TIED CARD OF 'intagliolaw06.MacKeys'. -/
def macKeysCard : Claim7 := { stood := { row := macKeysRow, standIns := [], harness := (true, "82f21629fb6f40a3715fbff2342f99b7a973f9c53f8345cdf58dd8264e7c9d90"), looks := false }, kinds := [], alts := [], laidByText := true, laidKinds := [.data, .data], laidTests := true, laidLooks := .later }
def MacKeysCardSaid : Prop := Claim7.holds Tryd.pinned (.plain (OpenSpec.ofChange macKeysSpec)) macKeysCard

/-- THE TIED CARD OF 'intagliolaw06.MacExpand'. -/
def macExpandCard : Claim7 := { stood := { row := macExpandRow, standIns := [], harness := (true, "82f21629fb6f40a3715fbff2342f99b7a973f9c53f8345cdf58dd8264e7c9d90"), looks := false }, kinds := [], alts := [], laidByText := true, laidKinds := [.data, .data], laidTests := true, laidLooks := .later }
def MacExpandCardSaid : Prop := Claim7.holds Tryd.pinned (.plain (OpenSpec.ofChange macExpandSpec)) macExpandCard

/-- THE TIED CARD OF 'intagliolaw06.MacFirst'. -/
def macFirstCard : Claim7 := { stood := { row := macFirstRow, standIns := [], harness := (true, "82f21629fb6f40a3715fbff2342f99b7a973f9c53f8345cdf58dd8264e7c9d90"), looks := false }, kinds := [], alts := [], laidByText := true, laidKinds := [.data, .data], laidTests := true, laidLooks := .later }
def MacFirstCardSaid : Prop := Claim7.holds Tryd.pinned (.plain (OpenSpec.ofChange macFirstSpec)) macFirstCard

/-- THE TIED CARD OF 'intagliolaw06.MacExtract'. -/
def macExtractCard : Claim7 := { stood := { row := macExtractRow, standIns := [], harness := (true, "82f21629fb6f40a3715fbff2342f99b7a973f9c53f8345cdf58dd8264e7c9d90"), looks := false }, kinds := [], alts := [], laidByText := true, laidKinds := [.data, .data], laidTests := true, laidLooks := .later }
def MacExtractCardSaid : Prop := Claim7.holds Tryd.pinned (.plain (OpenSpec.ofChange macExtractSpec)) macExtractCard

/-- THE SECOND FORM's CARD OF 'intagliolaw06.MacHmac'. -/
def macHmacUptoCard : Claim7 := { stood := { row := macHmacUptoRow, standIns := [], harness := (true, "82f21629fb6f40a3715fbff2342f99b7a973f9c53f8345cdf58dd8264e7c9d90"), looks := false }, kinds := [], alts := [], laidByText := true, laidKinds := [.data, .data], laidTests := true, laidLooks := .later }
def MacHmacUptoCardSaid : Prop := Claim7.holds Tryd.pinned (.plain (OpenSpec.upto macHmacSpec)) macHmacUptoCard

/-- THE SECOND FORM's CARD OF 'intagliolaw06.MacKeys'. -/
def macKeysUptoCard : Claim7 := { stood := { row := macKeysUptoRow, standIns := [], harness := (true, "82f21629fb6f40a3715fbff2342f99b7a973f9c53f8345cdf58dd8264e7c9d90"), looks := false }, kinds := [], alts := [], laidByText := true, laidKinds := [.data, .data], laidTests := true, laidLooks := .later }
def MacKeysUptoCardSaid : Prop := Claim7.holds Tryd.pinned (.plain (OpenSpec.upto macKeysSpec)) macKeysUptoCard

/-- THE SECOND FORM's CARD OF 'intagliolaw06.MacExpand'. -/
def macExpandUptoCard : Claim7 := { stood := { row := macExpandUptoRow, standIns := [], harness := (true, "82f21629fb6f40a3715fbff2342f99b7a973f9c53f8345cdf58dd8264e7c9d90"), looks := false }, kinds := [], alts := [], laidByText := true, laidKinds := [.data, .data], laidTests := true, laidLooks := .later }
def MacExpandUptoCardSaid : Prop := Claim7.holds Tryd.pinned (.plain (OpenSpec.upto macExpandSpec)) macExpandUptoCard

/-- THE SECOND FORM's CARD OF 'intagliolaw06.MacFirst'. -/
def macFirstUptoCard : Claim7 := { stood := { row := macFirstUptoRow, standIns := [], harness := (true, "82f21629fb6f40a3715fbff2342f99b7a973f9c53f8345cdf58dd8264e7c9d90"), looks := false }, kinds := [], alts := [], laidByText := true, laidKinds := [.data, .data], laidTests := true, laidLooks := .later }
def MacFirstUptoCardSaid : Prop := Claim7.holds Tryd.pinned (.plain (OpenSpec.upto macFirstSpec)) macFirstUptoCard

/-- THE SECOND FORM's CARD OF 'intagliolaw06.MacExtract'. -/
def macExtractUptoCard : Claim7 := { stood := { row := macExtractUptoRow, standIns := [], harness := (true, "82f21629fb6f40a3715fbff2342f99b7a973f9c53f8345cdf58dd8264e7c9d90"), looks := false }, kinds := [], alts := [], laidByText := true, laidKinds := [.data, .data], laidTests := true, laidLooks := .later }
def MacExtractUptoCardSaid : Prop := Claim7.holds Tryd.pinned (.plain (OpenSpec.upto macExtractSpec)) macExtractUptoCard
end Rows
end Go.Proofs.YtjkedbgoepbbcaaDoor
