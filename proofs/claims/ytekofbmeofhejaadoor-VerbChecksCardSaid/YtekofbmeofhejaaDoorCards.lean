/-
  DERIVED. GIVEN WITH THE SEED: THE CARDS: each row of YtekofbmeofhejaaDoorRows.lean that lists a variable, with what it lists TIED to the program's text (the seventh form; the later family's looks); each row that meets fmt, with fmt's text TOLD by the authors' own Lean function (tested against real Go, not proved from fmt's source: count such statements apart). THE CARD IS WHAT COUNTS. Prove the row's statement (the work); the ties are given (YtekofbmeofhejaaDoorTie.lean); close each card by the builder's one call (the guide's Derived/Test/ToyasCard.lean, 'card_holds'). Laid BY PROGRAM, IN A SANDBOX (cutbox-door.mjs). By AI agents, Wed Nov 11 2026. No macro, syntax, notation, axiom, sorry.
-/
import Derived.Test.YtekofbmeofhejaaDoorRows
import GoSem.ClaimSeven
namespace Go.Proofs.YtekofbmeofhejaaDoor
namespace Rows

/-- THE TIED CARD OF 'intagliolaw17.VerbSpecs'. -/
def verbSpecsCard : Claim7 := { stood := { row := verbSpecsRow, standIns := [], harness := (true, "f67f1b399289b347be34aa26e788be2676b03222b7d96af04253b83d754b0ed6"), looks := true }, kinds := [], alts := [], laidByText := true, laidKinds := [.data, .data, .data, .sentinel, .sentinel, .data, .data, .data], laidTests := true, laidLooks := .later }
def VerbSpecsCardSaid : Prop := Claim7.holds Tryd.pinned (.plain (OpenSpec.ofChange verbSpecsSpec)) verbSpecsCard

/-- THE TIED CARD OF 'intagliolaw17.VerbInts'. -/
def verbIntsCard : Claim7 := { stood := { row := verbIntsRow, standIns := [], harness := (true, "f67f1b399289b347be34aa26e788be2676b03222b7d96af04253b83d754b0ed6"), looks := true }, kinds := [], alts := [], laidByText := true, laidKinds := [.data, .data, .data, .sentinel, .sentinel, .data, .data, .data], laidTests := true, laidLooks := .later }
def VerbIntsCardSaid : Prop := Claim7.holds Tryd.pinned (.plain (OpenSpec.ofChange verbIntsSpec)) verbIntsCard

/-- THE TIED CARD OF 'intagliolaw17.VerbNumbers'. -/
def verbNumbersCard : Claim7 := { stood := { row := verbNumbersRow, standIns := [], harness := (true, "f67f1b399289b347be34aa26e788be2676b03222b7d96af04253b83d754b0ed6"), looks := true }, kinds := [], alts := [], laidByText := true, laidKinds := [.data, .data, .data, .sentinel, .sentinel, .data, .data, .data], laidTests := true, laidLooks := .later }
def VerbNumbersCardSaid : Prop := Claim7.holds Tryd.pinned (.plain (OpenSpec.ofChange verbNumbersSpec)) verbNumbersCard

/-- THE TIED CARD OF 'intagliolaw17.VerbMatches'. -/
def verbMatchesCard : Claim7 := { stood := { row := verbMatchesRow, standIns := [], harness := (true, "f67f1b399289b347be34aa26e788be2676b03222b7d96af04253b83d754b0ed6"), looks := true }, kinds := [], alts := [], laidByText := true, laidKinds := [.data, .data, .data, .sentinel, .sentinel, .data, .data, .data], laidTests := true, laidLooks := .later }
def VerbMatchesCardSaid : Prop := Claim7.holds Tryd.pinned (.plain (OpenSpec.ofChange verbMatchesSpec)) verbMatchesCard

/-- THE TIED CARD OF 'intagliolaw17.VerbPlain'. -/
def verbPlainCard : Claim7 := { stood := { row := verbPlainRow, standIns := [], harness := (true, "f67f1b399289b347be34aa26e788be2676b03222b7d96af04253b83d754b0ed6"), looks := true }, kinds := [], alts := [], laidByText := true, laidKinds := [.data, .data, .data, .sentinel, .sentinel, .data, .data, .data], laidTests := true, laidLooks := .later }
def VerbPlainCardSaid : Prop := Claim7.holds Tryd.pinned (.plain (OpenSpec.ofChange verbPlainSpec)) verbPlainCard

/-- THE TIED CARD OF 'intagliolaw17.VerbChecks'. -/
def verbChecksCard : Claim7 := { stood := { row := verbChecksRow, standIns := [], harness := (true, "f67f1b399289b347be34aa26e788be2676b03222b7d96af04253b83d754b0ed6"), looks := true }, kinds := [], alts := [], laidByText := true, laidKinds := [.data, .data, .data, .sentinel, .sentinel, .data, .data, .data], laidTests := true, laidLooks := .later }
def VerbChecksCardSaid : Prop := Claim7.holds Tryd.pinned (.plain (OpenSpec.ofChange verbChecksSpec)) verbChecksCard

/-- THE SECOND FORM's CARD OF 'intagliolaw17.VerbSpecs'. -/
def verbSpecsUptoCard : Claim7 := { stood := { row := verbSpecsUptoRow, standIns := [], harness := (true, "f67f1b399289b347be34aa26e788be2676b03222b7d96af04253b83d754b0ed6"), looks := true }, kinds := [], alts := [], laidByText := true, laidKinds := [.data, .data, .data, .sentinel, .sentinel, .data, .data, .data], laidTests := true, laidLooks := .later }
def VerbSpecsUptoCardSaid : Prop := Claim7.holds Tryd.pinned (.plain (OpenSpec.upto verbSpecsSpec)) verbSpecsUptoCard

/-- THE SECOND FORM's CARD OF 'intagliolaw17.VerbInts'. -/
def verbIntsUptoCard : Claim7 := { stood := { row := verbIntsUptoRow, standIns := [], harness := (true, "f67f1b399289b347be34aa26e788be2676b03222b7d96af04253b83d754b0ed6"), looks := true }, kinds := [], alts := [], laidByText := true, laidKinds := [.data, .data, .data, .sentinel, .sentinel, .data, .data, .data], laidTests := true, laidLooks := .later }
def VerbIntsUptoCardSaid : Prop := Claim7.holds Tryd.pinned (.plain (OpenSpec.upto verbIntsSpec)) verbIntsUptoCard

/-- THE SECOND FORM's CARD OF 'intagliolaw17.VerbNumbers'. -/
def verbNumbersUptoCard : Claim7 := { stood := { row := verbNumbersUptoRow, standIns := [], harness := (true, "f67f1b399289b347be34aa26e788be2676b03222b7d96af04253b83d754b0ed6"), looks := true }, kinds := [], alts := [], laidByText := true, laidKinds := [.data, .data, .data, .sentinel, .sentinel, .data, .data, .data], laidTests := true, laidLooks := .later }
def VerbNumbersUptoCardSaid : Prop := Claim7.holds Tryd.pinned (.plain (OpenSpec.upto verbNumbersSpec)) verbNumbersUptoCard

/-- THE SECOND FORM's CARD OF 'intagliolaw17.VerbMatches'. -/
def verbMatchesUptoCard : Claim7 := { stood := { row := verbMatchesUptoRow, standIns := [], harness := (true, "f67f1b399289b347be34aa26e788be2676b03222b7d96af04253b83d754b0ed6"), looks := true }, kinds := [], alts := [], laidByText := true, laidKinds := [.data, .data, .data, .sentinel, .sentinel, .data, .data, .data], laidTests := true, laidLooks := .later }
def VerbMatchesUptoCardSaid : Prop := Claim7.holds Tryd.pinned (.plain (OpenSpec.upto verbMatchesSpec)) verbMatchesUptoCard

/-- THE SECOND FORM's CARD OF 'intagliolaw17.VerbPlain'. -/
def verbPlainUptoCard : Claim7 := { stood := { row := verbPlainUptoRow, standIns := [], harness := (true, "f67f1b399289b347be34aa26e788be2676b03222b7d96af04253b83d754b0ed6"), looks := true }, kinds := [], alts := [], laidByText := true, laidKinds := [.data, .data, .data, .sentinel, .sentinel, .data, .data, .data], laidTests := true, laidLooks := .later }
def VerbPlainUptoCardSaid : Prop := Claim7.holds Tryd.pinned (.plain (OpenSpec.upto verbPlainSpec)) verbPlainUptoCard

/-- THE SECOND FORM's CARD OF 'intagliolaw17.VerbChecks'. -/
def verbChecksUptoCard : Claim7 := { stood := { row := verbChecksUptoRow, standIns := [], harness := (true, "f67f1b399289b347be34aa26e788be2676b03222b7d96af04253b83d754b0ed6"), looks := true }, kinds := [], alts := [], laidByText := true, laidKinds := [.data, .data, .data, .sentinel, .sentinel, .data, .data, .data], laidTests := true, laidLooks := .later }
def VerbChecksUptoCardSaid : Prop := Claim7.holds Tryd.pinned (.plain (OpenSpec.upto verbChecksSpec)) verbChecksUptoCard
end Rows
end Go.Proofs.YtekofbmeofhejaaDoor
