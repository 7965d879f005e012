/-
  No cell of these rows narrows 'for every input' (looked for: loops, veiled, ifaces, maps, wideKeys, modest, calm, conditions, laid).
  DERIVED. THE GIVEN ROWS OF THIS SEAT. 6 by the template 'for every input the law returns true; each argument reads behind the call as it read before'; 0 by the template 'total and deterministic' (their statements: YtfhngejmfnahhaaTotals.lean).
  GIVEN WITH THE SEED: the statements are not yours to turn. If you find one false, say at which input.
  Laid BY PROGRAM, IN A SANDBOX (cutbox-rows.mjs): the forced cells as the released guide's own fill.sh prints them over the translation cfd658615d7c9ee3… (all of the seat's roots in one cut). By AI agents, Wed Nov 11 2026. No macro, syntax, notation, axiom, sorry.
-/
import Derived.Test.YtfhngejmfnahhaaChecked
import GoSem.Claim
import GoSem.ClaimJoined
import GoSem.ClaimMapViews
import Derived.JoinedTies
import Derived.KernelRfl
namespace Go.Proofs.Ytfhngejmfnahhaa
/- THE CELL 'sum', in the pinned program and in every row, IS THE sha256 OF THE DUMP (.gsa) THAT YtfhngejmfnahhaaProg.lean LOADS. Nothing in Lean hashes anything: it is a label: what it is worth is what the hold of that sum in a sandbox is worth. -/
noncomputable def Try.pinned : Pinned := { name := "ytfhngejmfnahhaa", sum := "cfd658615d7c9ee3b6b78a30b63fcb3ca80fe26ce0f1ace56f708e83cd2ebbf5", checked := Try.checked }
namespace Rows
def none {H : Type} : Left H := { results := [], args := [] }

/-- 'intagliolaw14.ZsetPlays': WHATEVER THE INPUT: true; the input reads as it did. -/
def zsetPlaysSpec : ChangeSpec := { name := "zsetPlays", fn := fun _ => fun
  | [d1, d2] => { results := [.lit (.bool true)], args := [d1, d2] }
  | _ => none }
def zsetPlaysRow : OpenClaim := { program := "ytfhngejmfnahhaa", sum := "cfd658615d7c9ee3b6b78a30b63fcb3ca80fe26ce0f1ace56f708e83cd2ebbf5", func := "intaglio/intagliolaw14.ZsetPlays", spec := "zsetPlays", apart := false }
def ZsetPlaysSaid : Prop := zsetPlaysRow.holds Try.pinned (OpenSpec.ofChange zsetPlaysSpec)

/-- ITS FALSE NEIGHBOUR: 'it returns false'. Refute it at one input. -/
def zsetPlaysWrong : ChangeSpec := { name := "zsetPlays", fn := fun _ => fun
  | [d1, d2] => { results := [.lit (.bool false)], args := [d1, d2] }
  | _ => none }
def ZsetPlaysWrongFalsely : Prop := zsetPlaysRow.holds Try.pinned (OpenSpec.ofChange zsetPlaysWrong)

/-- 'intagliolaw14.ZsetPlaces': WHATEVER THE INPUT: true; the input reads as it did. -/
def zsetPlacesSpec : ChangeSpec := { name := "zsetPlaces", fn := fun _ => fun
  | [d1, d2, d3] => { results := [.lit (.bool true)], args := [d1, d2, d3] }
  | _ => none }
def zsetPlacesRow : OpenClaim := { program := "ytfhngejmfnahhaa", sum := "cfd658615d7c9ee3b6b78a30b63fcb3ca80fe26ce0f1ace56f708e83cd2ebbf5", func := "intaglio/intagliolaw14.ZsetPlaces", spec := "zsetPlaces", apart := false }
def ZsetPlacesSaid : Prop := zsetPlacesRow.holds Try.pinned (OpenSpec.ofChange zsetPlacesSpec)

/-- ITS FALSE NEIGHBOUR: 'it returns false'. Refute it at one input. -/
def zsetPlacesWrong : ChangeSpec := { name := "zsetPlaces", fn := fun _ => fun
  | [d1, d2, d3] => { results := [.lit (.bool false)], args := [d1, d2, d3] }
  | _ => none }
def ZsetPlacesWrongFalsely : Prop := zsetPlacesRow.holds Try.pinned (OpenSpec.ofChange zsetPlacesWrong)

/-- 'intagliolaw14.ZsetInverse': WHATEVER THE INPUT: true; the input reads as it did. -/
def zsetInverseSpec : ChangeSpec := { name := "zsetInverse", fn := fun _ => fun
  | [d] => { results := [.lit (.bool true)], args := [d] }
  | _ => none }
def zsetInverseRow : OpenClaim := { program := "ytfhngejmfnahhaa", sum := "cfd658615d7c9ee3b6b78a30b63fcb3ca80fe26ce0f1ace56f708e83cd2ebbf5", func := "intaglio/intagliolaw14.ZsetInverse", spec := "zsetInverse", apart := false }
def ZsetInverseSaid : Prop := zsetInverseRow.holds Try.pinned (OpenSpec.ofChange zsetInverseSpec)

/-- ITS FALSE NEIGHBOUR: 'it returns false'. Refute it at one input. -/
def zsetInverseWrong : ChangeSpec := { name := "zsetInverse", fn := fun _ => fun
  | [d] => { results := [.lit (.bool false)], args := [d] }
  | _ => none }
def ZsetInverseWrongFalsely : Prop := zsetInverseRow.holds Try.pinned (OpenSpec.ofChange zsetInverseWrong)

/-- 'intagliolaw14.ZsetClones': WHATEVER THE INPUT: true; the input reads as it did. -/
def zsetClonesSpec : ChangeSpec := { name := "zsetClones", fn := fun _ => fun
  | [d1, d2] => { results := [.lit (.bool true)], args := [d1, d2] }
  | _ => none }
def zsetClonesRow : OpenClaim := { program := "ytfhngejmfnahhaa", sum := "cfd658615d7c9ee3b6b78a30b63fcb3ca80fe26ce0f1ace56f708e83cd2ebbf5", func := "intaglio/intagliolaw14.ZsetClones", spec := "zsetClones", apart := false }
def ZsetClonesSaid : Prop := zsetClonesRow.holds Try.pinned (OpenSpec.ofChange zsetClonesSpec)

/-- ITS FALSE NEIGHBOUR: 'it returns false'. Refute it at one input. -/
def zsetClonesWrong : ChangeSpec := { name := "zsetClones", fn := fun _ => fun
  | [d1, d2] => { results := [.lit (.bool false)], args := [d1, d2] }
  | _ => none }
def ZsetClonesWrongFalsely : Prop := zsetClonesRow.holds Try.pinned (OpenSpec.ofChange zsetClonesWrong)

/-- 'intagliolaw14.ZsetBetween': WHATEVER THE INPUT: true; the input reads as it did. -/
def zsetBetweenSpec : ChangeSpec := { name := "zsetBetween", fn := fun _ => fun
  | [d1, d2, d3] => { results := [.lit (.bool true)], args := [d1, d2, d3] }
  | _ => none }
def zsetBetweenRow : OpenClaim := { program := "ytfhngejmfnahhaa", sum := "cfd658615d7c9ee3b6b78a30b63fcb3ca80fe26ce0f1ace56f708e83cd2ebbf5", func := "intaglio/intagliolaw14.ZsetBetween", spec := "zsetBetween", apart := false }
def ZsetBetweenSaid : Prop := zsetBetweenRow.holds Try.pinned (OpenSpec.ofChange zsetBetweenSpec)

/-- ITS FALSE NEIGHBOUR: 'it returns false'. Refute it at one input. -/
def zsetBetweenWrong : ChangeSpec := { name := "zsetBetween", fn := fun _ => fun
  | [d1, d2, d3] => { results := [.lit (.bool false)], args := [d1, d2, d3] }
  | _ => none }
def ZsetBetweenWrongFalsely : Prop := zsetBetweenRow.holds Try.pinned (OpenSpec.ofChange zsetBetweenWrong)

/-- 'intagliolaw14.ZsetNobody': WHATEVER THE INPUT: true; the input reads as it did. -/
def zsetNobodySpec : ChangeSpec := { name := "zsetNobody", fn := fun _ => fun
  | [d1, d2, d3] => { results := [.lit (.bool true)], args := [d1, d2, d3] }
  | _ => none }
def zsetNobodyRow : OpenClaim := { program := "ytfhngejmfnahhaa", sum := "cfd658615d7c9ee3b6b78a30b63fcb3ca80fe26ce0f1ace56f708e83cd2ebbf5", func := "intaglio/intagliolaw14.ZsetNobody", spec := "zsetNobody", apart := false }
def ZsetNobodySaid : Prop := zsetNobodyRow.holds Try.pinned (OpenSpec.ofChange zsetNobodySpec)

/-- ITS FALSE NEIGHBOUR: 'it returns false'. Refute it at one input. -/
def zsetNobodyWrong : ChangeSpec := { name := "zsetNobody", fn := fun _ => fun
  | [d1, d2, d3] => { results := [.lit (.bool false)], args := [d1, d2, d3] }
  | _ => none }
def ZsetNobodyWrongFalsely : Prop := zsetNobodyRow.holds Try.pinned (OpenSpec.ofChange zsetNobodyWrong)

/- THE SECOND FORM. 'bulk': how many values and letters a reading holds, each counted each time it is reached (what is shared counts as often as it is met; a slice's spare places count too). A statement '..UptoSaid' is the law's where the arguments, and the package variables that the reading takes, are together of bulk at most 1048576: NARROWER than '..Said'. Prove '..Said' where nothing that the law and all that it calls make is longer than what came in: it says more and counts as full. Else prove '..UptoSaid'. A law counts once. -/
mutual
def uptoBulk {H : Type} : DataW H → Nat
  | .lit (.string bytes) => bytes.length + 1
  | .lit _ => 1
  | .nil => 1
  | .ptr d => uptoBulk d + 1
  | .slice elems spare => uptoBulkAll elems + uptoBulkAll spare + 1
  | .agg parts => uptoBulkAll parts + 1
  | .iface _ d => uptoBulk d + 1
  | .map entries => uptoBulkEntries entries + 1
  | .held _ => 1
def uptoBulkAll {H : Type} : List (DataW H) → Nat
  | [] => 0
  | d :: r => uptoBulk d + uptoBulkAll r
def uptoBulkEntries {H : Type} : List (Lit × DataW H) → Nat
  | [] => 0
  | x :: r => uptoBulkEntry x + uptoBulkEntries r
def uptoBulkEntry {H : Type} : Lit × DataW H → Nat
  | (.string bytes, d) => bytes.length + uptoBulk d + 1
  | (_, d) => uptoBulk d + 1
 end
def uptoSmall : (H : Type) → List (DataW H) → Bool := fun _ ds => decide (uptoBulkAll ds ≤ 1048576)
def OpenSpec.upto (s : _root_.Go.ChangeSpec) : _root_.Go.OpenSpec := { _root_.Go.OpenSpec.ofChange s with cond := some uptoSmall }

/-- 'intagliolaw14.ZsetPlays', WHERE WHAT IT READS IS OF BULK AT MOST 1048576: true; the input reads as it did. -/
def zsetPlaysUptoRow : OpenClaim := { program := "ytfhngejmfnahhaa", sum := "cfd658615d7c9ee3b6b78a30b63fcb3ca80fe26ce0f1ace56f708e83cd2ebbf5", func := "intaglio/intagliolaw14.ZsetPlays", spec := "zsetPlays", apart := false, narrowed := true }
def ZsetPlaysUptoSaid : Prop := zsetPlaysUptoRow.holds Try.pinned (OpenSpec.upto zsetPlaysSpec)

/-- 'intagliolaw14.ZsetPlaces', WHERE WHAT IT READS IS OF BULK AT MOST 1048576: true; the input reads as it did. -/
def zsetPlacesUptoRow : OpenClaim := { program := "ytfhngejmfnahhaa", sum := "cfd658615d7c9ee3b6b78a30b63fcb3ca80fe26ce0f1ace56f708e83cd2ebbf5", func := "intaglio/intagliolaw14.ZsetPlaces", spec := "zsetPlaces", apart := false, narrowed := true }
def ZsetPlacesUptoSaid : Prop := zsetPlacesUptoRow.holds Try.pinned (OpenSpec.upto zsetPlacesSpec)

/-- 'intagliolaw14.ZsetInverse', WHERE WHAT IT READS IS OF BULK AT MOST 1048576: true; the input reads as it did. -/
def zsetInverseUptoRow : OpenClaim := { program := "ytfhngejmfnahhaa", sum := "cfd658615d7c9ee3b6b78a30b63fcb3ca80fe26ce0f1ace56f708e83cd2ebbf5", func := "intaglio/intagliolaw14.ZsetInverse", spec := "zsetInverse", apart := false, narrowed := true }
def ZsetInverseUptoSaid : Prop := zsetInverseUptoRow.holds Try.pinned (OpenSpec.upto zsetInverseSpec)

/-- 'intagliolaw14.ZsetClones', WHERE WHAT IT READS IS OF BULK AT MOST 1048576: true; the input reads as it did. -/
def zsetClonesUptoRow : OpenClaim := { program := "ytfhngejmfnahhaa", sum := "cfd658615d7c9ee3b6b78a30b63fcb3ca80fe26ce0f1ace56f708e83cd2ebbf5", func := "intaglio/intagliolaw14.ZsetClones", spec := "zsetClones", apart := false, narrowed := true }
def ZsetClonesUptoSaid : Prop := zsetClonesUptoRow.holds Try.pinned (OpenSpec.upto zsetClonesSpec)

/-- 'intagliolaw14.ZsetBetween', WHERE WHAT IT READS IS OF BULK AT MOST 1048576: true; the input reads as it did. -/
def zsetBetweenUptoRow : OpenClaim := { program := "ytfhngejmfnahhaa", sum := "cfd658615d7c9ee3b6b78a30b63fcb3ca80fe26ce0f1ace56f708e83cd2ebbf5", func := "intaglio/intagliolaw14.ZsetBetween", spec := "zsetBetween", apart := false, narrowed := true }
def ZsetBetweenUptoSaid : Prop := zsetBetweenUptoRow.holds Try.pinned (OpenSpec.upto zsetBetweenSpec)

/-- 'intagliolaw14.ZsetNobody', WHERE WHAT IT READS IS OF BULK AT MOST 1048576: true; the input reads as it did. -/
def zsetNobodyUptoRow : OpenClaim := { program := "ytfhngejmfnahhaa", sum := "cfd658615d7c9ee3b6b78a30b63fcb3ca80fe26ce0f1ace56f708e83cd2ebbf5", func := "intaglio/intagliolaw14.ZsetNobody", spec := "zsetNobody", apart := false, narrowed := true }
def ZsetNobodyUptoSaid : Prop := zsetNobodyUptoRow.holds Try.pinned (OpenSpec.upto zsetNobodySpec)

end Rows
end Go.Proofs.Ytfhngejmfnahhaa
