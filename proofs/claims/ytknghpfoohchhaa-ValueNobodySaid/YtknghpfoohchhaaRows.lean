/-
  No cell of these rows narrows 'for every input' (looked for: loops, veiled, ifaces, maps, wideKeys, modest, calm, conditions, laid).
  DERIVED. THE GIVEN ROWS OF THIS SEAT. 8 by the template 'for every input the law returns true; each argument reads behind the call as it read before'; 0 by the template 'total and deterministic' (their statements: YtknghpfoohchhaaTotals.lean).
  GIVEN WITH THE SEED: the statements are not yours to turn. If you find one false, say at which input.
  Laid BY PROGRAM, IN A SANDBOX (cutbox-rows.mjs): the forced cells as the released guide's own fill.sh prints them over the translation 0a59d2c91471d57d… (all of the seat's roots in one cut). By AI agents, Wed Nov 11 2026. No macro, syntax, notation, axiom, sorry.
-/
import Derived.Test.YtknghpfoohchhaaChecked
import GoSem.Claim
import GoSem.ClaimJoined
import GoSem.ClaimMapViews
import Derived.JoinedTies
import Derived.KernelRfl
namespace Go.Proofs.Ytknghpfoohchhaa
/- THE CELL 'sum', in the pinned program and in every row, IS THE sha256 OF THE DUMP (.gsa) THAT YtknghpfoohchhaaProg.lean LOADS. Nothing in Lean hashes anything: it is a label: what it is worth is what the hold of that sum in a sandbox is worth. -/
noncomputable def Try.pinned : Pinned := { name := "ytknghpfoohchhaa", sum := "0a59d2c91471d57d180af12702b663f5c24b0a23d48df65a55782a3af0986933", checked := Try.checked }
namespace Rows
def none {H : Type} : Left H := { results := [], args := [] }

/-- 'intagliolaw15.ValueChecks': WHATEVER THE INPUT: true; the input reads as it did. -/
def valueChecksSpec : ChangeSpec := { name := "valueChecks", fn := fun _ => fun
  | [d] => { results := [.lit (.bool true)], args := [d] }
  | _ => none }
def valueChecksRow : OpenClaim := { program := "ytknghpfoohchhaa", sum := "0a59d2c91471d57d180af12702b663f5c24b0a23d48df65a55782a3af0986933", func := "intaglio/intagliolaw15.ValueChecks", spec := "valueChecks", inPlace := ["slices.overlaps[string]", "slices.overlaps[struct{}]"], unfollowed := true, recurses := true, apart := false }
def ValueChecksSaid : Prop := valueChecksRow.holds Try.pinned (OpenSpec.ofChange valueChecksSpec)

/-- ITS FALSE NEIGHBOUR: 'it returns false'. Refute it at one input. -/
def valueChecksWrong : ChangeSpec := { name := "valueChecks", fn := fun _ => fun
  | [d] => { results := [.lit (.bool false)], args := [d] }
  | _ => none }
def ValueChecksWrongFalsely : Prop := valueChecksRow.holds Try.pinned (OpenSpec.ofChange valueChecksWrong)

/-- 'intagliolaw15.ValueSame': WHATEVER THE INPUT: true; the input reads as it did. -/
def valueSameSpec : ChangeSpec := { name := "valueSame", fn := fun _ => fun
  | [d1, d2] => { results := [.lit (.bool true)], args := [d1, d2] }
  | _ => none }
def valueSameRow : OpenClaim := { program := "ytknghpfoohchhaa", sum := "0a59d2c91471d57d180af12702b663f5c24b0a23d48df65a55782a3af0986933", func := "intaglio/intagliolaw15.ValueSame", spec := "valueSame", inPlace := ["slices.overlaps[string]", "slices.overlaps[struct{}]"], unfollowed := true, recurses := true, apart := false }
def ValueSameSaid : Prop := valueSameRow.holds Try.pinned (OpenSpec.ofChange valueSameSpec)

/-- ITS FALSE NEIGHBOUR: 'it returns false'. Refute it at one input. -/
def valueSameWrong : ChangeSpec := { name := "valueSame", fn := fun _ => fun
  | [d1, d2] => { results := [.lit (.bool false)], args := [d1, d2] }
  | _ => none }
def ValueSameWrongFalsely : Prop := valueSameRow.holds Try.pinned (OpenSpec.ofChange valueSameWrong)

/-- 'intagliolaw15.ValueEncodes': WHATEVER THE INPUT: true; the input reads as it did. -/
def valueEncodesSpec : ChangeSpec := { name := "valueEncodes", fn := fun _ => fun
  | [d] => { results := [.lit (.bool true)], args := [d] }
  | _ => none }
def valueEncodesRow : OpenClaim := { program := "ytknghpfoohchhaa", sum := "0a59d2c91471d57d180af12702b663f5c24b0a23d48df65a55782a3af0986933", func := "intaglio/intagliolaw15.ValueEncodes", spec := "valueEncodes", inPlace := ["slices.overlaps[string]", "slices.overlaps[struct{}]"], unfollowed := true, recurses := true, apart := false }
def ValueEncodesSaid : Prop := valueEncodesRow.holds Try.pinned (OpenSpec.ofChange valueEncodesSpec)

/-- ITS FALSE NEIGHBOUR: 'it returns false'. Refute it at one input. -/
def valueEncodesWrong : ChangeSpec := { name := "valueEncodes", fn := fun _ => fun
  | [d] => { results := [.lit (.bool false)], args := [d] }
  | _ => none }
def ValueEncodesWrongFalsely : Prop := valueEncodesRow.holds Try.pinned (OpenSpec.ofChange valueEncodesWrong)

/-- 'intagliolaw15.ValueOf': WHATEVER THE INPUT: true; the input reads as it did. -/
def valueOfSpec : ChangeSpec := { name := "valueOf", fn := fun _ => fun
  | [d1, d2] => { results := [.lit (.bool true)], args := [d1, d2] }
  | _ => none }
def valueOfRow : OpenClaim := { program := "ytknghpfoohchhaa", sum := "0a59d2c91471d57d180af12702b663f5c24b0a23d48df65a55782a3af0986933", func := "intaglio/intagliolaw15.ValueOf", spec := "valueOf", inPlace := ["slices.overlaps[string]", "slices.overlaps[struct{}]"], unfollowed := true, recurses := true, apart := false }
def ValueOfSaid : Prop := valueOfRow.holds Try.pinned (OpenSpec.ofChange valueOfSpec)

/-- ITS FALSE NEIGHBOUR: 'it returns false'. Refute it at one input. -/
def valueOfWrong : ChangeSpec := { name := "valueOf", fn := fun _ => fun
  | [d1, d2] => { results := [.lit (.bool false)], args := [d1, d2] }
  | _ => none }
def ValueOfWrongFalsely : Prop := valueOfRow.holds Try.pinned (OpenSpec.ofChange valueOfWrong)

/-- 'intagliolaw15.ValuePlays': WHATEVER THE INPUT: true; the input reads as it did. -/
def valuePlaysSpec : ChangeSpec := { name := "valuePlays", fn := fun _ => fun
  | [d1, d2, d3] => { results := [.lit (.bool true)], args := [d1, d2, d3] }
  | _ => none }
def valuePlaysRow : OpenClaim := { program := "ytknghpfoohchhaa", sum := "0a59d2c91471d57d180af12702b663f5c24b0a23d48df65a55782a3af0986933", func := "intaglio/intagliolaw15.ValuePlays", spec := "valuePlays", inPlace := ["slices.overlaps[string]", "slices.overlaps[struct{}]"], unfollowed := true, recurses := true, apart := false }
def ValuePlaysSaid : Prop := valuePlaysRow.holds Try.pinned (OpenSpec.ofChange valuePlaysSpec)

/-- ITS FALSE NEIGHBOUR: 'it returns false'. Refute it at one input. -/
def valuePlaysWrong : ChangeSpec := { name := "valuePlays", fn := fun _ => fun
  | [d1, d2, d3] => { results := [.lit (.bool false)], args := [d1, d2, d3] }
  | _ => none }
def ValuePlaysWrongFalsely : Prop := valuePlaysRow.holds Try.pinned (OpenSpec.ofChange valuePlaysWrong)

/-- 'intagliolaw15.ValueNobody': WHATEVER THE INPUT: true; the input reads as it did. -/
def valueNobodySpec : ChangeSpec := { name := "valueNobody", fn := fun _ => fun
  | [d] => { results := [.lit (.bool true)], args := [d] }
  | _ => none }
def valueNobodyRow : OpenClaim := { program := "ytknghpfoohchhaa", sum := "0a59d2c91471d57d180af12702b663f5c24b0a23d48df65a55782a3af0986933", func := "intaglio/intagliolaw15.ValueNobody", spec := "valueNobody", inPlace := ["slices.overlaps[string]", "slices.overlaps[struct{}]"], unfollowed := true, recurses := true, apart := false }
def ValueNobodySaid : Prop := valueNobodyRow.holds Try.pinned (OpenSpec.ofChange valueNobodySpec)

/-- ITS FALSE NEIGHBOUR: 'it returns false'. Refute it at one input. -/
def valueNobodyWrong : ChangeSpec := { name := "valueNobody", fn := fun _ => fun
  | [d] => { results := [.lit (.bool false)], args := [d] }
  | _ => none }
def ValueNobodyWrongFalsely : Prop := valueNobodyRow.holds Try.pinned (OpenSpec.ofChange valueNobodyWrong)

/-- 'intagliolaw15.ValueDecodes': WHATEVER THE INPUT: true; the input reads as it did. -/
def valueDecodesSpec : ChangeSpec := { name := "valueDecodes", fn := fun _ => fun
  | [d] => { results := [.lit (.bool true)], args := [d] }
  | _ => none }
def valueDecodesRow : OpenClaim := { program := "ytknghpfoohchhaa", sum := "0a59d2c91471d57d180af12702b663f5c24b0a23d48df65a55782a3af0986933", func := "intaglio/intagliolaw15.ValueDecodes", spec := "valueDecodes", inPlace := ["slices.overlaps[string]", "slices.overlaps[struct{}]"], unfollowed := true, recurses := true, apart := false }
def ValueDecodesSaid : Prop := valueDecodesRow.holds Try.pinned (OpenSpec.ofChange valueDecodesSpec)

/-- ITS FALSE NEIGHBOUR: 'it returns false'. Refute it at one input. -/
def valueDecodesWrong : ChangeSpec := { name := "valueDecodes", fn := fun _ => fun
  | [d] => { results := [.lit (.bool false)], args := [d] }
  | _ => none }
def ValueDecodesWrongFalsely : Prop := valueDecodesRow.holds Try.pinned (OpenSpec.ofChange valueDecodesWrong)

/-- 'intagliolaw15.ValueBack': WHATEVER THE INPUT: true; the input reads as it did. -/
def valueBackSpec : ChangeSpec := { name := "valueBack", fn := fun _ => fun
  | [d1, d2] => { results := [.lit (.bool true)], args := [d1, d2] }
  | _ => none }
def valueBackRow : OpenClaim := { program := "ytknghpfoohchhaa", sum := "0a59d2c91471d57d180af12702b663f5c24b0a23d48df65a55782a3af0986933", func := "intaglio/intagliolaw15.ValueBack", spec := "valueBack", inPlace := ["slices.overlaps[string]", "slices.overlaps[struct{}]"], unfollowed := true, recurses := true, apart := false }
def ValueBackSaid : Prop := valueBackRow.holds Try.pinned (OpenSpec.ofChange valueBackSpec)

/-- ITS FALSE NEIGHBOUR: 'it returns false'. Refute it at one input. -/
def valueBackWrong : ChangeSpec := { name := "valueBack", fn := fun _ => fun
  | [d1, d2] => { results := [.lit (.bool false)], args := [d1, d2] }
  | _ => none }
def ValueBackWrongFalsely : Prop := valueBackRow.holds Try.pinned (OpenSpec.ofChange valueBackWrong)

/- THE SECOND FORM. 'bulk': how many values and letters a reading holds, each counted each time it is reached (what is shared counts as often as it is met; a slice's spare places count too). A statement '..UptoSaid' is the law's where the arguments, and the package variables that the reading takes, are together of bulk at most 1048576: NARROWER than '..Said'. Prove '..Said' where nothing that the law and all that it calls make is longer than what came in: it says more and counts as full. Else prove '..UptoSaid'. A law counts once. -/
mutual
def uptoBulk {H : Type} : DataW H → Nat
  | .lit (.string bytes) => bytes.length + 1
  | .lit _ => 1
  | .nil => 1
  | .ptr d => uptoBulk d + 1
  | .slice elems spare => uptoBulkAll elems + uptoBulkAll spare + 1
  | .agg parts => uptoBulkAll parts + 1
  | .iface _ d => uptoBulk d + 1
  | .map entries => uptoBulkEntries entries + 1
  | .held _ => 1
def uptoBulkAll {H : Type} : List (DataW H) → Nat
  | [] => 0
  | d :: r => uptoBulk d + uptoBulkAll r
def uptoBulkEntries {H : Type} : List (Lit × DataW H) → Nat
  | [] => 0
  | x :: r => uptoBulkEntry x + uptoBulkEntries r
def uptoBulkEntry {H : Type} : Lit × DataW H → Nat
  | (.string bytes, d) => bytes.length + uptoBulk d + 1
  | (_, d) => uptoBulk d + 1
 end
def uptoSmall : (H : Type) → List (DataW H) → Bool := fun _ ds => decide (uptoBulkAll ds ≤ 1048576)
def OpenSpec.upto (s : _root_.Go.ChangeSpec) : _root_.Go.OpenSpec := { _root_.Go.OpenSpec.ofChange s with cond := some uptoSmall }

/-- 'intagliolaw15.ValueChecks', WHERE WHAT IT READS IS OF BULK AT MOST 1048576: true; the input reads as it did. -/
def valueChecksUptoRow : OpenClaim := { program := "ytknghpfoohchhaa", sum := "0a59d2c91471d57d180af12702b663f5c24b0a23d48df65a55782a3af0986933", func := "intaglio/intagliolaw15.ValueChecks", spec := "valueChecks", inPlace := ["slices.overlaps[string]", "slices.overlaps[struct{}]"], unfollowed := true, recurses := true, apart := false, narrowed := true }
def ValueChecksUptoSaid : Prop := valueChecksUptoRow.holds Try.pinned (OpenSpec.upto valueChecksSpec)

/-- 'intagliolaw15.ValueSame', WHERE WHAT IT READS IS OF BULK AT MOST 1048576: true; the input reads as it did. -/
def valueSameUptoRow : OpenClaim := { program := "ytknghpfoohchhaa", sum := "0a59d2c91471d57d180af12702b663f5c24b0a23d48df65a55782a3af0986933", func := "intaglio/intagliolaw15.ValueSame", spec := "valueSame", inPlace := ["slices.overlaps[string]", "slices.overlaps[struct{}]"], unfollowed := true, recurses := true, apart := false, narrowed := true }
def ValueSameUptoSaid : Prop := valueSameUptoRow.holds Try.pinned (OpenSpec.upto valueSameSpec)

/-- 'intagliolaw15.ValueEncodes', WHERE WHAT IT READS IS OF BULK AT MOST 1048576: true; the input reads as it did. -/
def valueEncodesUptoRow : OpenClaim := { program := "ytknghpfoohchhaa", sum := "0a59d2c91471d57d180af12702b663f5c24b0a23d48df65a55782a3af0986933", func := "intaglio/intagliolaw15.ValueEncodes", spec := "valueEncodes", inPlace := ["slices.overlaps[string]", "slices.overlaps[struct{}]"], unfollowed := true, recurses := true, apart := false, narrowed := true }
def ValueEncodesUptoSaid : Prop := valueEncodesUptoRow.holds Try.pinned (OpenSpec.upto valueEncodesSpec)

/-- 'intagliolaw15.ValueOf', WHERE WHAT IT READS IS OF BULK AT MOST 1048576: true; the input reads as it did. -/
def valueOfUptoRow : OpenClaim := { program := "ytknghpfoohchhaa", sum := "0a59d2c91471d57d180af12702b663f5c24b0a23d48df65a55782a3af0986933", func := "intaglio/intagliolaw15.ValueOf", spec := "valueOf", inPlace := ["slices.overlaps[string]", "slices.overlaps[struct{}]"], unfollowed := true, recurses := true, apart := false, narrowed := true }
def ValueOfUptoSaid : Prop := valueOfUptoRow.holds Try.pinned (OpenSpec.upto valueOfSpec)

/-- 'intagliolaw15.ValuePlays', WHERE WHAT IT READS IS OF BULK AT MOST 1048576: true; the input reads as it did. -/
def valuePlaysUptoRow : OpenClaim := { program := "ytknghpfoohchhaa", sum := "0a59d2c91471d57d180af12702b663f5c24b0a23d48df65a55782a3af0986933", func := "intaglio/intagliolaw15.ValuePlays", spec := "valuePlays", inPlace := ["slices.overlaps[string]", "slices.overlaps[struct{}]"], unfollowed := true, recurses := true, apart := false, narrowed := true }
def ValuePlaysUptoSaid : Prop := valuePlaysUptoRow.holds Try.pinned (OpenSpec.upto valuePlaysSpec)

/-- 'intagliolaw15.ValueNobody', WHERE WHAT IT READS IS OF BULK AT MOST 1048576: true; the input reads as it did. -/
def valueNobodyUptoRow : OpenClaim := { program := "ytknghpfoohchhaa", sum := "0a59d2c91471d57d180af12702b663f5c24b0a23d48df65a55782a3af0986933", func := "intaglio/intagliolaw15.ValueNobody", spec := "valueNobody", inPlace := ["slices.overlaps[string]", "slices.overlaps[struct{}]"], unfollowed := true, recurses := true, apart := false, narrowed := true }
def ValueNobodyUptoSaid : Prop := valueNobodyUptoRow.holds Try.pinned (OpenSpec.upto valueNobodySpec)

/-- 'intagliolaw15.ValueDecodes', WHERE WHAT IT READS IS OF BULK AT MOST 1048576: true; the input reads as it did. -/
def valueDecodesUptoRow : OpenClaim := { program := "ytknghpfoohchhaa", sum := "0a59d2c91471d57d180af12702b663f5c24b0a23d48df65a55782a3af0986933", func := "intaglio/intagliolaw15.ValueDecodes", spec := "valueDecodes", inPlace := ["slices.overlaps[string]", "slices.overlaps[struct{}]"], unfollowed := true, recurses := true, apart := false, narrowed := true }
def ValueDecodesUptoSaid : Prop := valueDecodesUptoRow.holds Try.pinned (OpenSpec.upto valueDecodesSpec)

/-- 'intagliolaw15.ValueBack', WHERE WHAT IT READS IS OF BULK AT MOST 1048576: true; the input reads as it did. -/
def valueBackUptoRow : OpenClaim := { program := "ytknghpfoohchhaa", sum := "0a59d2c91471d57d180af12702b663f5c24b0a23d48df65a55782a3af0986933", func := "intaglio/intagliolaw15.ValueBack", spec := "valueBack", inPlace := ["slices.overlaps[string]", "slices.overlaps[struct{}]"], unfollowed := true, recurses := true, apart := false, narrowed := true }
def ValueBackUptoSaid : Prop := valueBackUptoRow.holds Try.pinned (OpenSpec.upto valueBackSpec)

end Rows
end Go.Proofs.Ytknghpfoohchhaa
