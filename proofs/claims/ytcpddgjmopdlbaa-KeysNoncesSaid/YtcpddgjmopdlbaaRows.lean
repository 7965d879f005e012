/-
  No cell of these rows narrows 'for every input' (looked for: loops, veiled, ifaces, maps, wideKeys, modest, calm, conditions, laid).
  DERIVED. THE GIVEN ROWS OF THIS SEAT. 5 by the template 'for every input the law returns true; each argument reads behind the call as it read before'; 0 by the template 'total and deterministic' (their statements: YtcpddgjmopdlbaaTotals.lean).
  GIVEN WITH THE SEED: the statements are not yours to turn. If you find one false, say at which input.
  Laid BY PROGRAM, IN A SANDBOX (cutbox-rows.mjs): the forced cells as the released guide's own fill.sh prints them over the translation febc7899bc30a016… (all of the seat's roots in one cut). By AI agents, Wed Nov 11 2026. No macro, syntax, notation, axiom, sorry.
-/
import Derived.Test.YtcpddgjmopdlbaaChecked
import GoSem.Claim
import GoSem.ClaimJoined
import GoSem.ClaimMapViews
import Derived.JoinedTies
import Derived.KernelRfl
namespace Go.Proofs.Ytcpddgjmopdlbaa
/- THE CELL 'sum', in the pinned program and in every row, IS THE sha256 OF THE DUMP (.gsa) THAT YtcpddgjmopdlbaaProg.lean LOADS. Nothing in Lean hashes anything: it is a label: what it is worth is what the hold of that sum in a sandbox is worth. -/
noncomputable def Try.pinned : Pinned := { name := "ytcpddgjmopdlbaa", sum := "febc7899bc30a016c197dece5f5e2075c856b2381900ae1faf410494f752e49c", checked := Try.checked }
namespace Rows
def none {H : Type} : Left H := { results := [], args := [] }

/-- 'intagliolaw07.KeysIds': WHATEVER THE INPUT: true; the input reads as it did. -/
def keysIdsSpec : ChangeSpec := { name := "keysIds", fn := fun _ => fun
  | [d] => { results := [.lit (.bool true)], args := [d] }
  | _ => none }
def keysIdsRow : OpenClaim := { program := "ytcpddgjmopdlbaa", sum := "febc7899bc30a016c197dece5f5e2075c856b2381900ae1faf410494f752e49c", func := "intaglio/intagliolaw07.KeysIds", spec := "keysIds", apart := false }
def KeysIdsSaid : Prop := keysIdsRow.holds Try.pinned (OpenSpec.ofChange keysIdsSpec)

/-- ITS FALSE NEIGHBOUR: 'it returns false'. Refute it at one input. -/
def keysIdsWrong : ChangeSpec := { name := "keysIds", fn := fun _ => fun
  | [d] => { results := [.lit (.bool false)], args := [d] }
  | _ => none }
def KeysIdsWrongFalsely : Prop := keysIdsRow.holds Try.pinned (OpenSpec.ofChange keysIdsWrong)

/-- 'intagliolaw07.KeysNonces': WHATEVER THE INPUT: true; the input reads as it did. -/
def keysNoncesSpec : ChangeSpec := { name := "keysNonces", fn := fun _ => fun
  | [d1, d2] => { results := [.lit (.bool true)], args := [d1, d2] }
  | _ => none }
def keysNoncesRow : OpenClaim := { program := "ytcpddgjmopdlbaa", sum := "febc7899bc30a016c197dece5f5e2075c856b2381900ae1faf410494f752e49c", func := "intaglio/intagliolaw07.KeysNonces", spec := "keysNonces", apart := false }
def KeysNoncesSaid : Prop := keysNoncesRow.holds Try.pinned (OpenSpec.ofChange keysNoncesSpec)

/-- ITS FALSE NEIGHBOUR: 'it returns false'. Refute it at one input. -/
def keysNoncesWrong : ChangeSpec := { name := "keysNonces", fn := fun _ => fun
  | [d1, d2] => { results := [.lit (.bool false)], args := [d1, d2] }
  | _ => none }
def KeysNoncesWrongFalsely : Prop := keysNoncesRow.holds Try.pinned (OpenSpec.ofChange keysNoncesWrong)

/-- 'intagliolaw07.KeysNext': WHATEVER THE INPUT: true; the input reads as it did. -/
def keysNextSpec : ChangeSpec := { name := "keysNext", fn := fun _ => fun
  | [d1, d2] => { results := [.lit (.bool true)], args := [d1, d2] }
  | _ => none }
def keysNextRow : OpenClaim := { program := "ytcpddgjmopdlbaa", sum := "febc7899bc30a016c197dece5f5e2075c856b2381900ae1faf410494f752e49c", func := "intaglio/intagliolaw07.KeysNext", spec := "keysNext", apart := false }
def KeysNextSaid : Prop := keysNextRow.holds Try.pinned (OpenSpec.ofChange keysNextSpec)

/-- ITS FALSE NEIGHBOUR: 'it returns false'. Refute it at one input. -/
def keysNextWrong : ChangeSpec := { name := "keysNext", fn := fun _ => fun
  | [d1, d2] => { results := [.lit (.bool false)], args := [d1, d2] }
  | _ => none }
def KeysNextWrongFalsely : Prop := keysNextRow.holds Try.pinned (OpenSpec.ofChange keysNextWrong)

/-- 'intagliolaw07.KeysParse': WHATEVER THE INPUT: true; the input reads as it did. -/
def keysParseSpec : ChangeSpec := { name := "keysParse", fn := fun _ => fun
  | [d] => { results := [.lit (.bool true)], args := [d] }
  | _ => none }
def keysParseRow : OpenClaim := { program := "ytcpddgjmopdlbaa", sum := "febc7899bc30a016c197dece5f5e2075c856b2381900ae1faf410494f752e49c", func := "intaglio/intagliolaw07.KeysParse", spec := "keysParse", apart := false }
def KeysParseSaid : Prop := keysParseRow.holds Try.pinned (OpenSpec.ofChange keysParseSpec)

/-- ITS FALSE NEIGHBOUR: 'it returns false'. Refute it at one input. -/
def keysParseWrong : ChangeSpec := { name := "keysParse", fn := fun _ => fun
  | [d] => { results := [.lit (.bool false)], args := [d] }
  | _ => none }
def KeysParseWrongFalsely : Prop := keysParseRow.holds Try.pinned (OpenSpec.ofChange keysParseWrong)

/-- 'intagliolaw07.KeysUnlike': WHATEVER THE INPUT: true; the input reads as it did. -/
def keysUnlikeSpec : ChangeSpec := { name := "keysUnlike", fn := fun _ => fun
  | [d1, d2] => { results := [.lit (.bool true)], args := [d1, d2] }
  | _ => none }
def keysUnlikeRow : OpenClaim := { program := "ytcpddgjmopdlbaa", sum := "febc7899bc30a016c197dece5f5e2075c856b2381900ae1faf410494f752e49c", func := "intaglio/intagliolaw07.KeysUnlike", spec := "keysUnlike", apart := false }
def KeysUnlikeSaid : Prop := keysUnlikeRow.holds Try.pinned (OpenSpec.ofChange keysUnlikeSpec)

/-- ITS FALSE NEIGHBOUR: 'it returns false'. Refute it at one input. -/
def keysUnlikeWrong : ChangeSpec := { name := "keysUnlike", fn := fun _ => fun
  | [d1, d2] => { results := [.lit (.bool false)], args := [d1, d2] }
  | _ => none }
def KeysUnlikeWrongFalsely : Prop := keysUnlikeRow.holds Try.pinned (OpenSpec.ofChange keysUnlikeWrong)

/- THE SECOND FORM. 'bulk': how many values and letters a reading holds, each counted each time it is reached (what is shared counts as often as it is met; a slice's spare places count too). A statement '..UptoSaid' is the law's where the arguments, and the package variables that the reading takes, are together of bulk at most 1048576: NARROWER than '..Said'. Prove '..Said' where nothing that the law and all that it calls make is longer than what came in: it says more and counts as full. Else prove '..UptoSaid'. A law counts once. -/
mutual
def uptoBulk {H : Type} : DataW H → Nat
  | .lit (.string bytes) => bytes.length + 1
  | .lit _ => 1
  | .nil => 1
  | .ptr d => uptoBulk d + 1
  | .slice elems spare => uptoBulkAll elems + uptoBulkAll spare + 1
  | .agg parts => uptoBulkAll parts + 1
  | .iface _ d => uptoBulk d + 1
  | .map entries => uptoBulkEntries entries + 1
  | .held _ => 1
def uptoBulkAll {H : Type} : List (DataW H) → Nat
  | [] => 0
  | d :: r => uptoBulk d + uptoBulkAll r
def uptoBulkEntries {H : Type} : List (Lit × DataW H) → Nat
  | [] => 0
  | x :: r => uptoBulkEntry x + uptoBulkEntries r
def uptoBulkEntry {H : Type} : Lit × DataW H → Nat
  | (.string bytes, d) => bytes.length + uptoBulk d + 1
  | (_, d) => uptoBulk d + 1
 end
def uptoSmall : (H : Type) → List (DataW H) → Bool := fun _ ds => decide (uptoBulkAll ds ≤ 1048576)
def OpenSpec.upto (s : _root_.Go.ChangeSpec) : _root_.Go.OpenSpec := { _root_.Go.OpenSpec.ofChange s with cond := some uptoSmall }

/-- 'intagliolaw07.KeysIds', WHERE WHAT IT READS IS OF BULK AT MOST 1048576: true; the input reads as it did. -/
def keysIdsUptoRow : OpenClaim := { program := "ytcpddgjmopdlbaa", sum := "febc7899bc30a016c197dece5f5e2075c856b2381900ae1faf410494f752e49c", func := "intaglio/intagliolaw07.KeysIds", spec := "keysIds", apart := false, narrowed := true }
def KeysIdsUptoSaid : Prop := keysIdsUptoRow.holds Try.pinned (OpenSpec.upto keysIdsSpec)

/-- 'intagliolaw07.KeysNonces', WHERE WHAT IT READS IS OF BULK AT MOST 1048576: true; the input reads as it did. -/
def keysNoncesUptoRow : OpenClaim := { program := "ytcpddgjmopdlbaa", sum := "febc7899bc30a016c197dece5f5e2075c856b2381900ae1faf410494f752e49c", func := "intaglio/intagliolaw07.KeysNonces", spec := "keysNonces", apart := false, narrowed := true }
def KeysNoncesUptoSaid : Prop := keysNoncesUptoRow.holds Try.pinned (OpenSpec.upto keysNoncesSpec)

/-- 'intagliolaw07.KeysNext', WHERE WHAT IT READS IS OF BULK AT MOST 1048576: true; the input reads as it did. -/
def keysNextUptoRow : OpenClaim := { program := "ytcpddgjmopdlbaa", sum := "febc7899bc30a016c197dece5f5e2075c856b2381900ae1faf410494f752e49c", func := "intaglio/intagliolaw07.KeysNext", spec := "keysNext", apart := false, narrowed := true }
def KeysNextUptoSaid : Prop := keysNextUptoRow.holds Try.pinned (OpenSpec.upto keysNextSpec)

/-- 'intagliolaw07.KeysParse', WHERE WHAT IT READS IS OF BULK AT MOST 1048576: true; the input reads as it did. -/
def keysParseUptoRow : OpenClaim := { program := "ytcpddgjmopdlbaa", sum := "febc7899bc30a016c197dece5f5e2075c856b2381900ae1faf410494f752e49c", func := "intaglio/intagliolaw07.KeysParse", spec := "keysParse", apart := false, narrowed := true }
def KeysParseUptoSaid : Prop := keysParseUptoRow.holds Try.pinned (OpenSpec.upto keysParseSpec)

/-- 'intagliolaw07.KeysUnlike', WHERE WHAT IT READS IS OF BULK AT MOST 1048576: true; the input reads as it did. -/
def keysUnlikeUptoRow : OpenClaim := { program := "ytcpddgjmopdlbaa", sum := "febc7899bc30a016c197dece5f5e2075c856b2381900ae1faf410494f752e49c", func := "intaglio/intagliolaw07.KeysUnlike", spec := "keysUnlike", apart := false, narrowed := true }
def KeysUnlikeUptoSaid : Prop := keysUnlikeUptoRow.holds Try.pinned (OpenSpec.upto keysUnlikeSpec)

end Rows
end Go.Proofs.Ytcpddgjmopdlbaa
