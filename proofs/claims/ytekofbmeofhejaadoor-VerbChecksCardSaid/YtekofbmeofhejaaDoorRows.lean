/-
  NARROWER THAN 'FOR EVERY INPUT', by the rows' own cells (each row's printed sentence says how): VerbSpecs: laid · VerbInts: laid · VerbNumbers: laid · VerbMatches: laid · VerbPlain: laid · VerbChecks: laid.
  DERIVED. THE GIVEN ROWS OF THIS SEAT. 6 by the template 'for every input the law returns true; each argument reads behind the call as it read before'; 0 by the template 'total and deterministic' (their statements: YtekofbmeofhejaaDoorTotals.lean).
  GIVEN WITH THE SEED: the statements are not yours to turn. If you find one false, say at which input.
  Laid BY PROGRAM, IN A SANDBOX (cutbox-rows.mjs): the forced cells as the released guide's own fill.sh prints them over the translation 8b438483a61546b8… (all of the seat's roots in one cut). By AI agents, Wed Nov 11 2026. No macro, syntax, notation, axiom, sorry.
-/
import Derived.Test.YtekofbmeofhejaaDoorChecked
import GoSem.Claim
import GoSem.ClaimJoined
import GoSem.ClaimMapViews
import Derived.JoinedTies
import Derived.KernelRfl
namespace Go.Proofs.YtekofbmeofhejaaDoor
/- THE CELL 'sum', in the pinned program and in every row, IS THE sha256 OF THE DUMP (.gsa) THAT YtekofbmeofhejaaDoorProg.lean LOADS. Nothing in Lean hashes anything: it is a label: what it is worth is what the hold of that sum in a sandbox is worth. -/
noncomputable def Tryd.pinned : Pinned := { name := "ytekofbmeofhejaadoor", sum := "8b438483a61546b8c7557ce9e4930a06b025e479481183228856bcad7bd432cc", checked := Tryd.checked }
namespace Rows
def none {H : Type} : Left H := { results := [], args := [] }

/- WHAT THE LISTED PACKAGE-LEVEL VARIABLES READ AS WHEN THE CALL BEGINS. Each datum BY PROGRAM (the guide's laid-datum.mjs) off the statement by which the dump's own 'gosem.cut.vars' lays the variable. In a bare row this is a premise. The card (YtekofbmeofhejaaDoorCards.lean) ties it to the program's text. -/
def laid_math_bits_deBruijn32tab {H : Type} : DataW H := .agg [.lit (.int .u8 0), .lit (.int .u8 1), .lit (.int .u8 28), .lit (.int .u8 2), .lit (.int .u8 29), .lit (.int .u8 14), .lit (.int .u8 24), .lit (.int .u8 3), .lit (.int .u8 30), .lit (.int .u8 22), .lit (.int .u8 20), .lit (.int .u8 15), .lit (.int .u8 25), .lit (.int .u8 17), .lit (.int .u8 4), .lit (.int .u8 8), .lit (.int .u8 31), .lit (.int .u8 27), .lit (.int .u8 13), .lit (.int .u8 23), .lit (.int .u8 21), .lit (.int .u8 19), .lit (.int .u8 16), .lit (.int .u8 7), .lit (.int .u8 26), .lit (.int .u8 12), .lit (.int .u8 18), .lit (.int .u8 6), .lit (.int .u8 11), .lit (.int .u8 5), .lit (.int .u8 10), .lit (.int .u8 9)]
def laid_math_bits_deBruijn64tab {H : Type} : DataW H := .agg [.lit (.int .u8 0), .lit (.int .u8 1), .lit (.int .u8 56), .lit (.int .u8 2), .lit (.int .u8 57), .lit (.int .u8 49), .lit (.int .u8 28), .lit (.int .u8 3), .lit (.int .u8 61), .lit (.int .u8 58), .lit (.int .u8 42), .lit (.int .u8 50), .lit (.int .u8 38), .lit (.int .u8 29), .lit (.int .u8 17), .lit (.int .u8 4), .lit (.int .u8 62), .lit (.int .u8 47), .lit (.int .u8 59), .lit (.int .u8 36), .lit (.int .u8 45), .lit (.int .u8 43), .lit (.int .u8 51), .lit (.int .u8 22), .lit (.int .u8 53), .lit (.int .u8 39), .lit (.int .u8 33), .lit (.int .u8 30), .lit (.int .u8 24), .lit (.int .u8 18), .lit (.int .u8 12), .lit (.int .u8 5), .lit (.int .u8 63), .lit (.int .u8 55), .lit (.int .u8 48), .lit (.int .u8 27), .lit (.int .u8 60), .lit (.int .u8 41), .lit (.int .u8 37), .lit (.int .u8 16), .lit (.int .u8 46), .lit (.int .u8 35), .lit (.int .u8 44), .lit (.int .u8 21), .lit (.int .u8 52), .lit (.int .u8 32), .lit (.int .u8 23), .lit (.int .u8 11), .lit (.int .u8 54), .lit (.int .u8 26), .lit (.int .u8 40), .lit (.int .u8 15), .lit (.int .u8 34), .lit (.int .u8 20), .lit (.int .u8 31), .lit (.int .u8 10), .lit (.int .u8 25), .lit (.int .u8 14), .lit (.int .u8 19), .lit (.int .u8 9), .lit (.int .u8 13), .lit (.int .u8 8), .lit (.int .u8 7), .lit (.int .u8 6)]
def laid_internal_strconv_uint64pow10 {H : Type} : DataW H := .agg [.lit (.int .u64 1), .lit (.int .u64 10), .lit (.int .u64 100), .lit (.int .u64 1000), .lit (.int .u64 10000), .lit (.int .u64 100000), .lit (.int .u64 1000000), .lit (.int .u64 10000000), .lit (.int .u64 100000000), .lit (.int .u64 1000000000), .lit (.int .u64 10000000000), .lit (.int .u64 100000000000), .lit (.int .u64 1000000000000), .lit (.int .u64 10000000000000), .lit (.int .u64 100000000000000), .lit (.int .u64 1000000000000000), .lit (.int .u64 10000000000000000), .lit (.int .u64 100000000000000000), .lit (.int .u64 1000000000000000000), .lit (.int .u64 10000000000000000000)]
def laid_strconv_ErrRange {H : Type} : DataW H := .iface "*errors.errorString" (.ptr (.agg [.lit (.string [118, 97, 108, 117, 101, 32, 111, 117, 116, 32, 111, 102, 32, 114, 97, 110, 103, 101])]))
def laid_strconv_ErrSyntax {H : Type} : DataW H := .iface "*errors.errorString" (.ptr (.agg [.lit (.string [105, 110, 118, 97, 108, 105, 100, 32, 115, 121, 110, 116, 97, 120])]))
def laid_intaglio_verb_one {H : Type} : DataW H := .agg [.lit (.int .i64 1), .lit (.int .i64 1), .lit (.int .i64 1)]
def laid_intaglio_verb_two {H : Type} : DataW H := .agg [.lit (.int .i64 1), .lit (.int .i64 2), .lit (.int .i64 1)]
def laid_intaglio_verb_all {H : Type} : DataW H := .agg [.lit (.int .i64 1), .lit (.int .i64 (-1)), .lit (.int .i64 1)]

/-- 'intagliolaw17.VerbSpecs': WHATEVER THE INPUT: true; the input reads as it did. -/
def verbSpecsSpec : ChangeSpec := { name := "verbSpecs", fn := fun _ => fun
  | [d] => { results := [.lit (.bool true)], args := [d] }
  | _ => none }
def verbSpecsRow : OpenClaim := { program := "ytekofbmeofhejaadoor", sum := "8b438483a61546b8c7557ce9e4930a06b025e479481183228856bcad7bd432cc", func := "intaglio/intagliolaw17.VerbSpecs", spec := "verbSpecs", inPlace := ["internal/bytealg.IndexByteString"], named := ["strconv.ErrSyntax", "strconv.ErrRange", "internal/strconv.uint64pow10", "math/bits.deBruijn32tab", "math/bits.deBruijn64tab", "intaglio/verb.one", "intaglio/verb.all", "intaglio/verb.two"], apart := false, laid := [("math/bits.deBruijn32tab", laid_math_bits_deBruijn32tab), ("math/bits.deBruijn64tab", laid_math_bits_deBruijn64tab), ("internal/strconv.uint64pow10", laid_internal_strconv_uint64pow10), ("strconv.ErrRange", laid_strconv_ErrRange), ("strconv.ErrSyntax", laid_strconv_ErrSyntax), ("intaglio/verb.one", laid_intaglio_verb_one), ("intaglio/verb.two", laid_intaglio_verb_two), ("intaglio/verb.all", laid_intaglio_verb_all)] }
def VerbSpecsSaid : Prop := verbSpecsRow.holds Tryd.pinned (OpenSpec.ofChange verbSpecsSpec)

/-- ITS FALSE NEIGHBOUR: 'it returns false'. Refute it at one input. -/
def verbSpecsWrong : ChangeSpec := { name := "verbSpecs", fn := fun _ => fun
  | [d] => { results := [.lit (.bool false)], args := [d] }
  | _ => none }
def VerbSpecsWrongFalsely : Prop := verbSpecsRow.holds Tryd.pinned (OpenSpec.ofChange verbSpecsWrong)

/-- 'intagliolaw17.VerbInts': WHATEVER THE INPUT: true; the input reads as it did. -/
def verbIntsSpec : ChangeSpec := { name := "verbInts", fn := fun _ => fun
  | [d] => { results := [.lit (.bool true)], args := [d] }
  | _ => none }
def verbIntsRow : OpenClaim := { program := "ytekofbmeofhejaadoor", sum := "8b438483a61546b8c7557ce9e4930a06b025e479481183228856bcad7bd432cc", func := "intaglio/intagliolaw17.VerbInts", spec := "verbInts", inPlace := ["internal/bytealg.IndexByteString"], recurses := true, named := ["strconv.ErrSyntax", "strconv.ErrRange", "internal/strconv.uint64pow10", "math/bits.deBruijn32tab", "math/bits.deBruijn64tab", "intaglio/verb.one", "intaglio/verb.all", "intaglio/verb.two"], apart := false, laid := [("math/bits.deBruijn32tab", laid_math_bits_deBruijn32tab), ("math/bits.deBruijn64tab", laid_math_bits_deBruijn64tab), ("internal/strconv.uint64pow10", laid_internal_strconv_uint64pow10), ("strconv.ErrRange", laid_strconv_ErrRange), ("strconv.ErrSyntax", laid_strconv_ErrSyntax), ("intaglio/verb.one", laid_intaglio_verb_one), ("intaglio/verb.two", laid_intaglio_verb_two), ("intaglio/verb.all", laid_intaglio_verb_all)] }
def VerbIntsSaid : Prop := verbIntsRow.holds Tryd.pinned (OpenSpec.ofChange verbIntsSpec)

/-- ITS FALSE NEIGHBOUR: 'it returns false'. Refute it at one input. -/
def verbIntsWrong : ChangeSpec := { name := "verbInts", fn := fun _ => fun
  | [d] => { results := [.lit (.bool false)], args := [d] }
  | _ => none }
def VerbIntsWrongFalsely : Prop := verbIntsRow.holds Tryd.pinned (OpenSpec.ofChange verbIntsWrong)

/-- 'intagliolaw17.VerbNumbers': WHATEVER THE INPUT: true; the input reads as it did. -/
def verbNumbersSpec : ChangeSpec := { name := "verbNumbers", fn := fun _ => fun
  | [d] => { results := [.lit (.bool true)], args := [d] }
  | _ => none }
def verbNumbersRow : OpenClaim := { program := "ytekofbmeofhejaadoor", sum := "8b438483a61546b8c7557ce9e4930a06b025e479481183228856bcad7bd432cc", func := "intaglio/intagliolaw17.VerbNumbers", spec := "verbNumbers", inPlace := ["internal/bytealg.IndexByteString"], recurses := true, named := ["internal/strconv.uint64pow10", "math/bits.deBruijn32tab", "math/bits.deBruijn64tab", "strconv.ErrSyntax", "strconv.ErrRange", "intaglio/verb.one", "intaglio/verb.all", "intaglio/verb.two"], apart := false, laid := [("math/bits.deBruijn32tab", laid_math_bits_deBruijn32tab), ("math/bits.deBruijn64tab", laid_math_bits_deBruijn64tab), ("internal/strconv.uint64pow10", laid_internal_strconv_uint64pow10), ("strconv.ErrRange", laid_strconv_ErrRange), ("strconv.ErrSyntax", laid_strconv_ErrSyntax), ("intaglio/verb.one", laid_intaglio_verb_one), ("intaglio/verb.two", laid_intaglio_verb_two), ("intaglio/verb.all", laid_intaglio_verb_all)] }
def VerbNumbersSaid : Prop := verbNumbersRow.holds Tryd.pinned (OpenSpec.ofChange verbNumbersSpec)

/-- ITS FALSE NEIGHBOUR: 'it returns false'. Refute it at one input. -/
def verbNumbersWrong : ChangeSpec := { name := "verbNumbers", fn := fun _ => fun
  | [d] => { results := [.lit (.bool false)], args := [d] }
  | _ => none }
def VerbNumbersWrongFalsely : Prop := verbNumbersRow.holds Tryd.pinned (OpenSpec.ofChange verbNumbersWrong)

/-- 'intagliolaw17.VerbMatches': WHATEVER THE INPUT: true; the input reads as it did. -/
def verbMatchesSpec : ChangeSpec := { name := "verbMatches", fn := fun _ => fun
  | [d1, d2] => { results := [.lit (.bool true)], args := [d1, d2] }
  | _ => none }
def verbMatchesRow : OpenClaim := { program := "ytekofbmeofhejaadoor", sum := "8b438483a61546b8c7557ce9e4930a06b025e479481183228856bcad7bd432cc", func := "intaglio/intagliolaw17.VerbMatches", spec := "verbMatches", inPlace := ["internal/bytealg.IndexByteString"], named := ["strconv.ErrSyntax", "strconv.ErrRange", "internal/strconv.uint64pow10", "math/bits.deBruijn32tab", "math/bits.deBruijn64tab", "intaglio/verb.one", "intaglio/verb.all", "intaglio/verb.two"], apart := false, laid := [("math/bits.deBruijn32tab", laid_math_bits_deBruijn32tab), ("math/bits.deBruijn64tab", laid_math_bits_deBruijn64tab), ("internal/strconv.uint64pow10", laid_internal_strconv_uint64pow10), ("strconv.ErrRange", laid_strconv_ErrRange), ("strconv.ErrSyntax", laid_strconv_ErrSyntax), ("intaglio/verb.one", laid_intaglio_verb_one), ("intaglio/verb.two", laid_intaglio_verb_two), ("intaglio/verb.all", laid_intaglio_verb_all)] }
def VerbMatchesSaid : Prop := verbMatchesRow.holds Tryd.pinned (OpenSpec.ofChange verbMatchesSpec)

/-- ITS FALSE NEIGHBOUR: 'it returns false'. Refute it at one input. -/
def verbMatchesWrong : ChangeSpec := { name := "verbMatches", fn := fun _ => fun
  | [d1, d2] => { results := [.lit (.bool false)], args := [d1, d2] }
  | _ => none }
def VerbMatchesWrongFalsely : Prop := verbMatchesRow.holds Tryd.pinned (OpenSpec.ofChange verbMatchesWrong)

/-- 'intagliolaw17.VerbPlain': WHATEVER THE INPUT: true; the input reads as it did. -/
def verbPlainSpec : ChangeSpec := { name := "verbPlain", fn := fun _ => fun
  | [d1, d2] => { results := [.lit (.bool true)], args := [d1, d2] }
  | _ => none }
def verbPlainRow : OpenClaim := { program := "ytekofbmeofhejaadoor", sum := "8b438483a61546b8c7557ce9e4930a06b025e479481183228856bcad7bd432cc", func := "intaglio/intagliolaw17.VerbPlain", spec := "verbPlain", inPlace := ["internal/bytealg.IndexByteString"], named := ["strconv.ErrSyntax", "strconv.ErrRange", "internal/strconv.uint64pow10", "math/bits.deBruijn32tab", "math/bits.deBruijn64tab", "intaglio/verb.one", "intaglio/verb.all", "intaglio/verb.two"], apart := false, laid := [("math/bits.deBruijn32tab", laid_math_bits_deBruijn32tab), ("math/bits.deBruijn64tab", laid_math_bits_deBruijn64tab), ("internal/strconv.uint64pow10", laid_internal_strconv_uint64pow10), ("strconv.ErrRange", laid_strconv_ErrRange), ("strconv.ErrSyntax", laid_strconv_ErrSyntax), ("intaglio/verb.one", laid_intaglio_verb_one), ("intaglio/verb.two", laid_intaglio_verb_two), ("intaglio/verb.all", laid_intaglio_verb_all)] }
def VerbPlainSaid : Prop := verbPlainRow.holds Tryd.pinned (OpenSpec.ofChange verbPlainSpec)

/-- ITS FALSE NEIGHBOUR: 'it returns false'. Refute it at one input. -/
def verbPlainWrong : ChangeSpec := { name := "verbPlain", fn := fun _ => fun
  | [d1, d2] => { results := [.lit (.bool false)], args := [d1, d2] }
  | _ => none }
def VerbPlainWrongFalsely : Prop := verbPlainRow.holds Tryd.pinned (OpenSpec.ofChange verbPlainWrong)

/-- 'intagliolaw17.VerbChecks': WHATEVER THE INPUT: true; the input reads as it did. -/
def verbChecksSpec : ChangeSpec := { name := "verbChecks", fn := fun _ => fun
  | [d] => { results := [.lit (.bool true)], args := [d] }
  | _ => none }
def verbChecksRow : OpenClaim := { program := "ytekofbmeofhejaadoor", sum := "8b438483a61546b8c7557ce9e4930a06b025e479481183228856bcad7bd432cc", func := "intaglio/intagliolaw17.VerbChecks", spec := "verbChecks", inPlace := ["internal/bytealg.IndexByteString"], unfollowed := true, recurses := true, named := ["strconv.ErrSyntax", "strconv.ErrRange", "internal/strconv.uint64pow10", "math/bits.deBruijn32tab", "math/bits.deBruijn64tab", "intaglio/verb.one", "intaglio/verb.all", "intaglio/verb.two"], apart := false, laid := [("math/bits.deBruijn32tab", laid_math_bits_deBruijn32tab), ("math/bits.deBruijn64tab", laid_math_bits_deBruijn64tab), ("internal/strconv.uint64pow10", laid_internal_strconv_uint64pow10), ("strconv.ErrRange", laid_strconv_ErrRange), ("strconv.ErrSyntax", laid_strconv_ErrSyntax), ("intaglio/verb.one", laid_intaglio_verb_one), ("intaglio/verb.two", laid_intaglio_verb_two), ("intaglio/verb.all", laid_intaglio_verb_all)] }
def VerbChecksSaid : Prop := verbChecksRow.holds Tryd.pinned (OpenSpec.ofChange verbChecksSpec)

/-- ITS FALSE NEIGHBOUR: 'it returns false'. Refute it at one input. -/
def verbChecksWrong : ChangeSpec := { name := "verbChecks", fn := fun _ => fun
  | [d] => { results := [.lit (.bool false)], args := [d] }
  | _ => none }
def VerbChecksWrongFalsely : Prop := verbChecksRow.holds Tryd.pinned (OpenSpec.ofChange verbChecksWrong)

/- THE SECOND FORM. 'bulk': how many values and letters a reading holds, each counted each time it is reached (what is shared counts as often as it is met; a slice's spare places count too). A statement '..UptoSaid' is the law's where the arguments, and the package variables that the reading takes, are together of bulk at most 1048576: NARROWER than '..Said'. Prove '..Said' where nothing that the law and all that it calls make is longer than what came in: it says more and counts as full. Else prove '..UptoSaid'. A law counts once. -/
mutual
def uptoBulk {H : Type} : DataW H → Nat
  | .lit (.string bytes) => bytes.length + 1
  | .lit _ => 1
  | .nil => 1
  | .ptr d => uptoBulk d + 1
  | .slice elems spare => uptoBulkAll elems + uptoBulkAll spare + 1
  | .agg parts => uptoBulkAll parts + 1
  | .iface _ d => uptoBulk d + 1
  | .map entries => uptoBulkEntries entries + 1
  | .held _ => 1
def uptoBulkAll {H : Type} : List (DataW H) → Nat
  | [] => 0
  | d :: r => uptoBulk d + uptoBulkAll r
def uptoBulkEntries {H : Type} : List (Lit × DataW H) → Nat
  | [] => 0
  | x :: r => uptoBulkEntry x + uptoBulkEntries r
def uptoBulkEntry {H : Type} : Lit × DataW H → Nat
  | (.string bytes, d) => bytes.length + uptoBulk d + 1
  | (_, d) => uptoBulk d + 1
 end
def uptoSmall : (H : Type) → List (DataW H) → Bool := fun _ ds => decide (uptoBulkAll ds ≤ 1048576)
def OpenSpec.upto (s : _root_.Go.ChangeSpec) : _root_.Go.OpenSpec := { _root_.Go.OpenSpec.ofChange s with cond := some uptoSmall }

/-- 'intagliolaw17.VerbSpecs', WHERE WHAT IT READS IS OF BULK AT MOST 1048576: true; the input reads as it did. -/
def verbSpecsUptoRow : OpenClaim := { program := "ytekofbmeofhejaadoor", sum := "8b438483a61546b8c7557ce9e4930a06b025e479481183228856bcad7bd432cc", func := "intaglio/intagliolaw17.VerbSpecs", spec := "verbSpecs", inPlace := ["internal/bytealg.IndexByteString"], named := ["strconv.ErrSyntax", "strconv.ErrRange", "internal/strconv.uint64pow10", "math/bits.deBruijn32tab", "math/bits.deBruijn64tab", "intaglio/verb.one", "intaglio/verb.all", "intaglio/verb.two"], apart := false, laid := [("math/bits.deBruijn32tab", laid_math_bits_deBruijn32tab), ("math/bits.deBruijn64tab", laid_math_bits_deBruijn64tab), ("internal/strconv.uint64pow10", laid_internal_strconv_uint64pow10), ("strconv.ErrRange", laid_strconv_ErrRange), ("strconv.ErrSyntax", laid_strconv_ErrSyntax), ("intaglio/verb.one", laid_intaglio_verb_one), ("intaglio/verb.two", laid_intaglio_verb_two), ("intaglio/verb.all", laid_intaglio_verb_all)], narrowed := true }
def VerbSpecsUptoSaid : Prop := verbSpecsUptoRow.holds Tryd.pinned (OpenSpec.upto verbSpecsSpec)

/-- 'intagliolaw17.VerbInts', WHERE WHAT IT READS IS OF BULK AT MOST 1048576: true; the input reads as it did. -/
def verbIntsUptoRow : OpenClaim := { program := "ytekofbmeofhejaadoor", sum := "8b438483a61546b8c7557ce9e4930a06b025e479481183228856bcad7bd432cc", func := "intaglio/intagliolaw17.VerbInts", spec := "verbInts", inPlace := ["internal/bytealg.IndexByteString"], recurses := true, named := ["strconv.ErrSyntax", "strconv.ErrRange", "internal/strconv.uint64pow10", "math/bits.deBruijn32tab", "math/bits.deBruijn64tab", "intaglio/verb.one", "intaglio/verb.all", "intaglio/verb.two"], apart := false, laid := [("math/bits.deBruijn32tab", laid_math_bits_deBruijn32tab), ("math/bits.deBruijn64tab", laid_math_bits_deBruijn64tab), ("internal/strconv.uint64pow10", laid_internal_strconv_uint64pow10), ("strconv.ErrRange", laid_strconv_ErrRange), ("strconv.ErrSyntax", laid_strconv_ErrSyntax), ("intaglio/verb.one", laid_intaglio_verb_one), ("intaglio/verb.two", laid_intaglio_verb_two), ("intaglio/verb.all", laid_intaglio_verb_all)], narrowed := true }
def VerbIntsUptoSaid : Prop := verbIntsUptoRow.holds Tryd.pinned (OpenSpec.upto verbIntsSpec)

/-- 'intagliolaw17.VerbNumbers', WHERE WHAT IT READS IS OF BULK AT MOST 1048576: true; the input reads as it did. -/
def verbNumbersUptoRow : OpenClaim := { program := "ytekofbmeofhejaadoor", sum := "8b438483a61546b8c7557ce9e4930a06b025e479481183228856bcad7bd432cc", func := "intaglio/intagliolaw17.VerbNumbers", spec := "verbNumbers", inPlace := ["internal/bytealg.IndexByteString"], recurses := true, named := ["internal/strconv.uint64pow10", "math/bits.deBruijn32tab", "math/bits.deBruijn64tab", "strconv.ErrSyntax", "strconv.ErrRange", "intaglio/verb.one", "intaglio/verb.all", "intaglio/verb.two"], apart := false, laid := [("math/bits.deBruijn32tab", laid_math_bits_deBruijn32tab), ("math/bits.deBruijn64tab", laid_math_bits_deBruijn64tab), ("internal/strconv.uint64pow10", laid_internal_strconv_uint64pow10), ("strconv.ErrRange", laid_strconv_ErrRange), ("strconv.ErrSyntax", laid_strconv_ErrSyntax), ("intaglio/verb.one", laid_intaglio_verb_one), ("intaglio/verb.two", laid_intaglio_verb_two), ("intaglio/verb.all", laid_intaglio_verb_all)], narrowed := true }
def VerbNumbersUptoSaid : Prop := verbNumbersUptoRow.holds Tryd.pinned (OpenSpec.upto verbNumbersSpec)

/-- 'intagliolaw17.VerbMatches', WHERE WHAT IT READS IS OF BULK AT MOST 1048576: true; the input reads as it did. -/
def verbMatchesUptoRow : OpenClaim := { program := "ytekofbmeofhejaadoor", sum := "8b438483a61546b8c7557ce9e4930a06b025e479481183228856bcad7bd432cc", func := "intaglio/intagliolaw17.VerbMatches", spec := "verbMatches", inPlace := ["internal/bytealg.IndexByteString"], named := ["strconv.ErrSyntax", "strconv.ErrRange", "internal/strconv.uint64pow10", "math/bits.deBruijn32tab", "math/bits.deBruijn64tab", "intaglio/verb.one", "intaglio/verb.all", "intaglio/verb.two"], apart := false, laid := [("math/bits.deBruijn32tab", laid_math_bits_deBruijn32tab), ("math/bits.deBruijn64tab", laid_math_bits_deBruijn64tab), ("internal/strconv.uint64pow10", laid_internal_strconv_uint64pow10), ("strconv.ErrRange", laid_strconv_ErrRange), ("strconv.ErrSyntax", laid_strconv_ErrSyntax), ("intaglio/verb.one", laid_intaglio_verb_one), ("intaglio/verb.two", laid_intaglio_verb_two), ("intaglio/verb.all", laid_intaglio_verb_all)], narrowed := true }
def VerbMatchesUptoSaid : Prop := verbMatchesUptoRow.holds Tryd.pinned (OpenSpec.upto verbMatchesSpec)

/-- 'intagliolaw17.VerbPlain', WHERE WHAT IT READS IS OF BULK AT MOST 1048576: true; the input reads as it did. -/
def verbPlainUptoRow : OpenClaim := { program := "ytekofbmeofhejaadoor", sum := "8b438483a61546b8c7557ce9e4930a06b025e479481183228856bcad7bd432cc", func := "intaglio/intagliolaw17.VerbPlain", spec := "verbPlain", inPlace := ["internal/bytealg.IndexByteString"], named := ["strconv.ErrSyntax", "strconv.ErrRange", "internal/strconv.uint64pow10", "math/bits.deBruijn32tab", "math/bits.deBruijn64tab", "intaglio/verb.one", "intaglio/verb.all", "intaglio/verb.two"], apart := false, laid := [("math/bits.deBruijn32tab", laid_math_bits_deBruijn32tab), ("math/bits.deBruijn64tab", laid_math_bits_deBruijn64tab), ("internal/strconv.uint64pow10", laid_internal_strconv_uint64pow10), ("strconv.ErrRange", laid_strconv_ErrRange), ("strconv.ErrSyntax", laid_strconv_ErrSyntax), ("intaglio/verb.one", laid_intaglio_verb_one), ("intaglio/verb.two", laid_intaglio_verb_two), ("intaglio/verb.all", laid_intaglio_verb_all)], narrowed := true }
def VerbPlainUptoSaid : Prop := verbPlainUptoRow.holds Tryd.pinned (OpenSpec.upto verbPlainSpec)

/-- 'intagliolaw17.VerbChecks', WHERE WHAT IT READS IS OF BULK AT MOST 1048576: true; the input reads as it did. -/
def verbChecksUptoRow : OpenClaim := { program := "ytekofbmeofhejaadoor", sum := "8b438483a61546b8c7557ce9e4930a06b025e479481183228856bcad7bd432cc", func := "intaglio/intagliolaw17.VerbChecks", spec := "verbChecks", inPlace := ["internal/bytealg.IndexByteString"], unfollowed := true, recurses := true, named := ["strconv.ErrSyntax", "strconv.ErrRange", "internal/strconv.uint64pow10", "math/bits.deBruijn32tab", "math/bits.deBruijn64tab", "intaglio/verb.one", "intaglio/verb.all", "intaglio/verb.two"], apart := false, laid := [("math/bits.deBruijn32tab", laid_math_bits_deBruijn32tab), ("math/bits.deBruijn64tab", laid_math_bits_deBruijn64tab), ("internal/strconv.uint64pow10", laid_internal_strconv_uint64pow10), ("strconv.ErrRange", laid_strconv_ErrRange), ("strconv.ErrSyntax", laid_strconv_ErrSyntax), ("intaglio/verb.one", laid_intaglio_verb_one), ("intaglio/verb.two", laid_intaglio_verb_two), ("intaglio/verb.all", laid_intaglio_verb_all)], narrowed := true }
def VerbChecksUptoSaid : Prop := verbChecksUptoRow.holds Tryd.pinned (OpenSpec.upto verbChecksSpec)

end Rows
end Go.Proofs.YtekofbmeofhejaaDoor
