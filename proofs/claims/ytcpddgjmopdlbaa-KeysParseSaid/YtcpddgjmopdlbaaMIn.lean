/- Plain models of Go functions (In). -/
import Derived.Test.YtcpddgjmopdlbaaExt
namespace Go.Proofs.Ytcpddgjmopdlbaa
open Go Go.Lift
set_option maxRecDepth 100000
set_option maxHeartbeats 4000000
set_option linter.unusedVariables false

def intaglioref01_In_fail_M (p0_0 : List Int) (p0_1 : Int) (p1 : Int) : Option (((List Int) × Int)) :=
  if (p0_1 == 0) = true then
    some ([], p1)
  else
    some ([], p0_1)

def intaglioref01_In_U_L1 (p0_0 : List Int) (p1 : Int) (x20 : Int) (x21 : Int) : Option ((Int × Int) ⊕ Int) :=
  if (decide (x21 < p1)) = true then
    Option.bind (ix p0_0 x21) fun y24 =>
    some (.inl ((IntKind.u64.wrap ((IntKind.u64.wrap (256 * x20)) + (IntKind.u64.wrap (y24)))), (IntKind.i64.wrap (x21 + 1))))
  else
    some (.inr x20)

def intaglioref01_In_U_J1 (p0_0 : List Int) (p0_1 : Int) (p1 : Int) (x29 : Int) : Option ((Int × (List Int) × Int)) :=
  Option.bind (sub p0_0 p1 (p0_0.length : Int)) fun y31 =>
  some (x29, y31, p0_1)

def intaglioref01_In_U_M (p0_0 : List Int) (p0_1 : Int) (p1 : Int) : Option ((Int × (List Int) × Int)) :=
  if (decide ((p0_0.length : Int) < p1)) = true then
    Option.bind (intaglioref01_In_fail_M p0_0 p0_1 4) fun (v2, v5) =>
    some (0, v2, v5)
  else
    Option.bind (loop (fun (s : (Int × Int)) => intaglioref01_In_U_L1 p0_0 p1 s.1 s.2) (0, 0)) (fun q36 => intaglioref01_In_U_J1 p0_0 p0_1 p1 q36)

def intaglioref01_In_Num_M (p0_0 : List Int) (p0_1 : Int) (p1 : Int) : Option ((Int × (List Int) × Int)) :=
  Option.bind (intaglioref01_In_U_M p0_0 p0_1 8) fun (v1, v2, v5) =>
  if (v5 == 0) = true then
    if (decide (v1 ≥ 9223372036854775808)) = true then
      Option.bind (intaglioref01_In_fail_M v2 v5 5) fun (v9, v12) =>
      some (0, v9, v12)
    else
      if (decide ((IntKind.i64.wrap (v1)) > p1)) = true then
        Option.bind (intaglioref01_In_fail_M v2 v5 5) fun (v15, v18) =>
        some (0, v15, v18)
      else
        some ((IntKind.i64.wrap (v1)), v2, v5)
  else
    some ((IntKind.i64.wrap (v1)), v2, v5)

end Go.Proofs.Ytcpddgjmopdlbaa
