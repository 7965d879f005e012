/- Plain models of Go functions (RParse). -/
import Derived.Test.YtcpddgjmopdlbaaExt
import Derived.Test.YtcpddgjmopdlbaaMIn
import Derived.Test.YtcpddgjmopdlbaaMRKeys
import Derived.Test.YtcpddgjmopdlbaaMRef
namespace Go.Proofs.Ytcpddgjmopdlbaa
open Go Go.Lift
set_option maxRecDepth 100000
set_option maxHeartbeats 4000000
set_option linter.unusedVariables false

def intaglioref07_Same_L1 (p0 : List Int) (p1 : List Int) (x30 : Int) : Option (Int ⊕ (Unit ⊕ Bool)) :=
  if (decide (x30 < (p0.length : Int))) = true then
    Option.bind (ix p0 x30) fun y43 =>
    Option.bind (ix p1 x30) fun y48 =>
    if (y43 != y48) = true then
      some (.inr (.inr false))
    else
      some (.inl (IntKind.i64.wrap (x30 + 1)))
  else
    some (.inr (.inl ()))

def intaglioref07_Same_J1 : Option (Bool) :=
  some true

def intaglioref07_Same_M (p0 : List Int) (p1 : List Int) : Option (Bool) :=
  if ((p0.length : Int) != (p1.length : Int)) = true then
    some false
  else
    Option.bind (loop (fun (s : Int) => intaglioref07_Same_L1 p0 p1 s) 0) (fun r => match r with | .inl _ => intaglioref07_Same_J1 | .inr q55 => some q55)

def intaglioref07_Parse_M (p0 : List Int) : Option ((Int × Int × Int × Int × Int × Int × Bool)) :=
  Option.bind (intaglioref01_Both_M [] p0) fun v2 =>
  Option.bind (intaglioref01_In_Num_M v2 0 1099511627776) fun (v8, v9, v12) =>
  Option.bind (intaglioref01_In_Num_M v9 v12 1099511627776) fun (v14, v15, v18) =>
  Option.bind (intaglioref01_In_Num_M v15 v18 1099511627776) fun (v20, v21, v24) =>
  Option.bind (intaglioref01_In_Num_M v21 v24 1099511627776) fun (v26, v27, v30) =>
  Option.bind (intaglioref01_In_Num_M v27 v30 1099511627776) fun (v32, v33, v36) =>
  Option.bind (intaglioref01_In_Num_M v33 v36 1099511627776) fun (v38, v39, v42) =>
  Option.bind (intaglioref07_Valid_M v8 v14 v20 v26 v32 v38) fun v44 =>
  if (!v44) = true then
    some (0, 0, 0, 0, 0, 0, false)
  else
    Option.bind (intaglioref07_Bytes_M v8 v14 v20 v26 v32 v38) fun v47 =>
    Option.bind (intaglioref07_Same_M v47 p0) fun v51 =>
    if (!v51) = true then
      some (0, 0, 0, 0, 0, 0, false)
    else
      some (v8, v14, v20, v26, v32, v38, true)

end Go.Proofs.Ytcpddgjmopdlbaa
