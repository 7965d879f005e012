/- Plain models of Go functions (PackOrder). -/
import Derived.Test.YtknkonhdbmeolaaExt
import Derived.Test.YtknkonhdbmeolaaMAwake
import Derived.Test.YtknkonhdbmeolaaMCmp
import Derived.Test.YtknkonhdbmeolaaMPut
namespace Go.Proofs.Ytknkonhdbmeolaa
open Go Go.Lift
set_option maxRecDepth 100000
set_option maxHeartbeats 4000000
set_option linter.unusedVariables false

def intagliolaw01_PackOrder_J1 (p0 : Int) (x26 : Bool) : Option (Bool) :=
  if x26 = true then
    Option.bind (pack_PutLe64_M [] p0) fun v29 =>
    Option.bind (pack_Le64_M v29 0) fun v33 =>
    if (v33 == p0) = true then
      Option.bind (pack_PutLe32_M [7] (IntKind.u32.wrap (p0))) fun v38 =>
      Option.bind (pack_Le32_M v38 1) fun v42 =>
      if (v42 == (IntKind.u32.wrap (p0))) = true then
        Option.bind intagliolaw01_awake_M fun v45 =>
        some v45
      else
        some false
    else
      some false
  else
    some false

def intagliolaw01_PackOrder_M (p0 : Int) (p1 : Int) : Option (Bool) :=
  Option.bind (pack_Put64_M [] p0) fun v1 =>
  Option.bind (pack_Put64_M [] p1) fun v5 =>
  Option.bind (bytes_Compare_M v1 v5) fun v9 =>
  Option.bind (cmp_Compare_uint64_M p0 p1) fun v11 =>
  if (v9 == v11) = true then
    Option.bind (pack_Put32_M [] (IntKind.u32.wrap (p0))) fun v14 =>
    Option.bind (pack_Put32_M [] (IntKind.u32.wrap (p1))) fun v18 =>
    Option.bind (bytes_Compare_M v14 v18) fun v22 =>
    Option.bind (cmp_Compare_uint32_M (IntKind.u32.wrap (p0)) (IntKind.u32.wrap (p1))) fun v24 =>
    intagliolaw01_PackOrder_J1 p0 (v22 == v24)
  else
    intagliolaw01_PackOrder_J1 p0 false

end Go.Proofs.Ytknkonhdbmeolaa
