/- Plain models of Go functions (Awake). -/
import Derived.Test.YtknkonhdbmeolaaExt
import Derived.Test.YtknkonhdbmeolaaMBytes
import Derived.Test.YtknkonhdbmeolaaMPut
namespace Go.Proofs.Ytknkonhdbmeolaa
open Go Go.Lift
set_option maxRecDepth 100000
set_option maxHeartbeats 4000000
set_option linter.unusedVariables false

def intagliolaw01_awake_M : Option (Bool) :=
  Option.bind (pack_Put_M [] [97, 98]) fun v3 =>
  Option.bind (bytes_Equal_M v3 [0, 0, 0, 2, 97, 98]) fun v9 =>
  if v9 = true then
    Option.bind (pack_Le32_M [1, 2] 0) fun v14 =>
    some (v14 == 513)
  else
    some false

end Go.Proofs.Ytknkonhdbmeolaa
