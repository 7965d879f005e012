/- Plain models of Go functions (Awake). -/
import Derived.Test.YtcpddgjmopdlbaaExt
import Derived.Test.YtcpddgjmopdlbaaMKeys
namespace Go.Proofs.Ytcpddgjmopdlbaa
open Go Go.Lift
set_option maxRecDepth 100000
set_option maxHeartbeats 4000000
set_option linter.unusedVariables false

def intagliolaw07_awake_M : Option (Bool) :=
  Option.bind (keys_Bytes_M 3 0 2 0 0 0) fun v1 =>
  if ((v1.length : Int) == 48) = true then
    Option.bind (ix v1 7) fun y6 =>
    if (y6 == 3) = true then
      Option.bind (ix v1 23) fun y12 =>
      some (y12 == 2)
    else
      some false
  else
    some false

end Go.Proofs.Ytcpddgjmopdlbaa
