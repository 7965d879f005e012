/- Plain models of Go functions (KeysIds). -/
import Derived.Test.YtcpddgjmopdlbaaExt
import Derived.Test.YtcpddgjmopdlbaaMAwake
import Derived.Test.YtcpddgjmopdlbaaMBytes
import Derived.Test.YtcpddgjmopdlbaaMKeys
import Derived.Test.YtcpddgjmopdlbaaMRKeys
namespace Go.Proofs.Ytcpddgjmopdlbaa
open Go Go.Lift
set_option maxRecDepth 100000
set_option maxHeartbeats 4000000
set_option linter.unusedVariables false

def intagliolaw07_KeysIds_M (p0_0 : Int) (p0_1 : Int) (p0_2 : Int) (p0_3 : Int) (p0_4 : Int) (p0_5 : Int) : Option (Bool) :=
  Option.bind (keys_Valid_M p0_0 p0_1 p0_2 p0_3 p0_4 p0_5) fun v20 =>
  Option.bind (intaglioref07_Valid_M p0_0 p0_1 p0_2 p0_3 p0_4 p0_5) fun v22 =>
  if (v20 == v22) = true then
    Option.bind (keys_Bytes_M p0_0 p0_1 p0_2 p0_3 p0_4 p0_5) fun v25 =>
    Option.bind (intaglioref07_Bytes_M p0_0 p0_1 p0_2 p0_3 p0_4 p0_5) fun v29 =>
    Option.bind (bytes_Equal_M v25 v29) fun v33 =>
    if v33 = true then
      Option.bind intagliolaw07_awake_M fun v36 =>
      some v36
    else
      some false
  else
    some false

end Go.Proofs.Ytcpddgjmopdlbaa
