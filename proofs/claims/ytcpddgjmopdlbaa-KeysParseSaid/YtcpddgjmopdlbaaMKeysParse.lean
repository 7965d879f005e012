/- Plain models of Go functions (KeysParse). -/
import Derived.Test.YtcpddgjmopdlbaaExt
import Derived.Test.YtcpddgjmopdlbaaMAwake
import Derived.Test.YtcpddgjmopdlbaaMParse
import Derived.Test.YtcpddgjmopdlbaaMRParse
namespace Go.Proofs.Ytcpddgjmopdlbaa
open Go Go.Lift
set_option maxRecDepth 100000
set_option maxHeartbeats 4000000
set_option linter.unusedVariables false

def intagliolaw07_KeysParse_M (p0 : List Int) : Option (Bool) :=
  if (decide ((p0.length : Int) > 200)) = true then
    Option.bind intagliolaw07_awake_M fun v2 =>
    some v2
  else
    Option.bind (keys_Parse_M p0) fun (v4, v5, v6, v7, v8, v9, v10) =>
    Option.bind (intaglioref07_Parse_M p0) fun (v13, v14, v15, v16, v17, v18, v19) =>
    if ((v4 == v13) && ((v5 == v14) && ((v6 == v15) && ((v7 == v16) && ((v8 == v17) && ((v9 == v18) && true)))))) = true then
      if (v10 == v19) = true then
        Option.bind intagliolaw07_awake_M fun v24 =>
        some v24
      else
        some false
    else
      some false

end Go.Proofs.Ytcpddgjmopdlbaa
