/- Plain models of Go functions (KeysUnlike). -/
import Derived.Test.YtcpddgjmopdlbaaExt
import Derived.Test.YtcpddgjmopdlbaaMAwake
import Derived.Test.YtcpddgjmopdlbaaMBytes
import Derived.Test.YtcpddgjmopdlbaaMKeys
import Derived.Test.YtcpddgjmopdlbaaMParse
namespace Go.Proofs.Ytcpddgjmopdlbaa
open Go Go.Lift
set_option maxRecDepth 100000
set_option maxHeartbeats 4000000
set_option linter.unusedVariables false

def intagliolaw07_KeysUnlike_M (p0_0 : Int) (p0_1 : Int) (p0_2 : Int) (p0_3 : Int) (p0_4 : Int) (p0_5 : Int) (p1_0 : Int) (p1_1 : Int) (p1_2 : Int) (p1_3 : Int) (p1_4 : Int) (p1_5 : Int) : Option (Bool) :=
  Option.bind (keys_Valid_M p0_0 p0_1 p0_2 p0_3 p0_4 p0_5) fun v3 =>
  if (!v3) = true then
    Option.bind intagliolaw07_awake_M fun v8 =>
    some v8
  else
    Option.bind (keys_Valid_M p1_0 p1_1 p1_2 p1_3 p1_4 p1_5) fun v6 =>
    if (!v6) = true then
      Option.bind intagliolaw07_awake_M fun v11 =>
      some v11
    else
      Option.bind (keys_Bytes_M p0_0 p0_1 p0_2 p0_3 p0_4 p0_5) fun v13 =>
      Option.bind (keys_Parse_M v13) fun (v17, v18, v19, v20, v21, v22, v23) =>
      if v23 = true then
        if ((v17 == p0_0) && ((v18 == p0_1) && ((v19 == p0_2) && ((v20 == p0_3) && ((v21 == p0_4) && ((v22 == p0_5) && true)))))) = true then
          Option.bind (keys_Bytes_M p0_0 p0_1 p0_2 p0_3 p0_4 p0_5) fun v43 =>
          Option.bind (keys_Bytes_M p1_0 p1_1 p1_2 p1_3 p1_4 p1_5) fun v47 =>
          Option.bind (bytes_Equal_M v43 v47) fun v51 =>
          if (v51 == ((p0_0 == p1_0) && ((p0_1 == p1_1) && ((p0_2 == p1_2) && ((p0_3 == p1_3) && ((p0_4 == p1_4) && ((p0_5 == p1_5) && true))))))) = true then
            Option.bind intagliolaw07_awake_M fun v54 =>
            some v54
          else
            some false
        else
          some false
      else
        some false

end Go.Proofs.Ytcpddgjmopdlbaa
