/- Plain models of Go functions (KeysNext). -/
import Derived.Test.YtcpddgjmopdlbaaExt
import Derived.Test.YtcpddgjmopdlbaaMAwake
import Derived.Test.YtcpddgjmopdlbaaMNext
namespace Go.Proofs.Ytcpddgjmopdlbaa
open Go Go.Lift
set_option maxRecDepth 100000
set_option maxHeartbeats 4000000
set_option linter.unusedVariables false

def intagliolaw07_KeysNext_J1 (x20 : Bool) : Option (Bool) :=
  some x20

def intagliolaw07_KeysNext_M (p0 : Int) (p1 : Int) : Option (Bool) :=
  Option.bind (keys_Next_M p0 p1) fun (v1, v2) =>
  if (decide (p0 < 0)) = true then
    if (v1 == 0) = true then
      if (v2 == 1) = true then
        Option.bind intagliolaw07_awake_M fun v7 =>
        some v7
      else
        some false
    else
      some false
  else
    if (decide (p0 ≥ p1)) = true then
      if (v1 == 0) = true then
        if (v2 == 7) = true then
          Option.bind intagliolaw07_awake_M fun v12 =>
          some v12
        else
          some false
      else
        some false
    else
      if (v2 == 0) = true then
        if ((IntKind.i64.wrap (v1 - 1)) == p0) = true then
          if (decide (v1 > p0)) = true then
            if (decide (v1 ≤ p1)) = true then
              Option.bind intagliolaw07_awake_M fun v18 =>
              intagliolaw07_KeysNext_J1 v18
            else
              intagliolaw07_KeysNext_J1 false
          else
            intagliolaw07_KeysNext_J1 false
        else
          intagliolaw07_KeysNext_J1 false
      else
        intagliolaw07_KeysNext_J1 false

end Go.Proofs.Ytcpddgjmopdlbaa
