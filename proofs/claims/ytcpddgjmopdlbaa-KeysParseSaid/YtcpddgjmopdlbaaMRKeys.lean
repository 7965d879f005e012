/- Plain models of Go functions (RKeys). -/
import Derived.Test.YtcpddgjmopdlbaaExt
import Derived.Test.YtcpddgjmopdlbaaMRef
namespace Go.Proofs.Ytcpddgjmopdlbaa
open Go Go.Lift
set_option maxRecDepth 100000
set_option maxHeartbeats 4000000
set_option linter.unusedVariables false

def intaglioref07_in_M (p0 : Int) : Option (Bool) :=
  if (decide (p0 ≥ 0)) = true then
    some (decide (p0 ≤ 1099511627776))
  else
    some false

def intaglioref07_Valid_J1 (x17 : Bool) : Option (Bool) :=
  some x17

def intaglioref07_Valid_M (p0_0 : Int) (p0_1 : Int) (p0_2 : Int) (p0_3 : Int) (p0_4 : Int) (p0_5 : Int) : Option (Bool) :=
  if (decide (p0_0 ≥ 1)) = true then
    if (decide (p0_0 ≤ 6)) = true then
      Option.bind (intaglioref07_in_M p0_1) fun v4 =>
      if v4 = true then
        Option.bind (intaglioref07_in_M p0_2) fun v7 =>
        if v7 = true then
          Option.bind (intaglioref07_in_M p0_3) fun v10 =>
          if v10 = true then
            Option.bind (intaglioref07_in_M p0_5) fun v13 =>
            if v13 = true then
              if (p0_4 == 0) = true then
                intaglioref07_Valid_J1 true
              else
                intaglioref07_Valid_J1 (p0_4 == 1)
            else
              intaglioref07_Valid_J1 false
          else
            intaglioref07_Valid_J1 false
        else
          intaglioref07_Valid_J1 false
      else
        intaglioref07_Valid_J1 false
    else
      intaglioref07_Valid_J1 false
  else
    intaglioref07_Valid_J1 false

def intaglioref07_Bytes_M (p0_0 : Int) (p0_1 : Int) (p0_2 : Int) (p0_3 : Int) (p0_4 : Int) (p0_5 : Int) : Option (List Int) :=
  Option.bind (intaglioref07_Valid_M p0_0 p0_1 p0_2 p0_3 p0_4 p0_5) fun v2 =>
  if (!v2) = true then
    some []
  else
    Option.bind (intaglioref01_PutNum_M [] p0_0) fun v5 =>
    Option.bind (intaglioref01_PutNum_M v5 p0_1) fun v9 =>
    Option.bind (intaglioref01_PutNum_M v9 p0_2) fun v13 =>
    Option.bind (intaglioref01_PutNum_M v13 p0_3) fun v17 =>
    Option.bind (intaglioref01_PutNum_M v17 p0_4) fun v21 =>
    Option.bind (intaglioref01_PutNum_M v21 p0_5) fun v25 =>
    some v25

end Go.Proofs.Ytcpddgjmopdlbaa
