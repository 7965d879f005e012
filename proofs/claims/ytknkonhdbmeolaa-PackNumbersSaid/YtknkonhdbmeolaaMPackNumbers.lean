/- Plain models of Go functions (PackNumbers). -/
import Derived.Test.YtknkonhdbmeolaaMore
import Derived.Test.YtknkonhdbmeolaaMAwake
import Derived.Test.YtknkonhdbmeolaaMBytes
import Derived.Test.YtknkonhdbmeolaaMPut
import Derived.Test.YtknkonhdbmeolaaMRef
namespace Go.Proofs.Ytknkonhdbmeolaa
open Go Go.Lift
set_option maxRecDepth 100000
set_option maxHeartbeats 4000000
set_option linter.unusedVariables false

def intagliolaw01_PackNumbers_J2 (p0 : List Int) (v4 : List Int) (x107 : Bool) : Option (Bool) :=
  if x107 = true then
    Option.bind (bytes_Equal_M p0 v4) fun v131 =>
    if v131 = true then
      Option.bind intagliolaw01_awake_M fun v134 =>
      some v134
    else
      some false
  else
    some false

def intagliolaw01_PackNumbers_J1 (p0 : List Int) (p1 : Int) (v4 : List Int) (x42 : Bool) : Option (Bool) :=
  if x42 = true then
    Option.bind (pack_PutLe32_M p0 (IntKind.u32.wrap (p1))) fun v76 =>
    Option.bind (intaglioref01_Low_M (IntKind.u64.wrap ((IntKind.u32.wrap (p1)))) 4) fun v80 =>
    Option.bind (intaglioref01_Both_M v4 v80) fun v84 =>
    Option.bind (bytes_Equal_M v76 v84) fun v88 =>
    if v88 = true then
      Option.bind (pack_PutLe64_M p0 p1) fun v91 =>
      Option.bind (intaglioref01_Low_M p1 8) fun v95 =>
      Option.bind (intaglioref01_Both_M v4 v95) fun v99 =>
      Option.bind (bytes_Equal_M v91 v99) fun v103 =>
      intagliolaw01_PackNumbers_J2 p0 v4 v103
    else
      intagliolaw01_PackNumbers_J2 p0 v4 false
  else
    intagliolaw01_PackNumbers_J2 p0 v4 false

def intagliolaw01_PackNumbers_M (p0 : List Int) (p1 : Int) (p2 : Int) : Option (Bool) :=
  if (decide ((p0.length : Int) > 5000)) = true then
    Option.bind intagliolaw01_awake_M fun v2 =>
    some v2
  else
    Option.bind (bytes_Clone_M p0) fun v4 =>
    Option.bind (pack_Put32_M p0 (IntKind.u32.wrap (p1))) fun v8 =>
    Option.bind (intaglioref01_Put32_M v4 (IntKind.u32.wrap (p1))) fun v12 =>
    Option.bind (bytes_Equal_M v8 v12) fun v16 =>
    if v16 = true then
      Option.bind (pack_Put64_M p0 p1) fun v19 =>
      Option.bind (intaglioref01_Put64_M v4 p1) fun v23 =>
      Option.bind (bytes_Equal_M v19 v23) fun v27 =>
      if v27 = true then
        Option.bind (pack_PutNum_M p0 p2) fun v30 =>
        Option.bind (intaglioref01_PutNum_M v4 p2) fun v34 =>
        Option.bind (bytes_Equal_M v30 v34) fun v38 =>
        intagliolaw01_PackNumbers_J1 p0 p1 v4 v38
      else
        intagliolaw01_PackNumbers_J1 p0 p1 v4 false
    else
      intagliolaw01_PackNumbers_J1 p0 p1 v4 false

end Go.Proofs.Ytknkonhdbmeolaa
