/- Plain models of Go functions (PackBack). -/
import Derived.Test.YtknkonhdbmeolaaMore
import Derived.Test.YtknkonhdbmeolaaMAwake
import Derived.Test.YtknkonhdbmeolaaMBytes
import Derived.Test.YtknkonhdbmeolaaMPut
import Derived.Test.YtknkonhdbmeolaaMReader
namespace Go.Proofs.Ytknkonhdbmeolaa
open Go Go.Lift
set_option maxRecDepth 100000
set_option maxHeartbeats 4000000
set_option linter.unusedVariables false

def intagliolaw01_PackBack_J1 (x91 : Bool) : Option (Bool) :=
  some x91

def intagliolaw01_PackBack_M (p0 : Int) (p1 : List Int) (p2 : Int) : Option (Bool) :=
  if (decide ((p1.length : Int) > 5000)) = true then
    Option.bind intagliolaw01_awake_M fun v2 =>
    some v2
  else
    Option.bind (pack_PutNum_M [] p0) fun v4 =>
    Option.bind (pack_Put_M v4 p1) fun v8 =>
    Option.bind (pack_Put64_M v8 p2) fun v12 =>
    Option.bind (pack_Join_M [v12, p1]) fun v19 =>
    Option.bind (pack_Read_M v19) fun (v24, v27, v28) =>
    Option.bind (pack_Reader_Num_M v24 v27 v28 (if 0 > p0 then 0 else p0)) fun (v30, v31, v34, v35) =>
    if (v30 == (if 0 > p0 then 0 else p0)) = true then
      Option.bind (pack_Reader_Bytes_M v31 v34 v35 (p1.length : Int)) fun (v38, v41, v44, v45) =>
      Option.bind (bytes_Equal_M v38 p1) fun v47 =>
      if v47 = true then
        Option.bind (pack_Reader_U64_M v41 v44 v45) fun (v50, v51, v54, v55) =>
        if (v50 == p2) = true then
          Option.bind (pack_Reader_Err_M v51 v54 v55) fun (v58, v59, v62, v63) =>
          if (v58 == 0) = true then
            Option.bind (pack_Reader_Rest_M v59 v62 v63) fun (v66, v69, v72, v73) =>
            Option.bind (bytes_Equal_M v66 p1) fun v75 =>
            if v75 = true then
              Option.bind (pack_Reader_End_M v69 v72 v73) fun (v78, v79, v82, v83) =>
              if (v78 == 0) = true then
                Option.bind intagliolaw01_awake_M fun v86 =>
                intagliolaw01_PackBack_J1 v86
              else
                intagliolaw01_PackBack_J1 false
            else
              intagliolaw01_PackBack_J1 false
          else
            intagliolaw01_PackBack_J1 false
        else
          intagliolaw01_PackBack_J1 false
      else
        intagliolaw01_PackBack_J1 false
    else
      intagliolaw01_PackBack_J1 false

end Go.Proofs.Ytknkonhdbmeolaa
