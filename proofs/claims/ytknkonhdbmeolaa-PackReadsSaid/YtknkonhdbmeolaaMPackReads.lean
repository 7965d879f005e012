/- Plain models of Go functions (PackReads). -/
import Derived.Test.YtknkonhdbmeolaaMore
import Derived.Test.YtknkonhdbmeolaaMAwake
import Derived.Test.YtknkonhdbmeolaaMBytes
import Derived.Test.YtknkonhdbmeolaaMIn
import Derived.Test.YtknkonhdbmeolaaMReader
namespace Go.Proofs.Ytknkonhdbmeolaa
open Go Go.Lift
set_option maxRecDepth 100000
set_option maxHeartbeats 4000000
set_option linter.unusedVariables false

def intagliolaw01_PackReads_J1 (x325 : Int) (l435 : List Int) (x436 : Int) (x437 : Bool) (l440 : List Int) (x441 : Int) (x442 : Bool) : Option (((List Int) × Int × Bool × (List Int) × Int × Int) ⊕ (Unit ⊕ Bool)) :=
  if (!x442) = true then
    some (.inr (.inr false))
  else
    Option.bind (pack_Reader_Left_M l435 x436 x437) fun v456 =>
    if (v456 != (l440.length : Int)) = true then
      some (.inr (.inr false))
    else
      Option.bind (pack_Reader_Err_M l435 x436 x437) fun v459 =>
      if (v459 != x441) = true then
        some (.inr (.inr false))
      else
        Option.bind (pack_Reader_End_M l435 x436 x437) fun v462 =>
        Option.bind (intaglioref01_In_End_M l440 x441) fun v464 =>
        if (v462 != v464) = true then
          some (.inr (.inr false))
        else
          some (.inl (l435, x436, x437, l440, x441, (IntKind.i64.wrap (x325 + 1))))

def intagliolaw01_PackReads_L1 (p1 : List (Int × Int)) (l318 : List Int) (x319 : Int) (x320 : Bool) (l323 : List Int) (x324 : Int) (x325 : Int) : Option (((List Int) × Int × Bool × (List Int) × Int × Int) ⊕ (Unit ⊕ Bool)) :=
  if (decide (x325 < (p1.length : Int))) = true then
    Option.bind (ix p1 x325) fun y328 =>
    Option.bind (ix p1 x325) fun y333 =>
    if ((Int.tmod (IntKind.u64.wrap (y333.1)) 6) == 0) = true then
      Option.bind (pack_Reader_U8_M l318 x319 x320) fun (v339, v340, v343, v344) =>
      Option.bind (intaglioref01_In_U_M l323 x324 1) fun (v346, v347, v350) =>
      intagliolaw01_PackReads_J1 x325 v340 v343 v344 v347 v350 ((IntKind.u64.wrap (v339)) == v346)
    else
      if ((Int.tmod (IntKind.u64.wrap (y333.1)) 6) == 1) = true then
        Option.bind (pack_Reader_U32_M l318 x319 x320) fun (v353, v354, v357, v358) =>
        Option.bind (intaglioref01_In_U_M l323 x324 4) fun (v360, v361, v364) =>
        intagliolaw01_PackReads_J1 x325 v354 v357 v358 v361 v364 ((IntKind.u64.wrap (v353)) == v360)
      else
        if ((Int.tmod (IntKind.u64.wrap (y333.1)) 6) == 2) = true then
          Option.bind (pack_Reader_U64_M l318 x319 x320) fun (v367, v368, v371, v372) =>
          Option.bind (intaglioref01_In_U_M l323 x324 8) fun (v374, v375, v378) =>
          intagliolaw01_PackReads_J1 x325 v368 v371 v372 v375 v378 (v367 == v374)
        else
          if ((Int.tmod (IntKind.u64.wrap (y333.1)) 6) == 3) = true then
            Option.bind (pack_Reader_Num_M l318 x319 x320 y328.2) fun (v381, v382, v385, v386) =>
            Option.bind (intaglioref01_In_Num_M l323 x324 y328.2) fun (v388, v389, v392) =>
            intagliolaw01_PackReads_J1 x325 v382 v385 v386 v389 v392 (v381 == v388)
          else
            if ((Int.tmod (IntKind.u64.wrap (y333.1)) 6) == 4) = true then
              Option.bind (pack_Reader_Bytes_M l318 x319 x320 y328.2) fun (v395, v398, v401, v402) =>
              Option.bind (intaglioref01_In_Bytes_M l323 x324 y328.2) fun (v404, v407, v410) =>
              Option.bind (bytes_Equal_M v395 v404) fun v412 =>
              intagliolaw01_PackReads_J1 x325 v398 v401 v402 v407 v410 v412
            else
              Option.bind (pack_Reader_Rest_M l318 x319 x320) fun (v414, v417, v420, v421) =>
              Option.bind (intaglioref01_In_Rest_M l323 x324) fun (v423, v426, v429) =>
              Option.bind (bytes_Equal_M v414 v423) fun v431 =>
              intagliolaw01_PackReads_J1 x325 v417 v420 v421 v426 v429 v431
  else
    some (.inr (.inl ()))

def intagliolaw01_PackReads_J2 : Option (Bool) :=
  Option.bind intagliolaw01_awake_M fun v468 =>
  some v468

def intagliolaw01_PackReads_M (p0 : List Int) (p1 : List (Int × Int)) : Option (Bool) :=
  if (decide ((p0.length : Int) > 5000)) = true then
    Option.bind intagliolaw01_awake_M fun v2 =>
    some v2
  else
    if (decide ((p1.length : Int) > 60)) = true then
      Option.bind intagliolaw01_awake_M fun v5 =>
      some v5
    else
      Option.bind (pack_Read_M p0) fun (v8, v11, v12) =>
      Option.bind (bytes_Clone_M p0) fun v14 =>
      Option.bind (loop (fun (s : ((List Int) × Int × Bool × (List Int) × Int × Int)) => intagliolaw01_PackReads_L1 p1 s.1 s.2.1 s.2.2.1 s.2.2.2.1 s.2.2.2.2.1 s.2.2.2.2.2) (v8, v11, v12, v14, 0, 0)) (fun r => match r with | .inl _ => intagliolaw01_PackReads_J2 | .inr q470 => some q470)

end Go.Proofs.Ytknkonhdbmeolaa
