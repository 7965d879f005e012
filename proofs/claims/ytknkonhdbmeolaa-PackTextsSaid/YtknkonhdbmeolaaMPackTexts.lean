/- Plain models of Go functions (PackTexts). -/
import Derived.Test.YtknkonhdbmeolaaMore
import Derived.Test.YtknkonhdbmeolaaMAwake
import Derived.Test.YtknkonhdbmeolaaMBytes
import Derived.Test.YtknkonhdbmeolaaMPut
import Derived.Test.YtknkonhdbmeolaaMRef
namespace Go.Proofs.Ytknkonhdbmeolaa
open Go Go.Lift
set_option maxRecDepth 100000
set_option maxHeartbeats 4000000
set_option linter.unusedVariables false

def intagliolaw01_PackTexts_L1 (p2 : List (List Int)) (l134 : List Int) (x135 : Int) : Option (((List Int) × Int) ⊕ ((List Int) ⊕ Bool)) :=
  if (decide (x135 < (p2.length : Int))) = true then
    Option.bind (ix p2 x135) fun y169 =>
    if (decide ((y169.length : Int) > 200)) = true then
      Option.bind intagliolaw01_awake_M fun v178 =>
      some (.inr (.inr v178))
    else
      Option.bind (ix p2 x135) fun y180 =>
      Option.bind (room 1 (l134.length + y180.length)) fun _ =>
      some (.inl ((l134 ++ y180), (IntKind.i64.wrap (x135 + 1))))
  else
    some (.inr (.inl l134))

def intagliolaw01_PackTexts_J1 (p0 : List Int) (p1 : List Int) (p2 : List (List Int)) (l194 : List Int) : Option (Bool) :=
  Option.bind (bytes_Clone_M p0) fun v228 =>
  Option.bind (pack_Put_M p0 p1) fun v232 =>
  Option.bind (intaglioref01_Put_M v228 p1) fun v236 =>
  Option.bind (bytes_Equal_M v232 v236) fun v240 =>
  if v240 = true then
    Option.bind (pack_Join_M p2) fun v243 =>
    Option.bind (bytes_Equal_M v243 l194) fun v247 =>
    if v247 = true then
      Option.bind (bytes_Equal_M p0 v228) fun v250 =>
      if v250 = true then
        Option.bind intagliolaw01_awake_M fun v253 =>
        some v253
      else
        some false
    else
      some false
  else
    some false

def intagliolaw01_PackTexts_M (p0 : List Int) (p1 : List Int) (p2 : List (List Int)) : Option (Bool) :=
  if (decide ((p0.length : Int) > 5000)) = true then
    Option.bind intagliolaw01_awake_M fun v3 =>
    some v3
  else
    if (decide ((p1.length : Int) > 5000)) = true then
      Option.bind intagliolaw01_awake_M fun v5 =>
      some v5
    else
      if (decide ((p2.length : Int) > 30)) = true then
        Option.bind intagliolaw01_awake_M fun v8 =>
        some v8
      else
        Option.bind (loop (fun (s : ((List Int) × Int)) => intagliolaw01_PackTexts_L1 p2 s.1 s.2) ([], 0)) (fun r => match r with | .inl q255 => intagliolaw01_PackTexts_J1 p0 p1 p2 q255 | .inr q256 => some q256)

end Go.Proofs.Ytknkonhdbmeolaa
