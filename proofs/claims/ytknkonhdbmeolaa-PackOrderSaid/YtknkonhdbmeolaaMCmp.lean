/- Plain models of Go functions (Cmp). -/
import Derived.Test.YtknkonhdbmeolaaExt
namespace Go.Proofs.Ytknkonhdbmeolaa
open Go Go.Lift
set_option maxRecDepth 100000
set_option maxHeartbeats 4000000
set_option linter.unusedVariables false

def bytes_Compare_M (p0 : List Int) (p1 : List Int) : Option (Int) :=
  some (cmpB p0 p1)

def cmp_isNaN_uint64_M (p0 : Int) : Option (Bool) :=
  some (p0 != p0)

def cmp_isNaN_uint32_M (p0 : Int) : Option (Bool) :=
  some (p0 != p0)

def cmp_Compare_uint64_M (p0 : Int) (p1 : Int) : Option (Int) :=
  Option.bind (cmp_isNaN_uint64_M p0) fun v1 =>
  Option.bind (cmp_isNaN_uint64_M p1) fun v3 =>
  if v1 = true then
    if v3 = true then
      some 0
    else
      some (-1)
  else
    if v3 = true then
      some 1
    else
      if (decide (p0 < p1)) = true then
        some (-1)
      else
        if (decide (p0 > p1)) = true then
          some 1
        else
          some 0

def cmp_Compare_uint32_M (p0 : Int) (p1 : Int) : Option (Int) :=
  Option.bind (cmp_isNaN_uint32_M p0) fun v1 =>
  Option.bind (cmp_isNaN_uint32_M p1) fun v3 =>
  if v1 = true then
    if v3 = true then
      some 0
    else
      some (-1)
  else
    if v3 = true then
      some 1
    else
      if (decide (p0 < p1)) = true then
        some (-1)
      else
        if (decide (p0 > p1)) = true then
          some 1
        else
          some 0

end Go.Proofs.Ytknkonhdbmeolaa
