/- Plain models of Go functions (Bytes). -/
import Derived.Test.YtknkonhdbmeolaaExt
namespace Go.Proofs.Ytknkonhdbmeolaa
open Go Go.Lift
set_option maxRecDepth 100000
set_option maxHeartbeats 4000000
set_option linter.unusedVariables false

def bytes_Clone_M (p0 : List Int) : Option (List Int) :=
  Option.bind (room 1 (([] : List Int).length + p0.length)) fun _ =>
  some ([] ++ p0)

def bytes_Equal_M (p0 : List Int) (p1 : List Int) : Option (Bool) :=
  some ((b8 p0) == (b8 p1))

end Go.Proofs.Ytknkonhdbmeolaa
