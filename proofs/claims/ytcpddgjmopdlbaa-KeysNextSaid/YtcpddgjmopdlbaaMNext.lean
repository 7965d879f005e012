/- Plain models of Go functions (Next). -/
import Derived.Test.YtcpddgjmopdlbaaExt
namespace Go.Proofs.Ytcpddgjmopdlbaa
open Go Go.Lift
set_option maxRecDepth 100000
set_option maxHeartbeats 4000000
set_option linter.unusedVariables false

def keys_Next_M (p0 : Int) (p1 : Int) : Option ((Int × Int)) :=
  if (decide (p0 < 0)) = true then
    some (0, 1)
  else
    if (decide (p0 ≥ p1)) = true then
      some (0, 7)
    else
      some ((IntKind.i64.wrap (p0 + 1)), 0)

end Go.Proofs.Ytcpddgjmopdlbaa
