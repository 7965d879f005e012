/- Plain models of Go functions (Bytes). -/
import Derived.Test.YtcpddgjmopdlbaaExt
namespace Go.Proofs.Ytcpddgjmopdlbaa
open Go Go.Lift
set_option maxRecDepth 100000
set_option maxHeartbeats 4000000
set_option linter.unusedVariables false

def bytes_Equal_M (p0 : List Int) (p1 : List Int) : Option (Bool) :=
  some ((b8 p0) == (b8 p1))

end Go.Proofs.Ytcpddgjmopdlbaa
