/- The law PackNobody: what its model answers, whatever comes in. -/
import Derived.Test.YtknkonhdbmeolaaP1
import Derived.Test.YtknkonhdbmeolaaGMAll
import Derived.Test.YtknkonhdbmeolaaEd
import Derived.KernelRfl
namespace Go.Proofs.Ytknkonhdbmeolaa
open Go Go.Lift
set_option maxRecDepth 100000
set_option maxHeartbeats 4000000

theorem intagliolaw01_PackNobody_pure (n : Int) (_ : Ty.ok (.int .i64) n) : intagliolaw01_PackNobody_M n = some true := by kernel_rfl
end Go.Proofs.Ytknkonhdbmeolaa
