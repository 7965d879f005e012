/- What the program says of its types. -/
import Derived.Test.YtknkonhdbmeolaaMore
import Derived.Test.YtknkonhdbmeolaaProg
namespace Go.Proofs.Ytknkonhdbmeolaa
open Go Go.Lift
set_option maxRecDepth 100000
set_option maxHeartbeats 4000000
set_option linter.unusedVariables false

theorem u22 : Go.Proofs.Try.prog.underlying 22 = some (.slice 5) := by kernel_rfl
theorem el5 : ElTy Go.Proofs.Try.prog 5 (Enc.int .u8) 1 := ElTy.mk' (z := .int .u8 0) (by kernel_rfl) rfl (by kernel_rfl)
theorem u23 : Go.Proofs.Try.prog.underlying 23 = some (.slice 22) := by kernel_rfl
end Go.Proofs.Ytknkonhdbmeolaa
