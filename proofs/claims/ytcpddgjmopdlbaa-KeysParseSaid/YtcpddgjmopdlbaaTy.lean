/- What the program says of its types. -/
import Derived.Test.YtcpddgjmopdlbaaBoxEl
import Derived.Test.YtcpddgjmopdlbaaProg
namespace Go.Proofs.Ytcpddgjmopdlbaa
open Go Go.Lift
set_option maxRecDepth 100000
set_option maxHeartbeats 4000000
set_option linter.unusedVariables false

theorem u26 : Go.Proofs.Try.prog.underlying 26 = some (.slice 5) := by kernel_rfl
theorem el5 : ElTy Go.Proofs.Try.prog 5 (Enc.int .u8) 1 := ElTy.mk' (z := .int .u8 0) (by kernel_rfl) rfl (by kernel_rfl)
theorem el3 : ElTy Go.Proofs.Try.prog 3 (Enc.int .i64) 8 := ElTy.mk' (z := .int .i64 0) (by kernel_rfl) rfl (by kernel_rfl)
end Go.Proofs.Ytcpddgjmopdlbaa
