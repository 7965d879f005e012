/- What the program says of its types. -/
import Derived.Test.YtknkonhdbmeolaaExt
import Derived.Test.YtknkonhdbmeolaaProg
namespace Go.Proofs.Ytknkonhdbmeolaa
open Go Go.Lift
set_option maxRecDepth 100000
set_option maxHeartbeats 4000000
set_option linter.unusedVariables false

def es62 : Enc (Int × Int) := ⟨true, 2, fun x => [.int .i64 x.1, .int .i64 x.2], fun _ => rfl, (fun h => by cases h), (fun x u hu => by simp only [List.mem_cons, List.not_mem_nil, or_false] at hu; rcases hu with rfl | rfl <;> rfl)⟩
theorem u22 : Go.Proofs.Try.prog.underlying 22 = some (.slice 5) := by kernel_rfl
theorem el5 : ElTy Go.Proofs.Try.prog 5 (Enc.int .u8) 1 := ElTy.mk' (z := .int .u8 0) (by kernel_rfl) rfl (by kernel_rfl)
theorem u23 : Go.Proofs.Try.prog.underlying 23 = some (.slice 22) := by kernel_rfl
theorem u56 : Go.Proofs.Try.prog.underlying 56 = some (.slice 62) := by kernel_rfl
theorem el62 : ElTy Go.Proofs.Try.prog 62 es62 16 := ElTy.mk' (z := .agg #[.int .i64 0, .int .i64 0]) (by kernel_rfl) rfl (by kernel_rfl)
end Go.Proofs.Ytknkonhdbmeolaa
