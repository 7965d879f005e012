/- The numbers' law, in plain words. -/
import Derived.Test.YtknkonhdbmeolaaMPackNumbers
import Derived.Test.YtknkonhdbmeolaaNums
namespace Go.Proofs.Ytknkonhdbmeolaa
open Go Go.Lift
set_option linter.unusedVariables false
theorem intagliolaw01_PackNumbers_pure (p0 : List Int) (p1 p2 : Int) (w0 : ∀ n ∈ p0, (Lit.int .u8 n).wf = true) (l0 : p0.length ≤ maxLen) (w1 : (Lit.int .u64 p1).wf = true) (w2 : (Lit.int .i64 p2).wf = true) : intagliolaw01_PackNumbers_M p0 p1 p2 = some true := by
  have h1 := wf_u64 w1
  have h2 := wf_i64 w2
  unfold intagliolaw01_PackNumbers_M
  by_cases hl : (p0.length : Int) > 5000
  · rw [if_pos (by simpa using hl), awake_is]; rfl
  · rw [if_neg (by simpa using hl)]
    have hy : 0 ≤ IntKind.u32.wrap p1 ∧ IntKind.u32.wrap p1 < 4294967296 := by rw [IntKind.wrap_u32]; omega
    rw [clone_is (by omega)]
    simp only [Option.bind_some]
    rw [put32 _ (by omega), rput32 (by omega) hy.1 hy.2, put64 _ (by omega), rput64 (by omega) h1.1 (by omega), putNum _ (by omega) (by omega), rputNum (by omega) (by omega)]
    simp only [Option.bind_some, equal_self, if_true]
    unfold intagliolaw01_PackNumbers_J1
    rw [if_pos rfl, putLe32 _ (by omega), putLe64 _ (by omega), u64_id hy.1 (by omega), reflow4 hy.1 (by omega), reflow8 h1.1 (by omega)]
    simp only [Option.bind_some]
    rw [both (by simp [le4]; omega), both (by simp [le8]; omega)]
    simp only [Option.bind_some, equal_self, if_true]
    unfold intagliolaw01_PackNumbers_J2
    simp only [Option.bind_some, equal_self, if_true, awake_is]
end Go.Proofs.Ytknkonhdbmeolaa
