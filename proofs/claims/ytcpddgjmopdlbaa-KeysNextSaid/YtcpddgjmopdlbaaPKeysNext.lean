/- The counter's law, in plain words. -/
import Derived.Test.YtcpddgjmopdlbaaMKeysNext
import Derived.Test.YtcpddgjmopdlbaaPure
namespace Go.Proofs.Ytcpddgjmopdlbaa
open Go Go.Lift
set_option maxRecDepth 100000
set_option linter.unusedVariables false

theorem awake_is : intagliolaw07_awake_M = some true := by kernel_rfl

theorem intagliolaw07_KeysNext_pure (p0 p1 : Int) (w0 : (Lit.int .i64 p0).wf = true) (w1 : (Lit.int .i64 p1).wf = true) : intagliolaw07_KeysNext_M p0 p1 = some true := by
  have h0 := wf_i64 w0
  have h1 := wf_i64 w1
  unfold intagliolaw07_KeysNext_M keys_Next_M
  by_cases a : p0 < 0
  · simp [a, awake_is]
  · by_cases b : p0 ≥ p1
    · simp [a, b, awake_is]
    · have e1 : IntKind.i64.wrap (p0 + 1) = p0 + 1 := i64_id (by omega) (by omega)
      have e2 : IntKind.i64.wrap p0 = p0 := i64_id (by omega) (by omega)
      have c1 : p0 < p0 + 1 := by omega
      have c2 : p0 + 1 ≤ p1 := by omega
      simp [a, b, e1, e2, c1, c2, awake_is, intagliolaw07_KeysNext_J1]
end Go.Proofs.Ytcpddgjmopdlbaa
