/- A law of chapter 07: what its model answers, whatever comes in. -/
import Derived.Test.YtcpddgjmopdlbaaDoorKy
import Derived.Test.YtcpddgjmopdlbaaDoorEd
namespace Go.Proofs.YtcpddgjmopdlbaaDoor
open Go Go.Lift
set_option maxRecDepth 100000
set_option maxHeartbeats 4000000
set_option linter.unusedVariables false

theorem awake_is : intagliolaw07_awake_M = some true := by kernel_rfl

theorem intagliolaw07_KeysDerive_pure (s : List Int) (a b c d e f : Int) (hs : Ty.ok (.slc (.int .u8)) s) (h : Ty.ok (.pair (.int .i64) (.pair (.int .i64) (.pair (.int .i64) (.pair (.int .i64) (.pair (.int .i64) (.pair (.int .i64) .unit)))))) (a, b, c, d, e, f, ())) : intagliolaw07_KeysDerive_M s a b c d e f = some true := by
  have hb : By s := fun n hn => wf_u8 (hs.2 n hn)
  unfold intagliolaw07_KeysDerive_M
  simp only [intagliolaw07_awake_P, awake_is, Option.bind_some, keys_Derive_P, intaglioref07_Derive_P]
  split
  · rfl
  · rename_i h1
    simp at h1
    rw [derive_is hb (by omega), Option.bind_some, rderive_is hb (by omega), Option.bind_some, if_pos (eqI_self _), if_pos (by simp)]
end Go.Proofs.YtcpddgjmopdlbaaDoor
