/- Roots of prime numbers, reckoned. -/
import Derived.Test.YtmjmjfbmgiidiaaDoorGMAll
import Derived.KernelRfl
namespace Go.Proofs.YtmjmjfbmgiidiaaDoor
open Go Go.Lift
set_option maxRecDepth 100000
set_option maxHeartbeats 4000000
theorem rt3_0 : intaglioref05_root_M 2 3 = some 1116352408 := by kernel_rfl
theorem rt3_1 : intaglioref05_root_M 3 3 = some 1899447441 := by kernel_rfl
theorem rt3_2 : intaglioref05_root_M 5 3 = some 3049323471 := by kernel_rfl
theorem rt3_3 : intaglioref05_root_M 7 3 = some 3921009573 := by kernel_rfl
theorem rt3_4 : intaglioref05_root_M 11 3 = some 961987163 := by kernel_rfl
theorem rt3_5 : intaglioref05_root_M 13 3 = some 1508970993 := by kernel_rfl
theorem rt3_6 : intaglioref05_root_M 17 3 = some 2453635748 := by kernel_rfl
theorem rt3_7 : intaglioref05_root_M 19 3 = some 2870763221 := by kernel_rfl
theorem rt3_8 : intaglioref05_root_M 23 3 = some 3624381080 := by kernel_rfl
theorem rt3_9 : intaglioref05_root_M 29 3 = some 310598401 := by kernel_rfl
theorem rt3_10 : intaglioref05_root_M 31 3 = some 607225278 := by kernel_rfl
theorem rt3_11 : intaglioref05_root_M 37 3 = some 1426881987 := by kernel_rfl
theorem rt3_12 : intaglioref05_root_M 41 3 = some 1925078388 := by kernel_rfl
theorem rt3_13 : intaglioref05_root_M 43 3 = some 2162078206 := by kernel_rfl
theorem rt3_14 : intaglioref05_root_M 47 3 = some 2614888103 := by kernel_rfl
theorem rt3_15 : intaglioref05_root_M 53 3 = some 3248222580 := by kernel_rfl
theorem rt2_0 : intaglioref05_root_M 2 2 = some 1779033703 := by kernel_rfl
theorem rt2_1 : intaglioref05_root_M 3 2 = some 3144134277 := by kernel_rfl
end Go.Proofs.YtmjmjfbmgiidiaaDoor
