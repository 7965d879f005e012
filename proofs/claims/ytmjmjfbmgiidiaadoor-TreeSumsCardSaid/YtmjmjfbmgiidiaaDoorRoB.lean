/- Roots of prime numbers, reckoned. -/
import Derived.Test.YtmjmjfbmgiidiaaDoorGMAll
import Derived.KernelRfl
namespace Go.Proofs.YtmjmjfbmgiidiaaDoor
open Go Go.Lift
set_option maxRecDepth 100000
set_option maxHeartbeats 4000000
theorem rt3_16 : intaglioref05_root_M 59 3 = some 3835390401 := by kernel_rfl
theorem rt3_17 : intaglioref05_root_M 61 3 = some 4022224774 := by kernel_rfl
theorem rt3_18 : intaglioref05_root_M 67 3 = some 264347078 := by kernel_rfl
theorem rt3_19 : intaglioref05_root_M 71 3 = some 604807628 := by kernel_rfl
theorem rt3_20 : intaglioref05_root_M 73 3 = some 770255983 := by kernel_rfl
theorem rt3_21 : intaglioref05_root_M 79 3 = some 1249150122 := by kernel_rfl
theorem rt3_22 : intaglioref05_root_M 83 3 = some 1555081692 := by kernel_rfl
theorem rt3_23 : intaglioref05_root_M 89 3 = some 1996064986 := by kernel_rfl
theorem rt3_24 : intaglioref05_root_M 97 3 = some 2554220882 := by kernel_rfl
theorem rt3_25 : intaglioref05_root_M 101 3 = some 2821834349 := by kernel_rfl
theorem rt3_26 : intaglioref05_root_M 103 3 = some 2952996808 := by kernel_rfl
theorem rt3_27 : intaglioref05_root_M 107 3 = some 3210313671 := by kernel_rfl
theorem rt3_28 : intaglioref05_root_M 109 3 = some 3336571891 := by kernel_rfl
theorem rt3_29 : intaglioref05_root_M 113 3 = some 3584528711 := by kernel_rfl
theorem rt3_30 : intaglioref05_root_M 127 3 = some 113926993 := by kernel_rfl
theorem rt3_31 : intaglioref05_root_M 131 3 = some 338241895 := by kernel_rfl
theorem rt2_2 : intaglioref05_root_M 5 2 = some 1013904242 := by kernel_rfl
theorem rt2_3 : intaglioref05_root_M 7 2 = some 2773480762 := by kernel_rfl
end Go.Proofs.YtmjmjfbmgiidiaaDoor
