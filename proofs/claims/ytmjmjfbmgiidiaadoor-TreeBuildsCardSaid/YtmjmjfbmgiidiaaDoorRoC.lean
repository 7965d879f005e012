/- Roots of prime numbers, reckoned. -/
import Derived.Test.YtmjmjfbmgiidiaaDoorGMAll
import Derived.KernelRfl
namespace Go.Proofs.YtmjmjfbmgiidiaaDoor
open Go Go.Lift
set_option maxRecDepth 100000
set_option maxHeartbeats 4000000
theorem rt3_32 : intaglioref05_root_M 137 3 = some 666307205 := by kernel_rfl
theorem rt3_33 : intaglioref05_root_M 139 3 = some 773529912 := by kernel_rfl
theorem rt3_34 : intaglioref05_root_M 149 3 = some 1294757372 := by kernel_rfl
theorem rt3_35 : intaglioref05_root_M 151 3 = some 1396182291 := by kernel_rfl
theorem rt3_36 : intaglioref05_root_M 157 3 = some 1695183700 := by kernel_rfl
theorem rt3_37 : intaglioref05_root_M 163 3 = some 1986661051 := by kernel_rfl
theorem rt3_38 : intaglioref05_root_M 167 3 = some 2177026350 := by kernel_rfl
theorem rt3_39 : intaglioref05_root_M 173 3 = some 2456956037 := by kernel_rfl
theorem rt3_40 : intaglioref05_root_M 179 3 = some 2730485921 := by kernel_rfl
theorem rt3_41 : intaglioref05_root_M 181 3 = some 2820302411 := by kernel_rfl
theorem rt3_42 : intaglioref05_root_M 191 3 = some 3259730800 := by kernel_rfl
theorem rt3_43 : intaglioref05_root_M 193 3 = some 3345764771 := by kernel_rfl
theorem rt3_44 : intaglioref05_root_M 197 3 = some 3516065817 := by kernel_rfl
theorem rt3_45 : intaglioref05_root_M 199 3 = some 3600352804 := by kernel_rfl
theorem rt3_46 : intaglioref05_root_M 211 3 = some 4094571909 := by kernel_rfl
theorem rt3_47 : intaglioref05_root_M 223 3 = some 275423344 := by kernel_rfl
theorem rt2_4 : intaglioref05_root_M 11 2 = some 1359893119 := by kernel_rfl
theorem rt2_5 : intaglioref05_root_M 13 2 = some 2600822924 := by kernel_rfl
end Go.Proofs.YtmjmjfbmgiidiaaDoor
