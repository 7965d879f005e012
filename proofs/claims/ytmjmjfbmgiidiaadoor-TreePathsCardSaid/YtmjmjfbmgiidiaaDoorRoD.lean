/- Roots of prime numbers, reckoned. -/
import Derived.Test.YtmjmjfbmgiidiaaDoorGMAll
import Derived.KernelRfl
namespace Go.Proofs.YtmjmjfbmgiidiaaDoor
open Go Go.Lift
set_option maxRecDepth 100000
set_option maxHeartbeats 4000000
theorem rt3_48 : intaglioref05_root_M 227 3 = some 430227734 := by kernel_rfl
theorem rt3_49 : intaglioref05_root_M 229 3 = some 506948616 := by kernel_rfl
theorem rt3_50 : intaglioref05_root_M 233 3 = some 659060556 := by kernel_rfl
theorem rt3_51 : intaglioref05_root_M 239 3 = some 883997877 := by kernel_rfl
theorem rt3_52 : intaglioref05_root_M 241 3 = some 958139571 := by kernel_rfl
theorem rt3_53 : intaglioref05_root_M 251 3 = some 1322822218 := by kernel_rfl
theorem rt3_54 : intaglioref05_root_M 257 3 = some 1537002063 := by kernel_rfl
theorem rt3_55 : intaglioref05_root_M 263 3 = some 1747873779 := by kernel_rfl
theorem rt3_56 : intaglioref05_root_M 269 3 = some 1955562222 := by kernel_rfl
theorem rt3_57 : intaglioref05_root_M 271 3 = some 2024104815 := by kernel_rfl
theorem rt3_58 : intaglioref05_root_M 277 3 = some 2227730452 := by kernel_rfl
theorem rt3_59 : intaglioref05_root_M 281 3 = some 2361852424 := by kernel_rfl
theorem rt3_60 : intaglioref05_root_M 283 3 = some 2428436474 := by kernel_rfl
theorem rt3_61 : intaglioref05_root_M 293 3 = some 2756734187 := by kernel_rfl
theorem rt3_62 : intaglioref05_root_M 307 3 = some 3204031479 := by kernel_rfl
theorem rt3_63 : intaglioref05_root_M 311 3 = some 3329325298 := by kernel_rfl
theorem rt2_6 : intaglioref05_root_M 17 2 = some 528734635 := by kernel_rfl
theorem rt2_7 : intaglioref05_root_M 19 2 = some 1541459225 := by kernel_rfl
end Go.Proofs.YtmjmjfbmgiidiaaDoor
