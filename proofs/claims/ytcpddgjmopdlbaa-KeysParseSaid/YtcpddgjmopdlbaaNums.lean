/- What the writers of the package come to, in plain words. -/
import Derived.Test.YtcpddgjmopdlbaaPure
import Derived.Test.YtcpddgjmopdlbaaMBytes
import Derived.Test.YtcpddgjmopdlbaaMPut
import Derived.Test.YtcpddgjmopdlbaaMRef
namespace Go.Proofs.Ytcpddgjmopdlbaa
open Go Go.Lift
set_option maxRecDepth 100000
set_option maxHeartbeats 4000000
set_option linter.unusedVariables false

def be8 (x : Int) : List Int := [x / 72057594037927936 % 256, x / 281474976710656 % 256, x / 1099511627776 % 256, x / 4294967296 % 256, x / 16777216 % 256, x / 65536 % 256, x / 256 % 256, x % 256]
def le8 (x : Int) : List Int := [x % 256, x / 256 % 256, x / 65536 % 256, x / 16777216 % 256, x / 4294967296 % 256, x / 1099511627776 % 256, x / 281474976710656 % 256, x / 72057594037927936 % 256]

theorem be8_len (x : Int) : (be8 x).length = 8 := rfl

theorem high64 {p : List Int} (x : Int) (h : p.length ≤ 1000000000) : pack_high_uint64_M p x 8 = some (p ++ be8 x) := by
  unfold pack_high_uint64_M
  rw [room_one (by simp; omega)]
  simp only [Option.bind_some, List.nil_append]
  rw [loop_few (r := p ++ be8 x) 9 (by decide) ?_]
  · rfl
  · simp (disch := omega) [iter, pack_high_uint64_L1, gshr_ok, IntKind.wrap_i64, IntKind.wrap_u8, IntKind.bits, room_one, be8, List.append_assoc]
theorem both {p q : List Int} (h : p.length + q.length ≤ 1000000000) : intaglioref01_Both_M p q = some (p ++ q) := by
  unfold intaglioref01_Both_M
  rw [room_one (by simp; omega), Option.bind_some, room_one (by simp; omega)]
  rfl
theorem equal_self (p : List Int) : bytes_Equal_M p p = some true := by
  unfold bytes_Equal_M; simp

theorem refhigh8 {x : Int} (h : 0 ≤ x) (h' : x < 18446744073709551616) : intaglioref01_High_M x 8 = some (be8 x) := by
  unfold intaglioref01_High_M
  rw [mk_ok (by decide) (by decide) (by decide)]
  simp only [Option.bind_some]
  rw [loop_few (r := be8 x) 9 (by decide) ?_]
  · rfl
  · simp (disch := first | omega | (simp; done)) [iter, intaglioref01_High_L1, ix_ok, IntKind.wrap_i64, IntKind.wrap_u8, wrap_u64', Int.tdiv_eq_ediv_of_nonneg, Int.tmod_eq_emod_of_nonneg, be8, List.replicate]
    omega
theorem put64 {p : List Int} (x : Int) (h : p.length ≤ 1000000000) : pack_Put64_M p x = some (p ++ be8 x) := by
  unfold pack_Put64_M; rw [high64 x h]; rfl
theorem putNum {p : List Int} (x : Int) (h : p.length ≤ 1000000000) (hx : x < 9223372036854775808) : pack_PutNum_M p x = some (p ++ be8 (if 0 > x then 0 else x)) := by
  unfold pack_PutNum_M
  rw [u64_id (by split <;> omega) (by split <;> omega), put64 _ h]; rfl
theorem rput64 {p : List Int} {x : Int} (h : p.length ≤ 900000000) (hx : 0 ≤ x) (hx' : x < 18446744073709551616) : intaglioref01_Put64_M p x = some (p ++ be8 x) := by
  unfold intaglioref01_Put64_M; rw [refhigh8 hx (by omega)]; simp only [Option.bind_some]; rw [both (by rw [be8_len]; omega)]; rfl
theorem rputNum {p : List Int} {x : Int} (h : p.length ≤ 900000000) (hx : x < 9223372036854775808) : intaglioref01_PutNum_M p x = some (p ++ be8 (if 0 > x then 0 else x)) := by
  unfold intaglioref01_PutNum_M
  by_cases hn : x < 0
  · rw [if_pos (by simpa using hn), u64_id (by omega) (by omega), rput64 h (by omega) (by omega), if_pos (by omega)]; rfl
  · rw [if_neg (by simpa using hn), u64_id (by omega) (by omega), rput64 h (by omega) (by omega), if_neg (by omega)]; rfl
end Go.Proofs.Ytcpddgjmopdlbaa
