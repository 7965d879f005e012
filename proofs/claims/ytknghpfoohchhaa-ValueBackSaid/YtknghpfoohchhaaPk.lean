/- What the writers of the package pack and the document's ones come to, in plain words. -/
import Derived.Test.YtknghpfoohchhaaP1
import Derived.Test.YtknghpfoohchhaaGMAll
namespace Go.Proofs.Ytknghpfoohchhaa
open Go Go.Lift
set_option maxRecDepth 100000
set_option maxHeartbeats 4000000
set_option linter.unusedVariables false

def be4 (x : Int) : List Int := [x / 16777216 % 256, x / 65536 % 256, x / 256 % 256, x % 256]
def le4 (x : Int) : List Int := [x % 256, x / 256 % 256, x / 65536 % 256, x / 16777216 % 256]
def be8 (x : Int) : List Int := [x / 72057594037927936 % 256, x / 281474976710656 % 256, x / 1099511627776 % 256, x / 4294967296 % 256, x / 16777216 % 256, x / 65536 % 256, x / 256 % 256, x % 256]
def le8 (x : Int) : List Int := [x % 256, x / 256 % 256, x / 65536 % 256, x / 16777216 % 256, x / 4294967296 % 256, x / 1099511627776 % 256, x / 281474976710656 % 256, x / 72057594037927936 % 256]

theorem be4_len (x : Int) : (be4 x).length = 4 := rfl
theorem be8_len (x : Int) : (be8 x).length = 8 := rfl
theorem By.be8 (x : Int) : By (be8 x) := by
  intro n hn
  simp only [Ytknghpfoohchhaa.be8, List.mem_cons, List.not_mem_nil, or_false] at hn
  rcases hn with h | h | h | h | h | h | h | h <;> subst h <;> omega
theorem By.be4 (x : Int) : By (be4 x) := by
  intro n hn
  simp only [Ytknghpfoohchhaa.be4, List.mem_cons, List.not_mem_nil, or_false] at hn
  rcases hn with h | h | h | h <;> subst h <;> omega
def num (l : List Int) : Int := l.foldl (fun a b => a * 256 + b) 0
theorem num_be8 {x : Int} (h : 0 ≤ x) (h' : x < 18446744073709551616) : num (be8 x) = x := by simp [num, be8]; omega
theorem num_be4 {x : Int} (h : 0 ≤ x) (h' : x < 4294967296) : num (be4 x) = x := by simp [num, be4]; omega
theorem num_snoc (l : List Int) (b : Int) : num (l ++ [b]) = num l * 256 + b := by simp [num]

theorem high32 {p : List Int} (x : Int) (h : p.length ≤ 1000000000) : pack_high_uint32_M p x 4 = some (p ++ be4 x) := by
  unfold pack_high_uint32_M
  rw [room_one (by simp; omega)]
  simp only [Option.bind_some]
  rw [loop_few (r := p ++ be4 x) 5 (by decide) ?_]
  · rfl
  · simp (disch := omega) [iter, pack_high_uint32_L1_P, pack_high_uint32_L1, gshr_ok, IntKind.wrap_i64, IntKind.wrap_u8, IntKind.bits, room_one, be4, List.append_assoc]
theorem high64 {p : List Int} (x : Int) (h : p.length ≤ 1000000000) : pack_high_uint64_M p x 8 = some (p ++ be8 x) := by
  unfold pack_high_uint64_M
  rw [room_one (by simp; omega)]
  simp only [Option.bind_some]
  rw [loop_few (r := p ++ be8 x) 9 (by decide) ?_]
  · rfl
  · simp (disch := omega) [iter, pack_high_uint64_L1_P, pack_high_uint64_L1, gshr_ok, IntKind.wrap_i64, IntKind.wrap_u8, IntKind.bits, room_one, be8, List.append_assoc]
theorem both {p q : List Int} (h : p.length + q.length ≤ 1000000000) : intaglioref01_Both_M p q = some (p ++ q) := by
  unfold intaglioref01_Both_M
  rw [room_one (by omega), Option.bind_some, room_one (by omega)]
  rfl
theorem equal_self (p : List Int) : bytes_Equal_M p p = some true := by
  unfold bytes_Equal_M; simp
theorem refhigh8 {x : Int} (h : 0 ≤ x) (h' : x < 18446744073709551616) : intaglioref01_High_M x 8 = some (be8 x) := by
  unfold intaglioref01_High_M
  rw [mk2_ok (by decide) (by decide) (by decide)]
  simp only [Option.bind_some]
  rw [loop_few (r := be8 x) 9 (by decide) ?_]
  · rfl
  · simp (disch := first | omega | (simp; done)) [iter, intaglioref01_High_L1_P, intaglioref01_High_L1, inb_ok', grem_nat, gquo_nat, IntKind.wrap_i64, IntKind.wrap_u8, wrap_u64', be8, List.replicate]
    omega
theorem refhigh4 {x : Int} (h : 0 ≤ x) (h' : x < 18446744073709551616) : intaglioref01_High_M x 4 = some (be4 x) := by
  unfold intaglioref01_High_M
  rw [mk2_ok (by decide) (by decide) (by decide)]
  simp only [Option.bind_some]
  rw [loop_few (r := be4 x) 5 (by decide) ?_]
  · rfl
  · simp (disch := first | omega | (simp; done)) [iter, intaglioref01_High_L1_P, intaglioref01_High_L1, inb_ok', grem_nat, gquo_nat, IntKind.wrap_i64, IntKind.wrap_u8, wrap_u64', be4, List.replicate]
    omega
theorem put32 {p : List Int} (x : Int) (h : p.length ≤ 1000000000) : pack_Put32_M p x = some (p ++ be4 x) := by
  unfold pack_Put32_M pack_high_uint32_P; rw [high32 x h]; rfl
theorem put64 {p : List Int} (x : Int) (h : p.length ≤ 1000000000) : pack_Put64_M p x = some (p ++ be8 x) := by
  unfold pack_Put64_M pack_high_uint64_P; rw [high64 x h]; rfl
theorem putNum {p : List Int} {x : Int} (h : p.length ≤ 1000000000) (h0 : 0 ≤ x) (hx : x < 9223372036854775808) : pack_PutNum_M p x = some (p ++ be8 x) := by
  unfold pack_PutNum_M
  simp only [pack_Put64_P]
  rw [if_neg (by omega), u64_id (by omega) (by omega), put64 _ h]; rfl
theorem rput64 {p : List Int} {x : Int} (h : p.length ≤ 900000000) (hx : 0 ≤ x) (hx' : x < 18446744073709551616) : intaglioref01_Put64_M p x = some (p ++ be8 x) := by
  unfold intaglioref01_Put64_M
  simp only [intaglioref01_High_P, intaglioref01_Both_P]
  rw [refhigh8 hx (by omega), Option.bind_some, both (by rw [be8_len]; omega)]; rfl
theorem rputNum {p : List Int} {x : Int} (h : p.length ≤ 900000000) (h0 : 0 ≤ x) (hx : x < 9223372036854775808) : intaglioref01_PutNum_M p x = some (p ++ be8 x) := by
  unfold intaglioref01_PutNum_M
  simp only [intaglioref01_Put64_P]
  rw [if_neg (by simp; omega), u64_id (by omega) (by omega), rput64 h (by omega) (by omega)]; rfl
end Go.Proofs.Ytknghpfoohchhaa
