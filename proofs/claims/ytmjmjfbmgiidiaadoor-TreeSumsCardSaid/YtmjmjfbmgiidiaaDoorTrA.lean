/- What the package tree and the document's answer come to, in plain words: the same. -/
import Derived.Test.YtmjmjfbmgiidiaaDoorPk
namespace Go.Proofs.YtmjmjfbmgiidiaaDoor
open Go Go.Lift
set_option maxRecDepth 100000
set_option maxHeartbeats 4000000
set_option linter.unusedVariables false

/-! ### The greatest power of two below a number -/

theorem log2_of {k n : Nat} (h : 2 ^ k ≤ n) (h' : n < 2 ^ (k + 1)) : n.log2 = k := (Nat.log2_eq_iff (by have := Nat.two_pow_pos k; omega)).2 ⟨h, h'⟩
/-- The greatest power of two below a number above 1. -/
def half (n : Nat) : Nat := 2 ^ ((n - 1).log2)
theorem half_of {k n : Nat} (h : 2 ^ k < n) (h' : n ≤ 2 ^ (k + 1)) : half n = 2 ^ k := by
  unfold half; rw [log2_of (k := k) (by omega) (by have := Nat.two_pow_pos (k + 1); omega)]
theorem half_pos (n : Nat) : 1 ≤ half n := Nat.two_pow_pos _
theorem half_lt {n : Nat} (h : 2 ≤ n) : half n < n := by
  have := Nat.log2_self_le (n := n - 1) (by omega)
  unfold half; omega
theorem half_ge {n : Nat} (h : 2 ≤ n) : n ≤ 2 * half n := by
  have := Nat.lt_log2_self (n := n - 1)
  unfold half; rw [Nat.pow_succ] at this; omega
theorem half_le_pow {n k : Nat} (h : n ≤ 2 ^ (k + 1)) : half n ≤ 2 ^ k := by
  unfold half
  refine Nat.pow_le_pow_right (by decide) ?_
  by_cases h0 : n - 1 = 0
  · rw [h0, Nat.log2_zero]; exact Nat.zero_le _
  · have h1 := Nat.log2_self_le h0
    have h2 : 2 ^ (n-1).log2 < 2 ^ (k+1) := by have := Nat.two_pow_pos (k + 1); omega
    have := (Nat.pow_lt_pow_iff_right (show 1 < 2 by decide)).1 h2
    omega

theorem half_nat {n : Nat} (h : 2 ≤ n) (h' : n < 9223372036854775808) : half n ≤ 4611686018427387904 := half_le_pow (k := 62) (by omega)

theorem log2_shift {x k : Nat} (h : 2 ^ k ≤ x) : x.log2 = (x / 2 ^ k).log2 + k := by
  have hp := Nat.two_pow_pos k
  have hq : 0 < x / 2 ^ k := Nat.div_pos h hp
  have h1 := Nat.log2_self_le (n := x / 2 ^ k) (by omega)
  have h2 := Nat.lt_log2_self (n := x / 2 ^ k)
  generalize (x / 2 ^ k).log2 = m at h1 h2
  refine log2_of ?_ ?_
  · rw [Nat.pow_add]
    exact (Nat.le_div_iff_mul_le hp).1 h1
  · rw [show m + k + 1 = (m + 1) + k by omega, Nat.pow_add]
    exact (Nat.div_lt_iff_lt_mul hp).1 h2

def tab8 : List UInt8 := [(0 : UInt8), (1 : UInt8), (2 : UInt8), (2 : UInt8), (3 : UInt8), (3 : UInt8), (3 : UInt8), (3 : UInt8), (4 : UInt8), (4 : UInt8), (4 : UInt8), (4 : UInt8), (4 : UInt8), (4 : UInt8), (4 : UInt8), (4 : UInt8), (5 : UInt8), (5 : UInt8), (5 : UInt8), (5 : UInt8), (5 : UInt8), (5 : UInt8), (5 : UInt8), (5 : UInt8), (5 : UInt8), (5 : UInt8), (5 : UInt8), (5 : UInt8), (5 : UInt8), (5 : UInt8), (5 : UInt8), (5 : UInt8), (6 : UInt8), (6 : UInt8), (6 : UInt8), (6 : UInt8), (6 : UInt8), (6 : UInt8), (6 : UInt8), (6 : UInt8), (6 : UInt8), (6 : UInt8), (6 : UInt8), (6 : UInt8), (6 : UInt8), (6 : UInt8), (6 : UInt8), (6 : UInt8), (6 : UInt8), (6 : UInt8), (6 : UInt8), (6 : UInt8), (6 : UInt8), (6 : UInt8), (6 : UInt8), (6 : UInt8), (6 : UInt8), (6 : UInt8), (6 : UInt8), (6 : UInt8), (6 : UInt8), (6 : UInt8), (6 : UInt8), (6 : UInt8), (7 : UInt8), (7 : UInt8), (7 : UInt8), (7 : UInt8), (7 : UInt8), (7 : UInt8), (7 : UInt8), (7 : UInt8), (7 : UInt8), (7 : UInt8), (7 : UInt8), (7 : UInt8), (7 : UInt8), (7 : UInt8), (7 : UInt8), (7 : UInt8), (7 : UInt8), (7 : UInt8), (7 : UInt8), (7 : UInt8), (7 : UInt8), (7 : UInt8), (7 : UInt8), (7 : UInt8), (7 : UInt8), (7 : UInt8), (7 : UInt8), (7 : UInt8), (7 : UInt8), (7 : UInt8), (7 : UInt8), (7 : UInt8), (7 : UInt8), (7 : UInt8), (7 : UInt8), (7 : UInt8), (7 : UInt8), (7 : UInt8), (7 : UInt8), (7 : UInt8), (7 : UInt8), (7 : UInt8), (7 : UInt8), (7 : UInt8), (7 : UInt8), (7 : UInt8), (7 : UInt8), (7 : UInt8), (7 : UInt8), (7 : UInt8), (7 : UInt8), (7 : UInt8), (7 : UInt8), (7 : UInt8), (7 : UInt8), (7 : UInt8), (7 : UInt8), (7 : UInt8), (7 : UInt8), (7 : UInt8), (7 : UInt8), (7 : UInt8), (7 : UInt8), (7 : UInt8), (8 : UInt8), (8 : UInt8), (8 : UInt8), (8 : UInt8), (8 : UInt8), (8 : UInt8), (8 : UInt8), (8 : UInt8), (8 : UInt8), (8 : UInt8), (8 : UInt8), (8 : UInt8), (8 : UInt8), (8 : UInt8), (8 : UInt8), (8 : UInt8), (8 : UInt8), (8 : UInt8), (8 : UInt8), (8 : UInt8), (8 : UInt8), (8 : UInt8), (8 : UInt8), (8 : UInt8), (8 : UInt8), (8 : UInt8), (8 : UInt8), (8 : UInt8), (8 : UInt8), (8 : UInt8), (8 : UInt8), (8 : UInt8), (8 : UInt8), (8 : UInt8), (8 : UInt8), (8 : UInt8), (8 : UInt8), (8 : UInt8), (8 : UInt8), (8 : UInt8), (8 : UInt8), (8 : UInt8), (8 : UInt8), (8 : UInt8), (8 : UInt8), (8 : UInt8), (8 : UInt8), (8 : UInt8), (8 : UInt8), (8 : UInt8), (8 : UInt8), (8 : UInt8), (8 : UInt8), (8 : UInt8), (8 : UInt8), (8 : UInt8), (8 : UInt8), (8 : UInt8), (8 : UInt8), (8 : UInt8), (8 : UInt8), (8 : UInt8), (8 : UInt8), (8 : UInt8), (8 : UInt8), (8 : UInt8), (8 : UInt8), (8 : UInt8), (8 : UInt8), (8 : UInt8), (8 : UInt8), (8 : UInt8), (8 : UInt8), (8 : UInt8), (8 : UInt8), (8 : UInt8), (8 : UInt8), (8 : UInt8), (8 : UInt8), (8 : UInt8), (8 : UInt8), (8 : UInt8), (8 : UInt8), (8 : UInt8), (8 : UInt8), (8 : UInt8), (8 : UInt8), (8 : UInt8), (8 : UInt8), (8 : UInt8), (8 : UInt8), (8 : UInt8), (8 : UInt8), (8 : UInt8), (8 : UInt8), (8 : UInt8), (8 : UInt8), (8 : UInt8), (8 : UInt8), (8 : UInt8), (8 : UInt8), (8 : UInt8), (8 : UInt8), (8 : UInt8), (8 : UInt8), (8 : UInt8), (8 : UInt8), (8 : UInt8), (8 : UInt8), (8 : UInt8), (8 : UInt8), (8 : UInt8), (8 : UInt8), (8 : UInt8), (8 : UInt8), (8 : UInt8), (8 : UInt8), (8 : UInt8), (8 : UInt8), (8 : UInt8), (8 : UInt8), (8 : UInt8), (8 : UInt8), (8 : UInt8), (8 : UInt8), (8 : UInt8), (8 : UInt8), (8 : UInt8)]
theorem tab8_all : ((List.range 256).all fun y => y == 0 || tab8[y]? == some (UInt8.ofNat (y.log2 + 1))) = true := by kernel_rfl
theorem tab8_is {y : Nat} (h0 : 0 < y) (h : y < 256) : ix tab8 (IntKind.u8.wrap (y : Int)) = some (UInt8.ofNat (y.log2 + 1)) := by
  have := List.all_eq_true.1 tab8_all y (List.mem_range.2 h)
  have hw : IntKind.u8.wrap (y : Int) = (y : Int) := by rw [IntKind.wrap_u8]; omega
  rw [hw]
  unfold ix
  rw [if_pos (by omega), Int.toNat_natCast]
  rcases Bool.or_eq_true _ _ ▸ this with h1 | h1
  · have := eq_of_beq h1; omega
  · exact eq_of_beq h1
theorem tab8_nat {y : Nat} (h0 : 0 < y) (h : y < 256) : ((UInt8.ofNat (y.log2 + 1)).toNat : Int) = ((y.log2 + 1 : Nat) : Int) := by
  have : y.log2 < 8 := (Nat.log2_lt (by omega)).2 (by omega)
  rw [UInt8.toNat_ofNat']; omega
theorem shr32 (x : Nat) : gshr .u64 (x : Int) 32 = some ((x / 2 ^ 32 : Nat) : Int) := by rw [gshr_ok (by decide)]; simp [IntKind.bits]
theorem shr16 (x : Nat) : gshr .u64 (x : Int) 16 = some ((x / 2 ^ 16 : Nat) : Int) := by rw [gshr_ok (by decide)]; simp [IntKind.bits]
theorem shr8 (x : Nat) : gshr .u64 (x : Int) 8 = some ((x / 2 ^ 8 : Nat) : Int) := by rw [gshr_ok (by decide)]; simp [IntKind.bits]
theorem tab8_end {y : Nat} (c : Nat) (h0 : 0 < y) (h : y < 256) (hc : c ≤ 64) : (Option.bind (ix tab8 (IntKind.u8.wrap (y : Int))) fun (v : UInt8) => some (IntKind.i64.wrap ((c : Int) + IntKind.i64.wrap ((v.toNat : Nat) : Int)))) = some ((y.log2 + 1 + c : Nat) : Int) := by
  have : y.log2 < 8 := (Nat.log2_lt (by omega)).2 (by omega)
  rw [tab8_is h0 h, Option.bind_some, tab8_nat h0 h, i64_id (n := ((y.log2 + 1 : Nat) : Int)) (by omega) (by omega), i64_id (by omega) (by omega)]
  exact congrArg some (by omega)

theorem len64_is {x : Nat} (h0 : 0 < x) (h : x < 18446744073709551616) : bits_Len64_M (x : Int) = some ((x.log2 + 1 : Nat) : Int) := by
  unfold bits_Len64_M
  rw [← show tab8 = [(0 : UInt8), (1 : UInt8), (2 : UInt8), (2 : UInt8), (3 : UInt8), (3 : UInt8), (3 : UInt8), (3 : UInt8), (4 : UInt8), (4 : UInt8), (4 : UInt8), (4 : UInt8), (4 : UInt8), (4 : UInt8), (4 : UInt8), (4 : UInt8), (5 : UInt8), (5 : UInt8), (5 : UInt8), (5 : UInt8), (5 : UInt8), (5 : UInt8), (5 : UInt8), (5 : UInt8), (5 : UInt8), (5 : UInt8), (5 : UInt8), (5 : UInt8), (5 : UInt8), (5 : UInt8), (5 : UInt8), (5 : UInt8), (6 : UInt8), (6 : UInt8), (6 : UInt8), (6 : UInt8), (6 : UInt8), (6 : UInt8), (6 : UInt8), (6 : UInt8), (6 : UInt8), (6 : UInt8), (6 : UInt8), (6 : UInt8), (6 : UInt8), (6 : UInt8), (6 : UInt8), (6 : UInt8), (6 : UInt8), (6 : UInt8), (6 : UInt8), (6 : UInt8), (6 : UInt8), (6 : UInt8), (6 : UInt8), (6 : UInt8), (6 : UInt8), (6 : UInt8), (6 : UInt8), (6 : UInt8), (6 : UInt8), (6 : UInt8), (6 : UInt8), (6 : UInt8), (7 : UInt8), (7 : UInt8), (7 : UInt8), (7 : UInt8), (7 : UInt8), (7 : UInt8), (7 : UInt8), (7 : UInt8), (7 : UInt8), (7 : UInt8), (7 : UInt8), (7 : UInt8), (7 : UInt8), (7 : UInt8), (7 : UInt8), (7 : UInt8), (7 : UInt8), (7 : UInt8), (7 : UInt8), (7 : UInt8), (7 : UInt8), (7 : UInt8), (7 : UInt8), (7 : UInt8), (7 : UInt8), (7 : UInt8), (7 : UInt8), (7 : UInt8), (7 : UInt8), (7 : UInt8), (7 : UInt8), (7 : UInt8), (7 : UInt8), (7 : UInt8), (7 : UInt8), (7 : UInt8), (7 : UInt8), (7 : UInt8), (7 : UInt8), (7 : UInt8), (7 : UInt8), (7 : UInt8), (7 : UInt8), (7 : UInt8), (7 : UInt8), (7 : UInt8), (7 : UInt8), (7 : UInt8), (7 : UInt8), (7 : UInt8), (7 : UInt8), (7 : UInt8), (7 : UInt8), (7 : UInt8), (7 : UInt8), (7 : UInt8), (7 : UInt8), (7 : UInt8), (7 : UInt8), (7 : UInt8), (7 : UInt8), (7 : UInt8), (7 : UInt8), (7 : UInt8), (8 : UInt8), (8 : UInt8), (8 : UInt8), (8 : UInt8), (8 : UInt8), (8 : UInt8), (8 : UInt8), (8 : UInt8), (8 : UInt8), (8 : UInt8), (8 : UInt8), (8 : UInt8), (8 : UInt8), (8 : UInt8), (8 : UInt8), (8 : UInt8), (8 : UInt8), (8 : UInt8), (8 : UInt8), (8 : UInt8), (8 : UInt8), (8 : UInt8), (8 : UInt8), (8 : UInt8), (8 : UInt8), (8 : UInt8), (8 : UInt8), (8 : UInt8), (8 : UInt8), (8 : UInt8), (8 : UInt8), (8 : UInt8), (8 : UInt8), (8 : UInt8), (8 : UInt8), (8 : UInt8), (8 : UInt8), (8 : UInt8), (8 : UInt8), (8 : UInt8), (8 : UInt8), (8 : UInt8), (8 : UInt8), (8 : UInt8), (8 : UInt8), (8 : UInt8), (8 : UInt8), (8 : UInt8), (8 : UInt8), (8 : UInt8), (8 : UInt8), (8 : UInt8), (8 : UInt8), (8 : UInt8), (8 : UInt8), (8 : UInt8), (8 : UInt8), (8 : UInt8), (8 : UInt8), (8 : UInt8), (8 : UInt8), (8 : UInt8), (8 : UInt8), (8 : UInt8), (8 : UInt8), (8 : UInt8), (8 : UInt8), (8 : UInt8), (8 : UInt8), (8 : UInt8), (8 : UInt8), (8 : UInt8), (8 : UInt8), (8 : UInt8), (8 : UInt8), (8 : UInt8), (8 : UInt8), (8 : UInt8), (8 : UInt8), (8 : UInt8), (8 : UInt8), (8 : UInt8), (8 : UInt8), (8 : UInt8), (8 : UInt8), (8 : UInt8), (8 : UInt8), (8 : UInt8), (8 : UInt8), (8 : UInt8), (8 : UInt8), (8 : UInt8), (8 : UInt8), (8 : UInt8), (8 : UInt8), (8 : UInt8), (8 : UInt8), (8 : UInt8), (8 : UInt8), (8 : UInt8), (8 : UInt8), (8 : UInt8), (8 : UInt8), (8 : UInt8), (8 : UInt8), (8 : UInt8), (8 : UInt8), (8 : UInt8), (8 : UInt8), (8 : UInt8), (8 : UInt8), (8 : UInt8), (8 : UInt8), (8 : UInt8), (8 : UInt8), (8 : UInt8), (8 : UInt8), (8 : UInt8), (8 : UInt8), (8 : UInt8), (8 : UInt8), (8 : UInt8), (8 : UInt8), (8 : UInt8), (8 : UInt8), (8 : UInt8), (8 : UInt8), (8 : UInt8)] from rfl]
  have e32 : ∀ y : Nat, 4294967296 ≤ y → y.log2 = (y / 2 ^ 32).log2 + 32 := fun y hy => log2_shift (by omega)
  have e16 : ∀ y : Nat, 65536 ≤ y → y.log2 = (y / 2 ^ 16).log2 + 16 := fun y hy => log2_shift (by omega)
  have e8 : ∀ y : Nat, 256 ≤ y → y.log2 = (y / 2 ^ 8).log2 + 8 := fun y hy => log2_shift (by omega)
  have fin : ∀ (y c : Nat) (C : Int), C = (c : Int) → 0 < y → y < 256 → c ≤ 64 → x.log2 = y.log2 + c → (Option.bind (ix tab8 (IntKind.u8.wrap (y : Int))) fun (v : UInt8) => some (IntKind.i64.wrap (C + IntKind.i64.wrap ((v.toNat : Nat) : Int)))) = some ((x.log2 + 1 : Nat) : Int) := by
    intro y c C hC h0 h hc he
    subst hC
    rw [tab8_end c h0 h hc, he]
    exact congrArg some (by omega)
  by_cases h1 : 4294967296 ≤ x
  · rw [if_pos (by simp; omega), shr32, Option.bind_some]
    have hx := e32 x h1
    have hb : x / 2 ^ 32 < 4294967296 := by omega
    have hp : 0 < x / 2 ^ 32 := by omega
    generalize x / 2 ^ 32 = y at hx hb hp
    by_cases h2 : 65536 ≤ y
    · rw [if_pos (by simp; omega), shr16, Option.bind_some]
      have hy := e16 y h2
      have hb : y / 2 ^ 16 < 65536 := by omega
      have hp : 0 < y / 2 ^ 16 := by omega
      generalize y / 2 ^ 16 = z at hy hb hp
      by_cases h3 : 256 ≤ z
      · rw [if_pos (by simp; omega), shr8, Option.bind_some]
        have hz := e8 z h3
        exact fin _ 56 56 rfl (by omega) (by omega) (by decide) (by omega)
      · rw [if_neg (by simp; omega)]
        exact fin _ 48 48 rfl (by omega) (by omega) (by decide) (by omega)
    · rw [if_neg (by simp; omega)]
      by_cases h3 : 256 ≤ y
      · rw [if_pos (by simp; omega), shr8, Option.bind_some]
        have hz := e8 y h3
        exact fin _ 40 40 rfl (by omega) (by omega) (by decide) (by omega)
      · rw [if_neg (by simp; omega)]
        exact fin _ 32 32 rfl (by omega) (by omega) (by decide) (by omega)
  · rw [if_neg (by simp; omega)]
    by_cases h2 : 65536 ≤ x
    · rw [if_pos (by simp; omega), shr16, Option.bind_some]
      have hy := e16 x h2
      have hb : x / 2 ^ 16 < 65536 := by omega
      have hp : 0 < x / 2 ^ 16 := by omega
      generalize x / 2 ^ 16 = z at hy hb hp
      by_cases h3 : 256 ≤ z
      · rw [if_pos (by simp; omega), shr8, Option.bind_some]
        have hz := e8 z h3
        exact fin _ 24 24 rfl (by omega) (by omega) (by decide) (by omega)
      · rw [if_neg (by simp; omega)]
        exact fin _ 16 16 rfl (by omega) (by omega) (by decide) (by omega)
    · rw [if_neg (by simp; omega)]
      by_cases h3 : 256 ≤ x
      · rw [if_pos (by simp; omega), shr8, Option.bind_some]
        have hz := e8 x h3
        exact fin _ 8 8 rfl (by omega) (by omega) (by decide) (by omega)
      · rw [if_neg (by simp; omega)]
        exact fin _ 0 0 rfl (by omega) (by omega) (by decide) (by omega)

theorem split_is {n : Nat} (h : 2 ≤ n) (h' : n < 9223372036854775808) : tree_split_M (n : Int) = some ((half n : Nat) : Int) := by
  have hh := half_nat h h'
  have hl : (n - 1).log2 < 63 := (Nat.log2_lt (by omega)).2 (by omega)
  unfold tree_split_M
  simp only [bits_Len_P, bits_Len_M, bits_Len64_P]
  rw [i64_id (n := (n : Int) - 1) (by omega) (by omega), u64_id (by omega) (by omega), show ((n : Int) - 1) = ((n - 1 : Nat) : Int) by omega, len64_is (by omega) (by omega)]
  simp only [Option.bind_some]
  rw [i64_id (n := (((n - 1).log2 + 1 : Nat) : Int) - 1) (by omega) (by omega), gshl_ok (by omega), Option.bind_some]
  rw [show ((((n - 1).log2 + 1 : Nat) : Int) - 1).toNat = (n - 1).log2 by omega, show IntKind.i64.bits = 64 from rfl, Nat.min_eq_left (by omega)]
  have e : (1 : Int) * 2 ^ (n - 1).log2 = ((half n : Nat) : Int) := by unfold half; simp
  rw [e, i64_id (by omega) (by omega)]

theorem Half_is {n : Nat} (h : 2 ≤ n) (h' : n < 9223372036854775808) : intaglioref12_Half_M (n : Int) = some ((half n : Nat) : Int) := by
  unfold intaglioref12_Half_M
  rw [loop_is (r := ((half n : Nat) : Int)) (fun (p : Int × Int × Int) => p.1 = (n : Int) ∧ ∃ i : Nat, p.2.2 = (i : Int) ∧ i ≤ 62 ∧ p.2.1 = ((2 ^ i : Nat) : Int) ∧ 2 ^ i < n) (fun p => 62 - p.2.2.toNat) ⟨rfl, 0, rfl, by decide, rfl, by omega⟩ (by simp) ?_]
  · rfl
  · rintro ⟨a, b, c⟩ ⟨h1, i, h2, h3, h4, h5⟩
    simp only at h1 h2 h4
    subst h1 h2 h4
    simp only [intaglioref12_Half_L1_P, intaglioref12_Half_L1]
    have hs := Nat.pow_succ (n := 2) (m := i)
    have h62p : (2 : Nat) ^ 62 = 4611686018427387904 := by decide
    by_cases h62 : i < 62
    · obtain ⟨p, hp⟩ : ∃ p, p = 2 ^ i := ⟨_, rfl⟩
      rw [← hp] at h5 hs ⊢
      rw [if_pos (decide_eq_true (by omega)), i64_id (n := (n : Int) - (p : Int)) (by omega) (by omega)]
      by_cases hk : p < n - p
      · left
        rw [if_pos (decide_eq_true (by omega))]
        refine ⟨_, rfl, ⟨rfl, i + 1, ?_, h62, ?_, by omega⟩, ?_⟩
        · exact i64_succ (by omega)
        · simp only
          rw [hs, i64_id (by omega) (by omega)]; omega
        · simp only
          rw [i64_succ (by omega)]; omega
      · right
        rw [if_neg (by simp; omega), half_of (k := i) (by omega) (by omega), ← hp]
    · right
      obtain rfl : i = 62 := by omega
      rw [if_neg (by simp), half_of h5 (by omega)]
end Go.Proofs.YtmjmjfbmgiidiaaDoor
