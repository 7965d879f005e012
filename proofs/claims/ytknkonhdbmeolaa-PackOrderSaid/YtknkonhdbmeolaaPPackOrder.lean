/- The order's law, in plain words. -/
import Derived.Test.YtknkonhdbmeolaaMPackOrder
import Derived.Test.YtknkonhdbmeolaaReads
namespace Go.Proofs.Ytknkonhdbmeolaa
open Go Go.Lift
set_option maxRecDepth 100000
set_option maxHeartbeats 4000000
set_option linter.unusedVariables false

theorem cmp_cons {a b : Int} {as bs : List Int} (ha : 0 ≤ a ∧ a < 256) (hb : 0 ≤ b ∧ b < 256) : cmpB (a :: as) (b :: bs) = if a < b then -1 else if b < a then 1 else cmpB as bs := by
  have key : ∀ x y : Int, 0 ≤ x ∧ x < 256 → 0 ≤ y ∧ y < 256 → (UInt8.ofNat x.toNat < UInt8.ofNat y.toNat ↔ x < y) := by
    intro x y hx hy
    rw [UInt8.lt_iff_toNat_lt]
    simp only [UInt8.toNat_ofNat']
    omega
  unfold cmpB b8
  simp only [List.map_cons, Lib.compareBytes]
  by_cases h : a < b
  · rw [if_pos ((key a b ha hb).2 h), if_pos h]
  · rw [if_neg (fun x => h ((key a b ha hb).1 x)), if_neg h]
    by_cases h' : b < a
    · rw [if_pos ((key b a hb ha).2 h'), if_pos h']
    · rw [if_neg (fun x => h' ((key b a hb ha).1 x)), if_neg h']
theorem cmp_nil : cmpB [] [] = 0 := rfl

def cmpI (x y : Int) : Int := if x < y then -1 else if y < x then 1 else 0

theorem cmp_be4 {x y : Int} (hx : 0 ≤ x ∧ x < 4294967296) (hy : 0 ≤ y ∧ y < 4294967296) : cmpB (be4 x) (be4 y) = cmpI x y := by
  unfold be4 cmpI
  repeat rw [cmp_cons (by omega) (by omega)]
  rw [cmp_nil]
  repeat' split
  all_goals first | rfl | omega
theorem cmp_be8 {x y : Int} (hx : 0 ≤ x ∧ x < 18446744073709551616) (hy : 0 ≤ y ∧ y < 18446744073709551616) : cmpB (be8 x) (be8 y) = cmpI x y := by
  have e : ∀ z : Int, be8 z = be4 (z / 4294967296) ++ be4 (z % 4294967296) := fun z => by
    simp only [be8, be4, List.cons_append, List.nil_append, List.cons.injEq, and_true]
    refine ⟨?_, ?_, ?_, trivial, ?_, ?_, ?_, ?_⟩ <;> omega
  have app : ∀ (a b : Int) (s t : List Int), 0 ≤ a ∧ a < 4294967296 → 0 ≤ b ∧ b < 4294967296 → cmpB (be4 a ++ s) (be4 b ++ t) = if a < b then -1 else if b < a then 1 else cmpB s t := by
    intro a b s t ha hb
    unfold be4
    simp only [List.cons_append, List.nil_append]
    repeat rw [cmp_cons (by omega) (by omega)]
    repeat' split
    all_goals first | rfl | omega
  rw [e x, e y, app _ _ _ _ (by omega) (by omega), cmp_be4 (by omega) (by omega)]
  unfold cmpI
  repeat' split
  all_goals first | rfl | omega

theorem cmp64_is (x y : Int) : cmp_Compare_uint64_M x y = some (cmpI x y) := by
  unfold cmp_Compare_uint64_M cmp_isNaN_uint64_M cmpI
  simp
  repeat' split
  all_goals first | rfl | omega
theorem cmp32_is (x y : Int) : cmp_Compare_uint32_M x y = some (cmpI x y) := by
  unfold cmp_Compare_uint32_M cmp_isNaN_uint32_M cmpI
  simp
  repeat' split
  all_goals first | rfl | omega

theorem bor_zero {b : Int} (h : 0 ≤ b) (h' : b < 18446744073709551616) : bor .u64 0 b = b := by
  obtain ⟨n, rfl⟩ := Int.eq_ofNat_of_zero_le h
  have h2 := (bits_nat .u64 64 (by decide) (fun n h h' => u64_id h (by simpa using h')) 0 n (by decide) (by omega)).2
  have e : bits .or .u64 ((0 : Nat) : Int) (n : Int) = bor .u64 0 n := rfl
  rw [← e, h2]; simp
theorem bor_up (j : Nat) (hj : j ≤ 56) {a b : Int} (ha : 0 ≤ a) (ha' : a < 2 ^ j) (hb : 0 ≤ b) (hb' : b < 256) : bor .u64 a (b * 2 ^ j) = a + b * 2 ^ j := by
  have hp : (0 : Int) < 2 ^ j := Int.pow_pos (by decide)
  have h56 : (2 : Int) ^ j ≤ 2 ^ 56 := by
    have := Nat.pow_le_pow_right (show 0 < 2 by decide) hj
    exact_mod_cast this
  have hlt : b * 2 ^ j < 2 ^ 64 := by
    have h1 : b * 2 ^ j ≤ 255 * 2 ^ j := Int.mul_le_mul_of_nonneg_right (by omega) (by omega)
    have h2 : (255 : Int) * 2 ^ j ≤ 255 * 2 ^ 56 := Int.mul_le_mul_of_nonneg_left h56 (by decide)
    have : (255 : Int) * 2 ^ 56 < 2 ^ 64 := by decide
    omega
  have h := bits_join .u64 64 (by decide) (fun n h h' => u64_id h (by simpa using h')) j (b * 2 ^ j) a (Int.mul_nonneg hb (by omega)) (Int.mul_emod_left b _) hlt ha ha' (by
    have : (2 : Int) ^ 56 < 2 ^ 64 := by decide
    omega)
  have c : bor .u64 a (b * 2 ^ j) = bits .or .u64 (b * 2 ^ j) a := by
    show IntKind.u64.wrap _ = IntKind.u64.wrap _
    rw [BitVec.or_comm]
  rw [c, h]; omega

theorem take8 {x : Int} (hx : 0 ≤ x) (hx' : x < 18446744073709551616) : pack_take_M (le8 x) 0 8 = some x := by
  have r1 : ∀ a b : Int, 0 ≤ a → a < 256 → 0 ≤ b → b < 256 → bor .u64 a (b * 256) = a + b * 256 := fun a b h1 h2 h3 h4 => bor_up 8 (by decide) h1 h2 h3 h4
  have r2 : ∀ a b : Int, 0 ≤ a → a < 65536 → 0 ≤ b → b < 256 → bor .u64 a (b * 65536) = a + b * 65536 := fun a b h1 h2 h3 h4 => bor_up 16 (by decide) h1 h2 h3 h4
  have r3 : ∀ a b : Int, 0 ≤ a → a < 16777216 → 0 ≤ b → b < 256 → bor .u64 a (b * 16777216) = a + b * 16777216 := fun a b h1 h2 h3 h4 => bor_up 24 (by decide) h1 h2 h3 h4
  have r4 : ∀ a b : Int, 0 ≤ a → a < 4294967296 → 0 ≤ b → b < 256 → bor .u64 a (b * 4294967296) = a + b * 4294967296 := fun a b h1 h2 h3 h4 => bor_up 32 (by decide) h1 h2 h3 h4
  have r5 : ∀ a b : Int, 0 ≤ a → a < 1099511627776 → 0 ≤ b → b < 256 → bor .u64 a (b * 1099511627776) = a + b * 1099511627776 := fun a b h1 h2 h3 h4 => bor_up 40 (by decide) h1 h2 h3 h4
  have r6 : ∀ a b : Int, 0 ≤ a → a < 281474976710656 → 0 ≤ b → b < 256 → bor .u64 a (b * 281474976710656) = a + b * 281474976710656 := fun a b h1 h2 h3 h4 => bor_up 48 (by decide) h1 h2 h3 h4
  have r7 : ∀ a b : Int, 0 ≤ a → a < 72057594037927936 → 0 ≤ b → b < 256 → bor .u64 a (b * 72057594037927936) = a + b * 72057594037927936 := fun a b h1 h2 h3 h4 => bor_up 56 (by decide) h1 h2 h3 h4
  unfold pack_take_M
  rw [loop_few (r := x) 9 (by decide) ?_]
  · rfl
  · simp (disch := first | omega | (simp; done)) [iter, pack_take_L1, pack_take_J1, le8, ix_ok, gshl_ok, IntKind.wrap_i64, u64_id, IntKind.bits, bor_zero, r1, r2, r3, r4, r5, r6, r7]
    omega
theorem take4 {x : Int} (hx : 0 ≤ x) (hx' : x < 4294967296) : pack_take_M ([7] ++ le4 x) 1 4 = some x := by
  have r1 : ∀ a b : Int, 0 ≤ a → a < 256 → 0 ≤ b → b < 256 → bor .u64 a (b * 256) = a + b * 256 := fun a b h1 h2 h3 h4 => bor_up 8 (by decide) h1 h2 h3 h4
  have r2 : ∀ a b : Int, 0 ≤ a → a < 65536 → 0 ≤ b → b < 256 → bor .u64 a (b * 65536) = a + b * 65536 := fun a b h1 h2 h3 h4 => bor_up 16 (by decide) h1 h2 h3 h4
  have r3 : ∀ a b : Int, 0 ≤ a → a < 16777216 → 0 ≤ b → b < 256 → bor .u64 a (b * 16777216) = a + b * 16777216 := fun a b h1 h2 h3 h4 => bor_up 24 (by decide) h1 h2 h3 h4
  unfold pack_take_M
  rw [loop_few (r := x) 5 (by decide) ?_]
  · rfl
  · simp (disch := first | omega | (simp; done)) [iter, pack_take_L1, pack_take_J1, le4, ix_ok, gshl_ok, IntKind.wrap_i64, u64_id, IntKind.bits, bor_zero, r1, r2, r3]
    omega

theorem intagliolaw01_PackOrder_pure (p0 p1 : Int) (w0 : (Lit.int .u64 p0).wf = true) (w1 : (Lit.int .u64 p1).wf = true) : intagliolaw01_PackOrder_M p0 p1 = some true := by
  have h0 := wf_u64 w0
  have h1 := wf_u64 w1
  have y0 : 0 ≤ IntKind.u32.wrap p0 ∧ IntKind.u32.wrap p0 < 4294967296 := by rw [IntKind.wrap_u32]; omega
  have y1 : 0 ≤ IntKind.u32.wrap p1 ∧ IntKind.u32.wrap p1 < 4294967296 := by rw [IntKind.wrap_u32]; omega
  have eqC : ∀ a b, bytes_Compare_M a b = some (cmpB a b) := fun a b => rfl
  unfold intagliolaw01_PackOrder_M
  rw [put64 _ (by simp), put64 _ (by simp)]
  simp only [Option.bind_some, List.nil_append]
  rw [eqC, cmp64_is, cmp_be8 (by omega) (by omega)]
  simp only [Option.bind_some, beq_self_eq_true, if_true]
  rw [put32 _ (by simp), put32 _ (by simp)]
  simp only [Option.bind_some, List.nil_append]
  rw [eqC, cmp32_is, cmp_be4 y0 y1]
  simp only [Option.bind_some, beq_self_eq_true]
  unfold intagliolaw01_PackOrder_J1
  rw [if_pos rfl, putLe64 _ (by simp)]
  simp only [Option.bind_some, List.nil_append]
  unfold pack_Le64_M
  rw [take8 h0.1 (by omega)]
  simp only [Option.bind_some, beq_self_eq_true, if_true]
  rw [putLe32 _ (by simp)]
  simp only [Option.bind_some]
  unfold pack_Le32_M
  rw [take4 y0.1 y0.2]
  simp only [Option.bind_some]
  rw [u32_id y0.1 y0.2]
  simp only [beq_self_eq_true, if_true, awake_is, Option.bind_some]
end Go.Proofs.Ytknkonhdbmeolaa
