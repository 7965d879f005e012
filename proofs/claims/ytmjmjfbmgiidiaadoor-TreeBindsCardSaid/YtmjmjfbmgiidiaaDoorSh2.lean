/- What the package sha and the document's answer make of a text, in plain words: the same. -/
import Derived.Test.YtmjmjfbmgiidiaaDoorRo
import Derived.KernelRfl
namespace Go.Proofs.YtmjmjfbmgiidiaaDoor
open Go Go.Lift
set_option maxRecDepth 100000
set_option maxHeartbeats 4000000
set_option linter.unusedVariables false

/-- One round. -/
def sT (k w : Int) (x : Arr 8 Int) : Int :=
  IntKind.u32.wrap (IntKind.u32.wrap (IntKind.u32.wrap (IntKind.u32.wrap (x.val.getD 7 0 + bxor .u32 (bxor .u32 (rot 6 (x.val.getD 4 0)) (rot 11 (x.val.getD 4 0))) (rot 25 (x.val.getD 4 0))) + bxor .u32 (band .u32 (x.val.getD 4 0) (x.val.getD 5 0)) (band .u32 (bxor .u32 4294967295 (x.val.getD 4 0)) (x.val.getD 6 0))) + k) + w)
def sU (x : Arr 8 Int) : Int :=
  IntKind.u32.wrap (bxor .u32 (bxor .u32 (rot 2 (x.val.getD 0 0)) (rot 13 (x.val.getD 0 0))) (rot 22 (x.val.getD 0 0)) + bxor .u32 (bxor .u32 (band .u32 (x.val.getD 0 0) (x.val.getD 1 0)) (band .u32 (x.val.getD 0 0) (x.val.getD 2 0))) (band .u32 (x.val.getD 1 0) (x.val.getD 2 0)))
def sstep (k w : Arr 64 Int) (i : Nat) (x : Arr 8 Int) : Arr 8 Int :=
  Arr.of 8 [IntKind.u32.wrap (sT (k.val.getD i 0) (w.val.getD i 0) x + sU x), x.val.getD 0 0, x.val.getD 1 0, x.val.getD 2 0, IntKind.u32.wrap (x.val.getD 3 0 + sT (k.val.getD i 0) (w.val.getD i 0) x), x.val.getD 4 0, x.val.getD 5 0, x.val.getD 6 0] rfl
def sadd (x : Arr 8 Int) (i : Nat) (m : Arr 8 Int) : Arr 8 Int := Arr.set m i (IntKind.u32.wrap (m.val.getD i 0 + x.val.getD i 0))
/-- The state behind a block. -/
def blockF (s : Arr 8 Int) (b : List Int) (k : Arr 64 Int) : Arr 8 Int := rounds (sadd (rounds (sstep k (wF b)) 0 64 s)) 0 8 s

theorem inb8 : inb 8 0 = some () ∧ inb 8 1 = some () ∧ inb 8 2 = some () ∧ inb 8 3 = some () ∧ inb 8 4 = some () ∧ inb 8 5 = some () ∧ inb 8 6 = some () ∧ inb 8 7 = some () := ⟨rfl, rfl, rfl, rfl, rfl, rfl, rfl, rfl⟩

theorem block_L1 (k : Arr 64 Int) (m0 m1 : Arr 8 Int) (m2 : Arr 64 Int) (x : Arr 8 Int) :
    loop sha_state_block_L1_P (k, (0 : Int), m0, m1, m2, x) = some (m0, m1, m2, rounds (sstep k m2) 0 64 x) := by
  have h := loop_count (body := sha_state_block_L1_P) (T := Arr 8 Int) 64 (fun i x => (k, (i : Int), m0, m1, m2, x)) (sstep k m2) (fun x => (m0, m1, m2, x)) (fun i m => True) (i := 0) (t := x) ?_ ?_ (by decide) (by decide) trivial
  · exact h.1
  · intro i x hi _
    refine ⟨?_, trivial⟩
    obtain ⟨a0, a1, a2, a3, a4, a5, a6, a7⟩ := inb8
    simp only [sha_state_block_L1_P, sha_state_block_L1]
    rw [if_pos (by simp; omega)]
    simp only [a0, a1, a2, a3, a4, a5, a6, a7, inb_ok hi, Option.bind_some, right_6, right_11, right_25, right_2, right_13, right_22, i64_succ (show i < 4611686018427387904 by omega), Int.toNat_natCast]
    rfl
  · intro t _
    simp only [sha_state_block_L1_P, sha_state_block_L1]
    rw [if_neg (by simp)]

theorem block_L2 (m1 x s : Arr 8 Int) : loop sha_state_block_L2_P ((0 : Int), s, m1, x) = some (rounds (sadd x) 0 8 s, m1, x) := by
  have h := loop_count (body := sha_state_block_L2_P) (T := Arr 8 Int) 8 (fun i m => ((i : Int), m, m1, x)) (sadd x) (fun m => (m, m1, x)) (fun i m => True) (i := 0) (t := s) ?_ ?_ (by decide) (by decide) trivial
  · exact h.1
  · intro i m hi _
    refine ⟨?_, trivial⟩
    simp only [sha_state_block_L2_P, sha_state_block_L2]
    rw [if_pos (by simp; omega)]
    simp only [inb_ok hi, Option.bind_some, i64_succ (show i < 4611686018427387904 by omega), Int.toNat_natCast]
    rfl
  · intro t _
    simp only [sha_state_block_L2_P, sha_state_block_L2]
    rw [if_neg (by simp)]

theorem block_is {s : Arr 8 Int} {b : List Int} (hb : By b) (hl : b.length = 64) : sha_state_block_M s b = some (blockF s b shaCubes) := by
  unfold sha_state_block_M
  simp only [sha_wide_P]
  rw [wide_is hb hl, Option.bind_some, block_L1, Option.bind_some, block_L2, Option.bind_some]; rfl

theorem rblock_L4 (i t u v : Int) (m0 : Arr 8 Int) (m1 : Arr 64 Int) (m2 : Arr 8 Int) (m3 : Arr 64 Int) (a b c d e f g h : Int) :
    loop intaglioref05_block_L4_P (i, t, u, v, (7 : Int), m0, m1, m2, m3, Arr.of 8 [a, b, c, d, e, f, g, h] rfl) = some (i, t, u, v, m0, m1, m2, m3, Arr.of 8 [a, a, b, c, d, e, f, g] rfl) := by
  kernel_rfl

theorem rblock_L3 (k : Arr 64 Int) (m0 : Arr 8 Int) (m2 : Arr 8 Int) (w : Arr 64 Int) (x : Arr 8 Int) :
    loop intaglioref05_block_L3_P ((0 : Int), m0, k, m2, w, x) = some (m0, k, m2, w, rounds (sstep k w) 0 64 x) := by
  have h := loop_count (body := intaglioref05_block_L3_P) (T := Arr 8 Int) 64 (fun i x => ((i : Int), m0, k, m2, w, x)) (sstep k w) (fun x => (m0, k, m2, w, x)) (fun i m => True) (i := 0) (t := x) ?_ ?_ (by decide) (by decide) trivial
  · exact h.1
  · intro i x hi _
    refine ⟨?_, trivial⟩
    obtain ⟨a0, a1, a2, a3, a4, a5, a6, a7⟩ := inb8
    obtain ⟨l, hl⟩ := x
    match l, hl with
    | [a, b, c, d, e, f, g, h], hl =>
      simp only [intaglioref05_block_L3_P, intaglioref05_block_L3]
      rw [if_pos (by simp; omega)]
      simp only [a0, a1, a2, a4, a5, a6, a7, inb_ok hi, Option.bind_some, turn_6, turn_11, turn_25, turn_2, turn_13, turn_22, Int.toNat_natCast]
      rw [show (⟨[a, b, c, d, e, f, g, h], hl⟩ : Arr 8 Int) = Arr.of 8 [a, b, c, d, e, f, g, h] rfl from rfl, rblock_L4]
      simp only [Option.bind_some, i64_succ (show i < 4611686018427387904 by omega)]
      rw [bxor_comm _ _ 4294967295]
      refine congrArg (fun y => some (Sum.inl (((i + 1 : Nat) : Int), m0, k, m2, w, y))) ?_
      apply Subtype.ext
      show [_, a, b, c, _, e, f, g] = [_, a, b, c, _, e, f, g]
      have e1 : ∀ t u v : Int, IntKind.u32.wrap (IntKind.u32.wrap (t + u) + v) = IntKind.u32.wrap (t + IntKind.u32.wrap (u + v)) := by
        intro t u v; simp only [IntKind.wrap_u32]; omega
      rw [e1]
      rfl
  · intro t _
    simp only [intaglioref05_block_L3_P, intaglioref05_block_L3]
    rw [if_neg (by simp)]

theorem rblock_L5 (m1 x s : Arr 8 Int) : loop intaglioref05_block_L5_P ((0 : Int), s, m1, x) = some (rounds (sadd x) 0 8 s, m1, x) := by
  have h := loop_count (body := intaglioref05_block_L5_P) (T := Arr 8 Int) 8 (fun i m => ((i : Int), m, m1, x)) (sadd x) (fun m => (m, m1, x)) (fun i m => True) (i := 0) (t := s) ?_ ?_ (by decide) (by decide) trivial
  · exact h.1
  · intro i m hi _
    refine ⟨?_, trivial⟩
    simp only [intaglioref05_block_L5_P, intaglioref05_block_L5]
    rw [if_pos (by simp; omega)]
    simp only [inb_ok hi, Option.bind_some, i64_succ (show i < 4611686018427387904 by omega), Int.toNat_natCast]
    rfl
  · intro t _
    simp only [intaglioref05_block_L5_P, intaglioref05_block_L5]
    rw [if_neg (by simp)]

theorem rblock_is {s : Arr 8 Int} {b : List Int} {k : Arr 64 Int} (hb : By b) (hl : b.length = 64) : intaglioref05_block_M s b k = some (blockF s b k) := by
  unfold intaglioref05_block_M
  rw [rwide_L1 hb hl, Option.bind_some, rwide_L2, Option.bind_some, rblock_L3, Option.bind_some, rblock_L5, Option.bind_some]; rfl

/-! ### All blocks -/

/-- All whole blocks: the state behind them, and the rest. -/
def eat (s : Arr 8 Int) (t : List Int) : Arr 8 Int × List Int :=
  if h : 64 ≤ t.length then eat (blockF s (t.take 64) shaCubes) (t.drop 64) else (s, t)
termination_by t.length
decreasing_by simp; omega

theorem eat_more {s : Arr 8 Int} {t : List Int} (h : 64 ≤ t.length) : eat s t = eat (blockF s (t.take 64) shaCubes) (t.drop 64) := by rw [eat, dif_pos h]
theorem eat_end {s : Arr 8 Int} {t : List Int} (h : t.length < 64) : eat s t = (s, t) := by rw [eat, dif_neg (by omega)]
theorem eat_le (n : Nat) : ∀ (s : Arr 8 Int) (t : List Int), t.length ≤ n → (eat s t).2.length ≤ t.length ∧ (By t → By (eat s t).2) ∧ ∀ u, eat s (t ++ u) = eat (eat s t).1 ((eat s t).2 ++ u) := by
  induction n with
  | zero =>
    intro s t h
    rw [eat_end (t := t) (by omega)]
    exact ⟨Nat.le_refl _, id, fun u => rfl⟩
  | succ n ih =>
    intro s t h
    by_cases h64 : 64 ≤ t.length
    · rw [eat_more h64]
      obtain ⟨h1, h2, h3⟩ := ih (blockF s (t.take 64) shaCubes) (t.drop 64) (by simp; omega)
      refine ⟨by simp at h1; omega, fun hb => h2 (hb.drop _), fun u => ?_⟩
      rw [eat_more (t := t ++ u) (by simp; omega), List.take_append_of_le_length h64, List.drop_append_of_le_length h64, h3]
    · rw [eat_end (by omega)]
      exact ⟨Nat.le_refl _, id, fun u => rfl⟩
theorem eat_len (s : Arr 8 Int) (t : List Int) : (eat s t).2.length ≤ t.length := (eat_le _ s t (Nat.le_refl _)).1
theorem eat_by (s : Arr 8 Int) {t : List Int} (h : By t) : By (eat s t).2 := (eat_le _ s t (Nat.le_refl _)).2.1 h
theorem eat_app (s : Arr 8 Int) (t u : List Int) : eat s (t ++ u) = eat (eat s t).1 ((eat s t).2 ++ u) := (eat_le _ s t (Nat.le_refl _)).2.2 u

theorem write_loop {s : Arr 8 Int} {r : List Int} (n : Int) (hb : By r) (hl : r.length ≤ 2000000000) :
    loop sha_Hash_Write_L1_P (s, n, true, r) = some ((eat s r).1, n, true, (eat s r).2) := by
  refine loop_is (fun x => x.2.1 = n ∧ x.2.2.1 = true ∧ By x.2.2.2 ∧ x.2.2.2.length ≤ 2000000000 ∧ eat x.1 x.2.2.2 = eat s r) (fun x => x.2.2.2.length) ⟨rfl, rfl, hb, hl, rfl⟩ (by simp; omega) ?_
  rintro ⟨s', n', b', r'⟩ ⟨rfl, rfl, hb, hl, he⟩
  simp only at hb hl he
  simp only [sha_Hash_Write_L1_P, sha_Hash_Write_L1]
  by_cases h64 : 64 ≤ r'.length
  · left
    rw [if_pos (by simp; omega), subn_ok (by decide) (by decide) (by omega), Option.bind_some]
    simp only [sha_state_block_P, List.drop_zero]
    rw [block_is (hb.take _) (by simp; omega), Option.bind_some, subn_ok (by decide) (by omega) (by omega), Option.bind_some]
    refine ⟨_, rfl, ⟨rfl, rfl, ?_, ?_, ?_⟩, ?_⟩
    · exact (hb.take _).drop _
    · simp; omega
    · simp only [Int.toNat_natCast, List.take_length]
      rw [← he, eat_more h64]
    · simp; omega
  · right
    rw [if_neg (by simp; omega)]
    rw [← he, eat_end (by omega)]

theorem write_gen {s : Arr 8 Int} {r b : List Int} {n : Int} (hr : By r) (hb : By b) (hl : r.length + b.length ≤ 2000000000) (h0 : 0 ≤ n) (hn : n ≤ 2000000000) :
    sha_Hash_Write_M b s n true r = some ((eat s (r ++ b)).1, n + b.length, true, (eat s (r ++ b)).2) := by
  unfold sha_Hash_Write_M
  rw [if_neg (by decide), room_one (by omega), Option.bind_some, write_loop _ (hr.app hb) (by simp; omega), Option.bind_some, i64_id (by omega) (by omega)]

/-- All that was written. -/
def E (t : List Int) : Arr 8 Int × List Int := eat shaStart t
theorem write_is {t b : List Int} (ht : By t) (hb : By b) (hl : t.length + b.length ≤ 1000000000) :
    sha_Hash_Write_M b (E t).1 t.length true (E t).2 = some ((E (t ++ b)).1, (((t ++ b).length : Nat) : Int), true, (E (t ++ b)).2) := by
  have := eat_len shaStart t
  unfold E
  rw [write_gen (eat_by _ ht) hb (by omega) (by omega) (by omega)]
  rw [eat_app shaStart t b]; simp

def outF (h : Arr 8 Int) : Arr 32 Int := ⟨(List.range 32).map fun i => IntKind.u8.wrap ((h.val.getD (i / 4) 0).fdiv (2 ^ (24 - 8 * (i % 4)))), by simp⟩
def digest (t : List Int) : Arr 32 Int := outF (E (t ++ padL t.length)).1

theorem sum_L2x (a b c d e f g h : Int) (m0 : Arr 32 Int) : loop sha_Hash_Sum_L2_P (Arr.of 8 [a, b, c, d, e, f, g, h] rfl, (0 : Int), m0, Arr.rep 32 0) = some (m0, outF (Arr.of 8 [a, b, c, d, e, f, g, h] rfl)) := by kernel_rfl
theorem sum_L2 (h : Arr 8 Int) (m0 : Arr 32 Int) : loop sha_Hash_Sum_L2_P (h, (0 : Int), m0, Arr.rep 32 0) = some (m0, outF h) := by
  obtain ⟨l, hl⟩ := h
  match l, hl with
  | [a, b, c, d, e, f, g, h], hl => exact sum_L2x a b c d e f g h m0
theorem rsum_L4x (a b c d e f g h : Int) (m0 : Arr 32 Int) : loop intaglioref05_Sum_L4_P ((0 : Int), m0, Arr.of 8 [a, b, c, d, e, f, g, h] rfl, Arr.rep 32 0) = some (m0, Arr.of 8 [a, b, c, d, e, f, g, h] rfl, outF (Arr.of 8 [a, b, c, d, e, f, g, h] rfl)) := by kernel_rfl
theorem rsum_L4 (h : Arr 8 Int) (m0 : Arr 32 Int) : loop intaglioref05_Sum_L4_P ((0 : Int), m0, h, Arr.rep 32 0) = some (m0, h, outF h) := by
  obtain ⟨l, hl⟩ := h
  match l, hl with
  | [a, b, c, d, e, f, g, h], hl => exact rsum_L4x a b c d e f g h m0

theorem sum_is {t : List Int} (ht : By t) (hl : t.length ≤ 900000000) :
    sha_Hash_Sum_M (E t).1 t.length true (E t).2 = some (digest t, (E t).1, ((t.length : Nat) : Int), true, (E t).2) := by
  have h1 := eat_len shaStart t
  have h2 := padL_len (n := (t.length : Int)) (by omega)
  unfold sha_Hash_Sum_M digest E
  rw [if_neg (by decide)]
  simp only [sha_Hash_Sum_R1_P, sha_Hash_Sum_R1]
  rw [room_one (by omega), Option.bind_some, Option.bind_some]
  simp only [sha_Pad_P]
  rw [pad_is (by omega) (by omega), show max (t.length : Int) 0 = t.length by omega, Option.bind_some]
  simp only [sha_Hash_Write_P]
  rw [write_gen (eat_by _ ht) (padL_by _) (by omega) (by decide) (by decide), Option.bind_some]
  simp only
  rw [sum_L2, Option.bind_some, eat_app shaStart t]

theorem new_is : sha_New_M = some (shaStart, 0, true, []) := rfl
theorem E_nil : E [] = (shaStart, []) := eat_end (by decide)

theorem Sum_is {b : List Int} (hb : By b) (hl : b.length ≤ 900000000) : sha_Sum_M b = some (digest b) := by
  unfold sha_Sum_M
  simp only [sha_New_P, sha_New_M, Option.bind_some, sha_Hash_Write_P]
  have := write_is (t := []) (b := b) By.nil hb (by simp; omega)
  rw [E_nil] at this
  simp only [List.length_nil, List.nil_append] at this
  rw [show ((0 : Int)) = ((0 : Nat) : Int) from rfl, this, Option.bind_some]
  simp only [sha_Hash_Sum_P]
  rw [sum_is hb hl, Option.bind_some]

theorem rsum_L3 {all : List Int} (hb : By all) (hl : all.length ≤ 2000000000) (m0 : Arr 32 Int) :
    loop intaglioref05_Sum_L3_P ((0 : Int), m0, shaCubes, shaStart, all) = some (m0, shaCubes, (eat shaStart all).1) := by
  refine loop_is (fun (x : Int × Arr 32 Int × Arr 64 Int × Arr 8 Int × List Int) => x.2.1 = m0 ∧ x.2.2.1 = shaCubes ∧ x.2.2.2.2 = all ∧ ∃ i : Nat, x.1 = (i : Int) ∧ i ≤ all.length ∧ eat x.2.2.2.1 (all.drop i) = eat shaStart all) (fun x => all.length - x.1.toNat) ⟨rfl, rfl, rfl, 0, rfl, by omega, rfl⟩ (by simp; omega) ?_
  rintro ⟨i', m0', k', h', all'⟩ ⟨rfl, rfl, rfl, i, rfl, hi, he⟩
  simp only at he
  simp only [intaglioref05_Sum_L3_P, intaglioref05_Sum_L3]
  rw [i64_id (by omega) (by omega)]
  by_cases h64 : i + 64 ≤ all'.length
  · left
    rw [if_pos (by simp; omega), subn_ok (by omega) (by omega) (by omega), Option.bind_some]
    simp only [intaglioref05_block_P]
    rw [rblock_is ((hb.take _).drop _) (by simp; omega), Option.bind_some]
    refine ⟨_, rfl, ⟨rfl, rfl, rfl, i + 64, by simp, h64, ?_⟩, by simp; omega⟩
    rw [← he, eat_more (t := all'.drop i) (by simp; omega), List.drop_drop]
    simp only [Int.toNat_natCast]
    rw [show ((i : Int) + 64).toNat = i + 64 by omega, List.drop_take, show i + 64 - i = 64 by omega]
  · right
    rw [if_neg (by simp; omega)]
    rw [← he, eat_end (by simp; omega)]

theorem rSum_is {b : List Int} (hb : By b) (hl : b.length ≤ 900000000) : intaglioref05_Sum_M b = some (digest b) := by
  have h2 := padL_len (n := (b.length : Int)) (by omega)
  unfold intaglioref05_Sum_M
  simp only [intaglioref05_Primes_P]
  rw [primes_is, Option.bind_some, rsum_L1, Option.bind_some]
  simp only
  rw [rsum_L2, Option.bind_some]
  simp only [intaglioref05_Pad_P]
  rw [rpad_is (by omega) (by omega), show max (b.length : Int) 0 = b.length by omega, Option.bind_some]
  simp only [intaglioref01_Both_P]
  rw [both (by omega), Option.bind_some, rsum_L3 (hb.app (padL_by _)) (by simp; omega), Option.bind_some, rsum_L4, Option.bind_some]
  rfl
theorem digest_by (t : List Int) : By (digest t).1 := by
  intro x hx
  simp only [digest, outF, List.mem_map] at hx
  obtain ⟨i, _, rfl⟩ := hx
  rw [IntKind.wrap_u8]; omega
end Go.Proofs.YtmjmjfbmgiidiaaDoor
