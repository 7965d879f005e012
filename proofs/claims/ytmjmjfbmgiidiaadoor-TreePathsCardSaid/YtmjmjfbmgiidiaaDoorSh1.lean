/- What the package sha and the document's answer make of one block, in plain words: the same. -/
import Derived.Test.YtmjmjfbmgiidiaaDoorRd
namespace Go.Proofs.YtmjmjfbmgiidiaaDoor
open Go Go.Lift
set_option maxRecDepth 100000
set_option maxHeartbeats 4000000
set_option linter.unusedVariables false

/-! ### Padding -/

def padL (n : Int) : List Int := [128] ++ List.replicate ((119 - n % 64) % 64).toNat 0 ++ be8 (8 * n % 18446744073709551616)
theorem padL_by (n : Int) : By (padL n) := by
  have h : By [128] := fun x hx => by rw [List.mem_singleton.1 hx]; exact ⟨by decide, by decide⟩
  exact By.app (By.app h (By.rep _)) (By.be8 _)
theorem padL_len {n : Int} (h : 0 ≤ n) : ((padL n).length : Int) = 9 + (119 - n % 64) % 64 := by simp [padL, be8_len]; omega

theorem pad_is {n : Int} (h : -9223372036854775808 ≤ n) (h' : n < 9223372036854775808) : sha_Pad_M n = some (padL (max n 0)) := by
  unfold sha_Pad_M
  have e : (if (0 : Int) > n then (0 : Int) else n) = max n 0 := by split <;> omega
  simp only [e]
  have hm : 0 ≤ max n 0 ∧ max n 0 < 9223372036854775808 := by omega
  generalize max n 0 = m at hm
  rw [u64_id (n := m) (by omega) (by omega), grem_nat (by omega) (by decide), Option.bind_some, u64_id (by omega) (by omega), grem_nat (by omega) (by decide), Option.bind_some,
    i64_id (by omega) (by omega), mk1_ok (by omega) (by omega), Option.bind_some, room_one (by omega), Option.bind_some]
  simp only [pack_Put64_P]
  rw [put64 _ (by simp; omega), wrap_u64']
  rfl

theorem rpad_loop {n : Int} (h : 0 ≤ n) : loop intaglioref05_Pad_L1_P (n, (0 : Int), [(128 : Int)]) = some (n, [128] ++ List.replicate ((119 - n % 64) % 64).toNat 0) := by
  refine loop_is (fun s => ∃ i : Nat, (i : Int) ≤ (119 - n % 64) % 64 ∧ s = (n, (i : Int), [128] ++ List.replicate i 0)) (fun s => 64 - s.2.1.toNat) ⟨0, by omega, rfl⟩ (by simp) ?_
  rintro _ ⟨i, hi, rfl⟩
  simp only [intaglioref05_Pad_L1_P, intaglioref05_Pad_L1]
  rw [if_pos (by simp; omega), grem_nat h (by decide), Option.bind_some]
  have hl : (((List.length ([(128 : Int)] ++ List.replicate i (0 : Int))) : Nat) : Int) = 1 + i := by simp; omega
  rw [hl, i64_id (n := n % 64 + (1 + (i : Int))) (by omega) (by omega), i64_id (by omega) (by omega), grem_nat (by omega) (by decide), Option.bind_some]
  by_cases hd : (i : Int) = (119 - n % 64) % 64
  · right
    rw [if_neg (by simp; omega)]
    rw [← hd]; simp
  · left
    rw [if_pos (by simp; omega), room_one (by simp; omega), Option.bind_some, i64_succ (by omega)]
    refine ⟨_, rfl, ⟨i + 1, by omega, ?_⟩, by simp; omega⟩
    rw [List.replicate_succ', ← List.append_assoc]

theorem rpad_is {n : Int} (h : -9223372036854775808 ≤ n) (h' : n < 9223372036854775808) : intaglioref05_Pad_M n = some (padL (max n 0)) := by
  have key : ∀ m : Int, 0 ≤ m → m < 9223372036854775808 → (Option.bind (loop intaglioref05_Pad_L1_P (m, (0 : Int), [(128 : Int)])) fun (v3 : (Int × (List Int))) =>
      Option.bind (intaglioref01_High_P (IntKind.wrap IntKind.u64 ((8 : Int) * IntKind.wrap IntKind.u64 v3.fst), (8 : Int))) fun (v4 : (List Int)) =>
      Option.bind (room (1 : Nat) (List.length v3.snd + List.length v4)) fun _ =>
      some (v3.snd ++ v4)) = some (padL m) := by
    intro m h0 h1
    rw [rpad_loop h0, Option.bind_some]
    simp only [intaglioref01_High_P]
    rw [u64_id (n := m) (by omega) (by omega), wrap_u64', refhigh8 (by omega) (by omega), Option.bind_some, room_one (by simp [be8_len]; omega), Option.bind_some]
    rfl
  unfold intaglioref05_Pad_M
  by_cases hn : n < 0
  · rw [if_pos (by simpa using hn), key 0 (by decide) (by decide), show max n 0 = 0 by omega]
  · rw [if_neg (by simpa using hn), key n (by omega) h', show max n 0 = n by omega]

/-! ### One block -/

theorem bor_comm (k : IntKind) (a b : Int) : bor k a b = bor k b a := by unfold bor; rw [BitVec.or_comm]
theorem bxor_comm (k : IntKind) (a b : Int) : bxor k a b = bxor k b a := by unfold bxor; rw [BitVec.xor_comm]

/-- A number's bits, turned right. -/
def rot (n : Nat) (x : Int) : Int := bor .u32 (x.fdiv (2 ^ n)) (IntKind.u32.wrap (x * 2 ^ (32 - n)))
theorem turn_2 (x : Int) : intaglioref05_turn_P (x, 2) = some (rot 2 x) := by kernel_rfl
theorem turn_6 (x : Int) : intaglioref05_turn_P (x, 6) = some (rot 6 x) := by kernel_rfl
theorem turn_7 (x : Int) : intaglioref05_turn_P (x, 7) = some (rot 7 x) := by kernel_rfl
theorem turn_11 (x : Int) : intaglioref05_turn_P (x, 11) = some (rot 11 x) := by kernel_rfl
theorem turn_13 (x : Int) : intaglioref05_turn_P (x, 13) = some (rot 13 x) := by kernel_rfl
theorem turn_17 (x : Int) : intaglioref05_turn_P (x, 17) = some (rot 17 x) := by kernel_rfl
theorem turn_18 (x : Int) : intaglioref05_turn_P (x, 18) = some (rot 18 x) := by kernel_rfl
theorem turn_19 (x : Int) : intaglioref05_turn_P (x, 19) = some (rot 19 x) := by kernel_rfl
theorem turn_22 (x : Int) : intaglioref05_turn_P (x, 22) = some (rot 22 x) := by kernel_rfl
theorem turn_25 (x : Int) : intaglioref05_turn_P (x, 25) = some (rot 25 x) := by kernel_rfl
def rotb (n : Nat) (x : Int) : Int := bor .u32 (IntKind.u32.wrap (x * 2 ^ (32 - n))) (x.fdiv (2 ^ n))
theorem rotb_is (n : Nat) (x : Int) : rotb n x = rot n x := bor_comm _ _ _
theorem right_2 (x : Int) : sha_right_P (x, 2) = some (rot 2 x) := by rw [← rotb_is]; kernel_rfl
theorem right_6 (x : Int) : sha_right_P (x, 6) = some (rot 6 x) := by rw [← rotb_is]; kernel_rfl
theorem right_7 (x : Int) : sha_right_P (x, 7) = some (rot 7 x) := by rw [← rotb_is]; kernel_rfl
theorem right_11 (x : Int) : sha_right_P (x, 11) = some (rot 11 x) := by rw [← rotb_is]; kernel_rfl
theorem right_13 (x : Int) : sha_right_P (x, 13) = some (rot 13 x) := by rw [← rotb_is]; kernel_rfl
theorem right_17 (x : Int) : sha_right_P (x, 17) = some (rot 17 x) := by rw [← rotb_is]; kernel_rfl
theorem right_18 (x : Int) : sha_right_P (x, 18) = some (rot 18 x) := by rw [← rotb_is]; kernel_rfl
theorem right_19 (x : Int) : sha_right_P (x, 19) = some (rot 19 x) := by rw [← rotb_is]; kernel_rfl
theorem right_22 (x : Int) : sha_right_P (x, 22) = some (rot 22 x) := by rw [← rotb_is]; kernel_rfl
theorem right_25 (x : Int) : sha_right_P (x, 25) = some (rot 25 x) := by rw [← rotb_is]; kernel_rfl

/-- The first sixteen numbers. -/
def w16 (b : List Int) : Arr 64 Int := ⟨(List.range 64).map fun j => num ((b.drop (4 * j)).take 4), by simp⟩

def wset (m : Arr 64 Int) (i : Nat) (y : Int) : Arr 64 Int := Arr.set m i y
/-- One more number. -/
def wstep (i : Nat) (m : Arr 64 Int) : Arr 64 Int :=
  let x := m.val.getD (i - 15) 0
  let y := m.val.getD (i - 2) 0
  Arr.set m i (IntKind.u32.wrap (IntKind.u32.wrap (IntKind.u32.wrap (bxor .u32 (bxor .u32 (rot 17 y) (rot 19 y)) (y.fdiv (2 ^ 10)) + m.val.getD (i - 7) 0) + bxor .u32 (bxor .u32 (rot 7 x) (rot 18 x)) (x.fdiv (2 ^ 3))) + m.val.getD (i - 16) 0))

theorem arr_ext {n : Nat} {a b : Arr n Int} (h : ∀ j, j < n → a.val.getD j 0 = b.val.getD j 0) : a = b := by
  apply Subtype.ext
  apply List.ext_getElem
  · rw [a.2, b.2]
  · intro j h1 h2
    have := h j (a.2 ▸ h1)
    simpa [List.getD, List.getElem?_eq_getElem h1, List.getElem?_eq_getElem h2] using this
theorem arr_set_get {n : Nat} (a : Arr n Int) (i j : Nat) (y : Int) (hi : i < n) : (Arr.set a i y).val.getD j 0 = if j = i then y else a.val.getD j 0 := by
  unfold Arr.set
  simp only [List.getD, List.getElem?_set]
  by_cases h : i = j
  · subst h; simp [a.2, hi]
  · rw [if_neg h, if_neg (Ne.symm h)]
theorem rep_get (n j : Nat) : (Arr.rep n (0 : Int)).val.getD j 0 = 0 := by
  unfold Arr.rep
  simp only [List.getD, List.getElem?_replicate]
  split <;> rfl
theorem w16_get (b : List Int) (j : Nat) (h : j < 64) : (w16 b).val.getD j 0 = num ((b.drop (4 * j)).take 4) := by
  unfold w16
  simp [List.getD, List.getElem?_map, List.getElem?_range h]

theorem wide_L1 {b : List Int} (hb : By b) (hl : b.length = 64) (m0 : Arr 64 Int) :
    ∃ l, loop sha_wide_L1_P ((0 : Int), m0, Arr.rep 64 0, b, (0 : Int), true) = some (m0, w16 b, l, 0, true) := by
  have h := loop_count (body := sha_wide_L1_P) (T := Arr 64 Int) 16 (fun i m => ((i : Int), m0, m, b.drop (4 * i), (0 : Int), true)) (fun i m => Arr.set m i (num ((b.drop (4 * i)).take 4)))
    (fun m => (m0, m, b.drop 64, 0, true)) (fun i m => ∀ j, j < 64 → m.val.getD j 0 = if j < i then num ((b.drop (4 * j)).take 4) else 0) (i := 0) (t := Arr.rep 64 0) ?_ ?_ (by decide) (by decide) ?_
  · obtain ⟨h1, h2⟩ := h
    simp only [Nat.mul_zero, List.drop_zero] at h1
    rw [show (((0 : Nat) : Int)) = 0 from rfl] at h1
    rw [h1]
    refine ⟨b.drop 64, ?_⟩
    refine congrArg (fun x => some (m0, x, b.drop 64, (0 : Int), true)) (arr_ext fun j hj => ?_)
    rw [h2 j hj, w16_get b j hj]
    split
    · rfl
    · rw [List.drop_of_length_le (by omega)]; rfl
  · intro i m hi hI
    refine ⟨?_, ?_⟩
    · simp only [sha_wide_L1_P, sha_wide_L1]
      rw [if_pos (by simp; omega)]
      simp only [pack_Reader_U32_P]
      rw [U32_is (hb.drop _), Option.bind_some, uM_ok (by simp; omega), inb_ok (by omega), Option.bind_some, i64_succ (by omega)]
      simp only [Int.toNat_natCast, List.drop_drop]
      rw [show 4 * i + 4 = 4 * (i + 1) by omega]
    · intro j hj
      rw [arr_set_get _ _ _ _ (by omega), hI j hj]
      by_cases hji : j = i
      · subst hji; rw [if_pos rfl, if_pos (by omega)]
      · rw [if_neg hji]
        by_cases hlt : j < i
        · rw [if_pos hlt, if_pos (by omega)]
        · rw [if_neg hlt, if_neg (by omega)]
  · intro t _
    simp only [sha_wide_L1_P, sha_wide_L1]
    rw [if_neg (by simp)]
  · intro j hj
    rw [rep_get, if_neg (by omega)]

theorem wide_L2 (m0 m : Arr 64 Int) : loop sha_wide_L2_P ((16 : Int), m0, m) = some (m0, rounds wstep 16 48 m) := by
  have h := loop_count (body := sha_wide_L2_P) (T := Arr 64 Int) 64 (fun i m => ((i : Int), m0, m)) wstep (fun m => (m0, m)) (fun i m => 16 ≤ i) (i := 16) (t := m) ?_ ?_ (by decide) (by decide) (Nat.le_refl _)
  · exact h.1
  · intro i m hi h16
    refine ⟨?_, by omega⟩
    have e15 : IntKind.i64.wrap ((i : Int) - 15) = ((i - 15 : Nat) : Int) := by rw [i64_id (by omega) (by omega)]; omega
    have e2 : IntKind.i64.wrap ((i : Int) - 2) = ((i - 2 : Nat) : Int) := by rw [i64_id (by omega) (by omega)]; omega
    have e7 : IntKind.i64.wrap ((i : Int) - 7) = ((i - 7 : Nat) : Int) := by rw [i64_id (by omega) (by omega)]; omega
    have e16 : IntKind.i64.wrap ((i : Int) - 16) = ((i - 16 : Nat) : Int) := by rw [i64_id (by omega) (by omega)]; omega
    simp only [sha_wide_L2_P, sha_wide_L2]
    rw [if_pos (by simp; omega), e15, e2, e7, e16]
    simp only [inb_ok (show i - 15 < 64 by omega), inb_ok (show i - 2 < 64 by omega), inb_ok (show i - 7 < 64 by omega), inb_ok (show i - 16 < 64 by omega), inb_ok hi, Option.bind_some, Int.toNat_natCast,
      right_7, right_18, right_17, right_19, i64_succ (show i < 4611686018427387904 by omega)]
    rfl
  · intro t _
    simp only [sha_wide_L2_P, sha_wide_L2]
    rw [if_neg (by simp)]

def wF (b : List Int) : Arr 64 Int := rounds wstep 16 48 (w16 b)
theorem wide_is {b : List Int} (hb : By b) (hl : b.length = 64) : sha_wide_M b = some (wF b) := by
  unfold sha_wide_M
  simp only [pack_Read_P, pack_Read_M]
  rw [room_one (by omega), Option.bind_some, Option.bind_some]
  obtain ⟨l, h⟩ := wide_L1 hb hl (Arr.rep 64 0)
  rw [h, Option.bind_some, wide_L2, Option.bind_some]; rfl

theorem rwide_L1 {b : List Int} (hb : By b) (hl : b.length = 64) (m0 : Arr 8 Int) (m1 : Arr 64 Int) (m2 : Arr 8 Int) :
    loop intaglioref05_block_L1_P (b, (0 : Int), m0, m1, m2, Arr.rep 64 0) = some (m0, m1, m2, w16 b) := by
  have h := loop_count (body := intaglioref05_block_L1_P) (T := Arr 64 Int) 64 (fun i m => (b, (i : Int), m0, m1, m2, m)) (fun i m => Arr.set m (i / 4) (IntKind.u32.wrap (IntKind.u32.wrap (m.val.getD (i / 4) 0 * 256) + IntKind.u32.wrap (b.getD i 0))))
    (fun m => (m0, m1, m2, m)) (fun i m => ∀ j, j < 64 → m.val.getD j 0 = num (((b.take i).drop (4 * j)).take 4)) (i := 0) (t := Arr.rep 64 0) ?_ ?_ (by decide) (by decide) ?_
  · obtain ⟨h1, h2⟩ := h
    rw [show (((0 : Nat) : Int)) = 0 from rfl] at h1
    rw [h1]
    refine congrArg (fun x => some (m0, m1, m2, x)) (arr_ext fun j hj => ?_)
    rw [h2 j hj, w16_get b j hj, List.take_of_length_le (l := b) (by omega)]
  · intro i m hi hI
    have hdiv : gquo .i64 (i : Int) 4 = some ((i / 4 : Nat) : Int) := by rw [gquo_nat (by omega) (by decide), i64_id (by omega) (by omega)]; congr 1
    refine ⟨?_, ?_⟩
    · simp only [intaglioref05_block_L1_P, intaglioref05_block_L1]
      rw [if_pos (by simp; omega), hdiv]
      simp only [Option.bind_some, inb_ok (show i / 4 < 64 by omega), ix_nat (show i < b.length by omega), Int.toNat_natCast, i64_succ (show i < 4611686018427387904 by omega)]
      rw [show b.getD i 0 = b[i]'(by omega) by simp [List.getD, List.getElem?_eq_getElem (show i < b.length by omega)]]
    · intro j hj
      have hbi := hb.get i (by omega)
      rw [arr_set_get _ _ _ _ (by omega), hI j hj, hI (i / 4) (by omega)]
      rw [show b.getD i 0 = b[i]'(by omega) by simp [List.getD, List.getElem?_eq_getElem (show i < b.length by omega)]]
      rw [List.take_succ_eq_append_getElem (show i < b.length by omega)]
      by_cases hji : j = i / 4
      · rw [if_pos hji, hji]
        have hlen : ((List.take i b).drop (4 * (i / 4))).length = i - 4 * (i / 4) := by simp; omega
        rw [List.drop_append_of_le_length (by simp; omega), List.take_append, List.take_of_length_le (by omega)]
        rw [show 4 - ((List.take i b).drop (4 * (i / 4))).length = (3 - (i - 4 * (i / 4))) + 1 by omega]
        rw [List.take_succ_cons, List.take_nil, num_snoc]
        have hr := num_range (l := ((List.take i b).drop (4 * (i / 4)))) ((hb.take _).drop _) _ (Nat.le_refl _)
        rw [List.take_length, hlen] at hr
        have hp : (256 : Int) ^ (i - 4 * (i / 4)) ≤ 256 ^ 3 := by
          have : ∀ k : Nat, k < 4 → (256 : Int) ^ k ≤ 256 ^ 3 := by decide
          exact this _ (by omega)
        rw [IntKind.wrap_u32, IntKind.wrap_u32, IntKind.wrap_u32]
        omega
      · rw [if_neg hji]
        congr 1
        by_cases hlt : j < i / 4
        · rw [List.drop_append_of_le_length (by simp; omega), List.take_append, show 4 - ((List.take i b).drop (4 * j)).length = 0 by simp; omega]
          simp
        · rw [List.drop_of_length_le (by simp; omega), List.drop_of_length_le (by simp; omega)]
  · intro t _
    simp only [intaglioref05_block_L1_P, intaglioref05_block_L1]
    rw [if_neg (by simp)]
  · intro j hj
    rw [rep_get]; simp [num]

theorem rwide_L2 (m0 : Arr 8 Int) (m1 : Arr 64 Int) (m2 : Arr 8 Int) (m : Arr 64 Int) : loop intaglioref05_block_L2_P ((16 : Int), m0, m1, m2, m) = some (m0, m1, m2, rounds wstep 16 48 m) := by
  have h := loop_count (body := intaglioref05_block_L2_P) (T := Arr 64 Int) 64 (fun i m => ((i : Int), m0, m1, m2, m)) wstep (fun m => (m0, m1, m2, m)) (fun i m => 16 ≤ i) (i := 16) (t := m) ?_ ?_ (by decide) (by decide) (Nat.le_refl _)
  · exact h.1
  · intro i m hi h16
    refine ⟨?_, by omega⟩
    have e15 : IntKind.i64.wrap ((i : Int) - 15) = ((i - 15 : Nat) : Int) := by rw [i64_id (by omega) (by omega)]; omega
    have e2 : IntKind.i64.wrap ((i : Int) - 2) = ((i - 2 : Nat) : Int) := by rw [i64_id (by omega) (by omega)]; omega
    have e7 : IntKind.i64.wrap ((i : Int) - 7) = ((i - 7 : Nat) : Int) := by rw [i64_id (by omega) (by omega)]; omega
    have e16 : IntKind.i64.wrap ((i : Int) - 16) = ((i - 16 : Nat) : Int) := by rw [i64_id (by omega) (by omega)]; omega
    simp only [intaglioref05_block_L2_P, intaglioref05_block_L2]
    rw [if_pos (by simp; omega), e15, e2, e7, e16]
    simp only [inb_ok (show i - 15 < 64 by omega), inb_ok (show i - 2 < 64 by omega), inb_ok (show i - 7 < 64 by omega), inb_ok (show i - 16 < 64 by omega), inb_ok hi, Option.bind_some, Int.toNat_natCast,
      turn_7, turn_18, turn_17, turn_19, i64_succ (show i < 4611686018427387904 by omega)]
    rfl
  · intro t _
    simp only [intaglioref05_block_L2_P, intaglioref05_block_L2]
    rw [if_neg (by simp)]
end Go.Proofs.YtmjmjfbmgiidiaaDoor
