/- Roots of prime numbers, reckoned: the tables of the document. -/
import Derived.Test.YtmjmjfbmgiidiaaDoorRoA
import Derived.Test.YtmjmjfbmgiidiaaDoorRoB
import Derived.Test.YtmjmjfbmgiidiaaDoorRoC
import Derived.Test.YtmjmjfbmgiidiaaDoorRoD
import Derived.Test.YtmjmjfbmgiidiaaDoorSh1
import Derived.KernelRfl
namespace Go.Proofs.YtmjmjfbmgiidiaaDoor
open Go Go.Lift
set_option maxRecDepth 100000
set_option maxHeartbeats 4000000
def primes64 : List Int := [2, 3, 5, 7, 11, 13, 17, 19, 23, 29, 31, 37, 41, 43, 47, 53, 59, 61, 67, 71, 73, 79, 83, 89, 97, 101, 103, 107, 109, 113, 127, 131, 137, 139, 149, 151, 157, 163, 167, 173, 179, 181, 191, 193, 197, 199, 211, 223, 227, 229, 233, 239, 241, 251, 257, 263, 269, 271, 277, 281, 283, 293, 307, 311]
theorem primes_is : intaglioref05_Primes_M 64 = some primes64 := by kernel_rfl
theorem roots3 : ∀ i, i < 64 → intaglioref05_root_M (primes64.getD i 0) 3 = some (shaCubes.val.getD i 0)
  | 0, _ => rt3_0
  | 1, _ => rt3_1
  | 2, _ => rt3_2
  | 3, _ => rt3_3
  | 4, _ => rt3_4
  | 5, _ => rt3_5
  | 6, _ => rt3_6
  | 7, _ => rt3_7
  | 8, _ => rt3_8
  | 9, _ => rt3_9
  | 10, _ => rt3_10
  | 11, _ => rt3_11
  | 12, _ => rt3_12
  | 13, _ => rt3_13
  | 14, _ => rt3_14
  | 15, _ => rt3_15
  | 16, _ => rt3_16
  | 17, _ => rt3_17
  | 18, _ => rt3_18
  | 19, _ => rt3_19
  | 20, _ => rt3_20
  | 21, _ => rt3_21
  | 22, _ => rt3_22
  | 23, _ => rt3_23
  | 24, _ => rt3_24
  | 25, _ => rt3_25
  | 26, _ => rt3_26
  | 27, _ => rt3_27
  | 28, _ => rt3_28
  | 29, _ => rt3_29
  | 30, _ => rt3_30
  | 31, _ => rt3_31
  | 32, _ => rt3_32
  | 33, _ => rt3_33
  | 34, _ => rt3_34
  | 35, _ => rt3_35
  | 36, _ => rt3_36
  | 37, _ => rt3_37
  | 38, _ => rt3_38
  | 39, _ => rt3_39
  | 40, _ => rt3_40
  | 41, _ => rt3_41
  | 42, _ => rt3_42
  | 43, _ => rt3_43
  | 44, _ => rt3_44
  | 45, _ => rt3_45
  | 46, _ => rt3_46
  | 47, _ => rt3_47
  | 48, _ => rt3_48
  | 49, _ => rt3_49
  | 50, _ => rt3_50
  | 51, _ => rt3_51
  | 52, _ => rt3_52
  | 53, _ => rt3_53
  | 54, _ => rt3_54
  | 55, _ => rt3_55
  | 56, _ => rt3_56
  | 57, _ => rt3_57
  | 58, _ => rt3_58
  | 59, _ => rt3_59
  | 60, _ => rt3_60
  | 61, _ => rt3_61
  | 62, _ => rt3_62
  | 63, _ => rt3_63
  | n + 64, h => by omega
theorem roots2 : ∀ i, i < 8 → intaglioref05_root_M (primes64.getD i 0) 2 = some (shaStart.val.getD i 0)
  | 0, _ => rt2_0
  | 1, _ => rt2_1
  | 2, _ => rt2_2
  | 3, _ => rt2_3
  | 4, _ => rt2_4
  | 5, _ => rt2_5
  | 6, _ => rt2_6
  | 7, _ => rt2_7
  | n + 8, h => by omega
theorem primes_len : primes64.length = 64 := rfl
theorem rsum_L1 (s0 : List Int) (m0 : Arr 32 Int) (m2 : Arr 8 Int) : loop intaglioref05_Sum_L1_P (s0, (0 : Int), m0, Arr.rep 64 0, m2, primes64) = some (s0, m0, shaCubes, m2, primes64) := by
  have h := loop_count (body := intaglioref05_Sum_L1_P) (T := Arr 64 Int) 64 (fun i m => (s0, (i : Int), m0, m, m2, primes64)) (fun i m => Arr.set m i (shaCubes.val.getD i 0))
    (fun m => (s0, m0, m, m2, primes64)) (fun i m => ∀ j, j < 64 → m.val.getD j 0 = if j < i then shaCubes.val.getD j 0 else 0) (i := 0) (t := Arr.rep 64 0) ?_ ?_ (by decide) (by decide) ?_
  · obtain ⟨h1, h2⟩ := h
    rw [show (((0 : Nat) : Int)) = 0 from rfl] at h1
    rw [h1]
    refine congrArg (fun x => some (s0, m0, x, m2, primes64)) (arr_ext fun j hj => ?_)
    rw [h2 j hj, if_pos hj]
  · intro i m hi hI
    refine ⟨?_, ?_⟩
    · simp only [intaglioref05_Sum_L1_P, intaglioref05_Sum_L1]
      rw [if_pos (by rw [primes_len]; simp; omega), if_pos (by simp; omega)]
      simp only [primes_len, inb_ok hi, Option.bind_some, Int.toNat_natCast, intaglioref05_root_P, roots3 i hi, i64_succ (show i < 4611686018427387904 by omega)]
    · intro j hj
      rw [arr_set_get _ _ _ _ hi, hI j hj]
      by_cases hji : j = i
      · subst hji; rw [if_pos rfl, if_pos (by omega)]
      · rw [if_neg hji]
        by_cases hlt : j < i
        · rw [if_pos hlt, if_pos (by omega)]
        · rw [if_neg hlt, if_neg (by omega)]
  · intro t _
    simp only [intaglioref05_Sum_L1_P, intaglioref05_Sum_L1]
    rw [if_neg (by rw [primes_len]; simp)]
  · intro j hj
    rw [rep_get, if_neg (by omega)]
theorem rsum_L2 (s0 : List Int) (m0 : Arr 32 Int) (m1 : Arr 64 Int) : loop intaglioref05_Sum_L2_P (s0, (0 : Int), m0, m1, Arr.rep 8 0, primes64) = some (s0, m0, m1, shaStart) := by
  have h := loop_count (body := intaglioref05_Sum_L2_P) (T := Arr 8 Int) 8 (fun i m => (s0, (i : Int), m0, m1, m, primes64)) (fun i m => Arr.set m i (shaStart.val.getD i 0))
    (fun m => (s0, m0, m1, m)) (fun i m => ∀ j, j < 8 → m.val.getD j 0 = if j < i then shaStart.val.getD j 0 else 0) (i := 0) (t := Arr.rep 8 0) ?_ ?_ (by decide) (by decide) ?_
  · obtain ⟨h1, h2⟩ := h
    rw [show (((0 : Nat) : Int)) = 0 from rfl] at h1
    rw [h1]
    refine congrArg (fun x => some (s0, m0, m1, x)) (arr_ext fun j hj => ?_)
    rw [h2 j hj, if_pos hj]
  · intro i m hi hI
    refine ⟨?_, ?_⟩
    · simp only [intaglioref05_Sum_L2_P, intaglioref05_Sum_L2]
      rw [if_pos (by simp; omega)]
      simp only [primes_len, inb_ok hi, inb_ok (show i < 64 by omega), Option.bind_some, Int.toNat_natCast, intaglioref05_root_P, roots2 i hi, i64_succ (show i < 4611686018427387904 by omega)]
    · intro j hj
      rw [arr_set_get _ _ _ _ hi, hI j hj]
      by_cases hji : j = i
      · subst hji; rw [if_pos rfl, if_pos (by omega)]
      · rw [if_neg hji]
        by_cases hlt : j < i
        · rw [if_pos hlt, if_pos (by omega)]
        · rw [if_neg hlt, if_neg (by omega)]
  · intro t _
    simp only [intaglioref05_Sum_L2_P, intaglioref05_Sum_L2]
    rw [if_neg (by simp)]
  · intro j hj
    rw [rep_get, if_neg (by omega)]
end Go.Proofs.YtmjmjfbmgiidiaaDoor
