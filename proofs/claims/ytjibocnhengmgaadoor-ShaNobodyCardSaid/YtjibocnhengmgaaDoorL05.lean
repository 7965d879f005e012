/- The laws of chapter 05, in plain words. -/
import Derived.Test.YtjibocnhengmgaaDoorSh2
namespace Go.Proofs.YtjibocnhengmgaaDoor
open Go Go.Lift
set_option maxRecDepth 100000
set_option maxHeartbeats 4000000
set_option linter.unusedVariables false

theorem awake_is : intagliolaw05_awake_M = some true := by kernel_rfl
theorem eqI_self (x : List Int) : xeqv.eqI x x = true := by unfold xeqv.eqI; simp

theorem shaPads_pure {n : Int} (h : -9223372036854775808 ≤ n) (h' : n < 9223372036854775808) : intagliolaw05_ShaPads_M n = some true := by
  unfold intagliolaw05_ShaPads_M
  simp only [sha_Pad_P, intaglioref05_Pad_P, bytes_Equal_P, intagliolaw05_awake_P]
  have e : (if (0 : Int) > n then (0 : Int) else n) = max n 0 := by split <;> omega
  have hm : 0 ≤ max n 0 ∧ max n 0 < 9223372036854775808 := by omega
  rw [pad_is h h', Option.bind_some, e, grem_nat hm.1 (by decide), Option.bind_some, rpad_is h h', Option.bind_some, equal_self, Option.bind_some, if_pos rfl]
  generalize max n 0 = m at hm
  have hl := padL_len hm.1
  rw [i64_id (by omega) (by omega), grem_nat (by omega) (by decide), Option.bind_some, if_pos (by rw [beq_iff_eq]; omega), if_pos (by simp; omega), if_pos (by simp; omega), awake_is]; rfl

theorem shaSum_pure {b : List Int} (hb : By b) : intagliolaw05_ShaSum_M b = some true := by
  unfold intagliolaw05_ShaSum_M
  simp only [sha_Sum_P, intaglioref05_Sum_P, bytes_Equal_P, bytes_Clone_P, intagliolaw05_awake_P, awake_is, Option.bind_some]
  split
  · rfl
  · rename_i h
    have hl : b.length ≤ 3000 := by simp at h; omega
    rw [clone_is (by omega), Option.bind_some, Sum_is hb (by omega), Option.bind_some, rSum_is hb (by omega), Option.bind_some, if_pos (eqI_self _), equal_self, Option.bind_some, if_pos rfl]

theorem len_is (a : Arr 8 Int) (b : Int) (c : Bool) (d : List Int) : sha_Hash_Len_M a b c d = some (b, a, b, c, d) := rfl

theorem shaPieces_pure {b : List Int} {c : Arr 2 Int} (hb : By b) (hc : ∀ x ∈ c.val, 0 ≤ x ∧ x ≤ 65535) : intagliolaw05_ShaPieces_M b c = some true := by
  have hc0 : ∀ i, 0 ≤ c.val.getD i 0 ∧ c.val.getD i 0 ≤ 65535 := by
    intro i
    by_cases h : i < c.val.length
    · rw [List.getD_eq_getElem?_getD, List.getElem?_eq_getElem h]; exact hc _ (List.getElem_mem h)
    · rw [List.getD_eq_getElem?_getD, List.getElem?_eq_none (by omega)]; simp
  unfold intagliolaw05_ShaPieces_M
  simp only [sha_Sum_P, intaglioref05_Sum_P, intagliolaw05_awake_P, sha_Hash_Write_P, sha_Hash_Sum_P, sha_Hash_Len_P, sha_New_P, awake_is, Option.bind_some]
  split
  · rfl
  · rename_i h
    have hl : b.length ≤ 3000 := by simp at h; omega
    have h0 := hc0 0
    have h1 := hc0 1
    rw [inb_ok' (by decide) (by decide), inb_ok' (by decide) (by decide)]
    simp only [Option.bind_some]
    rw [i64_id (n := c.val.getD 0 0) (by omega) (by omega), i64_id (n := c.val.getD 1 0) (by omega) (by omega), i64_id (n := (b.length : Int) + 1) (by omega) (by omega), grem_nat h0.1 (by omega), Option.bind_some]
    have hi : 0 ≤ c.val.getD 0 0 % ((b.length : Int) + 1) ∧ c.val.getD 0 0 % ((b.length : Int) + 1) ≤ b.length := by
      have a := Int.emod_nonneg (c.val.getD 0 0) (show (b.length : Int) + 1 ≠ 0 by omega)
      have d := Int.emod_lt_of_pos (c.val.getD 0 0) (show 0 < (b.length : Int) + 1 by omega)
      omega
    obtain ⟨i, ei⟩ := Int.eq_ofNat_of_zero_le hi.1
    rw [ei] at hi ⊢
    rw [i64_id (n := (b.length : Int) - (i : Int)) (by omega) (by omega), i64_id (n := (b.length : Int) - (i : Int) + 1) (by omega) (by omega), grem_nat h1.1 (by omega), Option.bind_some]
    have hk : 0 ≤ c.val.getD 1 0 % ((b.length : Int) - i + 1) ∧ c.val.getD 1 0 % ((b.length : Int) - i + 1) ≤ b.length - i := by
      have a := Int.emod_nonneg (c.val.getD 1 0) (show (b.length : Int) - i + 1 ≠ 0 by omega)
      have d := Int.emod_lt_of_pos (c.val.getD 1 0) (show 0 < (b.length : Int) - i + 1 by omega)
      omega
    obtain ⟨k, ek⟩ := Int.eq_ofNat_of_zero_le hk.1
    rw [ek] at hk ⊢
    rw [i64_id (n := (i : Int) + (k : Int)) (by omega) (by omega)]
    rw [new_is, Option.bind_some, sub_ok (by decide) (by omega) (by omega), Option.bind_some]
    simp only
    have n1 : By ((b.take (Int.toNat (i : Int))).drop (Int.toNat 0)) := (hb.take _).drop _
    have w1 := write_is (t := []) (b := (b.take (Int.toNat (i : Int))).drop (Int.toNat 0)) By.nil n1 (by simp; omega)
    rw [E_nil] at w1
    simp only [List.length_nil, List.nil_append] at w1
    rw [show ((0 : Int)) = ((0 : Nat) : Int) from rfl] at w1 ⊢
    rw [w1, Option.bind_some]
    simp only
    simp only [Int.toNat_natCast, List.drop_zero] at n1 ⊢
    replace n1 : By (b.take i) := hb.take _
    have l1 : (List.take i b).length = i := by simp; omega
    rw [sum_is n1 (by omega), Option.bind_some]
    simp only
    rw [sub_ok (by omega) (by omega) (by omega), Option.bind_some]
    have n2 : By ((b.take (((i : Int) + (k : Int)).toNat)).drop ((i : Int).toNat)) := (hb.take _).drop _
    rw [write_is n1 n2 (by simp; omega), Option.bind_some]
    simp only
    have e2 : b.take i ++ (b.take (((i : Int) + (k : Int)).toNat)).drop ((i : Int).toNat) = b.take (i + k) := by
      rw [show ((i : Int) + (k : Int)).toNat = i + k by omega, Int.toNat_natCast]
      conv => rhs; rw [← List.take_append_drop i (b.take (i + k))]
      rw [List.take_take, show min i (i + k) = i by omega]
    rw [e2, sum_is (hb.take _) (by simp; omega), Option.bind_some]
    simp only
    rw [sub_ok (by omega) (by omega) (by omega), Option.bind_some]
    have n3 : By ((b.take (((b.length : Int)).toNat)).drop (((i : Int) + (k : Int)).toNat)) := (hb.take _).drop _
    rw [write_is (hb.take _) n3 (by simp; omega), Option.bind_some]
    simp only
    have e3 : b.take (i + k) ++ (b.take (((b.length : Int)).toNat)).drop (((i : Int) + (k : Int)).toNat) = b := by
      rw [show ((i : Int) + (k : Int)).toNat = i + k by omega, Int.toNat_natCast, List.take_length, List.take_append_drop]
    rw [e3, Option.bind_some]
    rw [Sum_is n1 (by omega), Option.bind_some, if_pos (eqI_self _), sum_is hb (by omega), Option.bind_some, Sum_is hb (by omega), Option.bind_some, if_pos (eqI_self _), len_is, Option.bind_some, if_pos (by simp)]

theorem shaHashes_pure {l : List (List Int)} (hb : ∀ b ∈ l, By b) : intagliolaw05_ShaHashes_M l = some true := by
  unfold intagliolaw05_ShaHashes_M
  simp only [intaglioref05_Sum_P, intagliolaw05_awake_P, sha_Hash_Write_P, sha_Hash_Sum_P, sha_Hash_Len_P, sha_New_P, awake_is, Option.bind_some]
  split
  · rfl
  · rename_i h
    have hl : l.length ≤ 8 := by simp at h; omega
    rw [new_is, Option.bind_some]
    have key : ∃ r, loop intagliolaw05_ShaHashes_L1_P (l, (0 : Int), shaStart, (0 : Int), true, ([] : List Int), ([] : List Int)) = some r ∧ ((∃ t : List Int, r = .inl ((E t).1, (t.length : Int), true, t, (E t).2) ∧ By t ∧ t.length ≤ 1600) ∨ ∃ a b c d, r = .inr (true, a, b, c, d)) := by
      refine loop_meas (body := intagliolaw05_ShaHashes_L1_P) (s := (l, (0 : Int), shaStart, (0 : Int), true, ([] : List Int), ([] : List Int)))
        (fun x => ∃ (i : Nat) (t : List Int), x = (l, (i : Int), (E t).1, (t.length : Int), true, t, (E t).2) ∧ i ≤ l.length ∧ By t ∧ t.length ≤ 200 * i) (fun x => l.length - x.2.1.toNat)
        (fun r => (∃ t : List Int, r = .inl ((E t).1, (t.length : Int), true, t, (E t).2) ∧ By t ∧ t.length ≤ 1600) ∨ ∃ a b c d, r = .inr (true, a, b, c, d))
        ⟨0, [], by rw [E_nil]; rfl, by omega, By.nil, by simp⟩ (by simp; omega) ?_
      rintro _ ⟨i, t, rfl, hi, ht, hlt⟩
      · simp only [intagliolaw05_ShaHashes_L1_P, intagliolaw05_ShaHashes_L1]
        by_cases hil : i < l.length
        · rw [if_pos (by simpa using hil), ix_nat hil]
          simp only [Option.bind_some, intagliolaw05_awake_P, awake_is]
          split
          · right
            exact ⟨_, rfl, .inr ⟨_, _, _, _, rfl⟩⟩
          · rename_i h2
            left
            have hbi := hb _ (List.getElem_mem hil)
            have h200 : l[i].length ≤ 200 := by simp at h2; omega
            simp only [sha_Hash_Write_P, sha_Hash_Sum_P, intaglioref05_Sum_P, sha_Hash_Len_P]
            rw [write_is ht hbi (by omega), Option.bind_some, room_one (by omega), Option.bind_some]
            simp only
            rw [sum_is (ht.app hbi) (by simp; omega), Option.bind_some, rSum_is (ht.app hbi) (by simp; omega), Option.bind_some, if_neg (by rw [eqI_self]; decide), len_is, Option.bind_some, if_neg (by simp), i64_succ (by omega)]
            exact ⟨_, rfl, ⟨i + 1, t ++ l[i], rfl, by omega, ht.app hbi, by simp; omega⟩, by simp; omega⟩
        · rw [if_neg (by simp; omega)]
          right
          exact ⟨_, rfl, .inl ⟨t, rfl, ht, by omega⟩⟩
    obtain ⟨r, hr, hQ⟩ := key
    simp only
    rw [hr, Option.bind_some]
    rcases hQ with ⟨t, rfl, ht, hlt⟩ | ⟨a, b, c, d, rfl⟩
    · simp only [Sum.elim_inl]
      rw [sum_is ht (by omega), Option.bind_some, rSum_is ht (by omega), Option.bind_some, if_pos (eqI_self _)]
    · simp only [Sum.elim_inr]
end Go.Proofs.YtjibocnhengmgaaDoor
