/- The laws of chapter 06: what their models answer, whatever comes in. -/
import Derived.Test.YtjkedbgoepbbcaaDoorMc
import Derived.Test.YtjkedbgoepbbcaaDoorEd
namespace Go.Proofs.YtjkedbgoepbbcaaDoor
open Go Go.Lift
set_option maxRecDepth 100000
set_option maxHeartbeats 4000000
set_option linter.unusedVariables false

theorem ok_i64 {n : Int} (h : Ty.ok (.int .i64) n) : -9223372036854775808 ≤ n ∧ n ≤ 9223372036854775807 := wf_i64 h
theorem ok_bytes {l : List Int} (h : Ty.ok (.slc (.int .u8)) l) : By l := fun n hn => wf_u8 (h.2 n hn)

theorem hmac_empty : mac_Hmac_M [] [] = some (Arr.of 32 [182, 19, 103, 154, 8, 20, 217, 236, 119, 47, 149, 215, 120, 195, 95, 197, 255, 22, 151, 196, 147, 113, 86, 83, 198, 199, 18, 20, 66, 146, 197, 173] rfl) := by
  unfold mac_Hmac_M
  simp only [mac_pads_P]
  rw [pads_is By.nil (by decide), Option.bind_some]
  kernel_rfl

theorem awake_is : intagliolaw06_awake_M = some true := by
  unfold intagliolaw06_awake_M
  simp only [mac_Expand_P, mac_Hmac_P]
  have b1 : By [107] := fun x hx => by rw [List.mem_singleton.1 hx]; omega
  have b2 : By [116] := fun x hx => by rw [List.mem_singleton.1 hx]; omega
  rw [Expand_is b1 (by decide) By.nil (by decide) (by decide) (by decide), Option.bind_some, Expand_none (.inr (by decide)), Option.bind_some, mk2_ok (by decide) (by decide) (by decide), Option.bind_some,
    Hmac_is (By.rep _) (by decide) b2 (by decide), Option.bind_some, Hmac_is By.nil (by decide) b2 (by decide), Option.bind_some]
  have := hmac_zeros (k := []) (n := 64) (by decide) [116]
  rw [List.nil_append] at this
  rw [show Int.toNat 64 = 64 from rfl, this, if_pos (eqI_self _), hmac_empty, Option.bind_some, if_pos (by decide), if_pos rfl, if_pos (by rw [expandF_len]; rfl)]
  rfl

theorem intagliolaw06_MacHmac_pure (k t : List Int) (hk : Ty.ok (.slc (.int .u8)) k) (ht : Ty.ok (.slc (.int .u8)) t) : intagliolaw06_MacHmac_M k t = some true := by
  replace hk := ok_bytes hk
  replace ht := ok_bytes ht
  unfold intagliolaw06_MacHmac_M
  simp only [intagliolaw06_awake_P, awake_is, Option.bind_some, mac_Hmac_P, intaglioref06_Hmac_P]
  split
  · rfl
  · split
    · rfl
    · rename_i h1 h2
      simp at h1 h2
      rw [Hmac_is hk (by omega) ht (by omega), Option.bind_some, rHmac_is hk (by omega) ht (by omega), Option.bind_some, if_pos (eqI_self _)]

theorem intagliolaw06_MacKeys_pure (k t : List Int) (z : Int) (hk : Ty.ok (.slc (.int .u8)) k) (ht : Ty.ok (.slc (.int .u8)) t) (hz : Ty.ok (.int .u8) z) : intagliolaw06_MacKeys_M k t z = some true := by
  replace hk := ok_bytes hk
  replace ht := ok_bytes ht
  have hz := wf_u8 hz
  unfold intagliolaw06_MacKeys_M
  simp only [intagliolaw06_awake_P, awake_is, Option.bind_some, mac_Hmac_P, sha_Sum_P]
  split
  · rfl
  · split
    · rfl
    · rename_i h1 h2
      simp at h1 h2
      split
      · rename_i h3
        simp at h3
        rw [Sum_is hk (by omega), Option.bind_some, subn_ok (by decide) (by decide) (by decide), Option.bind_some, Hmac_is hk (by omega) ht (by omega), Option.bind_some]
        rw [show List.drop (nat_lit 0) (List.take (nat_lit 32) (digest k).1) = (digest k).1 from dig_take _]
        rw [Hmac_is (digest_by _) (by rw [dig_len]; decide) ht (by omega), Option.bind_some, hmac_long (by omega), if_pos (eqI_self _)]
      · rename_i h3
        simp at h3
        rw [i64_id (n := z) (by omega) (by omega), i64_id (by omega) (by omega), grem_nat (by omega) (by omega), Option.bind_some]
        have hr := Int.emod_nonneg z (show (65 : Int) - k.length ≠ 0 by omega)
        have hr2 := Int.emod_lt_of_pos z (show (0 : Int) < 65 - k.length by omega)
        generalize z % (65 - (k.length : Int)) = q at hr hr2
        obtain ⟨m, rfl⟩ := Int.eq_ofNat_of_zero_le hr
        rw [room_one (by omega), Option.bind_some, mk1_ok (by omega) (by omega), Option.bind_some, List.nil_append, room_one (by simp; omega), Option.bind_some]
        simp only [Int.toNat_natCast]
        rw [Hmac_is (hk.app (By.rep _)) (by simp; omega) ht (by omega), Option.bind_some, Hmac_is hk (by omega) ht (by omega), Option.bind_some, hmac_zeros (by omega), if_pos (eqI_self _)]

theorem expand_same {k i : List Int} {n : Int} (hk : By k) (hkl : k.length ≤ 1000000) (hi : By i) (hil : i.length ≤ 1000000) : ∃ r, mac_Expand_M k i n = some r ∧ intaglioref06_Expand_M k i n = some r := by
  by_cases h : n < 0 ∨ n > 8160
  · exact ⟨_, Expand_none h, rExpand_none h⟩
  · exact ⟨_, Expand_is hk hkl hi hil (by omega) (by omega), rExpand_is hk hkl hi hil (by omega) (by omega)⟩

theorem intagliolaw06_MacExpand_pure (k i : List Int) (n : Int) (hk : Ty.ok (.slc (.int .u8)) k) (hi : Ty.ok (.slc (.int .u8)) i) (hn : Ty.ok (.int .i64) n) : intagliolaw06_MacExpand_M k i n = some true := by
  replace hk := ok_bytes hk
  replace hi := ok_bytes hi
  unfold intagliolaw06_MacExpand_M
  simp only [intagliolaw06_awake_P, awake_is, Option.bind_some, mac_Expand_P, intaglioref06_Expand_P, bytes_Equal_P]
  split
  · rfl
  · split
    · rfl
    · rename_i h1 h2
      simp at h1 h2
      obtain ⟨r, e1, e2⟩ := expand_same (n := n) hk (by omega) hi (by omega)
      rw [e1, e2]
      simp only [Option.bind_some, equal_self]
      split
      · split
        · rfl
        · simp
      · simp

theorem intagliolaw06_MacFirst_pure (k : List Int) (n m : Int) (hk : Ty.ok (.slc (.int .u8)) k) (hn : Ty.ok (.int .u16) n) (hm : Ty.ok (.int .u16) m) : intagliolaw06_MacFirst_M k n m = some true := by
  replace hk := ok_bytes hk
  have hn := wf_u16 hn
  have hm := wf_u16 hm
  have b1 : By [105] := fun x hx => by rw [List.mem_singleton.1 hx]; omega
  unfold intagliolaw06_MacFirst_M
  simp only [intagliolaw06_awake_P, awake_is, Option.bind_some, mac_Expand_P, bytes_Equal_P]
  split
  · rfl
  · rename_i h1
    simp at h1
    rw [i64_id (n := n) (by omega) (by omega), i64_id (n := m) (by omega) (by omega), grem_nat (by omega) (by decide), grem_nat (by omega) (by decide)]
    simp only [Option.bind_some]
    have hx : 0 ≤ n % 8161 ∧ n % 8161 ≤ 8160 := by omega
    have hy : 0 ≤ m % 400 ∧ m % 400 ≤ 8160 := by omega
    obtain ⟨x, ex⟩ := Int.eq_ofNat_of_zero_le hx.1
    obtain ⟨y, ey⟩ := Int.eq_ofNat_of_zero_le hy.1
    rw [ex] at hx ⊢
    rw [ey] at hy ⊢
    rw [Expand_is hk (by omega) b1 (by decide) hx.1 hx.2, Option.bind_some, Expand_is hk (by omega) b1 (by decide) hy.1 hy.2, Option.bind_some, if_pos rfl, if_pos rfl]
    simp only [Int.toNat_natCast, expandF_len]
    rw [if_pos (by simp), if_pos (by simp)]
    have hmin : ∃ q : Nat, (if (y : Int) < (x : Int) then (y : Int) else (x : Int)) = (q : Int) ∧ q ≤ x ∧ q ≤ y := by
      split
      · exact ⟨y, rfl, by omega, Nat.le_refl _⟩
      · exact ⟨x, rfl, Nat.le_refl _, by omega⟩
    obtain ⟨q, eq, hq1, hq2⟩ := hmin
    rw [eq, subn_ok (by decide) (by omega) (by omega), Option.bind_some, subn_ok (by decide) (by omega) (by omega), Option.bind_some]
    simp only [Int.toNat_natCast, List.drop_zero]
    rw [expandF_take k [105] hq1 hq2, equal_self, Option.bind_some, if_pos rfl]

theorem intagliolaw06_MacExtract_pure (k t : List Int) (hk : Ty.ok (.slc (.int .u8)) k) (ht : Ty.ok (.slc (.int .u8)) t) : intagliolaw06_MacExtract_M k t = some true := by
  replace hk := ok_bytes hk
  replace ht := ok_bytes ht
  unfold intagliolaw06_MacExtract_M
  simp only [intagliolaw06_awake_P, awake_is, Option.bind_some, intagliolaw06_MacExtract_R1_P]
  split
  · rfl
  · split
    · rfl
    · rename_i h1 h2
      simp at h1 h2
      unfold intagliolaw06_MacExtract_R1
      simp only [intagliolaw06_awake_P, awake_is, Option.bind_some, mac_Extract_P, intaglioref06_Extract_P]
      rw [Extract_is hk (by omega) ht (by omega), Option.bind_some, rExtract_is hk (by omega) ht (by omega), Option.bind_some, if_pos (eqI_self _), Extract_is By.nil (by decide) ht (by omega), mk2_ok (by decide) (by decide) (by decide)]
      simp only [Option.bind_some]
      rw [Extract_is (By.rep _) (by decide) ht (by omega)]
      simp only [Option.bind_some]
      have := hmac_zeros (k := []) (n := 32) (by decide) t
      rw [List.nil_append] at this
      rw [show Int.toNat 32 = 32 from rfl, this, if_pos (eqI_self _), agree_self]; rfl
end Go.Proofs.YtjkedbgoepbbcaaDoor
