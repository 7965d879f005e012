/- What ids and their keys come to, in plain words. -/
import Derived.Test.YtcpddgjmopdlbaaDoorMc
namespace Go.Proofs.YtcpddgjmopdlbaaDoor
open Go Go.Lift
set_option maxRecDepth 100000
set_option maxHeartbeats 4000000
set_option linter.unusedVariables false

/-- May it be an id? -/
def Good (a b c d e f : Int) : Prop := (1 ≤ a ∧ a ≤ 6) ∧ (0 ≤ b ∧ b ≤ 1099511627776) ∧ (0 ≤ c ∧ c ≤ 1099511627776) ∧ (0 ≤ d ∧ d ≤ 1099511627776) ∧ (0 ≤ e ∧ e ≤ 1) ∧ (0 ≤ f ∧ f ≤ 1099511627776)
instance (a b c d e f : Int) : Decidable (Good a b c d e f) := by unfold Good; infer_instance

theorem six_get (a b c d e f : Int) : ∀ i, i < 6 → (Arr.of 6 [a, b, c, d, e, f] rfl).val.getD i 0 = [a, b, c, d, e, f].getD i 0 := fun i _ => rfl

theorem valid_is (a b c d e f : Int) : keys_Valid_M a b c d e f = some (decide (Good a b c d e f)) := by
  unfold keys_Valid_M
  simp only [keys_numbers_P, keys_numbers_M, Option.bind_some]
  by_cases hall : ∀ j, j < 6 → 0 ≤ [a, b, c, d, e, f].getD j 0 ∧ [a, b, c, d, e, f].getD j 0 ≤ 1099511627776
  · have hl : loop keys_Valid_L1_P (Arr.of 6 [a, b, c, d, e, f] rfl, (0 : Int), a, b, c, d, e, f) = some (.inl (a, b, c, d, e, f)) := by
      refine loop_is (fun s => ∃ i : Nat, i ≤ 6 ∧ s = (Arr.of 6 [a, b, c, d, e, f] rfl, (i : Int), a, b, c, d, e, f)) (fun s => 6 - s.2.1.toNat) ⟨0, by omega, rfl⟩ (by simp) ?_
      rintro _ ⟨i, hi, rfl⟩
      simp only [keys_Valid_L1_P, keys_Valid_L1]
      by_cases hi' : i < 6
      · left
        have := hall i hi'
        rw [if_pos (by simp; omega), inb_ok hi', Option.bind_some]
        simp only [Int.toNat_natCast, six_get a b c d e f i hi']
        rw [if_neg (by simp only [decide_eq_true_eq]; omega), if_neg (by simp only [decide_eq_true_eq]; omega), i64_succ (by omega)]
        exact ⟨_, rfl, ⟨i + 1, by omega, rfl⟩, by simp; omega⟩
      · right
        rw [if_neg (by simp; omega)]
    rw [hl, Option.bind_some]
    simp only [Sum.elim_inl]
    have h0 := hall 0 (by decide); have h1 := hall 1 (by decide); have h2 := hall 2 (by decide); have h3 := hall 3 (by decide); have h4 := hall 4 (by decide); have h5 := hall 5 (by decide)
    simp only [List.getD_cons_zero, List.getD_cons_succ] at h0 h1 h2 h3 h4 h5
    by_cases ha : 1 ≤ a
    · rw [if_pos (by simpa using ha)]
      by_cases ha' : a ≤ 6
      · rw [if_pos (by simpa using ha')]
        refine congrArg some ?_
        rw [decide_eq_decide]
        unfold Good; omega
      · rw [if_neg (by simpa using ha'), decide_eq_false (by unfold Good; omega)]
    · rw [if_neg (by simpa using ha), decide_eq_false (by unfold Good; omega)]
  · have hl : loop keys_Valid_L1_P (Arr.of 6 [a, b, c, d, e, f] rfl, (0 : Int), a, b, c, d, e, f) = some (.inr (false, a, b, c, d, e, f)) := by
      refine loop_is (fun s => ∃ i : Nat, i ≤ 6 ∧ s = (Arr.of 6 [a, b, c, d, e, f] rfl, (i : Int), a, b, c, d, e, f) ∧ ∀ j, j < i → 0 ≤ [a, b, c, d, e, f].getD j 0 ∧ [a, b, c, d, e, f].getD j 0 ≤ 1099511627776) (fun s => 6 - s.2.1.toNat) ⟨0, by omega, rfl, fun j hj => by omega⟩ (by simp) ?_
      rintro _ ⟨i, hi, rfl, hp⟩
      simp only [keys_Valid_L1_P, keys_Valid_L1]
      by_cases hi' : i < 6
      · rw [if_pos (by simp; omega), inb_ok hi', Option.bind_some]
        simp only [Int.toNat_natCast, six_get a b c d e f i hi']
        by_cases hlo : [a, b, c, d, e, f].getD i 0 < 0
        · right; rw [if_pos (by simpa using hlo)]
        · by_cases hhi : [a, b, c, d, e, f].getD i 0 > 1099511627776
          · right; rw [if_neg (by simpa using hlo), if_pos (by simpa using hhi)]
          · left
            rw [if_neg (by simpa using hlo), if_neg (by simpa using hhi), i64_succ (by omega)]
            refine ⟨_, rfl, ⟨i + 1, by omega, rfl, fun j hj => ?_⟩, by simp; omega⟩
            by_cases hji : j < i
            · exact hp j hji
            · obtain rfl : j = i := by omega
              omega
      · exact absurd (fun j hj => hp j (by omega)) hall
    rw [hl, Option.bind_some]
    simp only [Sum.elim_inr]
    refine congrArg some (decide_eq_false ?_).symm
    intro hg
    refine hall fun j hj => ?_
    unfold Good at hg
    have : j = 0 ∨ j = 1 ∨ j = 2 ∨ j = 3 ∨ j = 4 ∨ j = 5 := by omega
    rcases this with rfl | rfl | rfl | rfl | rfl | rfl <;> simp only [List.getD_cons_zero, List.getD_cons_succ] <;> omega

theorem rin_is (n : Int) : intaglioref07_in_M n = some (decide (0 ≤ n ∧ n ≤ 1099511627776)) := by
  unfold intaglioref07_in_M
  by_cases h : 0 ≤ n
  · rw [if_pos (by simpa using h)]; refine congrArg some ?_; rw [decide_eq_decide]; omega
  · rw [if_neg (by simpa using h), decide_eq_false (by omega)]

theorem rvalid_is (a b c d e f : Int) : intaglioref07_Valid_M a b c d e f = some (decide (Good a b c d e f)) := by
  unfold intaglioref07_Valid_M
  simp only [intaglioref07_in_P, rin_is, Option.bind_some, decide_eq_true_eq]
  repeat' split
  all_goals
    refine congrArg some ?_
    rw [Bool.eq_iff_iff]
    simp only [decide_eq_true_eq, beq_iff_eq, Bool.false_eq_true, true_iff, false_iff] at *
    unfold Good
    omega

def idB (a b c d e f : Int) : List Int := be8 a ++ be8 b ++ be8 c ++ be8 d ++ be8 e ++ be8 f
theorem idB_len (a b c d e f : Int) : (idB a b c d e f).length = 48 := rfl
theorem idB_by (a b c d e f : Int) : By (idB a b c d e f) := ((((((By.be8 a).app (By.be8 b)).app (By.be8 c)).app (By.be8 d)).app (By.be8 e)).app (By.be8 f))

theorem bytes_loop {a b c d e f : Int} (h : Good a b c d e f) : loop keys_Bytes_L1_P (Arr.of 6 [a, b, c, d, e, f] rfl, (0 : Int), []) = some (idB a b c d e f) := by
  have h := loop_count (body := keys_Bytes_L1_P) (T := List Int) 6 (fun i r => (Arr.of 6 [a, b, c, d, e, f] rfl, (i : Int), r)) (fun i r => r ++ be8 ([a, b, c, d, e, f].getD i 0)) (fun r => r) (fun i r => r.length = 8 * i) (i := 0) (t := []) ?_ ?_ (by decide) (by decide) rfl
  · exact h.1
  · intro i r hi hr
    refine ⟨?_, by rw [List.length_append, hr, be8_len]; omega⟩
    simp only [keys_Bytes_L1_P, keys_Bytes_L1]
    rw [if_pos (by simp; omega), inb_ok hi, Option.bind_some]
    simp only [Int.toNat_natCast, pack_PutNum_P]
    have hb : 0 ≤ [a, b, c, d, e, f].getD i 0 ∧ [a, b, c, d, e, f].getD i 0 < 9223372036854775808 := by
      unfold Good at h
      have : i = 0 ∨ i = 1 ∨ i = 2 ∨ i = 3 ∨ i = 4 ∨ i = 5 := by omega
      rcases this with rfl | rfl | rfl | rfl | rfl | rfl <;> simp only [List.getD_cons_zero, List.getD_cons_succ] <;> omega
    rw [six_get _ _ _ _ _ _ i hi, putNum (by omega) hb.1 hb.2, Option.bind_some, i64_succ (by omega)]
  · intro r _
    simp only [keys_Bytes_L1_P, keys_Bytes_L1]
    rw [if_neg (by simp)]

theorem bytes_is {a b c d e f : Int} (h : Good a b c d e f) : keys_Bytes_M a b c d e f = some (idB a b c d e f) := by
  unfold keys_Bytes_M
  simp only [keys_Valid_P, keys_numbers_P]
  rw [valid_is, Option.bind_some, decide_eq_true h, if_neg (by decide), keys_numbers_M, Option.bind_some, bytes_loop h]; rfl
theorem bytes_none {a b c d e f : Int} (h : ¬ Good a b c d e f) : keys_Bytes_M a b c d e f = some [] := by
  unfold keys_Bytes_M
  simp only [keys_Valid_P, keys_numbers_P]
  rw [valid_is, Option.bind_some, decide_eq_false h, if_pos (by decide)]
theorem rbytes_is {a b c d e f : Int} (h : Good a b c d e f) : intaglioref07_Bytes_M a b c d e f = some (idB a b c d e f) := by
  unfold intaglioref07_Bytes_M
  simp only [intaglioref07_Valid_P, intaglioref01_PutNum_P]
  rw [rvalid_is, Option.bind_some, decide_eq_true h, if_neg (by decide)]
  unfold Good at h
  rw [rputNum (by decide) (by omega) (by omega), Option.bind_some, rputNum (by simp [be8_len]) (by omega) (by omega), Option.bind_some, rputNum (by simp [be8_len]) (by omega) (by omega), Option.bind_some,
    rputNum (by simp [be8_len]) (by omega) (by omega), Option.bind_some, rputNum (by simp [be8_len]) (by omega) (by omega), Option.bind_some, rputNum (by simp [be8_len]) (by omega) (by omega), Option.bind_some]
  rfl

/-! ### Keys -/

def saltL : List Int := [105, 110, 116, 97, 103, 108, 105, 111]
theorem salt_by : By saltL := fun x hx => by
  simp only [saltL, List.mem_cons, List.not_mem_nil, or_false] at hx
  omega
def keyOf (s : List Int) (a b c d e f : Int) : Arr 32 Int := ⟨expandF (hmacF saltL s).1 (idB a b c d e f) 32, expandF_len ..⟩

theorem derive_is {s : List Int} {a b c d e f : Int} (hs : By s) (hl : s.length ≤ 1000000) : keys_Derive_M s a b c d e f = some (if Good a b c d e f then (keyOf s a b c d e f, true) else (Arr.rep 32 0, false)) := by
  unfold keys_Derive_M
  simp only [keys_Valid_P, mac_Extract_P, keys_Bytes_P, mac_Expand_P]
  rw [valid_is, Option.bind_some]
  by_cases h : Good a b c d e f
  · rw [decide_eq_true h, if_neg (by decide), if_pos h]
    rw [show [(105 : Int), 110, 116, 97, 103, 108, 105, 111] = saltL from rfl, Extract_is salt_by (by decide) hs (by omega), Option.bind_some, subn_ok (by decide) (by decide) (by decide), Option.bind_some, bytes_is h, Option.bind_some]
    rw [show List.drop (nat_lit 0) (List.take (nat_lit 32) (hmacF saltL s).1) = (hmacF saltL s).1 from dig_take _]
    rw [Expand_is (key := (hmacF saltL s).1) (info := idB a b c d e f) (digest_by _) (by rw [show (hmacF saltL s).1.length = 32 from dig_len _]; decide) (idB_by a b c d e f) (by rw [idB_len]; decide) (by decide) (by decide), Option.bind_some]
    rw [show lenAt 32 (expandF (hmacF saltL s).1 (idB a b c d e f) (Int.toNat 32)).length = some () by unfold lenAt; rw [if_pos (by rw [expandF_len]; decide)], Option.bind_some]
    refine congrArg (fun x => some (x, true)) (Subtype.ext ?_)
    rw [Arr.tk_val _ (by rw [expandF_len]; decide), List.take_of_length_le (by rw [expandF_len]; decide)]
    rfl
  · rw [decide_eq_false h, if_pos (by decide), if_neg h]; rfl

theorem rderive_L1 (m0 : Arr 32 Int) {r : List Int} (hr : r.length = 32) : loop intaglioref07_Derive_L1_P ((0 : Int), m0, Arr.rep 32 0, r) = some (m0, ⟨r, hr⟩) := by
  obtain ⟨q, h1, h2⟩ := loop_count' (body := intaglioref07_Derive_L1_P) (T := Arr 32 Int) 32 (fun i m => ((i : Int), m0, m, r)) (fun i m => Arr.set m i (r.getD i 0)) (fun m => (m0, m)) (fun i m => ∀ j, j < 32 → m.val.getD j 0 = if j < i then r.getD j 0 else 0) (i := 0) (t := Arr.rep 32 0) (fun i m hi hI => ⟨by
    simp only [intaglioref07_Derive_L1_P, intaglioref07_Derive_L1]
    rw [if_pos (by simp; omega), inb_ok (by omega), inb_ok hi]
    simp only [Option.bind_some, i64_succ (show i < 4611686018427387904 by omega), Int.toNat_natCast], fun j hj => by
    rw [arr_set_get _ _ _ _ hi, hI j hj]
    by_cases hji : j = i
    · subst hji; rw [if_pos rfl, if_pos (by omega)]
    · rw [if_neg hji]
      by_cases hlt : j < i
      · rw [if_pos hlt, if_pos (by omega)]
      · rw [if_neg hlt, if_neg (by omega)]⟩) (fun m _ => by
    simp only [intaglioref07_Derive_L1_P, intaglioref07_Derive_L1]
    rw [if_neg (by simp)]) (by decide) (by decide) (fun j hj => by rw [rep_get, if_neg (by omega)])
  have e : q = ⟨r, hr⟩ := arr_ext fun j hj => by rw [h2 j hj, if_pos hj]
  rw [e] at h1
  exact h1

theorem rderive_is {s : List Int} {a b c d e f : Int} (hs : By s) (hl : s.length ≤ 1000000) : intaglioref07_Derive_M s a b c d e f = some (if Good a b c d e f then (keyOf s a b c d e f, true) else (Arr.rep 32 0, false)) := by
  unfold intaglioref07_Derive_M
  simp only [intaglioref07_Valid_P, intaglioref06_Extract_P, intaglioref07_Bytes_P, intaglioref06_Expand_P]
  rw [rvalid_is, Option.bind_some]
  by_cases h : Good a b c d e f
  · rw [decide_eq_true h, if_neg (by decide), if_pos h]
    rw [show [(105 : Int), 110, 116, 97, 103, 108, 105, 111] = saltL from rfl, rExtract_is salt_by (by decide) hs (by omega), Option.bind_some, subn_ok (by decide) (by decide) (by decide), Option.bind_some, rbytes_is h, Option.bind_some]
    rw [show List.drop (nat_lit 0) (List.take (nat_lit 32) (hmacF saltL s).1) = (hmacF saltL s).1 from dig_take _]
    rw [rExpand_is (key := (hmacF saltL s).1) (info := idB a b c d e f) (digest_by _) (by rw [show (hmacF saltL s).1.length = 32 from dig_len _]; decide) (idB_by a b c d e f) (by rw [idB_len]; decide) (by decide) (by decide), Option.bind_some]
    rw [show Int.toNat 32 = 32 from rfl]
    simp only
    rw [rderive_L1 _ (expandF_len ..), Option.bind_some]
    rfl
  · rw [decide_eq_false h, if_pos (by decide), if_neg h]
end Go.Proofs.YtcpddgjmopdlbaaDoor
