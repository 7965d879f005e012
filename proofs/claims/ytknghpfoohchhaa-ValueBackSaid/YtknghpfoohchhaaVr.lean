/- Readers: what the package's and the document's read, in plain words. -/
import Derived.Test.YtknghpfoohchhaaRd
namespace Go.Proofs.Ytknghpfoohchhaa
open Go Go.Lift
set_option maxRecDepth 100000
set_option maxHeartbeats 4000000
set_option linter.unusedVariables false

structure Fine (l : List Int) (e : Int) : Prop where
  by_ : By l
  len : l.length ≤ 1000000
  err : e ≠ 0 → l = []
theorem Fine.err0 {e : Int} : Fine [] e := ⟨By.nil, by simp, fun _ => rfl⟩
theorem Fine.uM {l : List Int} {e : Int} (h : Fine l e) (n : Nat) : Fine (uM l e n).2.1 (uM l e n).2.2 := by
  unfold Ytknghpfoohchhaa.uM
  split
  · split
    · exact ⟨h.by_.drop n, by simp; have := h.len; omega, fun he => absurd rfl he⟩
    · exact Fine.err0
  · exact h
theorem uM_zero {l : List Int} {e : Int} {n : Nat} (h : (uM l e n).2.2 ≠ 0) : (uM l e n).1 = 0 := by
  unfold uM at h ⊢
  split
  · split
    · rename_i h1 h2; rw [if_pos h1, if_pos h2] at h; exact absurd rfl h
    · rfl
  · rfl
theorem uM_err {l : List Int} {e : Int} {n : Nat} (h : e ≠ 0) : uM l e n = (0, l, e) := by unfold uM; rw [if_neg h]
theorem U64_is {l : List Int} {e : Int} (hb : By l) : pack_Reader_U64_M l e true = some ((uM l e 8).1, (uM l e 8).2.1, (uM l e 8).2.2, true) := by
  unfold pack_Reader_U64_M
  simp only [pack_Reader_number_P]
  have h := number_is (e := e) hb 8 (by decide)
  rw [show ((8 : Nat) : Int) = 8 from rfl] at h
  rw [h]; rfl
theorem U8_is {l : List Int} {e : Int} (hb : By l) : pack_Reader_U8_M l e true = some ((uM l e 1).1, (uM l e 1).2.1, (uM l e 1).2.2, true) := by
  unfold pack_Reader_U8_M
  simp only [pack_Reader_number_P]
  have h := number_is (e := e) hb 1 (by decide)
  have r := uM_range (e := e) hb 1
  rw [show ((1 : Nat) : Int) = 1 from rfl] at h
  rw [h]; simp only [Option.bind_some]; rw [i64_id (by omega) (by have := r.2; simp at this; omega)]

theorem failIn {l : List Int} {e p : Int} : intaglioref01_In_fail_M p l e = some (if e = 0 then p else e) := by
  unfold intaglioref01_In_fail_M
  by_cases h : e = 0
  · rw [if_pos (by simpa using h), if_pos h]
  · rw [if_neg (by simpa using h), if_neg h]
theorem refU_loop {l : List Int} {e : Int} (hb : By l) (n : Nat) (hn : n ≤ 8) (hl : n ≤ l.length) :
    loop intaglioref01_In_U_L1_P ((n : Int), 0, 0, l, e) = some ((n : Int), num (l.take n), l, e) := by
  refine loop_is (fun s => ∃ i : Nat, i ≤ n ∧ s = ((n : Int), num (l.take i), (i : Int), l, e) ∧ 0 ≤ num (l.take i) ∧ num (l.take i) < 256 ^ i) (fun s => n - s.2.2.1.toNat) ⟨0, by omega, by simp [num], by simp [num], by simp [num]⟩ (by simp; omega) ?_
  rintro _ ⟨i, hi, rfl, h0, h1⟩
  simp only [intaglioref01_In_U_L1_P, intaglioref01_In_U_L1]
  by_cases hi' : i < n
  · have hil : i < l.length := by omega
    have hy := hb l[i] (List.getElem_mem hil)
    refine .inl ⟨((n : Int), num (l.take (i + 1)), ((i + 1 : Nat) : Int), l, e), ?_, ⟨i + 1, by omega, rfl, ?_⟩, by simp; omega⟩
    · rw [if_pos (by simp; omega)]
      have := pow_small i (by omega)
      simp only [ix_nat hil, Option.bind_some]
      rw [u64_id (n := l[i]) (by omega) (by omega), u64_id (n := 256 * _) (by omega) (by omega), u64_id (by omega) (by omega), i64_id (by omega) (by omega), List.take_succ_eq_append_getElem hil, num_snoc, Int.mul_comm 256]
      rfl
    · simp only [List.take_succ_eq_append_getElem hil, num_snoc, Int.pow_succ]
      omega
  · have : i = n := by omega
    subst this
    refine .inr ?_
    rw [if_neg (by simp)]
theorem refU_is {l : List Int} {e : Int} (h : Fine l e) (n : Nat) (hn : n ≤ 8) (hp : 0 < n) : intaglioref01_In_U_M (n : Int) l e = some ((uM l e n).1, (uM l e n).2.1, (uM l e n).2.2) := by
  unfold intaglioref01_In_U_M uM
  simp only [intaglioref01_In_fail_P]
  by_cases hl : n ≤ l.length
  · have he : e = 0 := by
      by_cases he : e = 0
      · exact he
      · have := h.err he; subst this; simp at hl; omega
    subst he
    rw [if_neg (by simp; omega), refU_loop h.by_ n hn hl, if_pos rfl, if_pos hl]
    simp only [Option.bind_some]
    rw [sub_ok (by omega) (by omega) (by omega)]
    simp
  · rw [if_pos (by simp; omega), failIn]
    simp only [Option.bind_some]
    by_cases he : e = 0
    · subst he; rw [if_pos rfl, if_pos rfl, if_neg hl]
    · rw [if_neg he, if_neg he, h.err he]

/-- A number up to so much. -/
def numM (l : List Int) (e mx : Int) : Int × List Int × Int :=
  if (uM l e 8).2.2 = 0 then (if (uM l e 8).1 ≥ 9223372036854775808 ∨ (uM l e 8).1 > mx then (0, [], 5) else uM l e 8) else (0, (uM l e 8).2.1, (uM l e 8).2.2)
theorem Fine.numM {l : List Int} {e : Int} (h : Fine l e) (mx : Int) : Fine (numM l e mx).2.1 (numM l e mx).2.2 := by
  unfold Ytknghpfoohchhaa.numM
  split
  · split
    · exact Fine.err0
    · exact h.uM 8
  · exact h.uM 8
theorem Num_is {l : List Int} {e : Int} (h : Fine l e) (mx : Int) : pack_Reader_Num_M mx l e true = some ((numM l e mx).1, (numM l e mx).2.1, (numM l e mx).2.2, true) := by
  have hr := uM_range (e := e) h.by_ 8
  have h2 : (uM l e 8).1 < 18446744073709551616 := by simpa using hr.2
  have h1 := hr.1
  unfold pack_Reader_Num_M numM
  simp only [pack_Reader_U64_P, pack_Reader_ok_P, pack_Reader_fail_P]
  rw [U64_is h.by_]
  simp only [Option.bind_some, pack_Reader_ok_M, if_true, pack_Reader_fail_M]
  generalize uM l e 8 = u at *
  by_cases he : u.2.2 = 0
  · rw [if_neg (by simpa using he), if_pos he, gshr_ok (by decide), Option.bind_some]
    by_cases hb : u.1 ≥ 9223372036854775808
    · rw [if_pos, if_pos (.inl hb)]
      rw [beq_iff_eq, show (IntKind.u64.bits) = 64 from rfl]
      simp only [show min (Int.toNat 63) 64 = 63 from rfl]
      first
        | (rw [Int.fdiv_eq_ediv_of_nonneg _ (by decide)]; rw [wrap_u64']; omega)
        | (rw [Int.fdiv_eq_ediv_of_nonneg _ (by decide)]; omega)
        | (rw [wrap_u64']; omega)
        | omega
    · rw [if_neg, i64_id (by omega) (by omega)]
      · by_cases hm : u.1 > mx
        · rw [if_pos (by simpa using hm), if_pos (.inr hm)]
        · rw [if_neg (by simpa using hm), if_neg (by omega), he]
      · rw [beq_iff_eq, show (IntKind.u64.bits) = 64 from rfl]
        simp only [show min (Int.toNat 63) 64 = 63 from rfl]
        first
          | (rw [Int.fdiv_eq_ediv_of_nonneg _ (by decide)]; rw [wrap_u64']; omega)
          | (rw [Int.fdiv_eq_ediv_of_nonneg _ (by decide)]; omega)
          | (rw [wrap_u64']; omega)
          | omega
  · rw [if_pos (by simpa using he), if_neg he]
theorem refNum_is {l : List Int} {e : Int} (h : Fine l e) (mx : Int) : intaglioref01_In_Num_M mx l e = some ((numM l e mx).1, (numM l e mx).2.1, (numM l e mx).2.2) := by
  have hr := uM_range (e := e) h.by_ 8
  have h2 : (uM l e 8).1 < 18446744073709551616 := by simpa using hr.2
  have h1 := hr.1
  have hz := uM_zero (l := l) (e := e) (n := 8)
  unfold intaglioref01_In_Num_M numM
  simp only [intaglioref01_In_U_P, intaglioref01_In_fail_P]
  have hU := refU_is h 8 (by decide) (by decide)
  rw [show ((8 : Nat) : Int) = 8 from rfl] at hU
  rw [hU]
  simp only [Option.bind_some]
  generalize uM l e 8 = u at *
  by_cases he : u.2.2 = 0
  · rw [if_pos (by simpa using he), if_pos he]
    by_cases hb : u.1 ≥ 9223372036854775808
    · rw [if_pos (by simpa using hb), if_pos (.inl hb), failIn, if_pos he]; rfl
    · rw [if_neg (by simpa using hb), i64_id (by omega) (by omega)]
      by_cases hm : u.1 > mx
      · rw [if_pos (by simpa using hm), if_pos (.inr hm), failIn, if_pos he]; rfl
      · rw [if_neg (by simpa using hm), if_neg (by omega)]
  · rw [if_neg (by simpa using he), if_neg he, hz he]; rfl

/-- A text of at most so many bytes. -/
def bytM (l : List Int) (e mx : Int) : List Int × List Int × Int :=
  if (uM l e 4).2.2 = 0 then (if (uM l e 4).1 > mx then ([], [], 5) else if (uM l e 4).1 > ((uM l e 4).2.1.length : Int) then ([], [], 4) else ((uM l e 4).2.1.take (uM l e 4).1.toNat, (uM l e 4).2.1.drop (uM l e 4).1.toNat, 0)) else ([], (uM l e 4).2.1, (uM l e 4).2.2)
theorem Fine.bytM {l : List Int} {e : Int} (h : Fine l e) (mx : Int) : Fine (bytM l e mx).2.1 (bytM l e mx).2.2 := by
  unfold Ytknghpfoohchhaa.bytM
  have hu := h.uM 4
  split
  · split
    · exact Fine.err0
    · split
      · exact Fine.err0
      · exact ⟨hu.by_.drop _, by simp; have := hu.len; omega, fun he => absurd rfl he⟩
  · exact hu
theorem bytM_by {l : List Int} {e mx : Int} (h : Fine l e) : By (bytM l e mx).1 := by
  unfold bytM
  have hu := h.uM 4
  split
  · split
    · exact By.nil
    · split
      · exact By.nil
      · exact hu.by_.take _
  · exact By.nil
theorem Bytes_is {l : List Int} {e : Int} (h : Fine l e) (mx : Int) : pack_Reader_Bytes_M mx l e true = some ((bytM l e mx).2.1, (bytM l e mx).2.2, true, (bytM l e mx).1) := by
  have hr := uM_range (e := e) h.by_ 4
  have h2 : (uM l e 4).1 < 4294967296 := by simpa using hr.2
  have h1 := hr.1
  have hl := (h.uM 4).len
  unfold pack_Reader_Bytes_M bytM
  simp only [pack_Reader_U32_P, pack_Reader_ok_P, pack_Reader_fail_P, pack_Reader_next_P]
  rw [U32_is h.by_]
  simp only [Option.bind_some, pack_Reader_ok_M, if_true, pack_Reader_fail_M]
  generalize uM l e 4 = u at *
  by_cases he : u.2.2 = 0
  · rw [if_neg (by simpa using he), if_pos he, i64_id (by omega) (by omega), he]
    by_cases hm : u.1 > mx
    · rw [if_pos (by simpa using hm), if_pos hm]
    · rw [if_neg (by simpa using hm), if_neg hm]
      by_cases hs : u.1 > (u.2.1.length : Int)
      · rw [if_pos hs, next_short hs, Option.bind_some, room_one (by simp), Option.bind_some]
      · rw [if_neg hs, next_ok h1 (by omega), Option.bind_some, room_one (by simp; omega), Option.bind_some]
  · rw [if_pos (by simpa using he), if_neg he]
theorem refBytes_is {l : List Int} {e : Int} (h : Fine l e) (mx : Int) : intaglioref01_In_Bytes_M mx l e = some ((bytM l e mx).2.1, (bytM l e mx).2.2, (bytM l e mx).1) := by
  have hr := uM_range (e := e) h.by_ 4
  have h2 : (uM l e 4).1 < 4294967296 := by simpa using hr.2
  have h1 := hr.1
  have hl := (h.uM 4).len
  unfold intaglioref01_In_Bytes_M bytM
  simp only [intaglioref01_In_U_P, intaglioref01_In_fail_P, intaglioref01_Both_P]
  have hU := refU_is h 4 (by decide) (by decide)
  rw [show ((4 : Nat) : Int) = 4 from rfl] at hU
  rw [hU]
  simp only [Option.bind_some]
  generalize uM l e 4 = u at *
  by_cases he : u.2.2 = 0
  · rw [if_pos (by simpa using he), if_pos he, i64_id (by omega) (by omega), he]
    by_cases hm : u.1 > mx
    · rw [if_pos (by simpa using hm), if_pos hm, failIn, if_pos rfl]
      simp only [Option.bind_some]
      rw [if_neg (by decide), if_pos (by decide)]
    · rw [if_neg (by simpa using hm), if_neg hm, if_pos (by decide)]
      by_cases hs : u.1 > (u.2.1.length : Int)
      · rw [if_pos hs, if_pos (by simpa using hs), failIn, if_pos rfl]
        simp only [Option.bind_some]
        rw [if_pos (by decide)]
      · rw [if_neg hs, if_neg (by simpa using hs), if_neg (by decide), sub_ok (by omega) h1 (by omega), Option.bind_some, both (by simp; omega), Option.bind_some, sub_ok h1 (by omega) (by omega), Option.bind_some]
        simp
  · rw [if_neg (by simpa using he), if_neg he, if_neg (by simpa using he), if_pos (by simpa using he)]

/-! ### What was read -/

theorem num_take4 {l : List Int} (hb : By l) (h : 4 ≤ l.length) : be4 (num (l.take 4)) = l.take 4 := by
  match l, h with
  | a :: b :: c :: d :: r, _ =>
    have ha := hb a (by simp); have hb' := hb b (by simp); have hc := hb c (by simp); have hd := hb d (by simp)
    simp only [List.take_succ_cons, List.take_zero, num, List.foldl_cons, List.foldl_nil, be4]
    simp; omega
theorem num_take8 {l : List Int} (hb : By l) (h : 8 ≤ l.length) : be8 (num (l.take 8)) = l.take 8 := by
  match l, h with
  | a :: b :: c :: d :: a' :: b' :: c' :: d' :: r, _ =>
    have h1 := hb a (by simp); have h2 := hb b (by simp); have h3 := hb c (by simp); have h4 := hb d (by simp)
    have h5 := hb a' (by simp); have h6 := hb b' (by simp); have h7 := hb c' (by simp); have h8 := hb d' (by simp)
    simp only [List.take_succ_cons, List.take_zero, num, List.foldl_cons, List.foldl_nil, be8]
    simp; omega

theorem uM8_back {l : List Int} {e : Int} (hb : By l) (h : (uM l e 8).2.2 = 0) : e = 0 ∧ l = be8 (uM l e 8).1 ++ (uM l e 8).2.1 := by
  unfold uM at h ⊢
  split at h
  · rename_i he
    split at h
    · rename_i hl
      rw [if_pos he, if_pos hl, num_take8 hb hl]
      exact ⟨he, (List.take_append_drop 8 l).symm⟩
    · cases h
  · rename_i he; exact absurd h he
theorem uM1_back {l : List Int} {e : Int} (hb : By l) (h : (uM l e 1).2.2 = 0) : e = 0 ∧ l = [(uM l e 1).1] ++ (uM l e 1).2.1 := by
  unfold uM at h ⊢
  split at h
  · rename_i he
    split at h
    · rename_i hl
      rw [if_pos he, if_pos hl]
      match l, hl with
      | a :: r, _ => exact ⟨he, by simp [num]⟩
    · cases h
  · rename_i he; exact absurd h he
theorem numM_back {l : List Int} {e mx : Int} (hb : By l) (h : (numM l e mx).2.2 = 0) : e = 0 ∧ l = be8 (numM l e mx).1 ++ (numM l e mx).2.1 ∧ 0 ≤ (numM l e mx).1 ∧ (numM l e mx).1 ≤ mx := by
  have hr := uM_range (e := e) hb 8
  unfold numM at h ⊢
  split at h
  · rename_i hu
    split at h
    · cases h
    · rename_i hn
      rw [if_pos hu, if_neg hn]
      have := uM8_back hb hu
      exact ⟨this.1, this.2, hr.1, by omega⟩
  · rename_i hu; exact absurd h hu
/-- A text's bytes, their length ahead, as they stand. -/
theorem bytM_back {l : List Int} {e mx : Int} (hb : By l) (h : (bytM l e mx).2.2 = 0) : e = 0 ∧ l = be4 ((bytM l e mx).1.length : Int) ++ (bytM l e mx).1 ++ (bytM l e mx).2.1 ∧ ((bytM l e mx).1.length : Int) ≤ mx := by
  have hr := uM_range (e := e) hb 4
  unfold bytM at h ⊢
  split at h
  · rename_i hu
    split at h
    · cases h
    · rename_i hm
      split at h
      · cases h
      · rename_i hs
        rw [if_pos hu, if_neg hm, if_neg hs]
        have hlen : ((uM l e 4).2.1.take (uM l e 4).1.toNat).length = (uM l e 4).1.toNat := by rw [List.length_take]; omega
        simp only
        rw [hlen, Int.toNat_of_nonneg hr.1]
        unfold uM at hu hs hm hlen ⊢
        split at hu
        · rename_i he
          split at hu
          · rename_i hl
            rw [if_pos he, if_pos hl] at hm hs ⊢
            simp only at hm hs ⊢
            refine ⟨he, ?_, by omega⟩
            rw [num_take4 hb hl, List.append_assoc, List.take_append_drop, List.take_append_drop]
          · cases hu
        · rename_i he; exact absurd hu he
  · rename_i hu; exact absurd h hu
theorem bytM_err {l : List Int} {e mx : Int} (h : e ≠ 0) : bytM l e mx = ([], l, e) := by unfold bytM; rw [uM_err h]; simp [h]

/-! ### What is read again -/

theorem uM8_go {x : Int} {r : List Int} (h0 : 0 ≤ x) (h1 : x < 18446744073709551616) : uM (be8 x ++ r) 0 8 = (x, r, 0) := by
  unfold uM
  rw [if_pos rfl, if_pos (by simp [be8])]
  rw [show (be8 x ++ r).take 8 = be8 x from by simp [be8], show (be8 x ++ r).drop 8 = r from by simp [be8], num_be8 h0 h1]
theorem uM1_go {x : Int} {r : List Int} : uM ([x] ++ r) 0 1 = (x, r, 0) := by
  unfold uM
  rw [if_pos rfl, if_pos (by simp)]
  simp [num]
theorem numM_go {x mx : Int} {r : List Int} (h0 : 0 ≤ x) (h1 : x < 9223372036854775808) (hm : x ≤ mx) : numM (be8 x ++ r) 0 mx = (x, r, 0) := by
  unfold numM
  rw [uM8_go h0 (by omega)]
  simp only [if_true]
  rw [if_neg (by omega)]
theorem bytM_go {s r : List Int} {mx : Int} (hs : s.length < 4294967296) (hm : (s.length : Int) ≤ mx) : bytM (be4 (s.length : Int) ++ s ++ r) 0 mx = (s, r, 0) := by
  have hu : uM (be4 (s.length : Int) ++ s ++ r) 0 4 = ((s.length : Int), s ++ r, 0) := by
    unfold uM
    rw [if_pos rfl, if_pos (by simp [be4])]
    rw [show (be4 (s.length : Int) ++ s ++ r).take 4 = be4 (s.length : Int) from by simp [be4], show (be4 (s.length : Int) ++ s ++ r).drop 4 = s ++ r from by simp [be4], num_be4 (by omega) (by omega)]
  unfold bytM
  rw [hu]
  simp only [if_true]
  rw [if_neg (by omega), if_neg (by simp; omega)]
  simp
end Go.Proofs.Ytknghpfoohchhaa
