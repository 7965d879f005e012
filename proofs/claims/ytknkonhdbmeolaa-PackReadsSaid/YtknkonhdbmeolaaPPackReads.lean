/- The readers' law, in plain words. -/
import Derived.Test.YtknkonhdbmeolaaMPackReads
import Derived.Test.YtknkonhdbmeolaaReads
import Derived.Test.YtknkonhdbmeolaaMIn
namespace Go.Proofs.Ytknkonhdbmeolaa
open Go Go.Lift
set_option maxRecDepth 100000
set_option maxHeartbeats 4000000
set_option linter.unusedVariables false

structure Fine (l : List Int) (e : Int) : Prop where
  by_ : By l
  len : l.length ≤ 5000
  err : e ≠ 0 → l = []

theorem Fine.err0 {e : Int} : Fine [] e := ⟨By.nil, by simp, fun _ => rfl⟩
theorem Fine.uM {l : List Int} {e : Int} (h : Fine l e) (n : Nat) : Fine (uM l e n).2.1 (uM l e n).2.2 := by
  unfold Ytknkonhdbmeolaa.uM
  split
  · split
    · exact ⟨h.by_.drop n, by simp; have := h.len; omega, fun he => absurd rfl he⟩
    · exact Fine.err0
  · exact h

theorem uM_zero {l : List Int} {e : Int} {n : Nat} (h : (uM l e n).2.2 ≠ 0) : (uM l e n).1 = 0 := by
  unfold uM at h ⊢
  split
  · split
    · rename_i h1 h2; rw [if_pos h1, if_pos h2] at h; exact absurd rfl h
    · rfl
  · rfl

theorem failIn {l : List Int} {e p : Int} : intaglioref01_In_fail_M l e p = some ([], if e = 0 then p else e) := by
  unfold intaglioref01_In_fail_M
  by_cases h : e = 0
  · rw [if_pos (by simpa using h), if_pos h]
  · rw [if_neg (by simpa using h), if_neg h]

theorem refU_loop {l : List Int} (hb : By l) (n : Nat) (hn : n ≤ 8) (hl : n ≤ l.length) :
    loop (fun (s : (Int × Int)) => intaglioref01_In_U_L1 l n s.1 s.2) (0, 0) = some (num (l.take n)) := by
  refine loop_is (fun s => ∃ i : Nat, i ≤ n ∧ s = (num (l.take i), (i : Int)) ∧ 0 ≤ s.1 ∧ s.1 < 256 ^ i) (fun s => n - s.2.toNat) ⟨0, by omega, by simp [num], by simp, by simp⟩ (by simp; omega) ?_
  rintro _ ⟨i, hi, rfl, h0, h1⟩
  simp only at h0 h1
  unfold intaglioref01_In_U_L1
  by_cases hi' : i < n
  · have hil : i < l.length := by omega
    have hy := hb l[i] (List.getElem_mem hil)
    refine .inl ⟨(num (l.take (i + 1)), ((i + 1 : Nat) : Int)), ?_, ⟨i + 1, by omega, rfl, ?_⟩, by simp; omega⟩
    · rw [if_pos (by simp; omega)]
      have := pow_small i (by omega)
      simp only [ix_nat hil, Option.bind_some]
      rw [u64_id (n := l[i]) (by omega) (by omega), u64_id (n := 256 * _) (by omega) (by omega), u64_id (by omega) (by omega), i64_id (by omega) (by omega), List.take_succ_eq_append_getElem hil, num_snoc, Int.mul_comm 256]
      rfl
    · simp only [List.take_succ_eq_append_getElem hil, num_snoc, Int.pow_succ]
      omega
  · have : i = n := by omega
    subst this
    refine .inr ?_
    rw [if_neg (by simp)]

theorem refU_is {l : List Int} {e : Int} (h : Fine l e) (n : Nat) (hn : n ≤ 8) (hp : 0 < n) : intaglioref01_In_U_M l e (n : Int) = some ((uM l e n).1, (uM l e n).2.1, (uM l e n).2.2) := by
  unfold intaglioref01_In_U_M uM
  by_cases hl : n ≤ l.length
  · have he : e = 0 := by
      by_cases he : e = 0
      · exact he
      · have := h.err he; subst this; simp at hl; omega
    subst he
    rw [if_neg (by simp; omega), refU_loop h.by_ n hn hl, if_pos rfl, if_pos hl]
    simp only [Option.bind_some]
    unfold intaglioref01_In_U_J1
    rw [sub_ok (by omega) (by omega) (by omega)]
    simp
  · rw [if_pos (by simp; omega), failIn]
    simp only [Option.bind_some]
    by_cases he : e = 0
    · subst he; rw [if_pos rfl, if_pos rfl, if_neg hl]
    · rw [if_neg he, if_neg he, h.err he]

def numM (l : List Int) (e mx : Int) : Int × List Int × Int :=
  if (uM l e 8).2.2 = 0 then (if (uM l e 8).1 ≥ 9223372036854775808 ∨ (uM l e 8).1 > mx then (0, [], 5) else uM l e 8) else (0, (uM l e 8).2.1, (uM l e 8).2.2)
theorem Fine.numM {l : List Int} {e : Int} (h : Fine l e) (mx : Int) : Fine (numM l e mx).2.1 (numM l e mx).2.2 := by
  unfold Ytknkonhdbmeolaa.numM
  split
  · split
    · exact Fine.err0
    · exact h.uM 8
  · exact h.uM 8

theorem Num_is {l : List Int} {e : Int} (h : Fine l e) (mx : Int) : pack_Reader_Num_M l e true mx = some ((numM l e mx).1, (numM l e mx).2.1, (numM l e mx).2.2, true) := by
  have hr := uM_range (e := e) h.by_ 8
  have h2 : (uM l e 8).1 < 18446744073709551616 := by simpa using hr.2
  have h1 := hr.1
  unfold pack_Reader_Num_M numM
  rw [U64_is h.by_]
  simp only [Option.bind_some, pack_Reader_ok_M, if_true]
  generalize uM l e 8 = u at *
  by_cases he : u.2.2 = 0
  · rw [if_neg (by simpa using he), if_pos he]
    by_cases hb : u.1 ≥ 9223372036854775808
    · rw [if_pos, if_pos (.inl hb)]
      · rfl
      · rw [Int.fdiv_eq_ediv_of_nonneg _ (by decide)]; simp only [beq_iff_eq]; omega
    · rw [if_neg, i64_id (by omega) (by omega)]
      · by_cases hm : u.1 > mx
        · rw [if_pos (by simpa using hm), if_pos (.inr hm)]; rfl
        · rw [if_neg (by simpa using hm), if_neg (by omega)]
      · rw [Int.fdiv_eq_ediv_of_nonneg _ (by decide)]; simp only [beq_iff_eq]; omega
  · rw [if_pos (by simpa using he), if_neg he]
theorem refNum_is {l : List Int} {e : Int} (h : Fine l e) (mx : Int) : intaglioref01_In_Num_M l e mx = some ((numM l e mx).1, (numM l e mx).2.1, (numM l e mx).2.2) := by
  have hr := uM_range (e := e) h.by_ 8
  have h2 : (uM l e 8).1 < 18446744073709551616 := by simpa using hr.2
  have h1 := hr.1
  have hz := uM_zero (l := l) (e := e) (n := 8)
  unfold intaglioref01_In_Num_M numM
  have hU := refU_is h 8 (by decide) (by decide)
  rw [show ((8 : Nat) : Int) = 8 from rfl] at hU
  rw [hU]
  simp only [Option.bind_some]
  generalize uM l e 8 = u at *
  by_cases he : u.2.2 = 0
  · rw [if_pos (by simpa using he), if_pos he]
    by_cases hb : u.1 ≥ 9223372036854775808
    · rw [if_pos (by simpa using hb), if_pos (.inl hb), failIn, if_pos he]; rfl
    · rw [if_neg (by simpa using hb), i64_id (by omega) (by omega)]
      by_cases hm : u.1 > mx
      · rw [if_pos (by simpa using hm), if_pos (.inr hm), failIn, if_pos he]; rfl
      · rw [if_neg (by simpa using hm), if_neg (by omega)]
  · rw [if_neg (by simpa using he), if_neg he, hz he]; rfl

def bytesM (l : List Int) (e mx : Int) : List Int × List Int × Int :=
  if (uM l e 4).2.2 = 0 then (if (uM l e 4).1 > mx then ([], [], 5) else if (uM l e 4).1 > (uM l e 4).2.1.length then ([], [], 4) else ((uM l e 4).2.1.take (uM l e 4).1.toNat, (uM l e 4).2.1.drop (uM l e 4).1.toNat, 0)) else ([], (uM l e 4).2.1, (uM l e 4).2.2)
theorem Fine.bytesM {l : List Int} {e : Int} (h : Fine l e) (mx : Int) : Fine (bytesM l e mx).2.1 (bytesM l e mx).2.2 := by
  unfold Ytknkonhdbmeolaa.bytesM
  have hu := h.uM 4
  split
  · split
    · exact Fine.err0
    · split
      · exact Fine.err0
      · exact ⟨hu.by_.drop _, by simp; have := hu.len; omega, fun he => absurd rfl he⟩
  · exact hu
theorem Bytes_is {l : List Int} {e : Int} (h : Fine l e) (mx : Int) : pack_Reader_Bytes_M l e true mx = some ((bytesM l e mx).1, (bytesM l e mx).2.1, (bytesM l e mx).2.2, true) := by
  have hr := uM_range (e := e) h.by_ 4
  have h2 : (uM l e 4).1 < 4294967296 := by simpa using hr.2
  have h1 := hr.1
  have hu := h.uM 4
  unfold pack_Reader_Bytes_M bytesM
  rw [U32_is h.by_]
  simp only [Option.bind_some, pack_Reader_ok_M, if_true]
  generalize uM l e 4 = u at *
  by_cases he : u.2.2 = 0
  · rw [if_neg (by simpa using he), if_pos he, i64_id (by omega) (by omega)]
    by_cases hm : u.1 > mx
    · rw [if_pos (by simpa using hm), if_pos hm]; rfl
    · rw [if_neg (by simpa using hm), if_neg hm, he]
      by_cases hl : u.1 > u.2.1.length
      · rw [next_short hl, if_pos hl]; rfl
      · rw [next_ok h1 (by omega), if_neg hl]
        simp only [Option.bind_some]
        rw [room_one (by simp; have := hu.len; omega)]; rfl
  · rw [if_pos (by simpa using he), if_neg he]
theorem refBytes_is {l : List Int} {e : Int} (h : Fine l e) (mx : Int) : intaglioref01_In_Bytes_M l e mx = some ((bytesM l e mx).1, (bytesM l e mx).2.1, (bytesM l e mx).2.2) := by
  have hr := uM_range (e := e) h.by_ 4
  have h2 : (uM l e 4).1 < 4294967296 := by simpa using hr.2
  have h1 := hr.1
  have hu := h.uM 4
  unfold intaglioref01_In_Bytes_M bytesM
  have hU := refU_is h 4 (by decide) (by decide)
  rw [show ((4 : Nat) : Int) = 4 from rfl] at hU
  rw [hU]
  simp only [Option.bind_some]
  generalize uM l e 4 = u at *
  by_cases he : u.2.2 = 0
  · rw [if_pos (by simpa using he), if_pos he, i64_id (by omega) (by omega)]
    by_cases hm : u.1 > mx
    · rw [if_pos (by simpa using hm), if_pos hm, failIn, if_pos he]; rfl
    · rw [if_neg (by simpa using hm), if_neg hm]
      unfold intaglioref01_In_Bytes_J1
      rw [if_pos (by simpa using he), i64_id (by omega) (by omega)]
      by_cases hl : u.1 > u.2.1.length
      · rw [if_pos (by simpa using hl), if_pos hl, failIn, if_pos he]; rfl
      · rw [if_neg (by simpa using hl), if_neg hl]
        unfold intaglioref01_In_Bytes_J2
        rw [if_neg (by simpa using he), i64_id (by omega) (by omega), sub_ok (by omega) h1 (by omega), sub_ok h1 (by omega) (by omega)]
        simp only [Option.bind_some]
        rw [both (by simp; have := hu.len; omega)]
        simp [he]
  · rw [if_neg (by simpa using he), if_neg he]
    unfold intaglioref01_In_Bytes_J1
    rw [if_neg (by simpa using he)]
    unfold intaglioref01_In_Bytes_J2
    rw [if_pos (by simpa using he)]

theorem Rest_is {l : List Int} {e : Int} (h : Fine l e) : pack_Reader_Rest_M l e true = some (l, [], e, true) := by
  unfold pack_Reader_Rest_M pack_Reader_Left_M
  simp only [Option.bind_some]
  by_cases he : e = 0
  · subst he
    rw [next_ok (by omega) (by omega)]
    simp only [Option.bind_some, Int.toNat_natCast, List.take_length, List.drop_length]
    rw [room_one (by simp; have := h.len; omega)]; rfl
  · rw [next_err he, h.err he]; rfl
theorem refRest_is {l : List Int} {e : Int} (h : Fine l e) : intaglioref01_In_Rest_M l e = some (l, [], e) := by
  unfold intaglioref01_In_Rest_M
  rw [both (by simp; have := h.len; omega)]; rfl

theorem join_ok {l : List Int} {e : Int} {i : Int} : intagliolaw01_PackReads_J1 i l e true l e true = some (.inl (l, e, true, l, e, IntKind.i64.wrap (i + 1))) := by
  unfold intagliolaw01_PackReads_J1 pack_Reader_Left_M pack_Reader_Err_M
  have hE : pack_Reader_End_M l e true = intaglioref01_In_End_M l e := by
    unfold pack_Reader_End_M intaglioref01_In_End_M pack_Reader_Err_M pack_Reader_Left_M
    simp only [Bool.not_true, Bool.false_eq_true, if_false, Option.bind_some]
  have hE2 : ∃ v, intaglioref01_In_End_M l e = some v := by
    unfold intaglioref01_In_End_M
    split
    · split <;> exact ⟨_, rfl⟩
    · exact ⟨_, rfl⟩
  obtain ⟨v, hv⟩ := hE2
  rw [hE, hv]
  simp

theorem intagliolaw01_PackReads_pure (p0 : List Int) (p1 : List (Int × Int)) (w0 : ∀ n ∈ p0, (Lit.int .u8 n).wf = true) (l0 : p0.length ≤ maxLen) (w1 : ∀ x ∈ p1, (Lit.int .i64 x.1).wf = true ∧ (Lit.int .i64 x.2).wf = true) (l1 : p1.length ≤ maxLen) :
    intagliolaw01_PackReads_M p0 p1 = some true := by
  have hb : By p0 := fun n hn => wf_u8 (w0 n hn)
  unfold intagliolaw01_PackReads_M
  by_cases h0 : (p0.length : Int) > 5000
  · rw [if_pos (by simpa using h0), awake_is]; rfl
  rw [if_neg (by simpa using h0)]
  by_cases h1 : (p1.length : Int) > 60
  · rw [if_pos (by simpa using h1), awake_is]; rfl
  rw [if_neg (by simpa using h1)]
  unfold pack_Read_M
  rw [room_one (by simp; omega), clone_is (by omega)]
  simp only [Option.bind_some, List.nil_append]
  rw [loop_is (s := (p0, 0, true, p0, 0, (0 : Int))) (r := .inl ()) (fun s => ∃ (i : Nat) (l : List Int) (e : Int), i ≤ p1.length ∧ s = (l, e, true, l, e, (i : Int)) ∧ Fine l e) (fun s => p1.length - s.2.2.2.2.2.toNat)
    ⟨0, p0, 0, by omega, rfl, hb, by omega, fun h => absurd rfl h⟩ (by simp; omega) ?_]
  · simp only [Option.bind_some]
    unfold intagliolaw01_PackReads_J2
    rw [awake_is]; rfl
  rintro _ ⟨i, l, e, hi, rfl, hF⟩
  unfold intagliolaw01_PackReads_L1
  by_cases hi' : i < p1.length
  · rw [if_pos (by simp; omega)]
    simp only [ix_nat hi', Option.bind_some]
    have step : ∀ (l' : List Int) (e' : Int), Fine l' e' → (∃ s', intagliolaw01_PackReads_J1 i l' e' true l' e' true = some (.inl s') ∧ (∃ (i : Nat) (l : List Int) (e : Int), i ≤ p1.length ∧ s' = (l, e, true, l, e, (i : Int)) ∧ Fine l e) ∧
        p1.length - s'.2.2.2.2.2.toNat < p1.length - (i : Int).toNat) := fun l' e' hF' =>
      ⟨_, join_ok, ⟨i + 1, l', e', by omega, by rw [i64_id (by omega) (by omega)]; rfl, hF'⟩, by rw [i64_id (by omega) (by omega)]; simp; omega⟩
    have r1 := uM_range (e := e) hF.by_ 1
    have r4 := uM_range (e := e) hF.by_ 4
    have q1 : (uM l e 1).1 < 256 := by simpa using r1.2
    have q4 : (uM l e 4).1 < 4294967296 := by simpa using r4.2
    have U1 := refU_is hF 1 (by decide) (by decide)
    have U4 := refU_is hF 4 (by decide) (by decide)
    have U8 := refU_is hF 8 (by decide) (by decide)
    rw [show ((1 : Nat) : Int) = 1 from rfl] at U1
    rw [show ((4 : Nat) : Int) = 4 from rfl] at U4
    rw [show ((8 : Nat) : Int) = 8 from rfl] at U8
    refine .inl ?_
    split
    · rw [U8_is hF.by_, U1]
      simp only [Option.bind_some]
      rw [u64_id r1.1 (by omega), beq_self_eq_true]
      exact step _ _ (hF.uM 1)
    split
    · rw [U32_is hF.by_, U4]
      simp only [Option.bind_some]
      rw [u64_id r4.1 (by omega), beq_self_eq_true]
      exact step _ _ (hF.uM 4)
    split
    · rw [U64_is hF.by_, U8]
      simp only [Option.bind_some, beq_self_eq_true]
      exact step _ _ (hF.uM 8)
    split
    · rw [Num_is hF, refNum_is hF]
      simp only [Option.bind_some, beq_self_eq_true]
      exact step _ _ (hF.numM _)
    split
    · rw [Bytes_is hF, refBytes_is hF]
      simp only [Option.bind_some, equal_self]
      exact step _ _ (hF.bytesM _)
    · rw [Rest_is hF, refRest_is hF]
      simp only [Option.bind_some, equal_self]
      exact step _ _ Fine.err0
  · have : i = p1.length := by omega
    subst this
    refine .inr ?_
    rw [if_neg (by simp)]
end Go.Proofs.Ytknkonhdbmeolaa
