/- The law of parsed ids, in plain words. -/
import Derived.Test.YtcpddgjmopdlbaaMKeysParse
import Derived.Test.YtcpddgjmopdlbaaPKeysUnlike
namespace Go.Proofs.Ytcpddgjmopdlbaa
open Go Go.Lift
set_option maxRecDepth 100000
set_option maxHeartbeats 4000000
set_option linter.unusedVariables false

abbrev MX : Int := 1099511627776

/-- A list of eight bytes is its number's. -/
theorem be8_num : ∀ {l : List Int}, By l → l.length = 8 → be8 (num l) = l
  | [x0, x1, x2, x3, x4, x5, x6, x7], h, _ => by
    have h0 := h x0 (by simp)
    have h1 := h x1 (by simp)
    have h2 := h x2 (by simp)
    have h3 := h x3 (by simp)
    have h4 := h x4 (by simp)
    have h5 := h x5 (by simp)
    have h6 := h x6 (by simp)
    have h7 := h x7 (by simp)
    simp only [num, List.foldl_cons, List.foldl_nil, be8, List.cons.injEq, and_true]
    refine ⟨?_, ?_, ?_, ?_, ?_, ?_, ?_, ?_⟩ <;> omega

/-- What a number read without a fault says of the bytes. -/
theorem numM_ok {l : List Int} {e : Int} (h : Fine l e) (h0 : (numM l e MX).2.2 = 0) : e = 0 ∧ l = be8 (numM l e MX).1 ++ (numM l e MX).2.1 := by
  unfold numM at h0 ⊢
  by_cases hu : (uM l e 8).2.2 = 0
  · rw [if_pos hu] at h0 ⊢
    by_cases hb : (uM l e 8).1 ≥ 9223372036854775808 ∨ (uM l e 8).1 > MX
    · rw [if_pos hb] at h0; cases h0
    · rw [if_neg hb]
      unfold uM at hu ⊢
      by_cases he : e = 0
      · refine ⟨he, ?_⟩
        rw [if_pos he] at hu ⊢
        by_cases hl : 8 ≤ l.length
        · rw [if_pos hl]
          simp only
          rw [be8_num (h.by_.take 8) (by simp; omega), List.take_append_drop]
        · rw [if_neg hl] at hu; cases hu
      · rw [if_neg he] at hu; exact absurd hu he
  · rw [if_neg hu] at h0; exact absurd h0 hu

theorem numM_be8 {x : Int} {t : List Int} (hx : inR x) (hb : By t) (hl : t.length ≤ 4000) : numM (be8 x ++ t) 0 MX = (x, t, 0) := by
  have hF : Fine (be8 x ++ t) 0 := ⟨(By.be8 x).app hb, by simp [be8]; omega, fun h => absurd rfl h⟩
  have h1 := num1 hx hb hl
  rw [Num_is hF] at h1
  simp only [Option.some.injEq, Prod.mk.injEq] at h1
  exact Prod.ext h1.1 (Prod.ext h1.2.1 h1.2.2.1)

theorem same_is {p q : List Int} (hp : p.length ≤ 1000000) : intaglioref07_Same_M p q = some (decide (p = q)) := by
  unfold intaglioref07_Same_M
  by_cases hl : p.length = q.length
  · rw [if_neg (by simp [hl])]
    have key : ∃ r, loop (fun (s : Int) => intaglioref07_Same_L1 p q s) 0 = some r ∧ ((r = .inl () ∧ p = q) ∨ (r = .inr false ∧ p ≠ q)) := by
      refine loop_meas (fun s => ∃ i : Nat, i ≤ p.length ∧ s = (i : Int) ∧ p.take i = q.take i) (fun s => p.length - s.toNat) _ ⟨0, by omega, rfl, by simp⟩ (by simp; omega) ?_
      rintro _ ⟨i, hi, rfl, h⟩
      unfold intaglioref07_Same_L1
      by_cases hi' : i < p.length
      · rw [if_pos (by simp; omega)]
        have hq : i < q.length := by omega
        simp only [ix_nat hi', ix_nat hq, Option.bind_some]
        by_cases he : p[i] = q[i]
        · refine .inl ⟨((i + 1 : Nat) : Int), ?_, ⟨i + 1, by omega, rfl, ?_⟩, by omega⟩
          · rw [if_neg (by simp [he]), i64_id (by omega) (by omega)]; rfl
          · rw [List.take_succ_eq_append_getElem hi', List.take_succ_eq_append_getElem hq, h, he]
        · exact .inr ⟨.inr false, by rw [if_pos (by simp [he])], .inr ⟨rfl, fun hpq => he (by subst hpq; rfl)⟩⟩
      · have : i = p.length := by omega
        subst this
        refine .inr ⟨.inl (), by rw [if_neg (by simp)], .inl ⟨rfl, ?_⟩⟩
        rw [List.take_length, hl, List.take_length] at h
        exact h
    obtain ⟨r, hr, hq⟩ := key
    rw [hr]
    rcases hq with ⟨rfl, h⟩ | ⟨rfl, h⟩
    · simp [intaglioref07_Same_J1, h]
    · simp [h]
  · rw [if_pos (by simp; omega)]
    have : p ≠ q := fun h => hl (by rw [h])
    simp [this]

theorem End_is {l : List Int} {e : Int} : pack_Reader_End_M l e true = some (if e = 0 then (if l.length > 0 then 3 else 0) else e) := by
  unfold pack_Reader_End_M pack_Reader_Err_M pack_Reader_Left_M
  simp only [Bool.not_true, Bool.false_eq_true, if_false, Option.bind_some]
  by_cases he : e = 0
  · subst he
    simp only [beq_self_eq_true, if_true]
    by_cases hl : l.length > 0
    · rw [if_pos (by simpa using hl), if_pos hl]
    · rw [if_neg (by simpa using hl), if_neg hl]
  · rw [if_neg (by simpa using he), if_neg he]

theorem intagliolaw07_KeysParse_pure (p0 : List Int) (w0 : ∀ n ∈ p0, (Lit.int .u8 n).wf = true) (l0 : p0.length ≤ maxLen) : intagliolaw07_KeysParse_M p0 = some true := by
  have hb : By p0 := fun n hn => wf_u8 (w0 n hn)
  unfold intagliolaw07_KeysParse_M
  by_cases hl : (p0.length : Int) > 200
  · rw [if_pos (by simpa using hl), awake_is']; rfl
  rw [if_neg (by simpa using hl)]
  have F0 : Fine p0 0 := ⟨hb, by omega, fun h => absurd rfl h⟩
  have F1 := F0.numM MX
  generalize h1 : numM p0 0 MX = s1 at F1
  have F2 := F1.numM MX
  generalize h2 : numM s1.2.1 s1.2.2 MX = s2 at F2
  have F3 := F2.numM MX
  generalize h3 : numM s2.2.1 s2.2.2 MX = s3 at F3
  have F4 := F3.numM MX
  generalize h4 : numM s3.2.1 s3.2.2 MX = s4 at F4
  have F5 := F4.numM MX
  generalize h5 : numM s4.2.1 s4.2.2 MX = s5 at F5
  have F6 := F5.numM MX
  generalize h6 : numM s5.2.1 s5.2.2 MX = s6 at F6
  have n1 := Num_is F0 MX; rw [h1] at n1
  have n2 := Num_is F1 MX; rw [h2] at n2
  have n3 := Num_is F2 MX; rw [h3] at n3
  have n4 := Num_is F3 MX; rw [h4] at n4
  have n5 := Num_is F4 MX; rw [h5] at n5
  have n6 := Num_is F5 MX; rw [h6] at n6
  have m1 := refNum_is F0 MX; rw [h1] at m1
  have m2 := refNum_is F1 MX; rw [h2] at m2
  have m3 := refNum_is F2 MX; rw [h3] at m3
  have m4 := refNum_is F3 MX; rw [h4] at m4
  have m5 := refNum_is F4 MX; rw [h5] at m5
  have m6 := refNum_is F5 MX; rw [h6] at m6
  -- the package
  have eK : keys_Parse_M p0 = some (if (s6.2.2 = 0 ∧ s6.2.1 = []) ∧ Good s1.1 s2.1 s3.1 s4.1 s5.1 s6.1 then (s1.1, s2.1, s3.1, s4.1, s5.1, s6.1, true) else (0, 0, 0, 0, 0, 0, false)) := by
    unfold keys_Parse_M pack_Read_M
    rw [room_one (by simp; omega)]
    simp only [Option.bind_some, List.nil_append]
    rw [loop_few (r := (s6.2.1, s6.2.2, true, s1.1, s2.1, s3.1, s4.1, s5.1, s6.1)) 7 (by decide) ?_]
    · simp only [Option.bind_some]
      unfold keys_Parse_J1
      rw [End_is, valid_is]
      simp only [Option.bind_some]
      by_cases he : s6.2.2 = 0
      · by_cases hn : s6.2.1 = []
        · rw [if_neg (by simp [he, hn])]
          by_cases hg : Good s1.1 s2.1 s3.1 s4.1 s5.1 s6.1
          · rw [if_neg (by simp [hg]), if_pos ⟨⟨he, hn⟩, hg⟩]
          · rw [if_pos (by simp [hg]), if_neg (fun h => hg h.2)]
        · have : s6.2.1.length > 0 := List.length_pos_iff.2 hn
          rw [if_pos (by simp [he, this]), if_neg (fun h => hn h.1.2)]
      · rw [if_pos (by simp [he]), if_neg (fun h => he h.1.1)]
    · simp (disch := first | omega | (simp; done)) [iter, keys_Parse_L1, n1, n2, n3, n4, n5, n6, ix_ok, IntKind.wrap_i64]
  have eR : intaglioref07_Parse_M p0 = some (if Good s1.1 s2.1 s3.1 s4.1 s5.1 s6.1 ∧ idBytes s1.1 s2.1 s3.1 s4.1 s5.1 s6.1 = p0 then (s1.1, s2.1, s3.1, s4.1, s5.1, s6.1, true) else (0, 0, 0, 0, 0, 0, false)) := by
    unfold intaglioref07_Parse_M
    rw [both (by simp; omega)]
    simp only [Option.bind_some, List.nil_append, m1, m2, m3, m4, m5, m6, refValid_is]
    by_cases hg : Good s1.1 s2.1 s3.1 s4.1 s5.1 s6.1
    · rw [if_neg (by simp [hg]), refBytes_is, if_pos hg]
      simp only [Option.bind_some]
      rw [same_is (by simp [idBytes, be8])]
      simp only [Option.bind_some]
      by_cases hp : idBytes s1.1 s2.1 s3.1 s4.1 s5.1 s6.1 = p0
      · rw [if_neg (by simp [hp]), if_pos ⟨hg, hp⟩]
      · rw [if_pos (by simp [hp]), if_neg (fun h => hp h.2)]
    · rw [if_pos (by simp [hg]), if_neg (fun h => hg h.1)]
  have iff : Good s1.1 s2.1 s3.1 s4.1 s5.1 s6.1 → ((s6.2.2 = 0 ∧ s6.2.1 = []) ↔ idBytes s1.1 s2.1 s3.1 s4.1 s5.1 s6.1 = p0) := by
    intro hg
    constructor
    · rintro ⟨q6, qn⟩
      obtain ⟨q5, r6⟩ := numM_ok F5 (by rw [h6]; exact q6)
      obtain ⟨q4, r5⟩ := numM_ok F4 (by rw [h5]; exact q5)
      obtain ⟨q3, r4⟩ := numM_ok F3 (by rw [h4]; exact q4)
      obtain ⟨q2, r3⟩ := numM_ok F2 (by rw [h3]; exact q3)
      obtain ⟨q1, r2⟩ := numM_ok F1 (by rw [h2]; exact q2)
      obtain ⟨_, r1⟩ := numM_ok F0 (by rw [h1]; exact q1)
      rw [h6, qn, List.append_nil] at r6
      rw [h5] at r5; rw [h4] at r4; rw [h3] at r3; rw [h2] at r2; rw [h1] at r1
      unfold idBytes
      rw [r1, r2, r3, r4, r5, r6]
      simp only [List.append_assoc]
    · intro hp
      obtain ⟨g1, g2, g3, g4, g5, g6, g7, g8⟩ := hg
      have ga : inR s1.1 := ⟨by omega, by omega⟩
      have ge : inR s5.1 := ⟨by omega, by omega⟩
      have b6 : By (be8 s6.1) := By.be8 _
      have b5 : By (be8 s5.1 ++ be8 s6.1) := (By.be8 _).app b6
      have b4 : By (be8 s4.1 ++ (be8 s5.1 ++ be8 s6.1)) := (By.be8 _).app b5
      have b3 : By (be8 s3.1 ++ (be8 s4.1 ++ (be8 s5.1 ++ be8 s6.1))) := (By.be8 _).app b4
      have b2 : By (be8 s2.1 ++ (be8 s3.1 ++ (be8 s4.1 ++ (be8 s5.1 ++ be8 s6.1)))) := (By.be8 _).app b3
      have e : p0 = be8 s1.1 ++ (be8 s2.1 ++ (be8 s3.1 ++ (be8 s4.1 ++ (be8 s5.1 ++ be8 s6.1)))) := by rw [← hp]; unfold idBytes; simp only [List.append_assoc]
      have t1 := numM_be8 ga b2 (by simp [be8])
      rw [← e, h1] at t1
      have u1 : s1.2.1 = _ := congrArg (fun z => z.2.1) t1
      have v1 : s1.2.2 = _ := congrArg (fun z => z.2.2) t1
      rw [u1, v1] at h2
      have t2 := numM_be8 g3 b3 (by simp [be8])
      rw [h2] at t2
      have u2 : s2.2.1 = _ := congrArg (fun z => z.2.1) t2
      have v2 : s2.2.2 = _ := congrArg (fun z => z.2.2) t2
      rw [u2, v2] at h3
      have t3 := numM_be8 g4 b4 (by simp [be8])
      rw [h3] at t3
      have u3 : s3.2.1 = _ := congrArg (fun z => z.2.1) t3
      have v3 : s3.2.2 = _ := congrArg (fun z => z.2.2) t3
      rw [u3, v3] at h4
      have t4 := numM_be8 g5 b5 (by simp [be8])
      rw [h4] at t4
      have u4 : s4.2.1 = _ := congrArg (fun z => z.2.1) t4
      have v4 : s4.2.2 = _ := congrArg (fun z => z.2.2) t4
      rw [u4, v4] at h5
      have t5 := numM_be8 ge b6 (by simp [be8])
      rw [h5] at t5
      have u5 : s5.2.1 = _ := congrArg (fun z => z.2.1) t5
      have v5 : s5.2.2 = _ := congrArg (fun z => z.2.2) t5
      rw [u5, v5] at h6
      have t6 := numM_be8 (t := []) g6 By.nil (by simp)
      rw [List.append_nil, h6] at t6
      exact ⟨congrArg (fun z => z.2.2) t6, congrArg (fun z => z.2.1) t6⟩
  have same : (if (s6.2.2 = 0 ∧ s6.2.1 = []) ∧ Good s1.1 s2.1 s3.1 s4.1 s5.1 s6.1 then (s1.1, s2.1, s3.1, s4.1, s5.1, s6.1, true) else (0, 0, 0, 0, 0, 0, false)) =
      (if Good s1.1 s2.1 s3.1 s4.1 s5.1 s6.1 ∧ idBytes s1.1 s2.1 s3.1 s4.1 s5.1 s6.1 = p0 then (s1.1, s2.1, s3.1, s4.1, s5.1, s6.1, true) else (0, 0, 0, 0, 0, 0, false)) := by
    by_cases hg : Good s1.1 s2.1 s3.1 s4.1 s5.1 s6.1
    · by_cases hk : s6.2.2 = 0 ∧ s6.2.1 = []
      · rw [if_pos ⟨hk, hg⟩, if_pos ⟨hg, (iff hg).1 hk⟩]
      · rw [if_neg (fun h => hk h.1), if_neg (fun h => hk ((iff hg).2 h.2))]
    · rw [if_neg (fun h => hg h.2), if_neg (fun h => hg h.1)]
  rw [eK, eR, same]
  simp only [Option.bind_some, beq_self_eq_true, Bool.and_self, if_true, awake_is']
end Go.Proofs.Ytcpddgjmopdlbaa
