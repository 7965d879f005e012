/- The laws ValueChecks and ValueSame of chapter 15: what their models answer, whatever comes in. -/
import Derived.Test.YtknghpfoohchhaaVa
import Derived.Test.YtknghpfoohchhaaEd
namespace Go.Proofs.Ytknghpfoohchhaa
open Go Go.Lift
set_option maxRecDepth 100000
set_option maxHeartbeats 4000000
set_option linter.unusedVariables false

abbrev tyVal : Ty := .pair (.int .i64) (.pair .str (.pair (.slc (.pair .str (.pair .str .unit))) (.pair (.slc .str) (.pair (.slc (.pair .str (.pair (.int .i64) .unit))) .unit))))
abbrev tyEntry : Ty := .pair .str (.pair tyVal (.pair (.int .i64) .unit))

theorem intagliolaw15_ValueChecks_pure (key : List UInt8) (k : Int) (t : List UInt8) (ps : List PairT) (ls : List (List UInt8)) (ss : List ScoreT) (a : Int) (o : Ty.okS tyEntry (key, (k, t, ps, ls, ss, ()), a, ())) :
    intagliolaw15_ValueChecks_M key k t ps ls ss a = some true := by
  obtain ⟨_, ⟨_, _, hp, hl, hs, _⟩, _, _⟩ := o
  unfold intagliolaw15_ValueChecks_M
  simp only [intaglioref15_Light_P, intagliolaw15_awake_P, awake_is, Option.bind_some, intaglioref15_Check_P, value_Check_P, value_Entry_P, intaglioref15_Entry_P, value_Size_P, intaglioref15_Size_P]
  rcases light_is (k := k) (t := t) hp.1 hl.1 hs.1 with hL | ⟨hL, hf⟩
  · rw [hL, Option.bind_some, if_pos (by decide)]
  · rw [hL, Option.bind_some, if_neg (by decide)]
    split
    · rfl
    · rw [check_is hf, rcheck_is hf, entry_is hf, rentry_is hf]
      simp only [Option.bind_some]
      rw [if_pos (by simp), if_pos (by simp)]
      by_cases h0 : checkZ k t ps ls ss = 0
      · obtain ⟨_, _, _, _, _, h6, _⟩ := checkZ_ok h0
        have h := size_is (k := k) hf h6
        rw [if_neg (by simp [h0]), h.1, h.2, Option.bind_some, Option.bind_some, if_pos (by simp)]
      · rw [if_pos (by simpa using h0)]

/-! ### Are two values the same? -/

theorem strEq_iff (x y : List UInt8) : eqLs.strEq x y = true ↔ x = y := by unfold eqLs.strEq; simp
theorem intEq_iff (x y : Int) : eqLs.intEq x y = true ↔ x = y := by unfold eqLs.intEq; simp
theorem pairEq_iff (x y : PairT) : ((fun r => eqLs.strEq x.1 y.1 && r) ((fun r => eqLs.strEq x.2.1 y.2.1 && r) true)) = true ↔ x = y := by
  obtain ⟨a, b, _⟩ := x
  obtain ⟨c, d, _⟩ := y
  simp [strEq_iff]
theorem scoreEq_iff (x y : ScoreT) : ((fun r => eqLs.strEq x.1 y.1 && r) ((fun r => eqLs.intEq x.2.1 y.2.1 && r) true)) = true ↔ x = y := by
  obtain ⟨a, b, _⟩ := x
  obtain ⟨c, d, _⟩ := y
  simp [strEq_iff, intEq_iff]

theorem eq_strs {a b : List (List UInt8)} (ha : a.length ≤ 140737488355328) : slices_Equal_string_string_M a b = some (decide (a = b)) := by
  unfold slices_Equal_string_string_M
  by_cases hl : a.length = b.length
  · rw [if_neg (by simp [hl])]
    have h := eq_loop (body := slices_Equal_string_string_L1_P) a b hl (fun x y => x == y) (fun x y => beq_iff_eq) (fun i => (a, b, (a.length : Int), (i : Int))) (.inr false) (.inl ())
      (fun i h h' => by
        simp only [slices_Equal_string_string_L1_P, slices_Equal_string_string_L1]
        rw [if_pos (decide_eq_true (by omega)), ix_nat h, ix_nat h', Option.bind_some, Option.bind_some, i64_add1 (by omega)]
        split <;> rfl)
      (by
        simp only [slices_Equal_string_string_L1_P, slices_Equal_string_string_L1]
        rw [if_neg (by simp)]) (by omega)
    by_cases e : a = b
    · rw [show loop slices_Equal_string_string_L1_P (a, b, (a.length : Int), (0 : Int)) = _ from h.1 e, decide_eq_true e]; rfl
    · rw [show loop slices_Equal_string_string_L1_P (a, b, (a.length : Int), (0 : Int)) = _ from h.2 e, decide_eq_false e]; rfl
  · rw [if_pos (by simp; omega), decide_eq_false (fun e => hl (by rw [e]))]
theorem eq_pairs {a b : List PairT} (ha : a.length ≤ 140737488355328) : api_Pair_M a b = some (decide (a = b)) := by
  unfold api_Pair_M
  by_cases hl : a.length = b.length
  · rw [if_neg (by simp [hl])]
    have h := eq_loop (body := api_Pair_L1_P) a b hl (fun x y => ((fun r => eqLs.strEq x.1 y.1 && r) ((fun r => eqLs.strEq x.2.1 y.2.1 && r) true))) (fun x y => pairEq_iff x y) (fun i => (a, b, (a.length : Int), (i : Int))) (.inr false) (.inl ())
      (fun i h h' => by
        simp only [api_Pair_L1_P, api_Pair_L1]
        rw [if_pos (decide_eq_true (by omega)), ix_nat h, ix_nat h', Option.bind_some, Option.bind_some, i64_add1 (by omega)]
        split <;> rfl)
      (by
        simp only [api_Pair_L1_P, api_Pair_L1]
        rw [if_neg (by simp)]) (by omega)
    by_cases e : a = b
    · rw [show loop api_Pair_L1_P (a, b, (a.length : Int), (0 : Int)) = _ from h.1 e, decide_eq_true e]; rfl
    · rw [show loop api_Pair_L1_P (a, b, (a.length : Int), (0 : Int)) = _ from h.2 e, decide_eq_false e]; rfl
  · rw [if_pos (by simp; omega), decide_eq_false (fun e => hl (by rw [e]))]
theorem eq_scores {a b : List ScoreT} (ha : a.length ≤ 140737488355328) : api_Score_M a b = some (decide (a = b)) := by
  unfold api_Score_M
  by_cases hl : a.length = b.length
  · rw [if_neg (by simp [hl])]
    have h := eq_loop (body := api_Score_L1_P) a b hl (fun x y => ((fun r => eqLs.strEq x.1 y.1 && r) ((fun r => eqLs.intEq x.2.1 y.2.1 && r) true))) (fun x y => scoreEq_iff x y) (fun i => (a, b, (a.length : Int), (i : Int))) (.inr false) (.inl ())
      (fun i h h' => by
        simp only [api_Score_L1_P, api_Score_L1]
        rw [if_pos (decide_eq_true (by omega)), ix_nat h, ix_nat h', Option.bind_some, Option.bind_some, i64_add1 (by omega)]
        split <;> rfl)
      (by
        simp only [api_Score_L1_P, api_Score_L1]
        rw [if_neg (by simp)]) (by omega)
    by_cases e : a = b
    · rw [show loop api_Score_L1_P (a, b, (a.length : Int), (0 : Int)) = _ from h.1 e, decide_eq_true e]; rfl
    · rw [show loop api_Score_L1_P (a, b, (a.length : Int), (0 : Int)) = _ from h.2 e, decide_eq_false e]; rfl
  · rw [if_pos (by simp; omega), decide_eq_false (fun e => hl (by rw [e]))]
theorem eq_rscores {a b : List ScoreT} (ha : a.length ≤ 140737488355328) : intaglioref14_Same_M a b = some (decide (a = b)) := by
  unfold intaglioref14_Same_M
  by_cases hl : a.length = b.length
  · rw [if_neg (by simp [hl])]
    have h := eq_loop (body := intaglioref14_Same_L1_P) a b hl (fun x y => ((fun r => eqLs.strEq x.1 y.1 && r) ((fun r => eqLs.intEq x.2.1 y.2.1 && r) true))) (fun x y => scoreEq_iff x y) (fun i => (a, b, (i : Int))) (.inr false) (.inl ())
      (fun i h h' => by
        simp only [intaglioref14_Same_L1_P, intaglioref14_Same_L1]
        rw [if_pos (decide_eq_true (by omega)), ix_nat h, ix_nat h', Option.bind_some, Option.bind_some, i64_add1 (by omega)]
        split <;> rfl)
      (by
        simp only [intaglioref14_Same_L1_P, intaglioref14_Same_L1]
        rw [if_neg (by simp)]) (by omega)
    by_cases e : a = b
    · rw [show loop intaglioref14_Same_L1_P (a, b, (0 : Int)) = _ from h.1 e, decide_eq_true e]; rfl
    · rw [show loop intaglioref14_Same_L1_P (a, b, (0 : Int)) = _ from h.2 e, decide_eq_false e]; rfl
  · rw [if_pos (by simp; omega), decide_eq_false (fun e => hl (by rw [e]))]

/-- The same plain data? -/
def sameB (k : Int) (t : List UInt8) (ps : List PairT) (ls : List (List UInt8)) (ss : List ScoreT) (k' : Int) (t' : List UInt8) (ps' : List PairT) (ls' : List (List UInt8)) (ss' : List ScoreT) : Bool :=
  decide (k = k') && decide (t = t') && decide (ps = ps') && decide (ls = ls') && decide (ss = ss')

theorem same_is {k : Int} {t : List UInt8} {ps : List PairT} {ls : List (List UInt8)} {ss : List ScoreT} {k' : Int} {t' : List UInt8} {ps' : List PairT} {ls' : List (List UInt8)} {ss' : List ScoreT}
    (hp : ps.length ≤ 140737488355328) (hl : ls.length ≤ 140737488355328) (hs : ss.length ≤ 140737488355328) : value_Same_M k t ps ls ss k' t' ps' ls' ss' = some (sameB k t ps ls ss k' t' ps' ls' ss') := by
  unfold value_Same_M sameB
  simp only [api_Pair_P, slices_Equal_string_string_P, api_Score_P]
  rw [eq_pairs hp, eq_strs hl, eq_scores hs]
  simp only [Option.bind_some]
  by_cases h1 : k = k'
  · rw [if_pos (by simpa using h1), decide_eq_true h1]
    by_cases h2 : t = t'
    · rw [if_pos (by simpa using h2), decide_eq_true h2]
      cases decide (ps = ps') <;> cases decide (ls = ls') <;> rfl
    · rw [if_neg (by simpa using h2), decide_eq_false h2]; rfl
  · rw [if_neg (by simpa using h1), decide_eq_false h1]; rfl

theorem rsame_is {k : Int} {t : List UInt8} {ps : List PairT} {ls : List (List UInt8)} {ss : List ScoreT} {k' : Int} {t' : List UInt8} {ps' : List PairT} {ls' : List (List UInt8)} {ss' : List ScoreT}
    (hp : ps.length ≤ 140737488355328) (hl : ls.length ≤ 140737488355328) (hs : ss.length ≤ 140737488355328) : intaglioref15_Same_M k t ps ls ss k' t' ps' ls' ss' = some (sameB k t ps ls ss k' t' ps' ls' ss') := by
  unfold intaglioref15_Same_M sameB
  simp only [intaglioref14_Same_P]
  by_cases h1 : k = k'
  rotate_left
  · rw [if_pos (by simpa using h1), decide_eq_false h1]; rfl
  rw [if_neg (by simpa using h1), decide_eq_true h1]
  by_cases h2 : t = t'
  rotate_left
  · rw [if_pos (by simpa using h2), decide_eq_false h2]; rfl
  rw [if_neg (by simpa using h2), decide_eq_true h2]
  by_cases h3 : ps.length = ps'.length
  rotate_left
  · rw [if_pos (by simp; omega), decide_eq_false (fun e : ps = ps' => h3 (by rw [e]))]; rfl
  rw [if_neg (by simp; omega)]
  by_cases h4 : ls.length = ls'.length
  rotate_left
  · rw [if_pos (by simp; omega), decide_eq_false (fun e : ls = ls' => h4 (by rw [e]))]
    simp
  rw [if_neg (by simp; omega), eq_rscores hs, Option.bind_some]
  by_cases h5 : ss = ss'
  rotate_left
  · rw [decide_eq_false h5, if_pos (by decide)]; simp
  rw [decide_eq_true h5, if_neg (by decide)]
  have e1 := eq_loop (body := intaglioref15_Same_L1_P) ps ps' h3 (fun x y => ((fun r => eqLs.strEq x.1 y.1 && r) ((fun r => eqLs.strEq x.2.1 y.2.1 && r) true))) (fun x y => pairEq_iff x y) (fun i => ((i : Int), k, t, ps, ls, ss, k', t', ps', ls', ss')) (.inr (false, k, t, ps, ls, ss, k', t', ps', ls', ss')) (.inl (k, t, ps, ls, ss, k', t', ps', ls', ss'))
    (fun i h h' => by
      simp only [intaglioref15_Same_L1_P, intaglioref15_Same_L1]
      rw [if_pos (decide_eq_true (by omega)), ix_nat h, ix_nat h', Option.bind_some, Option.bind_some, i64_add1 (by omega)]
      split <;> rfl)
    (by
      simp only [intaglioref15_Same_L1_P, intaglioref15_Same_L1]
      rw [if_neg (by simp)]) (by omega)
  have e2 := eq_loop (body := intaglioref15_Same_L2_P) ls ls' h4 (fun x y => x == y) (fun x y => beq_iff_eq) (fun i => ((i : Int), k, t, ps, ls, ss, k', t', ps', ls', ss')) (.inr (false, k, t, ps, ls, ss, k', t', ps', ls', ss')) (.inl (k, t, ps, ls, ss, k', t', ps', ls', ss'))
    (fun i h h' => by
      simp only [intaglioref15_Same_L2_P, intaglioref15_Same_L2]
      rw [if_pos (decide_eq_true (by omega)), ix_nat h, ix_nat h', Option.bind_some, Option.bind_some, i64_add1 (by omega)]
      split <;> rfl)
    (by
      simp only [intaglioref15_Same_L2_P, intaglioref15_Same_L2]
      rw [if_neg (by simp)]) (by omega)
  by_cases h6 : ps = ps'
  rotate_left
  · rw [show loop intaglioref15_Same_L1_P ((0 : Int), k, t, ps, ls, ss, k', t', ps', ls', ss') = _ from e1.2 h6, decide_eq_false h6]; rfl
  rw [show loop intaglioref15_Same_L1_P ((0 : Int), k, t, ps, ls, ss, k', t', ps', ls', ss') = _ from e1.1 h6, decide_eq_true h6]
  simp only [Option.bind_some, Sum.elim_inl]
  by_cases h7 : ls = ls'
  rotate_left
  · rw [show loop intaglioref15_Same_L2_P ((0 : Int), k, t, ps, ls, ss, k', t', ps', ls', ss') = _ from e2.2 h7, decide_eq_false h7]; rfl
  rw [show loop intaglioref15_Same_L2_P ((0 : Int), k, t, ps, ls, ss, k', t', ps', ls', ss') = _ from e2.1 h7, decide_eq_true h7]
  rfl

theorem intagliolaw15_ValueSame_pure (k : Int) (t : List UInt8) (ps : List PairT) (ls : List (List UInt8)) (ss : List ScoreT) (k' : Int) (t' : List UInt8) (ps' : List PairT) (ls' : List (List UInt8)) (ss' : List ScoreT)
    (o : Ty.okS tyVal (k, t, ps, ls, ss, ())) (o' : Ty.okS tyVal (k', t', ps', ls', ss', ())) : intagliolaw15_ValueSame_M k t ps ls ss k' t' ps' ls' ss' = some true := by
  obtain ⟨_, _, hp, hl, hs, _⟩ := o
  obtain ⟨_, _, hp', hl', hs', _⟩ := o'
  unfold intagliolaw15_ValueSame_M
  simp only [intaglioref15_Light_P, intagliolaw15_awake_P, awake_is, Option.bind_some, value_Same_P, intaglioref15_Same_P]
  rcases light_is (k := k) (t := t) hp.1 hl.1 hs.1 with hL | ⟨hL, hf⟩
  · rw [hL, Option.bind_some, if_pos (by decide)]
  · rw [hL, Option.bind_some, if_neg (by decide)]
    rcases light_is (k := k') (t := t') hp'.1 hl'.1 hs'.1 with hL' | ⟨hL', hf'⟩
    · rw [hL', Option.bind_some, if_pos (by decide)]
    · rw [hL', Option.bind_some, if_neg (by decide), same_is hp.1 hl.1 hs.1, rsame_is hp.1 hl.1 hs.1]
      simp only [Option.bind_some]
      rw [if_pos (by simp), same_is hp.1 hl.1 hs.1, Option.bind_some, if_pos (by simp [sameB])]
end Go.Proofs.Ytknghpfoohchhaa
