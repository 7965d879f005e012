/- The law ValueNobody of chapter 15: what its model answers, whatever comes in. -/
import Derived.Test.YtknghpfoohchhaaGMAll
import Derived.Test.YtknghpfoohchhaaP1
namespace Go.Proofs.Ytknghpfoohchhaa
open Go Go.Lift
set_option maxRecDepth 100000
set_option maxHeartbeats 4000000
set_option linter.unusedVariables false

theorem nb_awake : intagliolaw15_awake_M = some true := by kernel_rfl

theorem nb_few2 (k : Int) (a b : List UInt8) (n : Int) (l : List (List UInt8)) (hl : l.length ≤ 20) : ∃ r, loop intagliolaw15_few_L2_P ([(k, a, b, n, l, ())], (0 : Int), (0 : Int)) = some r ∧ (r = .inl ([(k, a, b, n, l, ())], 0) ∨ r = .inr false) := by
  refine loop_meas (fun s => ∃ i : Nat, i ≤ l.length ∧ s = ([(k, a, b, n, l, ())], (0 : Int), (i : Int))) (fun s => l.length - s.2.2.toNat) _ ⟨0, Nat.zero_le _, rfl⟩ (by show l.length - 0 < _; omega) ?_
  rintro s ⟨i, hi, rfl⟩
  have h0 : ix [(k, a, b, n, l, ())] 0 = some (k, a, b, n, l, ()) := rfl
  show (∃ s', intagliolaw15_few_L2 [(k, a, b, n, l, ())] 0 (i : Int) = _ ∧ _) ∨ ∃ r, intagliolaw15_few_L2 [(k, a, b, n, l, ())] 0 (i : Int) = _ ∧ _
  unfold intagliolaw15_few_L2
  rw [h0, Option.bind_some]
  by_cases h : i < l.length
  · rw [if_pos (by simpa using h), Option.bind_some]
    show (∃ s', Option.bind (ix l (i : Int)) _ = _ ∧ _) ∨ ∃ r, Option.bind (ix l (i : Int)) _ = _ ∧ _
    rw [ix_nat h, Option.bind_some]
    by_cases h1 : decide (((List.length l[i] : Nat) : Int) > (100 : Int)) = true
    · rw [if_pos h1]; exact .inr ⟨_, rfl, .inr rfl⟩
    · rw [if_neg h1, i64_id (by omega) (by omega)]
      exact .inl ⟨_, rfl, ⟨i + 1, h, rfl⟩, by show l.length - ((i : Int) + 1).toNat < l.length - (i : Int).toNat; omega⟩
  · rw [if_neg (by simpa using h)]
    exact .inr ⟨_, rfl, .inl rfl⟩

theorem nb_few (k : Int) (a b : List UInt8) (n : Int) (l : List (List UInt8)) : ∃ q, intagliolaw15_few_M [(k, a, b, n, l, ())] = some q := by
  unfold intagliolaw15_few_M
  rw [if_neg (by simp)]
  have key : ∃ r, loop intagliolaw15_few_L1_P ([(k, a, b, n, l, ())], (0 : Int)) = some r ∧ True := by
    refine loop_meas (fun s => ∃ i : Nat, i ≤ 1 ∧ s = ([(k, a, b, n, l, ())], (i : Int))) (fun s => 1 - s.2.toNat) _ ⟨0, Nat.zero_le _, rfl⟩ (by show 1 - 0 < _; omega) ?_
    rintro s ⟨i, hi, rfl⟩
    have h0 : ix [(k, a, b, n, l, ())] 0 = some (k, a, b, n, l, ()) := rfl
    show (∃ s', intagliolaw15_few_L1 [(k, a, b, n, l, ())] (i : Int) = _ ∧ _) ∨ ∃ r, intagliolaw15_few_L1 [(k, a, b, n, l, ())] (i : Int) = _ ∧ _
    unfold intagliolaw15_few_L1
    obtain rfl | rfl : i = 0 ∨ i = 1 := by omega
    · rw [if_pos (by simp), show ((0 : Nat) : Int) = 0 from rfl, h0, Option.bind_some, Option.bind_some]
      generalize hq : decide (IntKind.wrap IntKind.i64 (((List.length (k, a, b, n, l, ()).snd.fst : Nat) : Int) + ((List.length (k, a, b, n, l, ()).snd.snd.fst : Nat) : Int)) > (200 : Int)) = q
      cases q with
      | true => rw [if_pos rfl]; exact .inr ⟨_, rfl, trivial⟩
      | false =>
        rw [if_neg (by decide), Option.bind_some]
        by_cases h1 : decide (((List.length l : Nat) : Int) > (20 : Int)) = true
        · rw [if_pos h1]; exact .inr ⟨_, rfl, trivial⟩
        · rw [if_neg h1]
          obtain ⟨r, h2, h3⟩ := nb_few2 k a b n l (by simp at h1; omega)
          rw [h2, Option.bind_some]
          rcases h3 with rfl | rfl
          · exact .inl ⟨_, rfl, ⟨1, Nat.le_refl _, rfl⟩, by show 1 - (IntKind.i64.wrap (0 + 1)).toNat < 1 - 0; rw [i64_id (by omega) (by omega)]; decide⟩
          · exact .inr ⟨_, rfl, trivial⟩
    · rw [if_neg (by simp)]
      exact .inr ⟨_, rfl, trivial⟩
  obtain ⟨r, hr, _⟩ := key
  rw [hr, Option.bind_some]
  cases r with
  | inl u => exact ⟨_, rfl⟩
  | inr q => exact ⟨_, rfl⟩

theorem intagliolaw15_ValueNobody_pure (k : Int) (a b : List UInt8) (n : Int) (l : List (List UInt8)) (o : Ty.okS (.pair (.int .u8) (.pair .str (.pair .str (.pair (.int .i64) (.pair (.slc .str) .unit))))) (k, a, b, n, l, ())) :
    intagliolaw15_ValueNobody_M k a b n l = some true := by
  unfold intagliolaw15_ValueNobody_M
  simp only [intagliolaw15_few_P, intagliolaw15_awake_P, nb_awake, Option.bind_some]
  obtain ⟨q, hq⟩ := nb_few k a b n l
  rw [hq, Option.bind_some]
  cases q with
  | false => rfl
  | true =>
    rw [if_neg (by decide)]
    kernel_rfl
end Go.Proofs.Ytknghpfoohchhaa
