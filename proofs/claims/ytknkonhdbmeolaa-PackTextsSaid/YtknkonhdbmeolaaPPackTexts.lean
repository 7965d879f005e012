/- The texts' law, in plain words. -/
import Derived.Test.YtknkonhdbmeolaaMPackTexts
import Derived.Test.YtknkonhdbmeolaaNums
namespace Go.Proofs.Ytknkonhdbmeolaa
open Go Go.Lift
set_option linter.unusedVariables false

theorem joinTo_len : ∀ (l : List (List Int)) (m : Nat), (∀ x ∈ l, x.length ≤ m) → l.flatten.length ≤ l.length * m
  | [], m, _ => by simp
  | x :: l, m, h => by
    have := joinTo_len l m (fun y hy => h y (List.mem_cons_of_mem _ hy))
    have := h x List.mem_cons_self
    simp only [List.flatten_cons, List.length_append, List.length_cons, Nat.succ_mul]; omega

theorem flatten_take (l : List (List Int)) (i : Nat) (h : i < l.length) : (l.take (i + 1)).flatten = (l.take i).flatten ++ l[i] := by
  rw [List.take_succ_eq_append_getElem h, List.flatten_append, List.flatten_singleton]

theorem join_is {l : List (List Int)} (h : l.flatten.length ≤ 1000000000) (hl : l.length ≤ 1000000000) : pack_Join_M l = some l.flatten := by
  unfold pack_Join_M
  rw [loop_is (r := l.flatten) (fun s => ∃ i : Nat, i ≤ l.length ∧ s = ((l.take i).flatten, (i : Int))) (fun s => l.length - s.2.toNat) ⟨0, by omega, by simp⟩ (by simp; omega) ?_]
  · rfl
  · rintro _ ⟨i, hi, rfl⟩
    unfold pack_Join_L1
    by_cases hi' : i < l.length
    · refine .inl ⟨((l.take (i + 1)).flatten, ((i + 1 : Nat) : Int)), ?_, ⟨i + 1, by omega, rfl⟩, by simp; omega⟩
      rw [if_pos (by simp; omega)]
      simp only [ix_nat hi', Option.bind_some]
      have e := flatten_take l i hi'
      have : ((l.take (i + 1)).flatten).length ≤ l.flatten.length := by
        conv => rhs; rw [← List.take_append_drop (i + 1) l, List.flatten_append, List.length_append]
        omega
      rw [e, List.length_append] at this
      rw [room_one (by omega), Option.bind_some, i64_id (by omega) (by omega), e]
      rfl
    · have : i = l.length := by omega
      subst this
      refine .inr ?_
      rw [if_neg (by simp)]; simp

theorem intagliolaw01_PackTexts_pure (p0 p1 : List Int) (p2 : List (List Int)) (w0 : ∀ n ∈ p0, (Lit.int .u8 n).wf = true) (l0 : p0.length ≤ maxLen) (w1 : ∀ n ∈ p1, (Lit.int .u8 n).wf = true) (l1 : p1.length ≤ maxLen)
    (w2 : ∀ xs ∈ p2, (∀ n ∈ xs, (Lit.int .u8 n).wf = true) ∧ xs.length ≤ maxLen) (l2 : p2.length ≤ maxLen) : intagliolaw01_PackTexts_M p0 p1 p2 = some true := by
  unfold intagliolaw01_PackTexts_M
  by_cases h0 : (p0.length : Int) > 5000
  · rw [if_pos (by simpa using h0), awake_is]; rfl
  rw [if_neg (by simpa using h0)]
  by_cases h1 : (p1.length : Int) > 5000
  · rw [if_pos (by simpa using h1), awake_is]; rfl
  rw [if_neg (by simpa using h1)]
  by_cases h2 : (p2.length : Int) > 30
  · rw [if_pos (by simpa using h2), awake_is]; rfl
  rw [if_neg (by simpa using h2)]
  have key : ∃ r, loop (fun (s : ((List Int) × Int)) => intagliolaw01_PackTexts_L1 p2 s.1 s.2) ([], 0) = some r ∧ (r = .inr true ∨ (r = .inl p2.flatten ∧ p2.flatten.length ≤ 6000)) := by
    refine loop_meas (fun s => ∃ i : Nat, i ≤ p2.length ∧ s = ((p2.take i).flatten, (i : Int)) ∧ ∀ x ∈ p2.take i, x.length ≤ 200) (fun s => p2.length - s.2.toNat) _ ⟨0, by omega, by simp, by simp⟩ (by simp; omega) ?_
    rintro _ ⟨i, hi, rfl, hs⟩
    have hlen := joinTo_len (p2.take i) 200 hs
    have : (p2.take i).length ≤ 30 := by simp; omega
    have hlen : (p2.take i).flatten.length ≤ 6000 := by omega
    unfold intagliolaw01_PackTexts_L1
    by_cases hi' : i < p2.length
    · rw [if_pos (by simp; omega)]
      simp only [ix_nat hi', Option.bind_some]
      by_cases hx : p2[i].length > 200
      · refine .inr ⟨.inr true, ?_, .inl rfl⟩
        rw [if_pos (by simp; omega), awake_is]; rfl
      · refine .inl ⟨((p2.take (i + 1)).flatten, ((i + 1 : Nat) : Int)), ?_, ⟨i + 1, by omega, rfl, ?_⟩, by simp; omega⟩
        · rw [if_neg (by simp; omega), room_one (by omega), Option.bind_some, i64_id (by omega) (by omega), flatten_take _ _ hi']; rfl
        · rw [List.take_succ_eq_append_getElem hi']
          intro x hx'
          rcases List.mem_append.1 hx' with h | h
          · exact hs x h
          · simp at h; subst h; omega
    · have : i = p2.length := by omega
      subst this
      refine .inr ⟨.inl p2.flatten, ?_, .inr ⟨rfl, by simpa using hlen⟩⟩
      rw [if_neg (by simp)]; simp
  obtain ⟨r, hr, hq⟩ := key
  rw [hr, Option.bind_some]
  rcases hq with rfl | ⟨rfl, hf⟩
  · rfl
  · simp only
    unfold intagliolaw01_PackTexts_J1
    rw [clone_is (by omega), put (by omega) (by omega)]
    simp only [Option.bind_some]
    rw [rput (by omega) (by omega)]
    simp only [Option.bind_some, equal_self, if_true]
    rw [join_is (by omega) (by omega)]
    simp only [Option.bind_some, equal_self, if_true, awake_is]
end Go.Proofs.Ytknkonhdbmeolaa
