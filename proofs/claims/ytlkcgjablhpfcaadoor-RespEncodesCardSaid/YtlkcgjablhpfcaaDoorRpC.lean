/- Commands one behind the other: the document's reader and the package's come to one plain function. -/
import Derived.Test.YtlkcgjablhpfcaaDoorRpB
namespace Go.Proofs.YtlkcgjablhpfcaaDoor
open Go Go.Lift Go.Lib
set_option maxRecDepth 100000
set_option maxHeartbeats 4000000
set_option linter.unusedVariables false

theorem rstep_is {s : List UInt8} {N i : Nat} {m0 m1 : Int} {ws : List (List UInt8)} (hl : s.length ≤ 100000) (hi : i < N) (hN : N ≤ 40) (hws : ws.length ≤ i) :
    ∃ s' e ws', intaglioref19_command_L1_P (s, (N : Int), 0, (i : Int), m0, m1, ws) = some (.inl (s', (N : Int), e, ((i + 1 : Nat) : Int), m0, m1, ws')) ∧ (match wd s with
      | .inl e' => e = e'
      | .inr (w, k) => s' = s.drop k ∧ e = 0 ∧ ws' = ws ++ [w]) := by
  simp only [intaglioref19_command_L1_P, intaglioref19_command_L1]
  rw [if_pos (decide_eq_true (by omega)), if_pos (by decide)]
  have hc := rcount_is (g := 36) (most := 512) hl
  show ∃ s' e ws', Option.bind (intaglioref19_count_M s [36] 512) _ = _ ∧ _
  rw [hc, Option.bind_some, i64_succ (by omega)]
  unfold wd
  by_cases h0 : (cnt 36 512 s).2.2 = 0
  · obtain ⟨h1, h2, h3, h4⟩ := cnt_ok h0
    rw [if_neg (show ¬ (cnt 36 512 s).2.2 ≠ 0 by simpa using h0)]
    rw [h0]
    generalize (cnt 36 512 s).1 = v at *
    generalize (cnt 36 512 s).2.1 = k at *
    obtain ⟨n, rfl⟩ := Int.eq_ofNat_of_zero_le h3
    have e2 : IntKind.i64.wrap ((n : Int) + 2) = ((n + 2 : Nat) : Int) := by rw [i64_id (by omega) (by omega)]; omega
    simp only [Int.toNat_natCast, e2, if_true, beq_self_eq_true, List.length_drop]
    by_cases h5 : s.length < k + n + 2
    · rw [if_pos (decide_eq_true (by omega)), if_pos h5]
      exact ⟨_, _, _, rfl, rfl⟩
    rw [if_neg (by simp; omega), if_neg h5, sub_ok (by omega) (by omega) (by simp; omega), Option.bind_some, Int.toNat_natCast, Int.toNat_natCast]
    have e3 : ((s.drop k).take (n + 2)).drop n = (s.drop (k + n)).take 2 := by
      rw [List.drop_take, List.drop_drop, show n + 2 - n = 2 by omega]
    rw [e3]
    by_cases h6 : (s.drop (k + n)).take 2 ≠ [13, 10]
    · rw [if_pos (by simpa using h6), if_pos h6]
      exact ⟨_, _, _, rfl, rfl⟩
    rw [if_neg (by simpa using h6), if_neg h6, sub_ok (by omega) (by omega) (by simp; omega), Option.bind_some, room_ok (by simp; omega) (by unfold maxLen; simp; omega), Option.bind_some, sub_ok (by omega) (by omega) (by simp), Option.bind_some]
    refine ⟨_, _, _, rfl, ?_, rfl, ?_⟩
    · rw [Int.toNat_natCast, Int.toNat_natCast, List.take_of_length_le (by simp), List.drop_drop, Nat.add_assoc]
    · simp
  · rw [if_pos (show (cnt 36 512 s).2.2 ≠ 0 from h0)]
    simp only [h0, if_false]
    have hb : ¬ ((cnt 36 512 s).2.2 == 0) = true := by simpa using h0
    simp only [hb]
    exact ⟨_, _, _, rfl, rfl⟩

theorem rloop_is : ∀ (n : Nat) {s : List UInt8} {N i : Nat} {m0 m1 : Int} {ws : List (List UInt8)}, s.length ≤ 100000 → i + n = N → N ≤ 40 → ws.length ≤ i →
    ∃ q, iter intaglioref19_command_L1_P (n + 2) (s, (N : Int), 0, (i : Int), m0, m1, ws) = some q ∧ (match wds n s with
      | .inl e => q.2.1 = e
      | .inr (ws', k) => q = (s.drop k, 0, m0, m1, ws ++ ws'))
  | 0, s, N, i, m0, m1, ws, hl, hn, hN, hws => by
    refine ⟨(s, 0, m0, m1, ws), ?_, by simp [wds]⟩
    rw [iter]
    simp only [intaglioref19_command_L1_P, intaglioref19_command_L1]
    rw [if_neg (show ¬ decide ((i : Int) < (N : Int)) = true by simp; omega)]
  | n + 1, s, N, i, m0, m1, ws, hl, hn, hN, hws => by
    obtain ⟨s', e, ws', h1, h2⟩ := rstep_is (m0 := m0) (m1 := m1) hl (show i < N by omega) hN hws
    rw [iter, h1]
    unfold wds
    rcases wd_errs s with ⟨e', h, he⟩ | ⟨w, k, h, h6, hk, _⟩
    · rw [h] at h2
      simp only at h2
      subst h2
      refine ⟨(s', e, m0, m1, ws'), ?_, by rw [h]⟩
      simp only
      rw [iter]
      have hne : ¬ (e == 0) = true := by rcases he with rfl | rfl | rfl <;> decide
      have : intaglioref19_command_L1_P (s', (N : Int), e, ((i + 1 : Nat) : Int), m0, m1, ws') = some (.inr (s', e, m0, m1, ws')) := by
        simp only [intaglioref19_command_L1_P, intaglioref19_command_L1]
        rw [if_neg hne]
        split <;> rfl
      rw [this]
    · rw [h] at h2
      obtain ⟨rfl, rfl, rfl⟩ := h2
      obtain ⟨q, hq, hr⟩ := rloop_is n (s := s.drop k) (N := N) (i := i + 1) (m0 := m0) (m1 := m1) (ws := ws ++ [w]) (by simp; omega) (by omega) hN (by simp; omega)
      refine ⟨q, hq, ?_⟩
      rw [h]
      simp only
      cases hw : wds n (s.drop k) with
      | inl e => rw [hw] at hr; exact hr
      | inr p =>
        rw [hw] at hr
        simp only at hr ⊢
        rw [hr]
        simp

theorem rcommand_is {s : List UInt8} (hl : s.length ≤ 100000) : intaglioref19_command_M s = some (match cmd s with
      | .inl e => ([], e, 0)
      | .inr (ws, k) => ([ws], 0, ((s.length - k : Nat) : Int))) := by
  unfold intaglioref19_command_M
  show Option.bind (intaglioref19_count_M s [42] 40) _ = _
  rw [rcount_is hl, Option.bind_some]
  unfold cmd
  by_cases h0 : (cnt 42 40 s).2.2 = 0
  · obtain ⟨h1, h2, h3, h4⟩ := cnt_ok h0
    rw [if_neg (show ¬ (cnt 42 40 s).2.2 ≠ 0 by simpa using h0), h0]
    generalize (cnt 42 40 s).1 = v at *
    generalize (cnt 42 40 s).2.1 = k at *
    obtain ⟨n, rfl⟩ := Int.eq_ofNat_of_zero_le h3
    obtain ⟨q, hq, hr⟩ := rloop_is n (s := s.drop k) (N := n) (i := 0) (m0 := 0) (m1 := 0) (ws := []) (by simp; omega) (by omega) (by omega) (Nat.le_refl _)
    rw [show ((0 : Nat) : Int) = 0 from rfl] at hq
    simp only [if_true, Int.toNat_natCast]
    rw [loop_few _ (by omega) hq, Option.bind_some]
    rcases wds_errs n (s.drop k) with ⟨e, h, he⟩ | ⟨ws, j, h, hj, _, _⟩
    · rw [h] at hr ⊢
      simp only at hr ⊢
      rw [hr, if_pos (show (e != 0) = true by rcases he with rfl | rfl | rfl <;> rfl)]
    · rw [h] at hr ⊢
      simp only at hr ⊢
      rw [hr]
      simp
  · rw [if_pos (show (cnt 42 40 s).2.2 ≠ 0 from h0)]
    simp only [if_neg h0]
    have h1 : intaglioref19_command_L1_P ([], (cnt 42 40 s).1, (cnt 42 40 s).2.2, 0, 0, 0, []) = some (.inr ([], (cnt 42 40 s).2.2, 0, 0, [])) := by
      have hne : ¬ ((cnt 42 40 s).2.2 == 0) = true := by simpa using h0
      simp only [intaglioref19_command_L1_P, intaglioref19_command_L1]
      rw [if_neg hne]
      split <;> rfl
    rw [loop_few 1 (by decide) (r := ([], (cnt 42 40 s).2.2, 0, 0, [])) (by rw [iter, h1]), Option.bind_some, if_pos (by simpa using h0)]

/-! ### All of them -/

noncomputable def prs : Nat → List UInt8 → List (List (List UInt8)) × Int × List UInt8
  | 0, s => ([], 0, s)
  | n + 1, s => match cmd s with
    | .inl e => if e = 4 then ([], 0, s) else ([], e, [])
    | .inr (ws, k) => ((if ws = [] then (prs n (s.drop k)).1 else ws :: (prs n (s.drop k)).1), (prs n (s.drop k)).2.1, (prs n (s.drop k)).2.2)
theorem prs_fuel : ∀ (n m : Nat) (s : List UInt8), s.length < n → s.length < m → prs n s = prs m s
  | 0, _, s, h, _ => by omega
  | n + 1, 0, s, _, h => by omega
  | n + 1, m + 1, s, hn, hm => by
    unfold prs
    rcases cmd_errs s with ⟨e, h, _⟩ | ⟨ws, k, h, h4, hk, _, _⟩
    · rw [h]
    · rw [h]
      simp only
      rw [prs_fuel n m (s.drop k) (by simp; omega) (by simp; omega)]
/-- What there is of commands in bytes: the commands, the fault, and what is left. -/
noncomputable def prsF (s : List UInt8) : List (List (List UInt8)) × Int × List UInt8 := prs (s.length + 1) s
theorem prsF_eq (s : List UInt8) : prsF s = match cmd s with
    | .inl e => if e = 4 then ([], 0, s) else ([], e, [])
    | .inr (ws, k) => ((if ws = [] then (prsF (s.drop k)).1 else ws :: (prsF (s.drop k)).1), (prsF (s.drop k)).2.1, (prsF (s.drop k)).2.2) := by
  show prs (s.length + 1) s = _
  unfold prs
  rcases cmd_errs s with ⟨e, h, _⟩ | ⟨ws, k, h, h4, hk, _, _⟩
  · rw [h]
  · rw [h]
    simp only
    rw [prs_fuel s.length ((s.drop k).length + 1) (s.drop k) (by simp; omega) (by omega)]
    rfl

theorem len_ind (P : List UInt8 → Prop) (h : ∀ s, (∀ t : List UInt8, t.length < s.length → P t) → P s) (s : List UInt8) : P s := by
  have : ∀ n (s : List UInt8), s.length < n → P s := by
    intro n
    induction n with
    | zero => intro s h; omega
    | succ n ih => intro s hs; exact h s fun t ht => ih t (by omega)
  exact this _ s (Nat.lt_succ_self _)

theorem prsF_facts (s : List UInt8) : (prsF s).2.2.length ≤ s.length ∧ 4 * (prsF s).1.length ≤ s.length ∧ ((prsF s).2.1 ≠ 0 → (prsF s).2.2 = []) ∧ (∀ c ∈ (prsF s).1, c.length ≤ 40) ∧ ((prsF s).2.1 = 0 ∨ (prsF s).2.1 = 3 ∨ (prsF s).2.1 = 5) := by
  refine len_ind (fun s => (prsF s).2.2.length ≤ s.length ∧ 4 * (prsF s).1.length ≤ s.length ∧ ((prsF s).2.1 ≠ 0 → (prsF s).2.2 = []) ∧ (∀ c ∈ (prsF s).1, c.length ≤ 40) ∧ ((prsF s).2.1 = 0 ∨ (prsF s).2.1 = 3 ∨ (prsF s).2.1 = 5)) ?_ s
  intro s ih
  rw [prsF_eq]
  rcases cmd_errs s with ⟨e, h, he⟩ | ⟨ws, k, h, h4, hk, h40, _⟩
  · rw [h]
    simp only
    rcases he with rfl | rfl | rfl
    · simp
    · simp
    · simp
  · rw [h]
    simp only
    obtain ⟨h1, h2, h3, h5, h6⟩ := ih (s.drop k) (by simp; omega)
    simp at h1 h2
    refine ⟨by omega, ?_, h3, ?_, h6⟩
    · split
      · omega
      · simp; omega
    · split
      · exact h5
      · intro c hc
        rcases List.mem_cons.1 hc with rfl | hc
        · exact h40
        · exact h5 c hc

/-- More comes. -/
theorem prsF_app (s t : List UInt8) : prsF (s ++ t) = if (prsF s).2.1 ≠ 0 then prsF s else ((prsF s).1 ++ (prsF ((prsF s).2.2 ++ t)).1, (prsF ((prsF s).2.2 ++ t)).2.1, (prsF ((prsF s).2.2 ++ t)).2.2) := by
  refine len_ind (fun s => prsF (s ++ t) = if (prsF s).2.1 ≠ 0 then prsF s else ((prsF s).1 ++ (prsF ((prsF s).2.2 ++ t)).1, (prsF ((prsF s).2.2 ++ t)).2.1, (prsF ((prsF s).2.2 ++ t)).2.2)) ?_ s
  intro s ih
  by_cases h4 : cmd s = .inl 4
  · have e : prsF s = ([], 0, s) := by rw [prsF_eq, h4]; rfl
    rw [e]; rfl
  · have happ := cmd_app h4 t
    rcases cmd_errs s with ⟨e, h, he⟩ | ⟨ws, k, h, hk4, hk, h40, _⟩
    · have hne : e ≠ 4 := fun e4 => h4 (by rw [h, e4])
      have e1 : prsF s = ([], e, []) := by rw [prsF_eq, h]; simp [hne]
      have e2 : prsF (s ++ t) = ([], e, []) := by rw [prsF_eq, happ, h]; simp [hne]
      rw [e1, e2, if_pos]
      show e ≠ 0
      rcases he with rfl | rfl | rfl <;> decide
    · have e1 := prsF_eq s
      have e2 := prsF_eq (s ++ t)
      rw [happ, h] at e2
      rw [h] at e1
      simp only at e1 e2
      rw [List.drop_append_of_le_length hk] at e2
      have ih := ih (s.drop k) (by simp; omega)
      rw [e2, e1, ih]
      simp only
      by_cases he : (prsF (s.drop k)).2.1 ≠ 0
      · rw [if_pos he, if_pos he]
      · rw [if_neg he, if_neg he]
        simp only
        split <;> rfl

end Go.Proofs.YtlkcgjablhpfcaaDoor
