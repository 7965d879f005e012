/- Lines of numbers, words and commands, as the package reads them. -/
import Derived.Test.YtlkcgjablhpfcaaDoorRpA
namespace Go.Proofs.YtlkcgjablhpfcaaDoor
open Go Go.Lift Go.Lib
set_option maxRecDepth 100000
set_option maxHeartbeats 4000000
set_option linter.unusedVariables false

theorem cut_is {l : List UInt8} (hl : l.length ≤ 1000) : strings_CutSuffix_M l [13, 10] = some (if 2 ≤ l.length ∧ l.drop (l.length - 2) = [13, 10] then (l.take (l.length - 2), true) else (l, false)) := by
  have hs : stringslite_HasSuffix_M l [13, 10] = some (decide (2 ≤ l.length ∧ l.drop (l.length - 2) = [13, 10])) := by
    unfold stringslite_HasSuffix_M
    by_cases h : 2 ≤ l.length
    · have e : IntKind.i64.wrap (((l.length : Nat) : Int) - (((([13, 10] : List UInt8)).length : Nat) : Int)) = ((l.length - 2 : Nat) : Int) := by
        show IntKind.i64.wrap (((l.length : Nat) : Int) - 2) = _
        rw [i64_id (by omega) (by omega)]; omega
      rw [if_pos (decide_eq_true (show ((l.length : Nat) : Int) ≥ ((([13, 10] : List UInt8).length : Nat) : Int) by show ((l.length : Nat) : Int) ≥ 2; omega)), e, sub_ok (by omega) (by omega) (by omega), Option.bind_some, Int.toNat_natCast, Int.toNat_natCast, List.take_length]
      refine congrArg some ?_
      by_cases h2 : l.drop (l.length - 2) = [13, 10]
      · rw [h2, decide_eq_true ⟨h, rfl⟩]; rfl
      · rw [decide_eq_false (fun h3 => h2 h3.2)]; simpa using h2
    · rw [if_neg (show ¬ decide (((l.length : Nat) : Int) ≥ ((([13, 10] : List UInt8).length : Nat) : Int)) = true by simp; omega), decide_eq_false (fun h3 => h h3.1)]
  unfold strings_CutSuffix_M stringslite_CutSuffix_P stringslite_CutSuffix_M stringslite_HasSuffix_P
  simp only
  rw [hs, Option.bind_some]
  by_cases h : 2 ≤ l.length ∧ l.drop (l.length - 2) = [13, 10]
  · have e : IntKind.i64.wrap (((l.length : Nat) : Int) - (((([13, 10] : List UInt8)).length : Nat) : Int)) = ((l.length - 2 : Nat) : Int) := by
      show IntKind.i64.wrap (((l.length : Nat) : Int) - 2) = _
      rw [i64_id (by omega) (by omega)]; omega
    rw [decide_eq_true h, if_neg (by simp), e, sub_ok (by decide) (by omega) (by omega), Option.bind_some, Option.bind_some, if_pos h]
    rfl
  · rw [decide_eq_false h, if_pos (by simp), Option.bind_some, if_neg h]

/-- What stands from a to b. -/
def win (a b : Nat) (r : List Int) : List UInt8 := b8 ((r.take b).drop a)
theorem win_len {a b : Nat} {r : List Int} (hb : b ≤ r.length) : (win a b r).length = b - a := by unfold win; simp [b8]; omega
theorem win_drop (a b k : Nat) (r : List Int) : win (a + k) b r = (win a b r).drop k := by
  unfold win b8
  rw [← List.map_drop, List.drop_drop]
theorem win_take {a b m : Nat} {r : List Int} (h : a + m ≤ b) : b8 ((r.take (a + m)).drop a) = (win a b r).take m := by
  unfold win b8
  rw [← List.map_take, List.take_drop, List.take_take, Nat.min_eq_left h]

theorem vline {g : UInt8} {most : Int} {l : List UInt8} (hl : l.length ≤ 16) {α : Type} (K : Int × Int → Option α) (K0 : Int → Option α) (hK : ∀ v, v = nI ((l.take (l.length - 2)).drop 1) → ¬ v.2 = false → ¬ v.1 < 0 → ¬ v.1 > most → K0 v.1 = K (v.1, 0)) :
    (Option.bind (strings_CutSuffix_P (l, [(13 : UInt8), (10 : UInt8)])) fun (v3 : ((List UInt8) × Bool)) =>
      if (!v3.snd) = true then K (0, 3) else if (v3.fst == []) = true then K (0, 3) else
      Option.bind (ix v3.fst (0 : Int)) fun (v4 : UInt8) => if ((((UInt8.toNat v4) : Nat) : Int) != ((g.toNat : Nat) : Int)) = true then K (0, 3) else
      if decide ((((List.length v3.fst) : Nat) : Int) > (10 : Int)) = true then K (0, 3) else
      Option.bind (sub v3.fst (1 : Int) (((List.length v3.fst) : Nat) : Int)) fun (v5 : (List UInt8)) =>
      Option.bind (verb_Int_P v5) fun (v6 : (Int × Bool)) =>
      if (!v6.snd) = true then K (0, 3) else if decide (v6.fst < (0 : Int)) = true then K (0, 3) else if decide (v6.fst > most) = true then K (0, 5) else K0 v6.fst) = K (cline g most l) := by
  show (Option.bind (strings_CutSuffix_M l [13, 10]) _) = _
  rw [cut_is (by omega), Option.bind_some]
  by_cases h2 : ¬ (2 ≤ l.length ∧ l.drop (l.length - 2) = [13, 10])
  · rw [if_neg h2]
    rw [if_pos (show (!(l, false).2) = true from rfl)]
    have : l.length < 4 ∨ 12 < l.length ∨ l.take 1 ≠ [g] ∨ l.drop (l.length - 2) ≠ [13, 10] := by
      by_cases h4 : l.length < 4
      · exact .inl h4
      · exact .inr (.inr (.inr fun e => h2 ⟨by omega, e⟩))
    unfold cline; rw [if_pos this]
  replace h2 := Classical.not_not.1 h2
  rw [if_pos h2]
  obtain ⟨hl2, he⟩ := h2
  rw [if_neg (show ¬ (!(l.take (l.length - 2), true).2) = true by simp)]
  show (if (l.take (l.length - 2) == []) = true then _ else _) = _
  by_cases h3 : l.length = 2
  · rw [if_pos (by rw [h3]; rfl)]
    unfold cline; rw [if_pos (.inl (by omega))]
  obtain ⟨c, m, hcm⟩ : ∃ c m, l.take (l.length - 2) = c :: m := by
    cases hm : l.take (l.length - 2) with
    | nil => have := congrArg List.length hm; simp at this; omega
    | cons c m => exact ⟨c, m, rfl⟩
  have hcl : l.length = m.length + 3 := by have := congrArg List.length hcm; simp at this; omega
  have ht1 : l.take 1 = [c] := by
    have : (l.take (l.length - 2)).take 1 = [c] := by rw [hcm]; rfl
    rwa [List.take_take, Nat.min_eq_left (by omega)] at this
  have hd1 : (l.take (l.length - 2)).drop 1 = m := by rw [hcm]; rfl
  rw [if_neg (by rw [hcm]; simp)]
  simp only [hcm]
  rw [show ix (c :: m) 0 = some c from rfl, Option.bind_some]
  by_cases hg : c ≠ g
  · have : (((c.toNat : Nat) : Int) != ((g.toNat : Nat) : Int)) = true := by
      simp only [bne_iff_ne, ne_eq]
      intro e
      exact hg (UInt8.toNat_inj.1 (by omega))
    rw [if_pos this]
    unfold cline; rw [if_pos (.inr (.inr (.inl (by rw [ht1]; simpa using hg))))]
  replace hg := Classical.not_not.1 hg
  subst hg
  rw [if_neg (by simp)]
  by_cases h12 : 12 < l.length
  · rw [if_pos (decide_eq_true (by simp; omega))]
    unfold cline; rw [if_pos (.inr (.inl h12))]
  rw [if_neg (by simp; omega), sub_ok (by decide) (by simp; omega) (Int.le_refl _), Option.bind_some, Int.toNat_natCast, List.take_length, show (1 : Int).toNat = 1 from rfl, show (c :: m).drop 1 = m from rfl]
  show Option.bind (verb_Int_M m) _ = _
  have hK := hK _ rfl
  rw [hd1] at hK
  rw [(nI_both (by omega)).1, Option.bind_some]
  by_cases h4 : l.length < 4
  · have hm : m = [] := List.eq_nil_of_length_eq_zero (by omega)
    rw [hm, nI_nil, if_pos (show (!((0 : Int), false).2) = true from rfl)]
    unfold cline; rw [if_pos (.inl h4)]
  unfold cline
  rw [if_neg (show ¬ (l.length < 4 ∨ 12 < l.length ∨ l.take 1 ≠ [c] ∨ l.drop (l.length - 2) ≠ [13, 10]) by
    rintro (h | h | h | h)
    · exact h4 h
    · exact h12 h
    · exact h ht1
    · exact h he), hd1]
  generalize nI m = v at hK ⊢
  by_cases h1 : v.2 = false
  · rw [if_pos (show (!v.2) = true by simp [h1]), if_pos (show v.2 = false ∨ v.1 < 0 from .inl h1)]
  rw [if_neg (show ¬ (!v.2) = true by simp at h1; simp [h1])]
  by_cases h2 : v.1 < 0
  · rw [if_pos (show decide (v.1 < 0) = true from decide_eq_true h2), if_pos (show v.2 = false ∨ v.1 < 0 from .inr h2)]
  rw [if_neg (show ¬ decide (v.1 < 0) = true by simpa using h2), if_neg (show ¬ (v.2 = false ∨ v.1 < 0) from fun h => h.elim h1 h2)]
  by_cases h3 : v.1 > most
  · rw [if_pos (show decide (v.1 > most) = true from decide_eq_true h3), if_pos h3]
  rw [if_neg (show ¬ decide (v.1 > most) = true by simpa using h3), if_neg h3, hK h1 h2 h3]

/-- What the package tells of the line with which a part of a row begins. -/
theorem vcount_is {g : UInt8} {most : Int} {a b : Nat} {r : List Int} (hab : a ≤ b) (hb : b ≤ r.length) (hl : r.length ≤ 4000000) :
    resp_count_M (a : Int) (b : Int) ((g.toNat : Nat) : Int) most r = some (if (cnt g most (win a b r)).2.2 = 0 then .inr ((cnt g most (win a b r)).1, ((a + (cnt g most (win a b r)).2.1 : Nat) : Int), (b : Int), 0, r) else .inl (0, (cnt g most (win a b r)).2.2, r)) := by
  have hw := win_len (a := a) hb
  unfold resp_count_M
  have e1 : (if (16 : Int) < ((b - a : Nat) : Int) then (16 : Int) else ((b - a : Nat) : Int)) = ((min 16 (b - a) : Nat) : Int) := by split <;> omega
  simp only [Int.toNat_natCast, Nat.add_zero, e1]
  rw [subn_ok (by decide) (by omega) (by omega), Option.bind_some]
  show Option.bind (some (indexByte (b8 ((r.take (a + min 16 (b - a))).drop a)) 10)) _ = _
  rw [Option.bind_some, win_take (b := b) (by omega), show min 16 (b - a) = min 16 (win a b r).length by rw [hw], take_min]
  rcases ib_cases (win a b r) with ⟨e, _⟩ | ⟨i, e, h16, hi, _, _⟩
  · unfold cnt
    rw [e, if_pos (show decide ((-1 : Int) < 0) = true from rfl), if_pos (show (-1 : Int) < 0 by decide)]
    by_cases h : 16 ≤ (win a b r).length
    · rw [if_pos (decide_eq_true (by omega)), if_pos h, if_neg (show ¬ ((0, 0, 3) : Int × Nat × Int).2.2 = 0 by decide)]
    · rw [if_neg (by simp; omega), if_neg h, if_neg (show ¬ ((0, 0, 4) : Int × Nat × Int).2.2 = 0 by decide)]
  · unfold cnt
    rw [e, if_neg (show ¬ decide ((i : Int) < 0) = true by simp), if_neg (show ¬ (i : Int) < 0 by omega), i64_succ (by omega), subn_ok (by decide) (by omega) (by omega), Option.bind_some, Int.toNat_natCast, Int.toNat_natCast, win_take (b := b) (by omega)]
    have hlen : ((win a b r).take (i + 1)).length ≤ 16 := by simp; omega
    have key := vline (g := g) (most := most) (l := (win a b r).take (i + 1)) hlen (α := (Int × Int × List Int) ⊕ (Int × Int × Int × Int × List Int)) (fun c => some (if c.2 = 0 then .inr (c.1, ((a + (i + 1) : Nat) : Int), (b : Int), 0, r) else .inl (0, c.2, r)))
      (fun v => Option.bind (subn (b - a) ((i + 1 : Nat) : Int) ((b - a : Nat) : Int)) fun _ => some (.inr (v, ((a + (i + 1) : Nat) : Int), ((a + (b - a) : Nat) : Int), 0, r))) (fun v _ _ _ _ => by
        rw [subn_ok (by omega) (by omega) (by omega), Option.bind_some, show a + (b - a) = b by omega]; rfl)
    refine Eq.trans key ?_
    by_cases hc : (cline g most ((win a b r).take (i + 1))).2 = 0
    · rw [if_pos hc, if_pos hc, if_pos rfl]
    · rw [if_neg hc, if_neg hc, if_neg hc]

/-! ### Words -/

/-- The word with which bytes begin, and how many bytes it takes. -/
noncomputable def wd (s : List UInt8) : Int ⊕ (List UInt8 × Nat) :=
  if (cnt 36 512 s).2.2 ≠ 0 then .inl (cnt 36 512 s).2.2
  else if s.length < (cnt 36 512 s).2.1 + (cnt 36 512 s).1.toNat + 2 then .inl 4
  else if ((s.drop ((cnt 36 512 s).2.1 + (cnt 36 512 s).1.toNat)).take 2) ≠ [13, 10] then .inl 3
  else .inr ((s.drop (cnt 36 512 s).2.1).take (cnt 36 512 s).1.toNat, (cnt 36 512 s).2.1 + (cnt 36 512 s).1.toNat + 2)

theorem vword_is {a b : Nat} {r : List Int} (hab : a ≤ b) (hb : b ≤ r.length) (hl : r.length ≤ 4000000) :
    resp_word_M (a : Int) (b : Int) r = some (match wd (win a b r) with
      | .inl e => .inl ([], e, r)
      | .inr (w, k) => .inr (w, ((a + k : Nat) : Int), (b : Int), 0, r)) := by
  have hw := win_len (a := a) hb
  unfold resp_word_M
  simp only [Int.toNat_natCast]
  show Option.bind (resp_count_M (a : Int) (b : Int) (((36 : UInt8).toNat : Nat) : Int) 512 r) _ = _
  rw [vcount_is hab hb hl, Option.bind_some]
  unfold wd
  by_cases h0 : (cnt 36 512 (win a b r)).2.2 = 0
  · obtain ⟨h1, h2, h3, h4⟩ := cnt_ok h0
    rw [if_pos h0, if_neg (show ¬ (cnt 36 512 (win a b r)).2.2 ≠ 0 by simpa using h0), Sum.elim_inr]
    generalize (cnt 36 512 (win a b r)).1 = v at *
    generalize (cnt 36 512 (win a b r)).2.1 = k at *
    obtain ⟨n, rfl⟩ := Int.eq_ofNat_of_zero_le h3
    have e2 : IntKind.i64.wrap ((n : Int) + 2) = ((n + 2 : Nat) : Int) := by rw [i64_id (by omega) (by omega)]; omega
    simp only [Int.toNat_natCast, e2]
    rw [if_neg (by decide)]
    by_cases h5 : (win a b r).length < k + n + 2
    · rw [if_pos (decide_eq_true (by omega)), if_pos h5]
    rw [if_neg (by simp; omega), if_neg h5, subn_ok (by omega) (by omega) (by omega), Option.bind_some]
    have e3 : b8 ((r.take (a + k + (n + 2))).drop (a + k + n)) = ((win a b r).drop (k + n)).take 2 := by
      rw [← win_drop, show a + k + (n + 2) = (a + (k + n)) + 2 by omega, show a + k + n = a + (k + n) by omega, win_take (b := b) (by omega)]
    rw [e3]
    by_cases h6 : ((win a b r).drop (k + n)).take 2 ≠ [13, 10]
    · rw [if_pos (by simpa using h6), if_pos h6]
    rw [if_neg (by simpa using h6), if_neg h6, subn_ok (by omega) (by omega) (by omega), Option.bind_some, subn_ok (by omega) (by omega) (by omega), Option.bind_some, Nat.add_zero, win_take (b := b) (by omega), win_drop,
      show a + k + (n + 2) = a + (k + n + 2) by omega, show a + k + (b - (a + k)) = b by omega]
  · have hne : ((cnt 36 512 (win a b r)).2.2 != 0) = true := by simpa using h0
    rw [if_neg h0, if_pos (show (cnt 36 512 (win a b r)).2.2 ≠ 0 from h0), Sum.elim_inl, if_pos hne]

theorem wd_errs (s : List UInt8) : (∃ e, wd s = .inl e ∧ (e = 3 ∨ e = 4 ∨ e = 5)) ∨ ∃ w k, wd s = .inr (w, k) ∧ 6 ≤ k ∧ k ≤ s.length ∧ w.length ≤ 512 := by
  unfold wd
  by_cases h0 : (cnt 36 512 s).2.2 = 0
  · obtain ⟨h1, h2, h3, h4⟩ := cnt_ok h0
    rw [if_neg (show ¬ (cnt 36 512 s).2.2 ≠ 0 by simpa using h0)]
    split
    · exact .inl ⟨_, rfl, .inr (.inl rfl)⟩
    · split
      · exact .inl ⟨_, rfl, .inl rfl⟩
      · exact .inr ⟨_, _, rfl, by omega, by omega, by simp; omega⟩
  · rw [if_pos (show (cnt 36 512 s).2.2 ≠ 0 from h0)]
    rcases cnt_errs 36 512 s with h | h | h | h
    · exact absurd h h0
    · exact .inl ⟨_, rfl, .inl h⟩
    · exact .inl ⟨_, rfl, .inr (.inl h)⟩
    · exact .inl ⟨_, rfl, .inr (.inr h)⟩
theorem wd_app {s : List UInt8} (h : wd s ≠ .inl 4) (t : List UInt8) : wd (s ++ t) = wd s := by
  unfold wd at h ⊢
  by_cases h0 : (cnt 36 512 s).2.2 = 0
  · obtain ⟨h1, h2, h3, h4⟩ := cnt_ok h0
    rw [cnt_app (by rw [h0]; decide) t]
    have hn : ¬ (cnt 36 512 s).2.2 ≠ 0 := by simpa using h0
    rw [if_neg hn] at h
    rw [if_neg hn, if_neg hn]
    split at h
    · exact absurd rfl h
    · rename_i hl
      rw [if_neg hl, if_neg (show ¬ (s ++ t).length < (cnt 36 512 s).2.1 + (cnt 36 512 s).1.toNat + 2 by simp; omega)]
      have e1 : ((s ++ t).drop ((cnt 36 512 s).2.1 + (cnt 36 512 s).1.toNat)).take 2 = (s.drop ((cnt 36 512 s).2.1 + (cnt 36 512 s).1.toNat)).take 2 := by
        rw [List.drop_append_of_le_length (by omega), List.take_append_of_le_length (by simp; omega)]
      have e2 : ((s ++ t).drop (cnt 36 512 s).2.1).take (cnt 36 512 s).1.toNat = (s.drop (cnt 36 512 s).2.1).take (cnt 36 512 s).1.toNat := by
        rw [List.drop_append_of_le_length (by omega), List.take_append_of_le_length (by simp; omega)]
      rw [e1, e2]
  · rw [if_pos (show (cnt 36 512 s).2.2 ≠ 0 from h0)] at h
    have h4 : (cnt 36 512 s).2.2 ≠ 4 := fun e => h (by rw [e])
    rw [cnt_app h4 t, if_pos (show (cnt 36 512 s).2.2 ≠ 0 from h0), if_pos (show (cnt 36 512 s).2.2 ≠ 0 from h0)]

/-! ### Commands -/

noncomputable def wds : Nat → List UInt8 → Int ⊕ (List (List UInt8) × Nat)
  | 0, _ => .inr ([], 0)
  | n + 1, s => match wd s with
    | .inl e => .inl e
    | .inr (w, k) => match wds n (s.drop k) with
      | .inl e => .inl e
      | .inr (ws, j) => .inr (w :: ws, k + j)
/-- The command with which bytes begin, and how many bytes it takes; or the fault. -/
noncomputable def cmd (s : List UInt8) : Int ⊕ (List (List UInt8) × Nat) :=
  if (cnt 42 40 s).2.2 ≠ 0 then .inl (cnt 42 40 s).2.2
  else match wds (cnt 42 40 s).1.toNat (s.drop (cnt 42 40 s).2.1) with
    | .inl e => .inl e
    | .inr (ws, j) => .inr (ws, (cnt 42 40 s).2.1 + j)

theorem wds_errs : ∀ (n : Nat) (s : List UInt8), (∃ e, wds n s = .inl e ∧ (e = 3 ∨ e = 4 ∨ e = 5)) ∨ ∃ ws k, wds n s = .inr (ws, k) ∧ k ≤ s.length ∧ ws.length = n ∧ ∀ w ∈ ws, w.length ≤ 512
  | 0, s => .inr ⟨[], 0, rfl, Nat.zero_le _, rfl, by simp⟩
  | n + 1, s => by
    unfold wds
    rcases wd_errs s with ⟨e, h, he⟩ | ⟨w, k, h, h6, hk, hw⟩
    · rw [h]; exact .inl ⟨e, rfl, he⟩
    · rw [h]
      simp only
      rcases wds_errs n (s.drop k) with ⟨e, h, he⟩ | ⟨ws, j, h, hj, hl, hw'⟩
      · rw [h]; exact .inl ⟨e, rfl, he⟩
      · rw [h]
        simp at hj
        exact .inr ⟨_, _, rfl, by omega, by simp [hl], fun x hx => by rcases List.mem_cons.1 hx with rfl | hx; exact hw; exact hw' x hx⟩
theorem wds_app : ∀ (n : Nat) {s : List UInt8} (h : wds n s ≠ .inl 4) (t : List UInt8), wds n (s ++ t) = wds n s
  | 0, s, _, t => rfl
  | n + 1, s, h, t => by
    unfold wds at h ⊢
    have h1 : wd s ≠ .inl 4 := fun e => h (by rw [e])
    rw [wd_app h1]
    rcases wd_errs s with ⟨e, hw, he⟩ | ⟨w, k, hw, h6, hk, _⟩
    · rw [hw]
    · rw [hw] at h ⊢
      simp only at h ⊢
      have h2 : wds n (s.drop k) ≠ .inl 4 := fun e => h (by rw [e])
      rw [List.drop_append_of_le_length hk, wds_app n h2]
theorem cmd_errs (s : List UInt8) : (∃ e, cmd s = .inl e ∧ (e = 3 ∨ e = 4 ∨ e = 5)) ∨ ∃ ws k, cmd s = .inr (ws, k) ∧ 4 ≤ k ∧ k ≤ s.length ∧ ws.length ≤ 40 ∧ ∀ w ∈ ws, w.length ≤ 512 := by
  unfold cmd
  by_cases h0 : (cnt 42 40 s).2.2 = 0
  · obtain ⟨h1, h2, h3, h4⟩ := cnt_ok h0
    rw [if_neg (show ¬ (cnt 42 40 s).2.2 ≠ 0 by simpa using h0)]
    rcases wds_errs (cnt 42 40 s).1.toNat (s.drop (cnt 42 40 s).2.1) with ⟨e, h, he⟩ | ⟨ws, j, h, hj, hl, hw⟩
    · rw [h]; exact .inl ⟨e, rfl, he⟩
    · rw [h]
      simp at hj
      exact .inr ⟨_, _, rfl, by omega, by omega, by omega, hw⟩
  · rw [if_pos (show (cnt 42 40 s).2.2 ≠ 0 from h0)]
    rcases cnt_errs 42 40 s with h | h | h | h
    · exact absurd h h0
    · exact .inl ⟨_, rfl, .inl h⟩
    · exact .inl ⟨_, rfl, .inr (.inl h)⟩
    · exact .inl ⟨_, rfl, .inr (.inr h)⟩
theorem cmd_app {s : List UInt8} (h : cmd s ≠ .inl 4) (t : List UInt8) : cmd (s ++ t) = cmd s := by
  unfold cmd at h ⊢
  by_cases h0 : (cnt 42 40 s).2.2 = 0
  · obtain ⟨h1, h2, h3, h4⟩ := cnt_ok h0
    rw [cnt_app (by rw [h0]; decide) t]
    have hn : ¬ (cnt 42 40 s).2.2 ≠ 0 := by simpa using h0
    rw [if_neg hn] at h
    rw [if_neg hn, if_neg hn]
    have h5 : wds (cnt 42 40 s).1.toNat (s.drop (cnt 42 40 s).2.1) ≠ .inl 4 := fun e => h (by rw [e])
    rw [List.drop_append_of_le_length h2, wds_app _ h5]
  · rw [if_pos (show (cnt 42 40 s).2.2 ≠ 0 from h0)] at h
    have h4 : (cnt 42 40 s).2.2 ≠ 4 := fun e => h (by rw [e])
    rw [cnt_app h4 t, if_pos (show (cnt 42 40 s).2.2 ≠ 0 from h0), if_pos (show (cnt 42 40 s).2.2 ≠ 0 from h0)]

theorem vloop_is : ∀ (n : Nat) {a b : Nat} {r : List Int} {N i : Nat} {ws : List (List UInt8)}, a ≤ b → b ≤ r.length → r.length ≤ 4000000 → i + n = N → N ≤ 40 → ws.length ≤ i →
    iter resp_command_L1_P (n + 1) ((a : Int), (b : Int), (N : Int), (i : Int), r, ws) = some (match wds n (win a b r) with
      | .inl e => .inr (e, r)
      | .inr (ws', k) => .inl (((a + k : Nat) : Int), (b : Int), r, ws ++ ws'))
  | 0, a, b, r, N, i, ws, hab, hb, hl, hn, hN, hws => by
    simp only [iter, resp_command_L1_P, resp_command_L1]
    rw [if_neg (show ¬ decide ((i : Int) < (N : Int)) = true by simp; omega)]
    simp [wds]
  | n + 1, a, b, r, N, i, ws, hab, hb, hl, hn, hN, hws => by
    have hw := win_len (a := a) hb
    rw [iter]
    have step : resp_command_L1_P ((a : Int), (b : Int), (N : Int), (i : Int), r, ws) = some (match wd (win a b r) with
      | .inl e => .inr (.inr (e, r))
      | .inr (w, k) => .inl (((a + k : Nat) : Int), (b : Int), (N : Int), ((i + 1 : Nat) : Int), r, ws ++ [w])) := by
      simp only [resp_command_L1_P, resp_command_L1, Int.toNat_natCast]
      rw [if_pos (decide_eq_true (by omega))]
      show Option.bind (resp_word_M (a : Int) (b : Int) r) _ = _
      rw [vword_is hab hb hl, Option.bind_some]
      rcases wd_errs (win a b r) with ⟨e, h, he⟩ | ⟨w, k, h, h6, hk, _⟩
      · rw [h]
        simp only [Sum.elim_inl]
        rw [if_pos (show (e != 0) = true by rcases he with rfl | rfl | rfl <;> rfl)]
      · rw [h]
        simp only [Sum.elim_inr]
        rw [if_neg (by decide), room_ok (by simp; omega) (by unfold maxLen; simp; omega), Option.bind_some, Int.toNat_natCast, Int.toNat_natCast, i64_succ (by omega)]
    rw [step]
    unfold wds
    rcases wd_errs (win a b r) with ⟨e, h, he⟩ | ⟨w, k, h, h6, hk, _⟩
    · rw [h]
    · rw [h]
      simp only
      rw [vloop_is n (show a + k ≤ b by omega) hb hl (show i + 1 + n = N by omega) hN (by simp; omega), win_drop]
      cases wds n ((win a b r).drop k) with
      | inl e => rfl
      | inr q => simp [Nat.add_assoc]

theorem vcommand_is {r : List Int} (hl : r.length ≤ 4000000) : resp_command_M 0 ((r.length : Nat) : Int) r = some (match cmd (b8 r) with
      | .inl e => .inl (e, r)
      | .inr (ws, k) => .inr ((k : Int), ((r.length : Nat) : Int), 0, r, ws)) := by
  have hr : b8 r = win 0 r.length r := by unfold win; rw [List.take_length, List.drop_zero]
  rw [hr]
  have hw := win_len (a := 0) (Nat.le_refl r.length)
  unfold resp_command_M
  simp only [Int.toNat_natCast]
  show Option.bind (resp_count_M ((0 : Nat) : Int) ((r.length : Nat) : Int) (((42 : UInt8).toNat : Nat) : Int) 40 r) _ = _
  rw [vcount_is (Nat.zero_le _) (Nat.le_refl _) hl, Option.bind_some]
  unfold cmd
  by_cases h0 : (cnt 42 40 (win 0 r.length r)).2.2 = 0
  · obtain ⟨h1, h2, h3, h4⟩ := cnt_ok h0
    rw [if_pos h0, if_neg (show ¬ (cnt 42 40 (win 0 r.length r)).2.2 ≠ 0 by simpa using h0), Sum.elim_inr]
    generalize (cnt 42 40 (win 0 r.length r)).1 = v at *
    generalize (cnt 42 40 (win 0 r.length r)).2.1 = k at *
    obtain ⟨n, rfl⟩ := Int.eq_ofNat_of_zero_le h3
    simp only [Int.toNat_natCast]
    rw [if_neg (by decide), Nat.zero_add]
    have hlp := vloop_is n (a := k) (b := r.length) (r := r) (N := n) (i := 0) (ws := []) (by omega) (Nat.le_refl _) hl (by omega) (by omega) (Nat.le_refl _)
    rw [show ((0 : Nat) : Int) = 0 from rfl] at hlp
    rw [loop_few _ (by omega) hlp, Option.bind_some, show win k r.length r = (win 0 r.length r).drop k by rw [← win_drop, Nat.zero_add]]
    cases wds n ((win 0 r.length r).drop k) with
    | inl e => rfl
    | inr q => simp; omega
  · have hne : ((cnt 42 40 (win 0 r.length r)).2.2 != 0) = true := by simpa using h0
    rw [if_neg h0, if_pos (show (cnt 42 40 (win 0 r.length r)).2.2 ≠ 0 from h0), Sum.elim_inl, if_pos hne]

end Go.Proofs.YtlkcgjablhpfcaaDoor
