/- Commands as bytes: lines of numbers, words, commands: both readers come to one plain function. -/
import Derived.Test.YtlkcgjablhpfcaaDoorNm
namespace Go.Proofs.YtlkcgjablhpfcaaDoor
open Go Go.Lift Go.Lib
set_option maxRecDepth 100000
set_option maxHeartbeats 4000000
set_option linter.unusedVariables false

/-! ### Numbers -/

noncomputable def nI (s : List UInt8) : Int × Bool := (verb_Int_M s).getD (0, false)
theorem nI_both {s : List UInt8} (hl : s.length ≤ 1000) : verb_Int_M s = some (nI s) ∧ intaglioref17_Int_M s = some (nI s) := by
  have h1 := verbInt_is (s := s) (by omega)
  have h2 := rInt_is hl
  unfold nI
  by_cases h : ∃ v, I64 v ∧ s = itoa v
  · obtain ⟨v, hv, e⟩ := h
    rw [h1.1 v hv e, h2.1 v hv e]; exact ⟨rfl, rfl⟩
  · have hno : ∀ v, I64 v → s ≠ itoa v := fun v hv e => h ⟨v, hv, e⟩
    rw [h1.2 hno, h2.2 hno]; exact ⟨rfl, rfl⟩
theorem nI_nil : nI [] = (0, false) := by
  unfold nI
  rw [(verbInt_is (s := []) (by decide)).2 fun v hv e => ?_]
  · rfl
  · rcases itoa_cases hv with ⟨u, _, _, _, e2⟩ | ⟨u, _, _, e2⟩
    · rw [e2] at e; cases e
    · rw [e2] at e; exact dec_ne u e.symm

/-! ### The first byte 10 -/

theorem ib_spec : ∀ l : List UInt8, (indexByte l 10 = -1 ∧ ∀ x ∈ l, x ≠ 10) ∨ ∃ i : Nat, ∃ h : i < l.length, indexByte l 10 = (i : Int) ∧ l[i] = 10 ∧ ∀ x ∈ l.take i, x ≠ 10
  | [] => .inl ⟨rfl, by simp⟩
  | b :: l => by
    unfold indexByte
    by_cases hb : b = 10
    · right
      rw [if_pos (by simpa using hb)]
      exact ⟨0, by simp, rfl, hb, by simp⟩
    · rw [if_neg (by simpa using hb)]
      rcases ib_spec l with ⟨h1, h2⟩ | ⟨i, hi, h1, h2, h3⟩
      · left
        rw [if_pos (by simp [h1])]
        exact ⟨rfl, fun x hx => by rcases List.mem_cons.1 hx with rfl | hx; exact hb; exact h2 x hx⟩
      · right
        rw [if_neg (by simp [h1]), h1]
        refine ⟨i + 1, by simp [hi], rfl, by simpa using h2, fun x hx => ?_⟩
        rw [List.take_succ_cons] at hx
        rcases List.mem_cons.1 hx with rfl | hx
        · exact hb
        · exact h3 x hx

theorem rfind_is {l : List UInt8} (hl : l.length ≤ 1000) : intaglioref19_find_M l = some (indexByte l 10) := by
  unfold intaglioref19_find_M
  have hbody : ∀ j (h : j < l.length), intaglioref19_find_L1_P (l, (j : Int)) = some (if l[j] = 10 then .inr (.inr (j : Int)) else .inl (l, ((j + 1 : Nat) : Int))) := by
    intro j hj
    simp only [intaglioref19_find_L1_P, intaglioref19_find_L1]
    rw [if_pos (decide_eq_true (by omega)), ix_nat hj, Option.bind_some, i64_succ (by omega)]
    by_cases h : l[j] = 10
    · rw [if_pos h, if_pos (by rw [h]; rfl)]
    · rw [if_neg h, if_neg ?_]
      intro e
      apply h
      apply UInt8.toNat_inj.1
      have : (((UInt8.toNat l[j]) : Nat) : Int) = 10 := by simpa using e
      have h10 : (10 : UInt8).toNat = 10 := rfl
      omega
  have hend : intaglioref19_find_L1_P (l, (l.length : Int)) = some (.inr (.inl ())) := by
    simp only [intaglioref19_find_L1_P, intaglioref19_find_L1]
    rw [if_neg (by simp)]
  rcases ib_spec l with ⟨h1, h2⟩ | ⟨i, hi, h1, h2, h3⟩
  · have h0 : loop intaglioref19_find_L1_P (l, 0) = some (.inl ()) := loop_is (fun (x : List UInt8 × Int) => ∃ j : Nat, j ≤ l.length ∧ x = (l, (j : Int))) (fun x => l.length - x.2.toNat) ⟨0, Nat.zero_le _, rfl⟩ (by simp only [Int.toNat_zero]; omega) ?_
    · rw [h0, h1]; rfl
    · rintro x ⟨j, hj, rfl⟩
      by_cases hlt : j < l.length
      · left
        rw [hbody j hlt, if_neg (h2 _ (List.getElem_mem hlt))]
        exact ⟨_, rfl, ⟨j + 1, hlt, rfl⟩, by simp only [Int.toNat_natCast]; omega⟩
      · right
        obtain rfl : j = l.length := by omega
        exact hend
  · have h0 : loop intaglioref19_find_L1_P (l, 0) = some (.inr (i : Int)) := loop_is (fun (x : List UInt8 × Int) => ∃ j : Nat, j ≤ i ∧ x = (l, (j : Int))) (fun x => l.length - x.2.toNat) ⟨0, Nat.zero_le _, rfl⟩ (by simp only [Int.toNat_zero]; omega) ?_
    · rw [h0, h1]; rfl
    · rintro x ⟨j, hj, rfl⟩
      by_cases hlt : j < i
      · left
        have hm : l[j] ∈ l.take i := List.mem_take_iff_getElem.2 ⟨j, by omega, rfl⟩
        rw [hbody j (by omega), if_neg (h3 _ hm)]
        exact ⟨_, rfl, ⟨j + 1, hlt, rfl⟩, by simp only [Int.toNat_natCast]; omega⟩
      · right
        obtain rfl : j = i := by omega
        rw [hbody j hi, if_pos h2]

/-! ### A line of a sign and a number -/

/-- A whole line: its number, and the fault. -/
noncomputable def cline (g : UInt8) (most : Int) (line : List UInt8) : Int × Int :=
  if line.length < 4 ∨ 12 < line.length ∨ line.take 1 ≠ [g] ∨ line.drop (line.length - 2) ≠ [13, 10] then (0, 3)
  else if (nI ((line.take (line.length - 2)).drop 1)).2 = false ∨ (nI ((line.take (line.length - 2)).drop 1)).1 < 0 then (0, 3)
  else if (nI ((line.take (line.length - 2)).drop 1)).1 > most then (0, 5) else ((nI ((line.take (line.length - 2)).drop 1)).1, 0)

/-- The line with which bytes begin: its number, how many bytes it has, and the fault. -/
noncomputable def cnt (g : UInt8) (most : Int) (s : List UInt8) : Int × Nat × Int :=
  if indexByte (s.take 16) 10 < 0 then (if 16 ≤ s.length then (0, 0, 3) else (0, 0, 4))
  else if (cline g most (s.take ((indexByte (s.take 16) 10).toNat + 1))).2 = 0 then ((cline g most (s.take ((indexByte (s.take 16) 10).toNat + 1))).1, (indexByte (s.take 16) 10).toNat + 1, 0)
  else (0, 0, (cline g most (s.take ((indexByte (s.take 16) 10).toNat + 1))).2)

theorem cline_errs (g : UInt8) (most : Int) (l : List UInt8) : (cline g most l).2 = 0 ∨ (cline g most l).2 = 3 ∨ (cline g most l).2 = 5 := by
  unfold cline
  split
  · exact .inr (.inl rfl)
  · split
    · exact .inr (.inl rfl)
    · split
      · exact .inr (.inr rfl)
      · exact .inl rfl
theorem cline_ok {g : UInt8} {most : Int} {l : List UInt8} (h : (cline g most l).2 = 0) : 4 ≤ l.length ∧ 0 ≤ (cline g most l).1 ∧ (cline g most l).1 ≤ most := by
  unfold cline at h ⊢
  split at h
  · cases h
  · rename_i h1
    split at h
    · cases h
    · rename_i h2
      split at h
      · cases h
      · rename_i h3
        rw [if_neg h1, if_neg h2, if_neg h3]
        exact ⟨by omega, by simp only; omega, by simp only; omega⟩

/-- The place of a line's end. -/
theorem ib_cases (s : List UInt8) : (indexByte (s.take 16) 10 = -1 ∧ ∀ x ∈ s.take 16, x ≠ 10) ∨ ∃ i : Nat, indexByte (s.take 16) 10 = (i : Int) ∧ i < 16 ∧ i < s.length ∧ s[i]? = some 10 ∧ ∀ x ∈ s.take i, x ≠ 10 := by
  rcases ib_spec (s.take 16) with h | ⟨i, hi, h1, h2, h3⟩
  · exact .inl h
  · right
    have h16 : i < 16 := by simp at hi; omega
    have hs : i < s.length := by simp at hi; omega
    refine ⟨i, h1, h16, hs, ?_, ?_⟩
    · rw [List.getElem?_eq_getElem hs, ← h2, List.getElem_take]
    · rw [List.take_take, Nat.min_eq_left (by omega)] at h3; exact h3

theorem cnt_errs (g : UInt8) (most : Int) (s : List UInt8) : (cnt g most s).2.2 = 0 ∨ (cnt g most s).2.2 = 3 ∨ (cnt g most s).2.2 = 4 ∨ (cnt g most s).2.2 = 5 := by
  unfold cnt
  split
  · split
    · exact .inr (.inl rfl)
    · exact .inr (.inr (.inl rfl))
  · split
    · exact .inl rfl
    · rename_i h
      rcases cline_errs g most (s.take ((indexByte (s.take 16) 10).toNat + 1)) with h' | h' | h'
      · exact absurd h' h
      · exact .inr (.inl h')
      · exact .inr (.inr (.inr h'))
theorem cnt_ok {g : UInt8} {most : Int} {s : List UInt8} (h : (cnt g most s).2.2 = 0) : 4 ≤ (cnt g most s).2.1 ∧ (cnt g most s).2.1 ≤ s.length ∧ 0 ≤ (cnt g most s).1 ∧ (cnt g most s).1 ≤ most := by
  unfold cnt at h ⊢
  split at h
  · split at h <;> cases h
  · rename_i h1
    rw [if_neg h1]
    split at h
    · rename_i h2
      rw [if_pos h2]
      obtain ⟨h3, h4, h5⟩ := cline_ok h2
      rcases ib_cases s with ⟨e, _⟩ | ⟨i, e, _, hi, _⟩
      · omega
      · rw [e] at h3 h4 h5 ⊢
        simp at h3
        refine ⟨?_, ?_, h4, h5⟩
        · simp only [Int.toNat_natCast]; omega
        · simp only [Int.toNat_natCast]; omega
    · rename_i h2
      rw [if_neg h2] at *
      exact absurd h h2
/-- What stands behind makes no difference to a line that is whole. -/
theorem cnt_app {g : UInt8} {most : Int} {s : List UInt8} (h : (cnt g most s).2.2 ≠ 4) (t : List UInt8) : cnt g most (s ++ t) = cnt g most s := by
  have key : ∀ i : Nat, i < s.length → i < 16 → s[i]? = some 10 → (∀ x ∈ s.take i, x ≠ 10) → indexByte ((s ++ t).take 16) 10 = (i : Int) := by
    intro i hi h16 h10 hn
    rcases ib_cases (s ++ t) with ⟨e, h'⟩ | ⟨j, e, hj, hjl, hj10, hjn⟩
    · exfalso
      refine h' 10 ?_ rfl
      refine List.mem_take_iff_getElem.2 ⟨i, by simp; omega, ?_⟩
      have : (s ++ t)[i]? = some 10 := by rw [List.getElem?_append_left hi]; exact h10
      rw [List.getElem?_eq_getElem (by simp; omega)] at this
      injection this
    · rw [e]
      rcases Nat.lt_trichotomy i j with hij | rfl | hij
      · exfalso
        refine hjn 10 ?_ rfl
        refine List.mem_take_iff_getElem.2 ⟨i, by simp; omega, ?_⟩
        have : (s ++ t)[i]? = some 10 := by rw [List.getElem?_append_left hi]; exact h10
        rw [List.getElem?_eq_getElem (by simp; omega)] at this
        injection this
      · rfl
      · exfalso
        refine hn 10 ?_ rfl
        refine List.mem_take_iff_getElem.2 ⟨j, by omega, ?_⟩
        rw [List.getElem?_append_left (by omega), List.getElem?_eq_getElem (by omega)] at hj10
        injection hj10
  unfold cnt at h ⊢
  rcases ib_cases s with ⟨e, hn⟩ | ⟨i, e, h16, hi, h10, hn⟩
  · rw [e] at h
    rw [if_pos (by decide)] at h
    split at h
    · rename_i hl
      have e2 : indexByte ((s ++ t).take 16) 10 = -1 := by rw [List.take_append_of_le_length hl]; exact e
      rw [e, e2, if_pos (show (-1 : Int) < 0 by decide), if_pos (show (-1 : Int) < 0 by decide), if_pos (show 16 ≤ (s ++ t).length by simp; omega), if_pos hl]
    · exact absurd rfl h
  · rw [e, key i hi h16 h10 hn, if_neg (show ¬ (i : Int) < 0 by omega), if_neg (show ¬ (i : Int) < 0 by omega), Int.toNat_natCast, List.take_append_of_le_length (show i + 1 ≤ s.length by omega)]


theorem min_len (s : List UInt8) : (if (16 : Int) < ((s.length : Nat) : Int) then (16 : Int) else ((s.length : Nat) : Int)) = ((min 16 s.length : Nat) : Int) := by
  split <;> omega
theorem take_min (s : List UInt8) : s.take (min 16 s.length) = s.take 16 := by
  by_cases h : 16 ≤ s.length
  · rw [Nat.min_eq_left h]
  · rw [Nat.min_eq_right (by omega), List.take_length, List.take_of_length_le (by omega)]

/-- What is told of a line by the document. -/
theorem rline {g : UInt8} {most : Int} {l : List UInt8} (hl : l.length ≤ 16) {α : Type} (K : Int × Int → Option α) (K0 : Int → Option α) (hK : ∀ v, v = nI ((l.take (l.length - 2)).drop 1) → ¬ v.2 = false → ¬ v.1 < 0 → ¬ v.1 > most → K0 v.1 = K (v.1, 0)) :
    (if decide ((((List.length l) : Nat) : Int) < (4 : Int)) = true then K (0, 3) else if decide ((((List.length l) : Nat) : Int) > (12 : Int)) = true then K (0, 3) else
      Option.bind (sub l (0 : Int) (1 : Int)) fun (v9 : (List UInt8)) => if (!v9 == [g]) = true then K (0, 3) else
      Option.bind (sub l (IntKind.wrap IntKind.i64 ((((List.length l) : Nat) : Int) - (2 : Int))) (((List.length l) : Nat) : Int)) fun (v10 : (List UInt8)) =>
      if (!v10 == [(13 : UInt8), (10 : UInt8)]) = true then K (0, 3) else
      Option.bind (sub l (1 : Int) (IntKind.wrap IntKind.i64 ((((List.length l) : Nat) : Int) - (2 : Int)))) fun (v11 : (List UInt8)) =>
      Option.bind (intaglioref17_Int_P v11) fun (v12 : (Int × Bool)) =>
      if (!v12.snd) = true then K (0, 3) else if decide (v12.fst < (0 : Int)) = true then K (0, 3) else if decide (v12.fst > most) = true then K (0, 5) else K0 v12.fst) = K (cline g most l) := by
  by_cases h4 : l.length < 4
  · rw [if_pos (decide_eq_true (by omega))]
    unfold cline; rw [if_pos (.inl h4)]
  rw [if_neg (by simp; omega)]
  by_cases h12 : 12 < l.length
  · rw [if_pos (decide_eq_true (by omega))]
    unfold cline; rw [if_pos (.inr (.inl h12))]
  rw [if_neg (by simp; omega), sub_ok (by decide) (by decide) (by omega), Option.bind_some, show ((l.take (1 : Int).toNat).drop (0 : Int).toNat) = l.take 1 from rfl]
  by_cases hg : l.take 1 ≠ [g]
  · rw [if_pos (by simpa using hg)]
    unfold cline; rw [if_pos (.inr (.inr (.inl hg)))]
  replace hg := Classical.not_not.1 hg
  have e2 : IntKind.i64.wrap (((l.length : Nat) : Int) - 2) = ((l.length - 2 : Nat) : Int) := by rw [i64_id (by omega) (by omega)]; omega
  rw [if_neg (by simp [hg]), e2, sub_ok (by omega) (by omega) (by omega), Option.bind_some, Int.toNat_natCast, Int.toNat_natCast, List.take_length]
  by_cases he : l.drop (l.length - 2) ≠ [13, 10]
  · rw [if_pos (by simpa using he)]
    unfold cline; rw [if_pos (.inr (.inr (.inr he)))]
  replace he := Classical.not_not.1 he
  rw [if_neg (by simp [he]), sub_ok (by decide) (by omega) (by omega), Option.bind_some, Int.toNat_natCast, show (1 : Int).toNat = 1 from rfl]
  show Option.bind (intaglioref17_Int_M _) _ = _
  rw [(nI_both (by simp; omega)).2, Option.bind_some]
  have hc : ¬ (l.length < 4 ∨ 12 < l.length ∨ l.take 1 ≠ [g] ∨ l.drop (l.length - 2) ≠ [13, 10]) := by
    rintro (h | h | h | h)
    · exact h4 h
    · exact h12 h
    · exact h hg
    · exact h he
  unfold cline
  rw [if_neg hc]
  have hK := hK _ rfl
  generalize nI ((l.take (l.length - 2)).drop 1) = v at hK ⊢
  by_cases h1 : v.2 = false
  · rw [if_pos (show (!v.2) = true by simp [h1]), if_pos (show v.2 = false ∨ v.1 < 0 from .inl h1)]
  rw [if_neg (show ¬ (!v.2) = true by simp at h1; simp [h1])]
  by_cases h2 : v.1 < 0
  · rw [if_pos (show decide (v.1 < 0) = true from decide_eq_true h2), if_pos (show v.2 = false ∨ v.1 < 0 from .inr h2)]
  rw [if_neg (show ¬ decide (v.1 < 0) = true by simpa using h2), if_neg (show ¬ (v.2 = false ∨ v.1 < 0) from fun h => h.elim h1 h2)]
  by_cases h3 : v.1 > most
  · rw [if_pos (show decide (v.1 > most) = true from decide_eq_true h3), if_pos h3]
  rw [if_neg (show ¬ decide (v.1 > most) = true by simpa using h3), if_neg h3, hK h1 h2 h3]

/-- What the document tells of the line with which bytes begin. -/
theorem rcount_is {g : UInt8} {most : Int} {s : List UInt8} (hl : s.length ≤ 100000) : intaglioref19_count_M s [g] most = some ((cnt g most s).1, if (cnt g most s).2.2 = 0 then s.drop (cnt g most s).2.1 else [], (cnt g most s).2.2) := by
  unfold intaglioref19_count_M
  rw [min_len, sub_ok (by decide) (by omega) (by omega), Option.bind_some, Int.toNat_natCast, show (0 : Int).toNat = 0 from rfl, List.drop_zero, take_min]
  show Option.bind (intaglioref19_find_M _) _ = _
  rw [rfind_is (by simp; omega), Option.bind_some]
  rcases ib_cases s with ⟨e, _⟩ | ⟨i, e, h16, hi, _, _⟩
  · unfold cnt
    rw [e, if_pos (show decide ((-1 : Int) < 0) = true from rfl), if_pos (show (-1 : Int) < 0 by decide)]
    by_cases h : 16 ≤ s.length
    · rw [if_pos (decide_eq_true (by omega)), if_pos h, if_neg (show ¬ ((0, 0, 3) : Int × Nat × Int).2.2 = 0 by decide)]
    · rw [if_neg (by simp; omega), if_neg h, if_pos (show decide ((-1 : Int) < 0) = true from rfl), if_neg (show ¬ ((0, 0, 4) : Int × Nat × Int).2.2 = 0 by decide)]
  · unfold cnt
    rw [e, if_neg (show ¬ decide ((i : Int) < 0) = true by simp), if_neg (show ¬ decide ((i : Int) < 0) = true by simp), if_neg (show ¬ (i : Int) < 0 by omega), i64_succ (by omega), sub_ok (by decide) (by omega) (by omega), Option.bind_some, Int.toNat_natCast, show (0 : Int).toNat = 0 from rfl, List.drop_zero, Int.toNat_natCast]
    have hlen : (s.take (i + 1)).length ≤ 16 := by simp; omega
    have key := rline (g := g) (most := most) (l := s.take (i + 1)) hlen (α := Int × List UInt8 × Int) (fun c => some (if c.2 = 0 then (c.1, s.drop (i + 1), 0) else (0, [], c.2)))
      (fun v => Option.bind (sub s ((i + 1 : Nat) : Int) ((s.length : Nat) : Int)) fun v13 => some (v, v13, 0)) (fun v _ _ _ _ => by
        rw [sub_ok (by omega) (by omega) (by omega), Option.bind_some, Int.toNat_natCast, Int.toNat_natCast, List.take_length]; rfl)
    refine Eq.trans key ?_
    by_cases hc : (cline g most (s.take (i + 1))).2 = 0
    · rw [if_pos hc, if_pos hc, if_pos rfl]
    · rw [if_neg hc, if_neg hc, if_neg hc]

end Go.Proofs.YtlkcgjablhpfcaaDoor
