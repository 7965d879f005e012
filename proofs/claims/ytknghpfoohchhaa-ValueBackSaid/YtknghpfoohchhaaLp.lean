/- Loops that go through something and may end on the way. -/
import Derived.Test.YtknghpfoohchhaaP1
namespace Go.Lift
open Go

/-- Does one of so many places, from one on, have it? -/
def anyR (P : Nat → Bool) : Nat → Nat → Bool
  | _, 0 => false
  | i, k + 1 => P i || anyR P (i + 1) k
theorem anyR_iff (P : Nat → Bool) : ∀ (k i : Nat), anyR P i k = true ↔ ∃ j, i ≤ j ∧ j < i + k ∧ P j = true
  | 0, i => by simp [anyR]; intro j h1 h2; omega
  | k + 1, i => by
    simp only [anyR, Bool.or_eq_true, anyR_iff P k (i + 1)]
    constructor
    · rintro (h | ⟨j, h1, h2, h3⟩)
      · exact ⟨i, Nat.le_refl _, by omega, h⟩
      · exact ⟨j, by omega, by omega, h3⟩
    · rintro ⟨j, h1, h2, h3⟩
      by_cases e : i = j
      · subst e; exact .inl h3
      · exact .inr ⟨j, by omega, by omega, h3⟩
theorem anyR_congr {P Q : Nat → Bool} {k i : Nat} (h : ∀ j, i ≤ j → j < i + k → P j = Q j) : anyR P i k = anyR Q i k := by
  apply Bool.eq_iff_iff.2
  rw [anyR_iff, anyR_iff]
  exact ⟨fun ⟨j, h1, h2, h3⟩ => ⟨j, h1, h2, by rw [← h j h1 h2]; exact h3⟩, fun ⟨j, h1, h2, h3⟩ => ⟨j, h1, h2, by rw [h j h1 h2]; exact h3⟩⟩
theorem anyR_list {α : Type} (p : α → Bool) (l : List α) (d : α) : anyR (fun i => p (l.getD i d)) 0 l.length = l.any p := by
  apply Bool.eq_iff_iff.2
  rw [anyR_iff, List.any_eq_true]
  constructor
  · rintro ⟨j, _, h2, h3⟩
    have hj : j < l.length := by omega
    exact ⟨l[j], List.getElem_mem hj, by simpa [List.getD, hj] using h3⟩
  · rintro ⟨x, hx, hp⟩
    obtain ⟨j, hj, rfl⟩ := List.mem_iff_getElem.1 hx
    exact ⟨j, Nat.zero_le _, by omega, by simpa [List.getD, hj] using hp⟩

theorem loop_scan {S R T : Type} {body : S → Option (S ⊕ R)} (n : Nat) (st : Nat → T → S) (P : Nat → Bool) (g : Nat → T → T) (bad ok : Nat → T → R) (I : Nat → T → Prop)
    (hb : ∀ i t, i < n → I i t → (P i = true → body (st i t) = some (.inr (bad i t))) ∧ (P i = false → body (st i t) = some (.inl (st (i + 1) (g i t))) ∧ I (i + 1) (g i t)))
    (he : ∀ t, I n t → body (st n t) = some (.inr (ok n t))) {i : Nat} {t : T} (hi : i ≤ n) (hn : n < 18446744073709551616) (h0 : I i t) :
    ∃ r, loop body (st i t) = some r ∧ ((anyR P i (n - i) = true ∧ ∃ j u, i ≤ j ∧ j < n ∧ P j = true ∧ (∀ x, i ≤ x → x < j → P x = false) ∧ I j u ∧ r = bad j u) ∨ (anyR P i (n - i) = false ∧ ∃ u, I n u ∧ r = ok n u)) := by
  have key : ∀ k i t, i + k = n → I i t → ∀ N, k < N → ∃ r, iter body N (st i t) = some r ∧ ((anyR P i k = true ∧ ∃ j u, i ≤ j ∧ j < n ∧ P j = true ∧ (∀ x, i ≤ x → x < j → P x = false) ∧ I j u ∧ r = bad j u) ∨ (anyR P i k = false ∧ ∃ u, I n u ∧ r = ok n u)) := by
    intro k
    induction k with
    | zero =>
      intro i t hk h N hN
      obtain rfl : i = n := hk
      cases N with
      | zero => omega
      | succ N => exact ⟨_, by simp only [iter, he t h], .inr ⟨rfl, t, h, rfl⟩⟩
    | succ k ih =>
      intro i t hk h N hN
      cases N with
      | zero => omega
      | succ N =>
        obtain ⟨h1, h2⟩ := hb i t (by omega) h
        cases hP : P i with
        | true => exact ⟨_, by simp only [iter, h1 hP], .inl ⟨by simp [anyR, hP], i, t, Nat.le_refl _, by omega, hP, fun x _ _ => by omega, h, rfl⟩⟩
        | false =>
          obtain ⟨e, h'⟩ := h2 hP
          obtain ⟨r, hr, hc⟩ := ih (i + 1) (g i t) (by omega) h' N (by omega)
          refine ⟨r, by simp only [iter, e, hr], ?_⟩
          rcases hc with ⟨ha, j, u, q1, q2, q3, q4, q5, q6⟩ | ⟨ha, u, q⟩
          · refine .inl ⟨by simp [anyR, hP, ha], j, u, by omega, q2, q3, fun x hx hxj => ?_, q5, q6⟩
            by_cases e : x = i
            · subst e; exact hP
            · exact q4 x (by omega) hxj
          · exact .inr ⟨by simp [anyR, hP, ha], u, q⟩
  exact key (n - i) i t (by omega) h0 _ (by omega)

/-- The same, where both ends are told outright. -/
theorem loop_scan' {S R : Type} {body : S → Option (S ⊕ R)} (n : Nat) (st : Nat → S) (P : Nat → Bool) (bad ok : R) {i : Nat}
    (hb : ∀ j, i ≤ j → j < n → body (st j) = some (if P j = true then .inr bad else .inl (st (j + 1)))) (he : body (st n) = some (.inr ok)) (hi : i ≤ n) (hn : n < 18446744073709551616) :
    loop body (st i) = some (if anyR P i (n - i) = true then bad else ok) := by
  obtain ⟨r, h, hc⟩ := loop_scan (body := body) (T := Unit) n (fun i _ => st i) P (fun _ _ => ()) (fun _ _ => bad) (fun _ _ => ok) (fun j _ => i ≤ j)
    (fun j t hj hl => ⟨fun hp => by rw [hb j hl hj, if_pos hp], fun hp => ⟨by rw [hb j hl hj, if_neg (by simp [hp])], by omega⟩⟩) (fun t _ => he) hi hn (t := ()) (Nat.le_refl _)
  rw [h]
  rcases hc with ⟨ha, _, _, _, _, _, _, _, rfl⟩ | ⟨ha, _, _, rfl⟩
  · rw [ha, if_pos rfl]
  · rw [ha, if_neg (by decide)]

/-- A loop that goes through a list, and keeps something of it. -/
theorem loop_list {S R T α : Type} {body : S → Option (S ⊕ R)} (l : List α) (st : Nat → T → S) (f : T → α → T) (fin : T → R) (I : Nat → T → Prop)
    (hb : ∀ i t (h : i < l.length), I i t → body (st i t) = some (.inl (st (i + 1) (f t l[i]))) ∧ I (i + 1) (f t l[i])) (he : ∀ t, I l.length t → body (st l.length t) = some (.inr (fin t)))
    {t : T} (hn : l.length < 18446744073709551616) (h0 : I 0 t) : loop body (st 0 t) = some (fin (l.foldl f t)) ∧ I l.length (l.foldl f t) := by
  obtain ⟨r, h, hc⟩ := loop_scan (body := body) (T := T) l.length st (fun _ => false) (fun i u => if h : i < l.length then f u l[i] else u) (fun _ u => fin u) (fun _ u => fin u) (fun i u => I i u ∧ u = (l.take i).foldl f t)
    (fun i u hi hu => ⟨fun e => (by cases e), fun _ => by
      obtain ⟨h1, h2⟩ := hb i u hi hu.1
      rw [dif_pos hi]
      refine ⟨h1, h2, ?_⟩
      rw [List.take_succ_eq_append_getElem hi, List.foldl_append, ← hu.2]; rfl⟩)
    (fun u hu => he u hu.1) (i := 0) (t := t) (Nat.zero_le _) hn ⟨h0, rfl⟩
  rcases hc with ⟨ha, j, u, _, _, hp, _⟩ | ⟨_, u, ⟨hu, e⟩, rfl⟩
  · cases hp
  · rw [List.take_length] at e
    subst e
    exact ⟨h, hu⟩

/-- Two lists, element by element. -/
theorem eq_loop {S R α : Type} {body : S → Option (S ⊕ R)} (a b : List α) (hl : a.length = b.length) (q : α → α → Bool) (hq : ∀ x y, q x y = true ↔ x = y) (st : Nat → S) (bad ok : R)
    (hb : ∀ i (h : i < a.length) (h' : i < b.length), body (st i) = some (if (!q a[i] b[i]) = true then .inr bad else .inl (st (i + 1)))) (he : body (st a.length) = some (.inr ok)) (hn : a.length < 18446744073709551616) :
    (a = b → loop body (st 0) = some ok) ∧ (a ≠ b → loop body (st 0) = some bad) := by
  have h := loop_scan' (body := body) a.length st (fun i => if h : i < a.length ∧ i < b.length then !q a[i] b[i] else false) bad ok (i := 0)
    (fun i _ hi => by rw [hb i hi (by omega), dif_pos ⟨hi, by omega⟩]) he (Nat.zero_le _) hn
  refine ⟨fun e => ?_, fun e => ?_⟩
  · rw [h, if_neg]
    rw [anyR_iff]
    rintro ⟨i, _, h2, h3⟩
    have h4 : i < a.length ∧ i < b.length := by omega
    rw [dif_pos h4] at h3
    subst e
    rw [(hq _ _).2 rfl] at h3; cases h3
  · rw [h, if_pos]
    rw [anyR_iff]
    apply Classical.byContradiction
    intro hc
    apply e
    apply List.ext_getElem hl
    intro i h1 h2
    apply Classical.byContradiction
    intro hne
    refine hc ⟨i, Nat.zero_le _, by omega, ?_⟩
    rw [dif_pos ⟨h1, h2⟩]
    cases hqq : q a[i] b[i] with
    | true => exact absurd ((hq _ _).1 hqq) hne
    | false => rfl
end Go.Lift
