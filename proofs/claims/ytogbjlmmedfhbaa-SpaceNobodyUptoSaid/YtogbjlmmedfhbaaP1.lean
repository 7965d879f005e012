/- Loops in plain models: counted loops, two loops side by side; rules for the plain models of the exec. -/
import Derived.Test.YtogbjlmmedfhbaaEa
import Derived.Test.YtogbjlmmedfhbaaEd
namespace Go.Lift
open Go

theorem iter_sim {S R S' R' : Type} {body : S → Option (S ⊕ R)} {body' : S' → Option (S' ⊕ R')} (I : S → S' → Prop) (m : S → Nat) (Q : R → R' → Prop)
    (hb : ∀ s s', I s s' → (∃ t t', body s = some (.inl t) ∧ body' s' = some (.inl t') ∧ I t t' ∧ m t < m s) ∨ (∃ r r', body s = some (.inr r) ∧ body' s' = some (.inr r') ∧ Q r r')) :
    ∀ n s s', I s s' → m s < n → ∃ r r', iter body n s = some r ∧ iter body' n s' = some r' ∧ Q r r' := by
  intro n
  induction n with
  | zero => intro s s' _ h; omega
  | succ n ih =>
    intro s s' hI hm
    rcases hb s s' hI with ⟨t, t', e, e', hI', hlt⟩ | ⟨r, r', e, e', hQ⟩
    · obtain ⟨r, r', hr, hr', hQ⟩ := ih t t' hI' (by omega)
      exact ⟨r, r', by simp only [iter, e, hr], by simp only [iter, e', hr'], hQ⟩
    · exact ⟨r, r', by simp only [iter, e], by simp only [iter, e'], hQ⟩

/-- Two loops side by side. -/
theorem loop_sim {S R S' R' : Type} {body : S → Option (S ⊕ R)} {body' : S' → Option (S' ⊕ R')} (I : S → S' → Prop) (m : S → Nat) (Q : R → R' → Prop) {s : S} {s' : S'}
    (h0 : I s s') (hm : m s < 18446744073709551616)
    (hb : ∀ s s', I s s' → (∃ t t', body s = some (.inl t) ∧ body' s' = some (.inl t') ∧ I t t' ∧ m t < m s) ∨ (∃ r r', body s = some (.inr r) ∧ body' s' = some (.inr r') ∧ Q r r')) :
    ∃ r r', loop body s = some r ∧ loop body' s' = some r' ∧ Q r r' := iter_sim I m Q hb _ s s' h0 hm

/-- So many rounds. -/
def rounds {T : Type} (f : Nat → T → T) : Nat → Nat → T → T
  | _, 0, t => t
  | i, k + 1, t => rounds f (i + 1) k (f i t)

theorem rounds_zero {T : Type} (f : Nat → T → T) (i : Nat) (t : T) : rounds f i 0 t = t := rfl
theorem rounds_succ {T : Type} (f : Nat → T → T) (i k : Nat) (t : T) : rounds f i (k + 1) t = rounds f (i + 1) k (f i t) := rfl
theorem rounds_last {T : Type} (f : Nat → T → T) : ∀ (k i : Nat) (t : T), rounds f i (k + 1) t = f (i + k) (rounds f i k t)
  | 0, i, t => rfl
  | k + 1, i, t => by
    rw [rounds_succ, rounds_last f k (i + 1) (f i t), rounds_succ]
    congr 1; omega
theorem rounds_inv {T : Type} {f : Nat → T → T} (I : Nat → T → Prop) (hs : ∀ i t, I i t → I (i + 1) (f i t)) : ∀ (k i : Nat) (t : T), I i t → I (i + k) (rounds f i k t)
  | 0, i, t, h => h
  | k + 1, i, t, h => by
    rw [show i + (k + 1) = (i + 1) + k by omega]
    exact rounds_inv I hs k (i + 1) (f i t) (hs i t h)
theorem rounds_congr {T : Type} {f g : Nat → T → T} (I : Nat → T → Prop) (hs : ∀ i t, I i t → f i t = g i t ∧ I (i + 1) (f i t)) : ∀ (k i : Nat) (t : T), I i t → rounds f i k t = rounds g i k t
  | 0, i, t, h => rfl
  | k + 1, i, t, h => by
    rw [rounds_succ, rounds_succ, ← (hs i t h).1]
    exact rounds_congr I hs k (i + 1) (f i t) (hs i t h).2

/-- A loop that counts to n. -/
theorem loop_count {S R T : Type} {body : S → Option (S ⊕ R)} (n : Nat) (st : Nat → T → S) (f : Nat → T → T) (fin : T → R) (I : Nat → T → Prop)
    (hb : ∀ i t, i < n → I i t → body (st i t) = some (.inl (st (i + 1) (f i t))) ∧ I (i + 1) (f i t)) (he : ∀ t, I n t → body (st n t) = some (.inr (fin t)))
    {i : Nat} {t : T} (hi : i ≤ n) (hn : n < 18446744073709551616) (h0 : I i t) : loop body (st i t) = some (fin (rounds f i (n - i) t)) ∧ I n (rounds f i (n - i) t) := by
  have key : ∀ k i t, i + k = n → I i t → ∀ N, k < N → iter body N (st i t) = some (fin (rounds f i k t)) ∧ I n (rounds f i k t) := by
    intro k
    induction k with
    | zero =>
      intro i t hk h N hN
      obtain rfl : i = n := hk
      cases N with
      | zero => omega
      | succ N => exact ⟨by simp only [iter, he t h, rounds_zero], h⟩
    | succ k ih =>
      intro i t hk h N hN
      cases N with
      | zero => omega
      | succ N =>
        obtain ⟨e, h'⟩ := hb i t (by omega) h
        have := ih (i + 1) (f i t) (by omega) h' N (by omega)
        exact ⟨by simp only [iter, e, rounds_succ, this.1], this.2⟩
  exact key (n - i) i t (by omega) h0 _ (by omega)

/-- The same, its outcome not spelt out. -/
theorem loop_count' {S R T : Type} {body : S → Option (S ⊕ R)} (n : Nat) (st : Nat → T → S) (f : Nat → T → T) (fin : T → R) (I : Nat → T → Prop)
    (hb : ∀ i t, i < n → I i t → body (st i t) = some (.inl (st (i + 1) (f i t))) ∧ I (i + 1) (f i t)) (he : ∀ t, I n t → body (st n t) = some (.inr (fin t)))
    {i : Nat} {t : T} (hi : i ≤ n) (hn : n < 18446744073709551616) (h0 : I i t) : ∃ q, loop body (st i t) = some (fin q) ∧ I n q :=
  ⟨_, loop_count n st f fin I hb he hi hn h0⟩

theorem inb_ok {m : Nat} {i : Nat} (h : i < m) : inb m (i : Int) = some () := by unfold inb; rw [if_pos (by omega)]
theorem inb_ok' {m : Nat} {i : Int} (h0 : 0 ≤ i) (h : i < m) : inb m i = some () := by unfold inb; rw [if_pos ⟨h0, h⟩]
theorem subn_ok {m : Nat} {lo hi : Int} (h0 : 0 ≤ lo) (h : lo ≤ hi) (h' : hi ≤ m) : subn m lo hi = some () := by unfold subn; rw [if_pos ⟨h0, h, h'⟩]
theorem mk1_ok {n : Int} (h0 : 0 ≤ n) (h : n ≤ 9223372036854775807) : mk1 n = some n.toNat := by unfold mk1; rw [if_pos ⟨h0, h⟩]
theorem mk2_ok {b : Nat} {n : Int} (h0 : 0 ≤ n) (h : (b : Int) * n ≤ 140737488355328) (h' : n ≤ 9223372036854775807) : mk2 b n n = some n.toNat := by unfold mk2; rw [if_pos ⟨h0, Int.le_refl n, h, h'⟩]
theorem i64_succ {i : Nat} (h : i < 4611686018427387904) : IntKind.i64.wrap ((i : Int) + 1) = ((i + 1 : Nat) : Int) := by rw [i64_id (by omega) (by omega)]; omega
theorem grem_nat {k : IntKind} {x y : Int} (hx : 0 ≤ x) (hy : y ≠ 0) : grem k x y = some (x % y) := by
  unfold grem; rw [if_neg hy, Int.tmod_eq_emod_of_nonneg hx]
theorem gquo_nat {k : IntKind} {x y : Int} (hx : 0 ≤ x) (hy : y ≠ 0) : gquo k x y = some (k.wrap (x / y)) := by
  unfold gquo; rw [if_neg hy, Int.tdiv_eq_ediv_of_nonneg hx]

/-! ### Bytes -/

def By (l : List Int) : Prop := ∀ n ∈ l, 0 ≤ n ∧ n ≤ 255
theorem By.take {l : List Int} (h : By l) (n : Nat) : By (l.take n) := fun x hx => h x (List.mem_of_mem_take hx)
theorem By.drop {l : List Int} (h : By l) (n : Nat) : By (l.drop n) := fun x hx => h x (List.mem_of_mem_drop hx)
theorem By.nil : By [] := fun x hx => by cases hx
theorem By.app {l m : List Int} (h : By l) (h' : By m) : By (l ++ m) := fun x hx => (List.mem_append.1 hx).elim (h x) (h' x)
theorem By.rep (n : Nat) : By (List.replicate n (0 : Int)) := fun x hx => by
  rw [List.eq_of_mem_replicate hx]; exact ⟨by decide, by decide⟩
theorem By.get {l : List Int} (h : By l) (i : Nat) (hi : i < l.length) : 0 ≤ l[i] ∧ l[i] ≤ 255 := h _ (List.getElem_mem hi)

/-- What the bytes are tells the numbers. -/
theorem b8_self (l : List Int) : (b8 l == b8 l) = true := by simp
theorem b8_inj {l m : List Int} (hl : By l) (hm : By m) (h : b8 l = b8 m) : l = m := by
  unfold b8 at h
  induction l generalizing m with
  | nil => cases m with
    | nil => rfl
    | cons y m => simp at h
  | cons x l ih => cases m with
    | nil => simp at h
    | cons y m =>
      simp only [List.map_cons, List.cons.injEq] at h
      have hx := hl x (by simp)
      have hy := hm y (by simp)
      have e : x.toNat % 256 = y.toNat % 256 := by
        have := congrArg UInt8.toNat h.1
        simpa using this
      obtain rfl : x = y := by omega
      rw [ih (fun z hz => hl z (by simp [hz])) (fun z hz => hm z (by simp [hz])) h.2]
theorem b8_beq {l m : List Int} (hl : By l) (hm : By m) : (b8 l == b8 m) = decide (l = m) := by
  by_cases h : l = m
  · subst h; simp
  · rw [decide_eq_false h]
    exact beq_eq_false_iff_ne.2 fun e => h (b8_inj hl hm e)
end Go.Lift
