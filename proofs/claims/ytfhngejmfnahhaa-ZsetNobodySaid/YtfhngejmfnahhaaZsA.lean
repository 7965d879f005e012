/- A skip list in a table of nodes: what its links say, link by link. -/
import Derived.Test.YtfhngejmfnahhaaP1
import Derived.Sort.Walk0
namespace Go.Lift
open Go
set_option linter.unusedVariables false

abbrev Sc := List UInt8 × Int × Unit
abbrev Lnk := Option Nat × Int × Unit
abbrev AR := List (Sc × List Lnk)
def X0 : Sc := ([], 0, ())
def Z0 : Lnk := (none, 0, ())
def key (a : AR) (p : Nat) : Sc := ndX X0 a p
def ht (a : AR) (p : Nat) : Nat := (ndR a p).length
def lnk (a : AR) (p j : Nat) : Lnk := (ndR a p).getD j Z0

theorem ht_lt {a : AR} {p j : Nat} (h : j < ht a p) : p < a.length := by
  unfold ht ndR at h
  rcases Nat.lt_or_ge p a.length with h1 | h1
  · exact h1
  · rw [List.getElem?_eq_none h1] at h; simp at h

/-! ### A link is set -/
def setL (a : AR) (p j : Nat) (l : Lnk) : AR := a.set p (ndX X0 a p, (ndR a p).set j l)
theorem setL_len (a : AR) (p j : Nat) (l : Lnk) : (setL a p j l).length = a.length := by unfold setL; simp
theorem ndX_eq {α β : Type} (d : α) (xs : List (α × List β)) (i : Nat) : ndX d xs i = ((xs[i]?).map Prod.fst).getD d := by unfold ndX; cases xs[i]? <;> rfl
theorem ndR_eq {α β : Type} (xs : List (α × List β)) (i : Nat) : ndR xs i = ((xs[i]?).map Prod.snd).getD [] := by unfold ndR; cases xs[i]? <;> rfl
theorem setL_key (a : AR) (p j : Nat) (l : Lnk) (q : Nat) : key (setL a p j l) q = key a q := by
  unfold key setL
  rw [ndX_eq, ndX_eq X0 a q, List.getElem?_set]
  by_cases e : p = q
  · subst e
    rw [if_pos rfl]
    by_cases h : p < a.length
    · rw [if_pos h, List.getElem?_eq_getElem h]
      show ndX X0 a p = _
      rw [ndX_eq, List.getElem?_eq_getElem h]
    · rw [if_neg h, List.getElem?_eq_none (by omega)]
  · rw [if_neg e]
theorem setL_row (a : AR) (p j : Nat) (l : Lnk) (q : Nat) : ndR (setL a p j l) q = if q = p then (ndR a p).set j l else ndR a q := by
  unfold setL
  rw [ndR_eq, ndR_eq a q, List.getElem?_set]
  by_cases e : p = q
  · subst e
    rw [if_pos rfl, if_pos rfl]
    by_cases h : p < a.length
    · rw [if_pos h]; rfl
    · rw [if_neg h, ndR_eq, List.getElem?_eq_none (by omega)]; rfl
  · rw [if_neg e, if_neg (fun h => e h.symm)]
theorem setL_ht (a : AR) (p j : Nat) (l : Lnk) (q : Nat) : ht (setL a p j l) q = ht a q := by
  unfold ht
  rw [setL_row]
  split
  · rename_i e; subst e; simp
  · rfl
theorem setL_lnk (a : AR) (p j : Nat) (l : Lnk) (q k : Nat) : lnk (setL a p j l) q k = if q = p ∧ k = j ∧ j < ht a p then l else lnk a q k := by
  unfold lnk
  rw [setL_row]
  by_cases e : q = p
  · subst e
    rw [if_pos rfl, List.getD_eq_getElem?_getD, List.getElem?_set]
    by_cases e2 : j = k
    · subst e2
      rw [if_pos rfl]
      by_cases h : j < (ndR a q).length
      · rw [if_pos h, if_pos ⟨rfl, rfl, h⟩]; rfl
      · rw [if_neg h, if_neg (fun hh => h hh.2.2)]
        rw [List.getD_eq_getElem?_getD, List.getElem?_eq_none (by omega)]
    · rw [if_neg e2, if_neg (fun hh => e2 hh.2.1.symm)]
      exact (List.getD_eq_getElem?_getD).symm
  · rw [if_neg e, if_neg (fun hh => e hh.1)]

/-! ### A node is made -/
theorem mk14_key {a : AR} {x : Sc × List Lnk} {q : Nat} (h : q < a.length) : key (a ++ [x]) q = key a q := by
  unfold key ndX; rw [List.getElem?_append_left h]
theorem mk14_row {a : AR} {x : Sc × List Lnk} {q : Nat} (h : q < a.length) : ndR (a ++ [x]) q = ndR a q := by
  unfold ndR; rw [List.getElem?_append_left h]
theorem mk14_key' (a : AR) (x : Sc × List Lnk) : key (a ++ [x]) a.length = x.1 := by
  unfold key ndX; rw [List.getElem?_append_right (Nat.le_refl _), Nat.sub_self]; rfl
theorem mk14_row' (a : AR) (x : Sc × List Lnk) : ndR (a ++ [x]) a.length = x.2 := by
  unfold ndR; rw [List.getElem?_append_right (Nat.le_refl _), Nat.sub_self]; rfl

/-! ### What links should say -/
/-- The link of some level to those behind: the first that is high enough, and how far it is. -/
def lk14 (a : AR) (j : Nat) : List Nat → Option Nat × Nat
  | [] => (none, 0)
  | p :: ps => if j < ht a p then (some p, 1) else ((lk14 a j ps).1, (lk14 a j ps).2 + 1)
theorem lk14_cons (a : AR) (j p : Nat) (ps : List Nat) : lk14 a j (p :: ps) = if j < ht a p then (some p, 1) else ((lk14 a j ps).1, (lk14 a j ps).2 + 1) := rfl
theorem lk14_le (a : AR) (j : Nat) : ∀ l : List Nat, (lk14 a j l).2 ≤ l.length
  | [] => Nat.le_refl _
  | p :: ps => by
    unfold lk14
    have := lk14_le a j ps
    split
    · simp
    · rw [List.length_cons]; show (lk14 a j ps).2 + 1 ≤ _; omega
theorem lk14_low {a : AR} {j : Nat} {B : List Nat} : ∀ {A : List Nat}, (∀ q ∈ A, ht a q ≤ j) → lk14 a j (A ++ B) = ((lk14 a j B).1, A.length + (lk14 a j B).2)
  | [], _ => by simp
  | p :: A, h => by
    rw [List.cons_append, lk14_cons, if_neg (by have := h p (by simp); omega), lk14_low fun q hq => h q (by simp [hq])]
    show ((lk14 a j B).1, (A.length + (lk14 a j B).2) + 1) = _
    rw [List.length_cons, Nat.add_right_comm]
theorem lk14_high {a : AR} {j p : Nat} {A B : List Nat} (h : ∀ q ∈ A, ht a q ≤ j) (hp : j < ht a p) : lk14 a j (A ++ p :: B) = (some p, A.length + 1) := by
  rw [lk14_low h, lk14_cons, if_pos hp]
/-- All are low, or there is a first that is not. -/
theorem split14 (a : AR) (j : Nat) : ∀ l : List Nat, (∀ q ∈ l, ht a q ≤ j) ∨ ∃ A p B, l = A ++ p :: B ∧ (∀ q ∈ A, ht a q ≤ j) ∧ j < ht a p
  | [] => .inl (by simp)
  | p :: l => by
    rcases Nat.lt_or_ge j (ht a p) with h | h
    · exact .inr ⟨[], p, l, rfl, by simp, h⟩
    · rcases split14 a j l with h1 | ⟨A, q, B, rfl, h1, h2⟩
      · exact .inl (by intro q hq; rcases List.mem_cons.1 hq with rfl | hq; exact h; exact h1 q hq)
      · exact .inr ⟨p :: A, q, B, rfl, by intro q hq; rcases List.mem_cons.1 hq with rfl | hq; exact h; exact h1 q hq, h2⟩
theorem lk14_congr {a b : AR} {j : Nat} : ∀ {l : List Nat}, (∀ p ∈ l, ht b p = ht a p) → lk14 b j l = lk14 a j l
  | [], _ => rfl
  | p :: l, h => by
    unfold lk14
    rw [h p (by simp), lk14_congr fun q hq => h q (by simp [hq])]

/-- Each link of these nodes says what it should. -/
def Ok14 (a : AR) : List Nat → Prop
  | [] => True
  | p :: ps => (∀ j, j < ht a p → lnk a p j = ((lk14 a j ps).1, (((lk14 a j ps).2 : Nat) : Int), ())) ∧ Ok14 a ps
theorem Ok14.right {a : AR} {B : List Nat} : ∀ {A : List Nat}, Ok14 a (A ++ B) → Ok14 a B
  | [], h => h
  | _ :: A, h => Ok14.right (A := A) h.2
theorem Ok14.at {a : AR} {A B : List Nat} {x j : Nat} (h : Ok14 a (A ++ x :: B)) (hj : j < ht a x) : lnk a x j = ((lk14 a j B).1, (((lk14 a j B).2 : Nat) : Int), ()) := h.right.1 j hj
theorem Ok14.congr {a b : AR} : ∀ {l : List Nat}, Ok14 a l → (∀ p ∈ l, ht b p = ht a p) → (∀ p ∈ l, ∀ k, k < ht a p → lnk b p k = lnk a p k) → Ok14 b l
  | [], _, _, _ => trivial
  | p :: l, h, h1, h2 => ⟨fun j hj => by
      rw [h1 p (by simp)] at hj
      rw [h2 p (by simp) j hj, h.1 j hj, lk14_congr fun q hq => h1 q (by simp [hq])], h.2.congr (fun q hq => h1 q (by simp [hq])) fun q hq => h2 q (by simp [hq])⟩

/-- The rest of a list is another one; those links that went there, or behind it, are set anew. -/
theorem relink {a b : AR} {B C : List Nat} (hC : Ok14 b C) : ∀ {P : List Nat}, Ok14 a (P ++ B) → (∀ p ∈ P, ht b p = ht a p) →
    (∀ P1 x A2, P = P1 ++ x :: A2 → ∀ k, k < ht a x → lnk b x k = if ∀ q ∈ A2, ht a q ≤ k then ((lk14 b k (A2 ++ C)).1, (((lk14 b k (A2 ++ C)).2 : Nat) : Int), ()) else lnk a x k) → Ok14 b (P ++ C)
  | [], _, _, _ => hC
  | p :: P, h, hh, hl => by
    refine ⟨fun k hk => ?_, relink hC (P := P) h.2 (fun q hq => hh q (by simp [hq])) fun P1 x A2 e k hk => hl (p :: P1) x A2 (by rw [e]; rfl) k hk⟩
    rw [hh p (by simp)] at hk
    rw [hl [] p P rfl k hk]
    rcases split14 a k P with h1 | ⟨A, q, D, rfl, h1, h2⟩
    · rw [if_pos h1]; rfl
    · rw [if_neg (fun h0 => by have := h0 q (by simp); omega)]
      have e1 : lk14 a k ((A ++ q :: D) ++ B) = (some q, A.length + 1) := by rw [List.append_assoc]; exact lk14_high h1 h2
      have e2 : lk14 b k ((A ++ q :: D) ++ C) = (some q, A.length + 1) := by
        rw [List.append_assoc]
        refine lk14_high (fun r hr => ?_) ?_
        · rw [hh r (by simp [hr])]; exact h1 r hr
        · rw [hh q (by simp)]; exact h2
      refine (h.1 k hk).trans ?_
      show ((lk14 a k ((A ++ q :: D) ++ B)).1, (((lk14 a k ((A ++ q :: D) ++ B)).2 : Nat) : Int), ()) = ((lk14 b k ((A ++ q :: D) ++ C)).1, (((lk14 b k ((A ++ q :: D) ++ C)).2 : Nat) : Int), ())
      rw [e1, e2]

/-- The last of some nodes that is higher than k, and what is behind it. -/
def Last14 (a : AR) (P : List Nat) (k : Nat) (P1 : List Nat) (x : Nat) (A2 : List Nat) : Prop := P = P1 ++ x :: A2 ∧ k < ht a x ∧ ∀ q ∈ A2, ht a q ≤ k
theorem Last14.uniq {a : AR} {P P1 P1' A2 A2' : List Nat} {k x x' : Nat} (h : Last14 a P k P1 x A2) (h' : Last14 a P k P1' x' A2') : P1 = P1' ∧ x = x' ∧ A2 = A2' := by
  obtain ⟨e, h1, h2⟩ := h
  obtain ⟨e', h1', h2'⟩ := h'
  rw [e] at e'
  have hl : A2.length = A2'.length := by
    rcases Nat.lt_trichotomy A2.length A2'.length with hlt | heq | hgt
    · exfalso
      have hx : x ∈ A2' := by
        have e0 : (P1 ++ [x]) ++ A2 = (P1' ++ [x']) ++ A2' := by simpa using e'
        rcases List.append_eq_append_iff.1 e0 with ⟨cs, h3, h4⟩ | ⟨bs, h3, h4⟩
        · have := congrArg List.length h4; simp at this; omega
        · rcases List.eq_nil_or_concat bs with rfl | ⟨bs', y, rfl⟩
          · simp at h4; rw [h4] at hlt; omega
          · have h5 : P1 = (P1' ++ [x']) ++ bs' ∧ x = y := by
              rw [List.concat_eq_append, ← List.append_assoc] at h3
              have := List.append_inj' h3 rfl
              exact ⟨this.1, by simpa using this.2⟩
            rw [h5.2, h4]; simp
      have := h2' x hx; omega
    · exact heq
    · exfalso
      have hx : x' ∈ A2 := by
        have e0 : (P1 ++ [x]) ++ A2 = (P1' ++ [x']) ++ A2' := by simpa using e'
        rcases List.append_eq_append_iff.1 e0 with ⟨cs, h3, h4⟩ | ⟨bs, h3, h4⟩
        · rcases List.eq_nil_or_concat cs with rfl | ⟨cs', y, rfl⟩
          · simp at h4; rw [h4] at hgt; omega
          · have h5 : P1' = (P1 ++ [x]) ++ cs' ∧ x' = y := by
              rw [List.concat_eq_append, ← List.append_assoc] at h3
              have := List.append_inj' h3 rfl
              exact ⟨this.1, by simpa using this.2⟩
            rw [h5.2, h4]; simp
        · have := congrArg List.length h4; simp at this; omega
      have := h2 x' hx; omega
  have := List.append_inj' e' (by simp [hl])
  injection this.2 with h3 h4
  exact ⟨this.1, h3, h4⟩
theorem nodup_split {P1 P1' A2 A2' : List Nat} {x : Nat} (hn : (P1 ++ x :: A2).Nodup) (e : P1 ++ x :: A2 = P1' ++ x :: A2') : A2 = A2' := by
  induction P1 generalizing P1' with
  | nil =>
    cases P1' with
    | nil => injection e
    | cons y P1' =>
      injection e with e1 e2; subst e1
      have := (List.nodup_cons.1 hn).1
      rw [e2] at this; simp at this
  | cons y P1 ih =>
    cases P1' with
    | nil =>
      injection e with e1 e2; subst e1
      have := (List.nodup_cons.1 hn).1
      simp at this
    | cons y' P1' =>
      injection e with e1 e2
      exact ih (List.nodup_cons.1 hn).2 e2
end Go.Lift
