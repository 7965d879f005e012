/- The steps of a region that draws its order. -/
import Derived.Test.YtcpddgjmopdlbaaSpine
namespace Go.Lift
open Go

/-- These pieces are there. -/
structure Has (X S : List Atom) (w : World) : Prop where
  x : ∀ A ∈ X, A.at w
  s : ∀ A ∈ S, A.at w

section
variable {α : Type} {e : Enc α} {A : Option Addr} {cap : Nat} {xs : List α} {w : World} {X S : List Atom} {Rd : Nat → Prop}
theorem Own.has {w0 : World} {D R : Nat → Prop} {X' S' : List Atom} (h : Own w0 D R w X S) (hx : ∀ A ∈ X', A ∈ X) (hs : ∀ A ∈ S', A ∈ S) : Has X' S' w :=
  ⟨fun A hA => h.xok A (hx A hA), fun A hA => h.sok A (hs A hA)⟩
theorem Has.sl_mem (hS : Has X S w) (h : slA Rd e A cap xs ∈ S) : (slA Rd e A cap xs).at w := hS.s _ h
theorem Has.sls_mem {xss : List (List α)} (hS : Has X S w) (h : slsA Rd e A cap xss ∈ S) : (slsA Rd e A cap xss).at w := hS.s _ h
theorem Has.row_mem (hS : Has X S w) (h : rowA e A cap xs ∈ X) : (rowA e A cap xs).at w := hS.x _ h
theorem Has.box_mem {b : Nat} {cs : List Value} (hS : Has X S w) (h : boxA b cs ∈ X) : (boxA b cs).at w := hS.x _ h
end

section
variable {P : Program} {Q : Exit → Act → World → Prop} {C : World → Prop} {l : List Oper} {m m' : List Value} {i : Nat} {rest : List (Bool × Nat)} {w : World}

theorem Walk.done (hC : C w) (h : Q .normal (Fr m) w) : Walk P Q C l [] m w := ⟨hC, h⟩
theorem Walk.link {o : Oper} (hC : C w) (ho : l[i]? = some o) (h : WL P l.toArray (fun e a w' => e = .normal ∧ ∃ m', a = Fr m' ∧ Walk P Q C l rest m' w') [o] (Fr m) w) : Walk P Q C l ((false, i) :: rest) m w :=
  ⟨hC, o, ho, h⟩
theorem Walk.after {ops : Array Oper} (K : Walk P Q C l rest m w) : WL P ops (fun e a w' => e = .normal ∧ ∃ m', a = Fr m' ∧ Walk P Q C l rest m' w') [] (Fr m) w := wl_nil ⟨rfl, _, rfl, K⟩
theorem Walk.float {o : Oper} (m' : List Value) (ho : l[i]? = some o) (hm : m' = fill1 m' m o) (q : ∀ w', C w' → WL P l.toArray (Qv (fun x => x = w') m') [o] (Fr m') w') (K : Walk P Q C l rest m' w) : Walk P Q C l ((true, i) :: rest) m w :=
  ⟨o, m', ho, hm, q, K⟩

theorem pstep_again {ops : Array Oper} {o : Oper} (hsel : ∀ cs b, o.op ≠ .select cs b) (hown : ∀ t, o.dst = some t → t ∉ o.looksAt ops) (h : pstep P ops o m = some m') : pstep P ops o m' = some m' := by
  have key : ∀ v, m' = dstSet o.dst m v → (∀ t ∈ o.looksAt ops, (Fr m').tmps[t]? = m[t]?) := fun v hv t ht => by
    simp only [List.getElem?_toArray]
    rw [hv]
    cases hd : o.dst with
    | none => rfl
    | some d =>
      simp only [dstSet]
      rw [List.getElem?_set_ne]
      intro e; subst e; exact hown _ hd ht
  have fin : ∀ v, m' = dstSet o.dst m v → dstSet o.dst m' v = m' := fun v hv => by
    rw [hv]
    cases o.dst <;> simp [dstSet]
  unfold pstep at h ⊢
  cases hw : Region.wanted o (yielded ops m.toArray) with
  | true =>
    rw [hw] at h
    simp only at h
    split at h
    · rename_i v hv
      injection h with h
      have hag := key v h.symm
      have h1 := wanted_of_tmps (ls := m) hag
      simp only at h1
      rw [hw] at h1
      rw [h1]
      have h2 : execOp (Fr m').eval o = execOp (Fr m).eval o := execOp_congr o hsel fun x hx => eval_of_tmps fun t ht => hag t (looks_tmp (by subst ht; exact hx))
      simp only
      rw [h2, hv]
      exact congrArg some (fin v h.symm)
    · cases h
  | false =>
    rw [hw] at h
    injection h with h
    have hag := key undef h.symm
    have h1 := wanted_of_tmps (ls := m) hag
    simp only at h1
    rw [hw] at h1
    rw [h1]
    exact congrArg some (fin undef h.symm)

/-- So many that touch no memory. -/
def segW (P : Program) (l : List Oper) : Nat → List (Bool × Nat) → List Value → Option (List Value)
  | 0, _, m => some m
  | _ + 1, [], _ => none
  | k + 1, (b, i) :: r, m => match l[i]? with
    | none => none
    | some o => match !b || ownB l o with
      | true => match pstep P l.toArray o m with
        | some m' => segW P l k r m'
        | none => none
      | false => none

theorem Walk.seg (hsel : Region.noSelect l.toArray = true) : ∀ (k : Nat) (π : List (Bool × Nat)) {m : List Value} (m' : List Value), segW P l k π m = some m' → C w → Walk P Q C l (π.drop k) m' w → Walk P Q C l π m w
  | 0, π, m, m', h, _, K => by simp only [segW, Option.some.injEq] at h; subst h; simpa using K
  | k + 1, [], m, m', h, _, _ => by simp [segW] at h
  | k + 1, (b, i) :: r, m, m', h, hC, K => by
    unfold segW at h
    split at h
    · cases h
    rename_i o ho
    split at h
    · rename_i hb
      split at h
      · rename_i m1 hp
        have K1 := Walk.seg hsel k r m' h hC (by simpa using K)
        cases b with
        | false => exact Walk.link hC ho (pstep_wp hp (Walk.after K1))
        | true =>
          have hown : ∀ t, o.dst = some t → t ∉ o.looksAt l.toArray := fun t ht => by
            simp only [Bool.not_true, Bool.false_or] at hb
            unfold ownB at hb
            rw [ht] at hb
            simpa using hb
          have h2 := pstep_again (Region.noSelect_spec hsel i o · · (by simpa using ho)) hown hp
          refine Walk.float m1 ho ?_ (fun w' _ => pstep_wp h2 (wl_nil ⟨rfl, rfl, rfl⟩)) K1
          unfold pstep at hp
          unfold fill1
          have aux : ∀ v, dstSet o.dst m v = m1 → m1 = match o.dst with | some d => m.set d (m1.getD d undef) | none => m := fun v hv => by
            subst hv
            cases hd : o.dst with
            | none => rfl
            | some d =>
              simp only [dstSet]
              by_cases hlt : d < m.length
              · simp [hlt]
              · rw [List.set_eq_of_length_le (Nat.le_of_not_lt hlt), List.set_eq_of_length_le (Nat.le_of_not_lt hlt)]
          split at hp
          · split at hp
            · injection hp with hp; exact aux _ hp
            · cases hp
          · injection hp with hp; exact aux _ hp
      · cases h
    · cases h

theorem region_chain {id : Nat} {w0 : World} {D R : Nat → Prop} {X S : List Atom} (π : List (Bool × Nat)) (C : World → Prop) (hm : P.follows .mixedOrders = true) (hB : spineB l π = true) (hO : Own w0 D R w X S)
    (h : ∀ w', Own w0 D R w' X S → Walk P Q C l π m w') : (Code.region id l.toArray true).wp P Q (Fr m) w :=
  region_spine π C hm hB (h _ (hO.draw _))
end
end Go.Lift
