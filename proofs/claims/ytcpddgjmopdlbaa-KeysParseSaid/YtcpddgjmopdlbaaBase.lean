/- The ground of the walks of this claim: frames as lists, operations that touch no memory reckoned by the kernel, loops by their plain model. -/
import Derived.Tactics
import Derived.Laws.AppendOwn
import Derived.Laws.World
import Derived.Laws.Sem
import Derived.KernelRfl
namespace Go.Lift
open Go

/-- A frame whose temporaries are a list; nothing is deferred. -/
abbrev Fr (l : List Value) : Act := ⟨l.toArray, []⟩

theorem Fr.put_some (l : List Value) (d : Nat) (v : Value) : (Fr l).put (some d) v = Fr (l.set d v) := by
  simp [Act.put]

/-- What a computation that asks for nothing but the program comes to. -/
def pev (P : Program) {α : Type} : Sem α → Option α
  | .pure a => some a
  | .program k => pev P (k P)
  | .mark _ k => pev P k
  | _ => none

theorem pev_run {P : Program} {α : Type} : ∀ (s : Sem α) (a : α), pev P s = some a → ∀ w, s.run P w = .ok a w
  | .pure a, b, h, w => by simp only [pev, Option.some.injEq] at h; subst h; rfl
  | .program k, b, h, w => by simp only [pev] at h; exact pev_run (k P) b h w
  | .mark _ k, b, h, w => by simp only [pev] at h; exact pev_run k b h w
  | .load .., _, h, _ => by simp [pev] at h
  | .store .., _, h, _ => by simp [pev] at h
  | .new .., _, h, _ => by simp [pev] at h
  | .shape .., _, h, _ => by simp [pev] at h
  | .freeze .., _, h, _ => by simp [pev] at h
  | .frozen .., _, h, _ => by simp [pev] at h
  | .getObj .., _, h, _ => by simp [pev] at h
  | .setObj .., _, h, _ => by simp [pev] at h
  | .choose .., _, h, _ => by simp [pev] at h
  | .sys .., _, h, _ => by simp [pev] at h
  | .halt _, _, h, _ => by simp [pev] at h

def dstSet (o : Option Tmp) (l : List Value) (v : Value) : List Value :=
  match o with
  | some d => l.set d v
  | none => l

theorem Fr.put_dst (l : List Value) (d : Option Tmp) (v : Value) : (Fr l).put d v = Fr (dstSet d l v) := by
  cases d with
  | none => rfl
  | some d => exact Fr.put_some l d v

/-- Into a function. -/
theorem enter {P : Program} {f : FuncId} {fn : Func} {c : Code} {args : Array Value} {w : World} {R : Ending → World → Prop} (l : List Value)
    (hf : P.funcs[f]? = some fn) (hb : fn.body = some c) (hl : args.toList ++ List.replicate (fn.ntmps - args.size) undef = l)
    (h : c.wp P (bodyPost P fn R) (Fr l) w) : Calls P f args w R := by
  refine calls_of_wp hf hb ?_
  have e : args ++ Array.replicate (fn.ntmps - args.size) undef = l.toArray := by
    rw [← hl]; apply Array.toList_inj.1; simp
  rw [e]
  exact h

/-- One operation that touches no memory. -/
def pstep (P : Program) (ops : Array Oper) (o : Oper) (l : List Value) : Option (List Value) :=
  match Region.wanted o (yielded ops l.toArray) with
  | true => match pev P (execOp (Fr l).eval o) with
    | some (.value v) => some (dstSet o.dst l v)
    | _ => none
  | false => some (dstSet o.dst l undef)

def prun (P : Program) (ops : Array Oper) : Nat → List Oper → List Value → Option (List Value)
  | 0, _, l => some l
  | _ + 1, [], _ => none
  | k + 1, o :: os, l => match pstep P ops o l with
    | some l' => prun P ops k os l'
    | none => none

/-- What is left of a region, behind a name that is not laid open by itself. -/
structure WL (P : Program) (ops : Array Oper) (Q : Exit → Act → World → Prop) (os : List Oper) (a : Act) (w : World) : Prop where
  out : wpList P ops Q os a w

section
variable {P : Program} {ops : Array Oper} {Q : Exit → Act → World → Prop} {w : World}

theorem wp_reg {id : Nat} {l : List Oper} {a : Act} (h : WL P l.toArray Q l a w) : (Code.region id l.toArray false).wp P Q a w := wp_region_lit h.out
theorem wl_nil {a : Act} (h : Q .normal a w) : WL P ops Q [] a w := ⟨wpList_nil h⟩

theorem step_run {o : Oper} {os : List Oper} {l : List Value} {n : Next} {w' : World} (hw : Region.wanted o (yielded ops l.toArray) = true) (h : (execOp (Fr l).eval o).run P w = .ok n w')
    (K : o.upon P (Fr l) (wpList P ops Q os) Q (.ok n w')) : WL P ops Q (o :: os) (Fr l) w := by
  refine ⟨?_⟩
  unfold wpList
  rw [if_pos hw]
  refine .inl ?_
  unfold Oper.wp
  rw [h]
  exact K

theorem step_val {o : Oper} {os : List Oper} {l : List Value} {v : Value} {w' : World} (hw : Region.wanted o (yielded ops l.toArray) = true) (h : (execOp (Fr l).eval o).run P w = .ok (.value v) w')
    (K : WL P ops Q os (Fr (dstSet o.dst l v)) w') : WL P ops Q (o :: os) (Fr l) w :=
  step_run hw h (by simp only [Oper.upon]; rw [Fr.put_dst]; exact K.out)

theorem step_unit {o : Oper} {os : List Oper} {l : List Value} {w' : World} (hw : Region.wanted o (yielded ops l.toArray) = true) (h : (execOp (Fr l).eval o).run P w = .ok .skip w')
    (K : WL P ops Q os (Fr (dstSet o.dst l undef)) w') : WL P ops Q (o :: os) (Fr l) w :=
  step_run hw h (by simp only [Oper.upon]; rw [Fr.put_dst]; exact K.out)

theorem pstep_wp {o : Oper} {os : List Oper} {l l' : List Value} (h : pstep P ops o l = some l') (K : WL P ops Q os (Fr l') w) : WL P ops Q (o :: os) (Fr l) w := by
  unfold pstep at h
  cases hw : Region.wanted o (yielded ops l.toArray) with
  | true =>
    rw [hw] at h
    simp only at h
    split at h
    · rename_i v hv
      injection h with h
      exact step_val hw (pev_run _ _ hv w) (by rw [h]; exact K)
    · cases h
  | false =>
    rw [hw] at h
    simp only [Option.some.injEq] at h
    refine ⟨?_⟩
    unfold wpList
    rw [if_neg (by rw [hw]; decide), Fr.put_dst, h]
    exact K.out

/-- A stretch of operations that touch no memory. -/
theorem seg (k : Nat) {os : List Oper} {l : List Value} (l' : List Value) (h : prun P ops k os l = some l') (K : WL P ops Q (os.drop k) (Fr l') w) : WL P ops Q os (Fr l) w := by
  induction k generalizing os l with
  | zero => simp only [prun, Option.some.injEq] at h; subst h; simpa using K
  | succ k ih =>
    cases os with
    | nil => simp [prun] at h
    | cons o os =>
      simp only [prun] at h
      split at h
      · rename_i l1 h1
        exact pstep_wp h1 (ih h (by simpa using K))
      · cases h

/-- The same at a region's end. -/
theorem segEnd {os : List Oper} {l : List Value} (l' : List Value) (h : prun P ops os.length os l = some l') (K : Q .normal (Fr l') w) : WL P ops Q os (Fr l) w :=
  seg os.length l' h (by simpa using wl_nil K)
end

/-! ### Loops by a plain model -/

/-- Rounds of a loop: 'inl': another round, from this state; 'inr': the loop is left with this. -/
def iter {S R : Type} (body : S → Option (S ⊕ R)) : Nat → S → Option R
  | 0, _ => none
  | n + 1, s => match body s with
    | none => none
    | some (.inl s') => iter body n s'
    | some (.inr r) => some r

def loop {S R : Type} (body : S → Option (S ⊕ R)) (s : S) : Option R := iter body 18446744073709551616 s

theorem wp_loop_model {P : Program} {S R : Type} {body : S → Option (S ⊕ R)} {c : Code} {Q : Exit → Act → World → Prop} (I : S → Act → World → Prop)
    {r : R} (round : ∀ s a w, I s a w → ∀ o, body s = some o → (∀ r', o = .inr r' → r' = r) →
      c.wp P (Exit.then (fun a' w' => ∃ s', o = .inl s' ∧ I s' a' w') Q) a w)
    {s : S} {a : Act} {w : World} (hr : loop body s = some r) (h0 : I s a w) : (Code.loop c).wp P Q a w := by
  intro b k cs
  have key : ∀ n s a w, iter body n s = some r → I s a w →
      ∃ e a' w', Q e a' w' ∧ Arrives P (lone (b.at a (.code c :: .inLoop c :: k)) cs w) b k cs e a' w' := by
    intro n
    induction n with
    | zero => intro s a w h; cases h
    | succ n ih =>
      intro s a w hr hI
      simp only [iter] at hr
      cases ho : body s with
      | none => rw [ho] at hr; cases hr
      | some o =>
        rw [ho] at hr
        have hout : ∀ r', o = .inr r' → r' = r := by
          rintro r' rfl
          simpa using hr
        obtain ⟨e, a₁, w₁, hq, harr⟩ := round s a w hI o ho hout b (.inLoop c :: k) cs
        cases e with
        | normal =>
          obtain ⟨s', rfl, hI₁⟩ := hq
          obtain ⟨e₂, a₂, w₂, hq₂, harr₂⟩ := ih s' a₁ w₁ hr hI₁
          exact ⟨e₂, a₂, w₂, hq₂, .of_steps (Steps.trans harr (.one step_inLoop)) harr₂⟩
        | exit id => exact ⟨_, a₁, w₁, hq, .pass (x := .inLoop c) rfl (fun _ _ => .inl (by simp)) harr⟩
        | goto l => exact ⟨_, a₁, w₁, hq, .pass (x := .inLoop c) rfl (fun _ _ => .inl (by simp)) harr⟩
        | ret => exact ⟨_, a₁, w₁, hq, .pass (x := .inLoop c) rfl (fun _ _ => .inl (by simp)) harr⟩
        | panic ch => exact ⟨_, a₁, w₁, hq, .pass (x := .inLoop c) rfl (fun _ _ => .inl (by simp)) harr⟩
        | outgrown => exact ⟨_, a₁, w₁, hq, .pass (x := .inLoop c) rfl (fun _ _ => .inl (by simp)) harr⟩
  obtain ⟨e, a', w', hq, harr⟩ := key _ s a w hr h0
  exact ⟨e, a', w', hq, .of_steps (.one step_loop) harr⟩

/-- A join: what comes behind is proved once, of all that the first part may leave. -/
theorem wp_join {P : Program} {x y : Code} {Q : Exit → Act → World → Prop} {a : Act} {w : World} (J : Act → World → Prop)
    (h1 : x.wp P (Exit.then J Q) a w) (h2 : ∀ a w, J a w → y.wp P Q a w) : (Code.seq x y).wp P Q a w :=
  wp_seq (wp_mono h1 fun e a w q => by cases e <;> first | exact h2 a w q | exact q)

end Go.Lift
