/- The ground of the walks: rows in memory, operations, regions that draw their order. -/
import Derived.Tactics
import Derived.Laws.AppendOwn
import Derived.Laws.World
import Derived.Laws.Sem
import Derived.KernelRfl
import Derived.Laws.MakeOwn
import Derived.Laws.Slices
import Derived.Laws.Entries
import Derived.Laws.Cells
import Derived.OwnWalk
import Derived.Laws.BytesArg
import Derived.Laws.Strings
import Derived.WalkKit
import Derived.ProofKit
import Derived.OpenShut
import Derived.ShutString
import Derived.ChangeOld
import Derived.Below
import Derived.Deep.Matrix
import Derived.Deep.SlicePairs
import Derived.Laws.BitsAllLaws
import Derived.StillTail
import Derived.Lib.Bytealg
import Derived.ChangeKeysEq
/- The ground of the walks of this claim: frames as lists, operations that touch no memory reckoned by the kernel, loops by their plain model. -/
namespace Go.Lift
open Go

/-- A frame whose temporaries are a list; nothing is deferred. -/
abbrev Fr (l : List Value) : Act := ⟨l.toArray, []⟩

theorem Fr.put_some (l : List Value) (d : Nat) (v : Value) : (Fr l).put (some d) v = Fr (l.set d v) := by
  simp [Act.put]

/-- What a computation that asks for nothing but the program comes to. -/
def pev (P : Program) {α : Type} : Sem α → Option α
  | .pure a => some a
  | .program k => pev P (k P)
  | .mark _ k => pev P k
  | _ => none

theorem pev_run {P : Program} {α : Type} : ∀ (s : Sem α) (a : α), pev P s = some a → ∀ w, s.run P w = .ok a w
  | .pure a, b, h, w => by simp only [pev, Option.some.injEq] at h; subst h; rfl
  | .program k, b, h, w => by simp only [pev] at h; exact pev_run (k P) b h w
  | .mark _ k, b, h, w => by simp only [pev] at h; exact pev_run k b h w
  | .load .., _, h, _ => by simp [pev] at h
  | .store .., _, h, _ => by simp [pev] at h
  | .new .., _, h, _ => by simp [pev] at h
  | .shape .., _, h, _ => by simp [pev] at h
  | .freeze .., _, h, _ => by simp [pev] at h
  | .frozen .., _, h, _ => by simp [pev] at h
  | .getObj .., _, h, _ => by simp [pev] at h
  | .setObj .., _, h, _ => by simp [pev] at h
  | .choose .., _, h, _ => by simp [pev] at h
  | .sys .., _, h, _ => by simp [pev] at h
  | .halt _, _, h, _ => by simp [pev] at h

def dstSet (o : Option Tmp) (l : List Value) (v : Value) : List Value :=
  match o with
  | some d => l.set d v
  | none => l

theorem Fr.put_dst (l : List Value) (d : Option Tmp) (v : Value) : (Fr l).put d v = Fr (dstSet d l v) := by
  cases d with
  | none => rfl
  | some d => exact Fr.put_some l d v

/-- Into a function. -/
theorem enter {P : Program} {f : FuncId} {fn : Func} {c : Code} {args : Array Value} {w : World} {R : Ending → World → Prop} (l : List Value)
    (hf : P.funcs[f]? = some fn) (hb : fn.body = some c) (hl : args.toList ++ List.replicate (fn.ntmps - args.size) undef = l)
    (h : c.wp P (bodyPost P fn R) (Fr l) w) : Calls P f args w R := by
  refine calls_of_wp hf hb ?_
  have e : args ++ Array.replicate (fn.ntmps - args.size) undef = l.toArray := by
    rw [← hl]; apply Array.toList_inj.1; simp
  rw [e]
  exact h

/-- One operation that touches no memory. -/
def pstep (P : Program) (ops : Array Oper) (o : Oper) (l : List Value) : Option (List Value) :=
  match Region.wanted o (yielded ops l.toArray) with
  | true => match pev P (execOp (Fr l).eval o) with
    | some (.value v) => some (dstSet o.dst l v)
    | _ => none
  | false => some (dstSet o.dst l undef)

def prun (P : Program) (ops : Array Oper) : Nat → List Oper → List Value → Option (List Value)
  | 0, _, l => some l
  | _ + 1, [], _ => none
  | k + 1, o :: os, l => match pstep P ops o l with
    | some l' => prun P ops k os l'
    | none => none

/-- What is left of a region, behind a name that is not laid open by itself. -/
structure WL (P : Program) (ops : Array Oper) (Q : Exit → Act → World → Prop) (os : List Oper) (a : Act) (w : World) : Prop where
  out : wpList P ops Q os a w

section
variable {P : Program} {ops : Array Oper} {Q : Exit → Act → World → Prop} {w : World}

theorem wp_reg {id : Nat} {l : List Oper} {a : Act} (h : WL P l.toArray Q l a w) : (Code.region id l.toArray false).wp P Q a w := wp_region_lit h.out
theorem wl_nil {a : Act} (h : Q .normal a w) : WL P ops Q [] a w := ⟨wpList_nil h⟩

theorem step_run {o : Oper} {os : List Oper} {l : List Value} {n : Next} {w' : World} (hw : Region.wanted o (yielded ops l.toArray) = true) (h : (execOp (Fr l).eval o).run P w = .ok n w')
    (K : o.upon P (Fr l) (wpList P ops Q os) Q (.ok n w')) : WL P ops Q (o :: os) (Fr l) w := by
  refine ⟨?_⟩
  unfold wpList
  rw [if_pos hw]
  refine .inl ?_
  unfold Oper.wp
  rw [h]
  exact K

theorem step_val {o : Oper} {os : List Oper} {l : List Value} {v : Value} {w' : World} (hw : Region.wanted o (yielded ops l.toArray) = true) (h : (execOp (Fr l).eval o).run P w = .ok (.value v) w')
    (K : WL P ops Q os (Fr (dstSet o.dst l v)) w') : WL P ops Q (o :: os) (Fr l) w :=
  step_run hw h (by simp only [Oper.upon]; rw [Fr.put_dst]; exact K.out)

theorem step_unit {o : Oper} {os : List Oper} {l : List Value} {w' : World} (hw : Region.wanted o (yielded ops l.toArray) = true) (h : (execOp (Fr l).eval o).run P w = .ok .skip w')
    (K : WL P ops Q os (Fr (dstSet o.dst l undef)) w') : WL P ops Q (o :: os) (Fr l) w :=
  step_run hw h (by simp only [Oper.upon]; rw [Fr.put_dst]; exact K.out)

theorem pstep_wp {o : Oper} {os : List Oper} {l l' : List Value} (h : pstep P ops o l = some l') (K : WL P ops Q os (Fr l') w) : WL P ops Q (o :: os) (Fr l) w := by
  unfold pstep at h
  cases hw : Region.wanted o (yielded ops l.toArray) with
  | true =>
    rw [hw] at h
    simp only at h
    split at h
    · rename_i v hv
      injection h with h
      exact step_val hw (pev_run _ _ hv w) (by rw [h]; exact K)
    · cases h
  | false =>
    rw [hw] at h
    simp only [Option.some.injEq] at h
    refine ⟨?_⟩
    unfold wpList
    rw [if_neg (by rw [hw]; decide), Fr.put_dst, h]
    exact K.out

/-- A stretch of operations that touch no memory. -/
theorem seg (k : Nat) {os : List Oper} {l : List Value} (l' : List Value) (h : prun P ops k os l = some l') (K : WL P ops Q (os.drop k) (Fr l') w) : WL P ops Q os (Fr l) w := by
  induction k generalizing os l with
  | zero => simp only [prun, Option.some.injEq] at h; subst h; simpa using K
  | succ k ih =>
    cases os with
    | nil => simp [prun] at h
    | cons o os =>
      simp only [prun] at h
      split at h
      · rename_i l1 h1
        exact pstep_wp h1 (ih h (by simpa using K))
      · cases h

/-- The same at a region's end. -/
theorem segEnd {os : List Oper} {l : List Value} (l' : List Value) (h : prun P ops os.length os l = some l') (K : Q .normal (Fr l') w) : WL P ops Q os (Fr l) w :=
  seg os.length l' h (by simpa using wl_nil K)
end

/-! ### Loops by a plain model -/

/-- Rounds of a loop: 'inl': another round, from this state; 'inr': the loop is left with this. -/
def iter {S R : Type} (body : S → Option (S ⊕ R)) : Nat → S → Option R
  | 0, _ => none
  | n + 1, s => match body s with
    | none => none
    | some (.inl s') => iter body n s'
    | some (.inr r) => some r

def loop {S R : Type} (body : S → Option (S ⊕ R)) (s : S) : Option R := iter body 18446744073709551616 s

theorem wp_loop_model {P : Program} {S R : Type} {body : S → Option (S ⊕ R)} {c : Code} {Q : Exit → Act → World → Prop} (I : S → Act → World → Prop)
    {r : R} (round : ∀ s a w, I s a w → ∀ o, body s = some o → (∀ r', o = .inr r' → r' = r) →
      c.wp P (Exit.then (fun a' w' => ∃ s', o = .inl s' ∧ I s' a' w') Q) a w)
    {s : S} {a : Act} {w : World} (hr : loop body s = some r) (h0 : I s a w) : (Code.loop c).wp P Q a w := by
  intro b k cs
  have key : ∀ n s a w, iter body n s = some r → I s a w →
      ∃ e a' w', Q e a' w' ∧ Arrives P (lone (b.at a (.code c :: .inLoop c :: k)) cs w) b k cs e a' w' := by
    intro n
    induction n with
    | zero => intro s a w h; cases h
    | succ n ih =>
      intro s a w hr hI
      simp only [iter] at hr
      cases ho : body s with
      | none => rw [ho] at hr; cases hr
      | some o =>
        rw [ho] at hr
        have hout : ∀ r', o = .inr r' → r' = r := by
          rintro r' rfl
          simpa using hr
        obtain ⟨e, a₁, w₁, hq, harr⟩ := round s a w hI o ho hout b (.inLoop c :: k) cs
        cases e with
        | normal =>
          obtain ⟨s', rfl, hI₁⟩ := hq
          obtain ⟨e₂, a₂, w₂, hq₂, harr₂⟩ := ih s' a₁ w₁ hr hI₁
          exact ⟨e₂, a₂, w₂, hq₂, .of_steps (Steps.trans harr (.one step_inLoop)) harr₂⟩
        | exit id => exact ⟨_, a₁, w₁, hq, .pass (x := .inLoop c) rfl (fun _ _ => .inl (by simp)) harr⟩
        | goto l => exact ⟨_, a₁, w₁, hq, .pass (x := .inLoop c) rfl (fun _ _ => .inl (by simp)) harr⟩
        | ret => exact ⟨_, a₁, w₁, hq, .pass (x := .inLoop c) rfl (fun _ _ => .inl (by simp)) harr⟩
        | panic ch => exact ⟨_, a₁, w₁, hq, .pass (x := .inLoop c) rfl (fun _ _ => .inl (by simp)) harr⟩
        | outgrown => exact ⟨_, a₁, w₁, hq, .pass (x := .inLoop c) rfl (fun _ _ => .inl (by simp)) harr⟩
  obtain ⟨e, a', w', hq, harr⟩ := key _ s a w hr h0
  exact ⟨e, a', w', hq, .of_steps (.one step_loop) harr⟩

/-- A join: what comes behind is proved once, of all that the first part may leave. -/
theorem wp_join {P : Program} {x y : Code} {Q : Exit → Act → World → Prop} {a : Act} {w : World} (J : Act → World → Prop)
    (h1 : x.wp P (Exit.then J Q) a w) (h2 : ∀ a w, J a w → y.wp P Q a w) : (Code.seq x y).wp P Q a w :=
  wp_seq (wp_mono h1 fun e a w q => by cases e <;> first | exact h2 a w q | exact q)

end Go.Lift

/- Who owns what: memory as a list of pieces that lie apart (X: the call's own; S: read by many, written by nobody), and what a step does to it. -/
namespace Go.Lift
open Go

abbrev Hp := Nat → Option Obj
def look (w : World) : Hp := fun b => w.heap[b]?

open Classical in
/-- A memory cut down to some blocks. -/
noncomputable def cut (D : Nat → Prop) (h : Hp) : Hp := fun b => if D b then h b else none

theorem cut_some {D : Nat → Prop} {h : Hp} {b : Nat} {o : Obj} (e : cut D h b = some o) : D b ∧ h b = some o := by
  unfold cut at e
  split at e
  · exact ⟨by assumption, e⟩
  · cases e

theorem cut_pos {D : Nat → Prop} {h : Hp} {b : Nat} (hd : D b) : cut D h b = h b := by
  unfold cut; rw [if_pos hd]

theorem cut_congr {D : Nat → Prop} {h h' : Hp} (e : ∀ b, D b → h b = h' b) : cut D h = cut D h' := by
  funext b
  unfold cut
  split
  · exact e b (by assumption)
  · rfl

/-- A piece of memory: its blocks, and what is known of them. -/
structure Atom where
  dom : Nat → Prop
  ok : Hp → Prop

def Atom.at (A : Atom) (w : World) : Prop := A.ok (cut A.dom (look w))

def doms (L : List Atom) (b : Nat) : Prop := ∃ A ∈ L, A.dom b

theorem doms_nil (b : Nat) : ¬ doms [] b := by rintro ⟨A, h, _⟩; cases h
theorem doms_append {L M : List Atom} {b : Nat} : doms (L ++ M) b ↔ doms L b ∨ doms M b := by
  constructor
  · rintro ⟨A, h, d⟩
    rcases List.mem_append.1 h with h | h
    · exact .inl ⟨A, h, d⟩
    · exact .inr ⟨A, h, d⟩
  · rintro (⟨A, h, d⟩ | ⟨A, h, d⟩)
    · exact ⟨A, List.mem_append.2 (.inl h), d⟩
    · exact ⟨A, List.mem_append.2 (.inr h), d⟩
theorem doms_one {A : Atom} {b : Nat} : doms [A] b ↔ A.dom b :=
  ⟨fun ⟨B, h, d⟩ => by rw [List.mem_singleton] at h; exact h ▸ d, fun d => ⟨A, List.mem_singleton.2 rfl, d⟩⟩

/-- But for the blocks M, what was there is as it was. -/
structure Keeps (M : Nat → Prop) (w w' : World) : Prop where
  os : w'.os = w.os
  tape : w'.tape = w.tape
  output : w'.output = w.output
  size : w.heap.size ≤ w'.heap.size
  block : ∀ b, b < w.heap.size → ¬ M b → w'.heap[b]? = w.heap[b]?

theorem Keeps.refl (M : Nat → Prop) (w : World) : Keeps M w w := ⟨rfl, rfl, rfl, Nat.le_refl _, fun _ _ _ => rfl⟩

structure Own (w0 : World) (D R : Nat → Prop) (w : World) (X S : List Atom) : Prop where
  keep : Keeps D w0 w
  xok : ∀ A ∈ X, A.at w
  sok : ∀ A ∈ S, A.at w
  xdom : ∀ A ∈ X, ∀ b, A.dom b → (D b ∨ w0.heap.size ≤ b) ∧ b < w.heap.size
  sdom : ∀ A ∈ S, ∀ b, A.dom b → (R b ∨ w0.heap.size ≤ b) ∧ b < w.heap.size
  xx : X.Pairwise fun A B => ∀ b, A.dom b → ¬ B.dom b
  xs : ∀ A ∈ X, ∀ B ∈ S, ∀ b, A.dom b → ¬ B.dom b

theorem at_keep {A : Atom} {w w' : World} (h : A.at w) (hd : ∀ b, A.dom b → w'.heap[b]? = w.heap[b]?) : A.at w' := by
  unfold Atom.at at *
  have e : cut A.dom (look w') = cut A.dom (look w) := cut_congr fun b hb => hd b hb
  rw [e]
  exact h

section
variable {w0 w w' : World} {D R : Nat → Prop} {X Xi Xo S Si So : List Atom}

theorem Own.perm (hS : Own w0 D R w X S) {Y : List Atom} (h : X.Perm Y) : Own w0 D R w Y S where
  keep := hS.keep
  xok A hA := hS.xok A (h.mem_iff.2 hA)
  sok := hS.sok
  xdom A hA := hS.xdom A (h.mem_iff.2 hA)
  sdom := hS.sdom
  xx := h.pairwise hS.xx (fun {_ _} h b hb ha => h b ha hb)
  xs A hA := hS.xs A (h.mem_iff.2 hA)

theorem perm_pick : ∀ (X : List Atom) (i : Nat) (A : Atom), X[i]? = some A → X.Perm (A :: X.eraseIdx i)
  | [], _, _, h => by simp at h
  | B :: X, 0, A, h => by simp at h; subst h; exact List.Perm.refl _
  | B :: X, i + 1, A, h => by
    have := perm_pick X i A (by simpa using h)
    exact (this.cons B).trans (List.Perm.swap A B _)

/-- The piece number i comes to the front. -/
theorem Own.pick (hS : Own w0 D R w X S) (i : Nat) {A : Atom} (hi : X[i]? = some A) : Own w0 D R w (A :: X.eraseIdx i) S := hS.perm (perm_pick X i A hi)

/-- Pieces are let go. -/
theorem Own.drop (hS : Own w0 D R w X S) {Y : List Atom} (h : Y.Sublist X) : Own w0 D R w Y S where
  keep := hS.keep
  xok A hA := hS.xok A (h.subset hA)
  sok := hS.sok
  xdom A hA := hS.xdom A (h.subset hA)
  sdom := hS.sdom
  xx := hS.xx.sublist h
  xs A hA := hS.xs A (h.subset hA)

theorem Own.takeX (hS : Own w0 D R w X S) (n : Nat) : Own w0 D R w (X.take n) S := hS.drop (List.take_sublist n X)

theorem Own.dropS (hS : Own w0 D R w X S) {T : List Atom} (h : ∀ A ∈ T, A ∈ S) : Own w0 D R w X T where
  keep := hS.keep
  xok := hS.xok
  sok A hA := hS.sok A (h A hA)
  xdom := hS.xdom
  sdom A hA := hS.sdom A (h A hA)
  xx := hS.xx
  xs A hA B hB := hS.xs A hA B (h B hB)

theorem Own.x0 {A : Atom} (hS : Own w0 D R w (A :: X) S) : A.at w := hS.xok A (List.mem_cons_self ..)
theorem Own.xi {A : Atom} (hS : Own w0 D R w X S) (i : Nat) (h : X[i]? = some A) : A.at w := hS.xok A (List.mem_of_getElem? h)
theorem Own.si {A : Atom} (hS : Own w0 D R w X S) (i : Nat) (h : S[i]? = some A) : A.at w := hS.sok A (List.mem_of_getElem? h)

/-- One more that is read: it lies in blocks of those that are. -/
theorem Own.addS {B : Atom} (hS : Own w0 D R w X S) (hB : B.at w) (hd : ∀ b, B.dom b → doms S b) : Own w0 D R w X (B :: S) where
  keep := hS.keep
  xok := hS.xok
  sok A hA := by
    rcases List.mem_cons.1 hA with rfl | hA
    · exact hB
    · exact hS.sok A hA
  xdom := hS.xdom
  sdom A hA b hb := by
    rcases List.mem_cons.1 hA with rfl | hA
    · obtain ⟨C, hC, hCb⟩ := hd b hb
      exact hS.sdom C hC b hCb
    · exact hS.sdom A hA b hb
  xx := hS.xx
  xs A hA C hC b hb hc := by
    rcases List.mem_cons.1 hC with rfl | hC
    · obtain ⟨E, hE, hEb⟩ := hd b hc
      exact hS.xs A hA E hE b hb hEb
    · exact hS.xs A hA C hC b hb hc

/-- What was the call's own is from now on read alone. -/
theorem Own.freeze {A B : Atom} (hS : Own w0 D R w (A :: X) S) (hR : ∀ b, A.dom b → ¬ D b) (hB : B.at w) (hd : ∀ b, B.dom b → A.dom b) : Own w0 D R w X (B :: S) where
  keep := hS.keep
  xok C hC := hS.xok C (List.mem_cons_of_mem _ hC)
  sok C hC := by
    rcases List.mem_cons.1 hC with rfl | hC
    · exact hB
    · exact hS.sok C hC
  xdom C hC := hS.xdom C (List.mem_cons_of_mem _ hC)
  sdom C hC b hb := by
    rcases List.mem_cons.1 hC with rfl | hC
    · have h := hS.xdom A (List.mem_cons_self ..) b (hd b hb)
      exact ⟨.inr (h.1.resolve_left (hR b (hd b hb))), h.2⟩
    · exact hS.sdom C hC b hb
  xx := (List.pairwise_cons.1 hS.xx).2
  xs C hC E hE b hb he := by
    rcases List.mem_cons.1 hE with rfl | hE
    · exact (List.pairwise_cons.1 hS.xx).1 C hC b (hd b he) hb
    · exact hS.xs C (List.mem_cons_of_mem _ hC) E hE b hb he

/-- What a callee is handed. -/
theorem Own.pre (hS : Own w0 D R w (Xi ++ X) S) (hs : ∀ B ∈ Si, B.at w) (hd : ∀ B ∈ Si, ∀ b, B.dom b → doms S b ∨ doms X b) :
    Own w (doms Xi) (doms Si) w Xi Si where
  keep := Keeps.refl _ _
  xok A hA := hS.xok A (List.mem_append.2 (.inl hA))
  sok := hs
  xdom A hA b hb := ⟨.inl ⟨A, hA, hb⟩, (hS.xdom A (List.mem_append.2 (.inl hA)) b hb).2⟩
  sdom A hA b hb := ⟨.inl ⟨A, hA, hb⟩, by
    rcases hd A hA b hb with ⟨B, hB, h⟩ | ⟨B, hB, h⟩
    · exact (hS.sdom B hB b h).2
    · exact (hS.xdom B (List.mem_append.2 (.inr hB)) b h).2⟩
  xx := (List.pairwise_append.1 hS.xx).1
  xs A hA B hB b ha hb := by
    rcases hd B hB b hb with ⟨C, hC, h⟩ | ⟨C, hC, h⟩
    · exact hS.xs A (List.mem_append.2 (.inl hA)) C hC b ha h
    · exact (List.pairwise_append.1 hS.xx).2.2 A hA C hC b ha h

/-- What is there behind a callee. -/
theorem Own.post (hS : Own w0 D R w (Xi ++ X) S) (h : Own w (doms Xi) (doms Si) w' Xo So) (hd : So = [] ∨ ∀ b, doms Si b → doms S b) :
    Own w0 D R w' (Xo ++ X) (So ++ S) := by
  have hXi : ∀ b, doms Xi b → (D b ∨ w0.heap.size ≤ b) ∧ b < w.heap.size := fun b ⟨A, hA, hb⟩ => hS.xdom A (List.mem_append.2 (.inl hA)) b hb
  have hX : ∀ A ∈ X, ∀ b, A.dom b → ¬ doms Xi b := fun A hA b hb ⟨B, hB, hB'⟩ => (List.pairwise_append.1 hS.xx).2.2 B hB A hA b hB' hb
  have hSi : ∀ A ∈ S, ∀ b, A.dom b → ¬ doms Xi b := fun A hA b hb ⟨B, hB, hB'⟩ => hS.xs B (List.mem_append.2 (.inl hB)) A hA b hB' hb
  have sX : ∀ A ∈ X, ∀ b, A.dom b → b < w.heap.size := fun A hA b hb => (hS.xdom A (List.mem_append.2 (.inr hA)) b hb).2
  have sS : ∀ A ∈ S, ∀ b, A.dom b → b < w.heap.size := fun A hA b hb => (hS.sdom A hA b hb).2
  have hSo : ∀ A ∈ So, ∀ b, A.dom b → doms S b ∨ w.heap.size ≤ b := fun A hA b hb => by
    rcases hd with rfl | hd
    · cases hA
    · exact (h.sdom A hA b hb).1.imp (hd b) id
  constructor
  · exact ⟨h.keep.os.trans hS.keep.os, h.keep.tape.trans hS.keep.tape, h.keep.output.trans hS.keep.output, Nat.le_trans hS.keep.size h.keep.size, fun b hb hn => by
      rw [h.keep.block b (Nat.lt_of_lt_of_le hb hS.keep.size) (fun hi => by rcases (hXi b hi).1 with h | h; exact hn h; omega)]
      exact hS.keep.block b hb hn⟩
  · intro A hA
    rcases List.mem_append.1 hA with hA | hA
    · exact h.xok A hA
    · exact at_keep (hS.xok A (List.mem_append.2 (.inr hA))) fun b hb => h.keep.block b (sX A hA b hb) (hX A hA b hb)
  · intro A hA
    rcases List.mem_append.1 hA with hA | hA
    · exact h.sok A hA
    · exact at_keep (hS.sok A hA) fun b hb => h.keep.block b (sS A hA b hb) (hSi A hA b hb)
  · intro A hA b hb
    rcases List.mem_append.1 hA with hA | hA
    · obtain ⟨h1, h2⟩ := h.xdom A hA b hb
      exact ⟨h1.elim (fun h => (hXi b h).1) (fun h => .inr (Nat.le_trans hS.keep.size h)), h2⟩
    · exact ⟨(hS.xdom A (List.mem_append.2 (.inr hA)) b hb).1, Nat.lt_of_lt_of_le (sX A hA b hb) h.keep.size⟩
  · intro A hA b hb
    rcases List.mem_append.1 hA with hA | hA
    · refine ⟨?_, (h.sdom A hA b hb).2⟩
      rcases hSo A hA b hb with ⟨B, hB, hB'⟩ | h
      · exact (hS.sdom B hB b hB').1
      · exact .inr (Nat.le_trans hS.keep.size h)
    · exact ⟨(hS.sdom A hA b hb).1, Nat.lt_of_lt_of_le (sS A hA b hb) h.keep.size⟩
  · refine List.pairwise_append.2 ⟨h.xx, (List.pairwise_append.1 hS.xx).2.1, fun A hA B hB b ha hb => ?_⟩
    rcases (h.xdom A hA b ha).1 with h | h
    · exact hX B hB b hb h
    · have := sX B hB b hb; omega
  · intro A hA B hB b ha hb
    rcases List.mem_append.1 hA with hA | hA
    · rcases List.mem_append.1 hB with hB | hB
      · exact h.xs A hA B hB b ha hb
      · rcases (h.xdom A hA b ha).1 with h | h
        · exact hSi B hB b hb h
        · have := sS B hB b hb; omega
    · rcases List.mem_append.1 hB with hB | hB
      · rcases hSo B hB b hb with ⟨C, hC, hC'⟩ | h
        · exact hS.xs A (List.mem_append.2 (.inr hA)) C hC b ha hC'
        · have := sX A hA b ha; omega
      · exact hS.xs A (List.mem_append.2 (.inr hA)) B hB b ha hb

/-- One piece is turned, or laid anew (Xi empty): the world's step, and the piece that stands in its place. -/
theorem Own.turn (hS : Own w0 D R w (Xi ++ X) S) {B : Atom} (hk : Keeps (doms Xi) w w') (hB : B.at w') (hd : ∀ b, B.dom b → (doms Xi b ∨ w.heap.size ≤ b) ∧ b < w'.heap.size) :
    Own w0 D R w' (B :: X) S := by
  have h : Own w (doms Xi) (doms ([] : List Atom)) w' [B] [] :=
    ⟨hk, fun A hA => by rw [List.mem_singleton.1 hA]; exact hB, (by intro A hA; cases hA), fun A hA => by rw [List.mem_singleton.1 hA]; exact hd, (by intro A hA; cases hA),
     List.pairwise_singleton .., (by intro A _ B hB; cases hB)⟩
  simpa using hS.post h (.inl rfl)

theorem Own.new (hS : Own w0 D R w X S) {B : Atom} (hk : Keeps (fun _ => False) w w') (hB : B.at w') (hd : ∀ b, B.dom b → w.heap.size ≤ b ∧ b < w'.heap.size) :
    Own w0 D R w' (B :: X) S :=
  Own.turn (Xi := []) (X := X) hS ⟨hk.os, hk.tape, hk.output, hk.size, fun b hb _ => hk.block b hb id⟩ hB fun b hb => ⟨.inr (hd b hb).1, (hd b hb).2⟩

theorem Own.turn1 {A B : Atom} (hS : Own w0 D R w (A :: X) S) (hk : Keeps A.dom w w') (hB : B.at w') (hd : ∀ b, B.dom b → (A.dom b ∨ w.heap.size ≤ b) ∧ b < w'.heap.size) :
    Own w0 D R w' (B :: X) S :=
  Own.turn (Xi := [A]) (X := X) hS ⟨hk.os, hk.tape, hk.output, hk.size, fun b hb hn => hk.block b hb fun h => hn (doms_one.2 h)⟩ hB fun b hb => ⟨(hd b hb).1.imp doms_one.2 id, (hd b hb).2⟩

/-- A draw. -/
theorem Own.drew (hS : Own w0 D R w X S) : Own w0 D R w.drew X S := ⟨⟨hS.keep.os, hS.keep.tape, hS.keep.output, hS.keep.size, hS.keep.block⟩, hS.xok, hS.sok, hS.xdom, hS.sdom, hS.xx, hS.xs⟩
end

end Go.Lift

/- Rows of values in memory that stand for plain lists: what append, make, an index, a slice, a load and a store do to them. -/
namespace Go.Lift
open Go

/-- How plain data lie in cells. -/
structure Enc (α : Type) where
  agg : Bool
  sz : Nat
  cs : α → List Value
  len : ∀ x, (cs x).length = sz
  one : agg = false → sz = 1
  leaf : ∀ x, ∀ u ∈ cs x, u.oneCell' = true
  /-- Are these bytes? -/
  b8 : Bool := false

def Enc.v {α : Type} (e : Enc α) (x : α) : Value := match e.agg with | true => .agg (e.cs x).toArray | false => (e.cs x).headD undef

theorem Enc.v_cells {α : Type} (e : Enc α) (x : α) : (e.v x).cells = (e.cs x).toArray := by
  unfold Enc.v
  cases h : e.agg with
  | true => rfl
  | false =>
    have h1 := e.len x
    rw [e.one h] at h1
    match hc : e.cs x, h1 with
    | [u], _ =>
      have := e.leaf x u (by simp [hc])
      cases u <;> first | rfl | (simp [Value.oneCell'] at this)

def Enc.int (k : IntKind) : Enc Int := ⟨false, 1, fun x => [.int k x], fun _ => rfl, fun _ => rfl, fun _ u hu => by simp at hu; subst hu; rfl, match k with | .u8 => true | _ => false⟩
def Enc.bool : Enc Bool := ⟨false, 1, fun x => [.bool x], fun _ => rfl, fun _ => rfl, fun _ u hu => by simp at hu; subst hu; rfl, false⟩
def Enc.str : Enc (List UInt8) := ⟨false, 1, fun x => [.string ⟨x.toArray⟩], fun _ => rfl, fun _ => rfl, fun _ u hu => by simp at hu; subst hu; rfl, false⟩

def flat {α : Type} (e : Enc α) (xs : List α) : List Value := xs.flatMap e.cs

section
variable {α : Type} {e : Enc α}
theorem flat_nil : flat e [] = [] := rfl
theorem flat_cons (x : α) (xs : List α) : flat e (x :: xs) = e.cs x ++ flat e xs := by simp [flat]
theorem flat_append (xs ys : List α) : flat e (xs ++ ys) = flat e xs ++ flat e ys := by simp [flat]
theorem flat_len (xs : List α) : (flat e xs).length = xs.length * e.sz := by
  induction xs with
  | nil => simp [flat]
  | cons x xs ih => rw [flat_cons, List.length_append, ih, e.len, List.length_cons, Nat.succ_mul]; omega
theorem flat_leaf (xs : List α) : ∀ u ∈ flat e xs, u.oneCell' = true := by
  intro u hu
  simp only [flat, List.mem_flatMap] at hu
  obtain ⟨x, _, hx⟩ := hu
  exact e.leaf x u hx
theorem flat_get (xs : List α) (i j : Nat) (hi : i < xs.length) (hj : j < e.sz) : (flat e xs)[i * e.sz + j]? = (e.cs xs[i])[j]? := by
  induction xs generalizing i with
  | nil => simp at hi
  | cons x xs ih =>
    rw [flat_cons]
    cases i with
    | zero => rw [List.getElem?_append_left (by rw [e.len]; omega)]; simp
    | succ i =>
      rw [List.getElem?_append_right (by rw [e.len, Nat.succ_mul]; omega), e.len]
      have : (i + 1) * e.sz + j - e.sz = i * e.sz + j := by rw [Nat.succ_mul]; omega
      rw [this, ih i (by simpa using hi)]
      simp
theorem flat_take (xs : List α) (k : Nat) : flat e (xs.take k) = (flat e xs).take (k * e.sz) := by
  induction xs generalizing k with
  | nil => simp [flat]
  | cons x xs ih =>
    cases k with
    | zero => simp [flat]
    | succ k =>
      rw [List.take_succ_cons, flat_cons, flat_cons, ih, List.take_append, e.len]
      have h1 : (k + 1) * e.sz - e.sz = k * e.sz := by rw [Nat.succ_mul]; omega
      have h2 : (e.cs x).take ((k + 1) * e.sz) = e.cs x := List.take_of_length_le (by rw [e.len, Nat.succ_mul]; omega)
      rw [h1, h2]
theorem flat_drop (xs : List α) (k : Nat) : flat e (xs.drop k) = (flat e xs).drop (k * e.sz) := by
  induction xs generalizing k with
  | nil => simp [flat]
  | cons x xs ih =>
    cases k with
    | zero => simp
    | succ k =>
      rw [List.drop_succ_cons, flat_cons, ih, List.drop_append, e.len]
      have h1 : (k + 1) * e.sz - e.sz = k * e.sz := by rw [Nat.succ_mul]; omega
      have h2 : (e.cs x).drop ((k + 1) * e.sz) = [] := List.drop_of_length_le (by rw [e.len, Nat.succ_mul]; omega)
      rw [h1, h2, List.nil_append]
theorem flat_set (xs : List α) (i : Nat) (y : α) (hi : i < xs.length) :
    flat e (xs.set i y) = (flat e xs).take (i * e.sz) ++ (e.cs y ++ (flat e xs).drop (i * e.sz + e.sz)) := by
  rw [List.set_eq_take_append_cons_drop, if_pos hi, flat_append, flat_cons, flat_take, flat_drop, Nat.succ_mul]
end

def cellAt (h : Hp) (a : Addr) : Option Value :=
  match h a.block with
  | some (.cells c _ _) => if a.spot.isSome then none else c[a.off]?
  | _ => none

theorem cellAt_look (w : World) (a : Addr) : cellAt (look w) a = w.cell? a := rfl
theorem cellAt_cut {D : Nat → Prop} {w : World} {a : Addr} {v : Value} (h : cellAt (cut D (look w)) a = some v) : D a.block ∧ w.cell? a = some v := by
  unfold cellAt at h
  split at h
  · rename_i c t f hc
    obtain ⟨h1, h2⟩ := cut_some hc
    refine ⟨h1, ?_⟩
    show cellAt (look w) a = some v
    unfold cellAt
    rw [h2]
    exact h
  · cases h

def blkOf (A : Option Addr) (b : Nat) : Prop := ∃ a, A = some a ∧ a.block = b

/-- A slice that reads as a list. -/
def SlR {α : Type} (w : World) (e : Enc α) (A : Option Addr) (xs : List α) : Prop :=
  (A = none ∧ xs = []) ∨ ∃ a, A = some a ∧ ∀ j u, (flat e xs)[j]? = some u → w.cell? (a.add j) = some u

def SlOk {α : Type} (e : Enc α) (A : Option Addr) (cap : Nat) (xs : List α) (h : Hp) : Prop :=
  xs.length ≤ cap ∧ ((A = none ∧ xs = []) ∨ ∃ a, A = some a ∧ ∀ j u, (flat e xs)[j]? = some u → cellAt h (a.add j) = some u)

/-- It is read alone; Rd: where it lies. -/
def slA {α : Type} (Rd : Nat → Prop) (e : Enc α) (A : Option Addr) (cap : Nat) (xs : List α) : Atom := ⟨Rd, SlOk e A cap xs⟩

/-- No place of so many is frozen. -/
def Fz (m : Nat × Nat) (n : Nat) : Prop := m.2 ≤ m.1 ∨ n ≤ m.1
theorem Fz.zero (n : Nat) : Fz (0, 0) n := .inl (Nat.le_refl _)
theorem Fz.len {m : Nat × Nat} {n n' : Nat} (h : Fz m n) (e : n' = n) : Fz m n' := e ▸ h
theorem Fz.no {m : Nat × Nat} {n i : Nat} (h : Fz m n) (hi : i < n) : (decide (m.1 ≤ i) && decide (i < m.2)) = false := by
  rcases h with h | h
  · by_cases h1 : m.1 ≤ i
    · rw [decide_eq_false (show ¬ i < m.2 by omega), Bool.and_false]
    · rw [decide_eq_false h1, Bool.false_and]
  · rw [decide_eq_false (show ¬ m.1 ≤ i by omega), Bool.false_and]

/-- The same for a row: only a row of bytes may be marked behind its end. -/
def FzE {α : Type} (e : Enc α) (m : Nat × Nat) (n : Nat) : Prop := m.2 ≤ m.1 ∨ (e.b8 = true ∧ n ≤ m.1)
theorem FzE.zero {α : Type} (e : Enc α) (n : Nat) : FzE e (0, 0) n := .inl (Nat.le_refl _)
theorem FzE.len {α : Type} {e : Enc α} {m : Nat × Nat} {n n' : Nat} (h : FzE e m n) (q : n' = n) : FzE e m n' := q ▸ h
theorem FzE.fz {α : Type} {e : Enc α} {m : Nat × Nat} {n : Nat} (h : FzE e m n) : Fz m n := h.imp id And.right

def RowOk {α : Type} (e : Enc α) (A : Option Addr) (cap : Nat) (xs : List α) (h : Hp) : Prop :=
  xs.length ≤ cap ∧ ((A = none ∧ cap = 0) ∨ ∃ b o t pre sp post, A = some ⟨b, o, none⟩ ∧ pre.length = o ∧ (flat e xs).length + sp.length = cap * e.sz ∧
    ∃ m, h b = some (.cells (pre ++ (flat e xs ++ (sp ++ post))).toArray t m) ∧ FzE e m (pre ++ (flat e xs ++ (sp ++ post))).length)

/-- It is the call's own. -/
def rowA {α : Type} (e : Enc α) (A : Option Addr) (cap : Nat) (xs : List α) : Atom := ⟨blkOf A, RowOk e A cap xs⟩

/-- A variable in memory. -/
def boxA (b : Nat) (cs : List Value) : Atom := ⟨fun x => x = b, fun h => ∃ t, h b = some (.cells cs.toArray t (0, 0))⟩

section
variable {P : Program} {w w' : World} {α : Type} {e : Enc α} {A B : Option Addr} {cap : Nat} {xs ys : List α} {Rd : Nat → Prop}

theorem SlR.of_sl (h : (slA Rd e A cap xs).at w) : SlR w e A xs := by
  rcases h.2 with h | ⟨a, ha, hc⟩
  · exact .inl h
  · exact .inr ⟨a, ha, fun j u hj => (cellAt_cut (hc j u hj)).2⟩

theorem row_facts (h : (rowA e A cap xs).at w) : xs.length ≤ cap ∧ ((A = none ∧ cap = 0) ∨ ∃ b o t pre sp post, A = some ⟨b, o, none⟩ ∧ pre.length = o ∧ (flat e xs).length + sp.length = cap * e.sz ∧
    ∃ m, w.heap[b]? = some (.cells (pre ++ (flat e xs ++ (sp ++ post))).toArray t m) ∧ FzE e m (pre ++ (flat e xs ++ (sp ++ post))).length) := by
  refine ⟨h.1, h.2.imp id ?_⟩
  rintro ⟨b, o, t, pre, sp, post, h1, h2, h3, mk, h4, hz⟩
  exact ⟨b, o, t, pre, sp, post, h1, h2, h3, mk, (cut_some h4).2, hz⟩

/-- Cells are stored where nothing is frozen. -/
theorem run_storeCells_fz (P : Program) (g o : Nat) (t : TypeId) (m : Nat × Nat) : ∀ (vs : List Value) (i : Nat) (cur : Array Value) (w : World), w.heap[g]? = some (.cells cur t m) → Fz m cur.size → o + i + vs.length ≤ cur.size → (∀ v ∈ vs, v.oneCell' = true) →
    (storeCells ⟨g, o, none⟩ vs i).run P w = .ok () (w.setRow g (cur.toList.take (o + i) ++ vs ++ cur.toList.drop (o + i + vs.length)).toArray)
  | [], i, cur, w, hg, _, _, _ => by
    simp only [storeCells, List.append_nil, List.length_nil, Nat.add_zero, List.take_append_drop, Array.toArray_toList]
    rw [setRow_self w g cur t m hg]; rfl
  | v :: vs, i, cur, w, hg, hz, hl, h1 => by
    have hi : o + i < cur.size := by simp at hl; omega
    have hstore : (store ((⟨g, o, none⟩ : Addr).add i) v).run P w = .ok () (w.setRow g (cur.setIfInBounds (o + i) v)) := by
      have hc : w.cell? ⟨g, o + i, none⟩ = some cur[o + i] := by simp [World.cell?, hg, hi]
      have hf : w.frozen? ⟨g, o + i, none⟩ = false := by
        unfold World.frozen?
        simp only [hg]
        exact hz.no hi
      rw [Addr.add_lit, run_store P w _ v _ (h1 v (List.mem_cons_self ..)), hc]
      simp [hf, setCell_eq_setRow w g (o + i) cur t m v hg]
    have next := run_storeCells_fz P g o t m vs (i + 1) (cur.setIfInBounds (o + i) v) (w.setRow g (cur.setIfInBounds (o + i) v)) (setRow_heap w g cur _ t _ hg) (by simpa using hz) (by simp at hl ⊢; omega) (fun u hu => h1 u (List.mem_cons_of_mem _ hu))
    simp only [storeCells, Sem.run_bind, hstore, Result.andThen_ok, next, setRow_setRow]
    congr 3
    have e := list_seg_step cur.toList (o + i) v vs (by simp at hl ⊢; omega)
    simpa [Array.toList_setIfInBounds, Nat.add_assoc] using e

theorem row_mk (hl : xs.length ≤ cap) {b o t : Nat} {pre sp post : List Value} (h2 : pre.length = o) (h3 : (flat e xs).length + sp.length = cap * e.sz)
    (h4 : w.heap[b]? = some (.cells (pre ++ (flat e xs ++ (sp ++ post))).toArray t (0, 0))) : (rowA e (some ⟨b, o, none⟩) cap xs).at w :=
  ⟨hl, .inr ⟨b, o, t, pre, sp, post, rfl, h2, h3, (0, 0), by rw [show cut (rowA e (some ⟨b, o, none⟩) cap xs).dom (look w) b = look w b from cut_pos ⟨_, rfl, rfl⟩]; exact h4, FzE.zero _ _⟩⟩

theorem row_mk' (hl : xs.length ≤ cap) {b o t : Nat} {m : Nat × Nat} {pre sp post : List Value} (h2 : pre.length = o) (h3 : (flat e xs).length + sp.length = cap * e.sz)
    (hz : FzE e m (pre ++ (flat e xs ++ (sp ++ post))).length) (h4 : w.heap[b]? = some (.cells (pre ++ (flat e xs ++ (sp ++ post))).toArray t m)) : (rowA e (some ⟨b, o, none⟩) cap xs).at w :=
  ⟨hl, .inr ⟨b, o, t, pre, sp, post, rfl, h2, h3, m, by rw [show cut (rowA e (some ⟨b, o, none⟩) cap xs).dom (look w) b = look w b from cut_pos ⟨_, rfl, rfl⟩]; exact h4, hz⟩⟩

theorem row_nil (e : Enc α) (w : World) : (rowA e none 0 ([] : List α)).at w := ⟨Nat.le_refl _, .inl ⟨rfl, rfl⟩⟩

theorem row_none (h : (rowA e none cap xs).at w) : xs = [] ∧ cap = 0 := by
  obtain ⟨h1, h2⟩ := row_facts h
  rcases h2 with ⟨_, h2⟩ | ⟨b, o, t, pre, sp, post, h2, _⟩
  · exact ⟨List.eq_nil_of_length_eq_zero (by omega), h2⟩
  · cases h2

theorem cell_row {b o t : Nat} {m : Nat × Nat} {pre cs rest : List Value} (hp : pre.length = o) (hb : w.heap[b]? = some (.cells (pre ++ (cs ++ rest)).toArray t m)) (j : Nat) (u : Value) (hj : cs[j]? = some u) :
    w.cell? ((⟨b, o, none⟩ : Addr).add j) = some u := by
  rw [Addr.add_lit, cell_of_row w b (o + j) _ t m hb]
  have hlt : j < cs.length := (List.getElem?_eq_some_iff.1 hj).1
  rw [List.getElem?_toArray, List.getElem?_append_right (by omega), List.getElem?_append_left (by omega)]
  rw [show o + j - pre.length = j by omega]
  exact hj

theorem SlR.of_row (h : (rowA e A cap xs).at w) : SlR w e A xs := by
  obtain ⟨hl, h⟩ := row_facts h
  rcases h with ⟨h1, h2⟩ | ⟨b, o, t, pre, sp, post, h1, h2, _, mk, h4, _⟩
  · exact .inl ⟨h1, List.eq_nil_of_length_eq_zero (by omega)⟩
  · exact .inr ⟨_, h1, fun j u hj => cell_row h2 h4 j u hj⟩

/-- The call's own, lent to be read. -/
theorem sl_of_row (h : (rowA e A cap xs).at w) : (slA (blkOf A) e A cap xs).at w := by
  obtain ⟨hl, h'⟩ := row_facts h
  refine ⟨hl, ?_⟩
  rcases h' with ⟨h1, h2⟩ | ⟨b, o, t, pre, sp, post, h1, h2, _, mk, h4, _⟩
  · exact .inl ⟨h1, List.eq_nil_of_length_eq_zero (by omega)⟩
  · refine .inr ⟨_, h1, fun j u hj => ?_⟩
    have := cell_row h2 h4 j u hj
    have hb : (blkOf A) ((⟨b, o, none⟩ : Addr).add j).block := ⟨_, h1, by rw [Addr.add_lit]⟩
    unfold cellAt
    rw [show (slA (blkOf A) e A cap xs).dom = blkOf A from rfl, cut_pos hb]
    exact this

theorem sl_nil (Rd : Nat → Prop) (e : Enc α) (cap : Nat) (w : World) : (slA Rd e none cap ([] : List α)).at w := ⟨Nat.zero_le _, .inl ⟨rfl, rfl⟩⟩

theorem SlR.first (h : SlR w e A xs) : (Builtin.firstCells e.sz xs.length (.slice A xs.length cap)).run P w = .ok (flat e xs).toArray w := by
  rcases h with ⟨rfl, rfl⟩ | ⟨a, rfl, hc⟩
  · exact run_firstCells_none (P := P) (w := w) _ _ _ _
  · exact run_firstCells_some (P := P) w _ _ a _ _ _ (flat_len xs) hc

/-- What the second operand of append or copy gives. -/
structure Src (P : Program) (w : World) (T : TypeId) (x : Value) (e : Enc α) (ys : List α) : Prop where
  ty : (∃ E, P.underlying T = some (.slice E)) ∨ P.underlying T = some .string
  lenOf : (Builtin.lenOf x).run P w = .ok ys.length w
  cells : ∀ w', w'.heap = w.heap → (Builtin.firstCells e.sz ys.length x).run P w' = .ok (flat e ys).toArray w'

theorem SlR.src {T E : TypeId} (hT : P.underlying T = some (.slice E)) (h : SlR w e A xs) : Src P w T (.slice A xs.length cap) e xs where
  ty := .inl ⟨_, hT⟩
  lenOf := rfl
  cells w' hw := SlR.first (by
    rcases h with h | ⟨a, ha, hc⟩
    · exact .inl h
    · exact .inr ⟨a, ha, fun j u hj => by have := hc j u hj; unfold World.cell? at *; rw [hw]; exact this⟩)

/-- What the program's table says of an element's type. -/
structure ElTy (P : Program) (E : TypeId) {α : Type} (e : Enc α) (bytes : Nat) : Prop where
  info : ∃ i z, P.info? E = some i ∧ i.zero = some z ∧ i.size = e.sz ∧ i.bytes = bytes ∧ z.cells.size = e.sz
  agg : ∀ w, (isAgg E).run P w = .ok e.agg w

theorem ElTy.mk' {E : TypeId} {z : Value} {bytes : Nat} (h : (P.info? E).map (fun i => (i.zero, i.size, i.bytes)) = some (some z, e.sz, bytes)) (hz : z.cells.size = e.sz)
    (ha : pev P (isAgg E) = some e.agg) : ElTy P E e bytes :=
  ⟨by obtain ⟨i, h1, h2, h3, h4⟩ := info_parts h; exact ⟨i, z, h1, h2, h3, h4, hz⟩, fun w => pev_run _ _ ha w⟩

theorem keeps_alloc (w : World) (o : Obj) (M : Nat → Prop) : Keeps M w (w.drew.alloc o) :=
  ⟨rfl, rfl, rfl, by simp, fun b hb _ => by show (w.heap.push o)[b]? = _; rw [Array.getElem?_push, if_neg (by omega)]⟩
theorem keeps_alloc' (w : World) (o : Obj) (M : Nat → Prop) : Keeps M w (w.alloc o) :=
  ⟨rfl, rfl, rfl, by simp, fun b hb _ => by show (w.heap.push o)[b]? = _; rw [Array.getElem?_push, if_neg (by omega)]⟩

theorem run_append {T T' ty E : TypeId} {bytes : Nat} (hT : P.underlying T = some (.slice E)) (el : ElTy P E e bytes) {y : Value}
    (hrow : (rowA e A cap xs).at w) (hy : Src P w T' y e ys) (h63 : xs.length + ys.length ≤ maxLen) (hb : (xs.length + ys.length) * bytes ≤ 140737488355328) :
    ∃ A' cap' w', (Builtin.append_ #[T, T'] ty #[.slice A xs.length cap, y]).run P w = .ok (.slice A' (xs ++ ys).length cap') w' ∧ (rowA e A' cap' (xs ++ ys)).at w' ∧
      Keeps (blkOf A) w w' ∧ ∀ b, blkOf A' b → (blkOf A b ∨ w.heap.size ≤ b) ∧ b < w'.heap.size := by
  obtain ⟨⟨i, z, hi, hz, hsz, hby, hzs⟩, _⟩ := el
  obtain ⟨hd, hlen, hcells⟩ := hy
  have hsmall : xs.length + ys.length ≤ 9223372036854775807 := by simp only [maxLen] at h63; omega
  have hln : (xs ++ ys).length = xs.length + ys.length := List.length_append
  have old : ∀ A, SlR w e A xs → (Builtin.firstCells e.sz xs.length (.slice A xs.length cap)).run P w.drew = .ok (flat e xs).toArray w.drew := fun A h => SlR.first (by exact h)
  have hf : (Builtin.firstCells e.sz ys.length y).run P w.drew = .ok (flat e ys).toArray w.drew := hcells _ rfl
  have grow : cap < xs.length + ys.length → ∃ A' cap' w', (Builtin.append_ #[T, T'] ty #[.slice A xs.length cap, y]).run P w = .ok (.slice A' (xs ++ ys).length cap') w' ∧ (rowA e A' cap' (xs ++ ys)).at w' ∧
      Keeps (blkOf A) w w' ∧ ∀ b, blkOf A' b → (blkOf A b ∨ w.heap.size ≤ b) ∧ b < w'.heap.size := by
    intro hcap
    have hfit := growslice_fits hcap hb
    have hge := grownCap_ge w (xs.length + ys.length) cap E
    refine ⟨some ⟨w.heap.size, 0, none⟩, grownCap w (xs.length + ys.length) cap E, w.drew.alloc (.cells ((flat e xs).toArray ++ (flat e ys).toArray ++ Builtin.zeroCells z.cells (grownCap w (xs.length + ys.length) cap E - (xs.length + ys.length))) E), ?_, ?_, ?_, ?_⟩
    · have hn : ¬ (xs.length + ys.length ≤ cap) := by omega
      have h63' : ¬ (9223372036854775807 < ((xs.length : Int) + (ys.length : Int))) := by omega
      have h48' : ¬ (281474976710656 < Builtin.nextslicecap (xs.length + ys.length) cap * i.bytes) := by rw [hby]; omega
      have hfo := old A (SlR.of_row hrow)
      rw [← hsz] at hfo hf
      rcases hd with ⟨E', hd⟩ | hd <;>
        simp [Builtin.append_, run_underlying hT, run_underlying hd, sizeOf, typeInfo, zeroValue, hi, hz, hn, h63', h48', Question.forced, hf, hfo, newRow, grownCap, hlen] <;>
        (congr 2; apply Array.ext'; simp [List.append_assoc])
    · have e1 : ((flat e xs).toArray ++ (flat e ys).toArray ++ Builtin.zeroCells z.cells (grownCap w (xs.length + ys.length) cap E - (xs.length + ys.length)))
          = ([] ++ (flat e (xs ++ ys) ++ ((Builtin.zeroCells z.cells (grownCap w (xs.length + ys.length) cap E - (xs.length + ys.length))).toList ++ []))).toArray := by
        apply Array.toList_inj.1; simp [flat_append, List.append_assoc]
      rw [e1]
      refine row_mk (by omega) (pre := []) (sp := (Builtin.zeroCells z.cells (grownCap w (xs.length + ys.length) cap E - (xs.length + ys.length))).toList) (post := []) (t := E) rfl ?_ (heap_alloc_new w.drew _)
      have e2 : (Builtin.zeroCells z.cells (grownCap w (xs.length + ys.length) cap E - (xs.length + ys.length))).toList.length = (grownCap w (xs.length + ys.length) cap E - (xs.length + ys.length)) * e.sz := by
        rw [Array.length_toList, size_zeroCells, hzs]
      rw [e2, flat_len, hln, ← Nat.add_mul]
      congr 1
      omega
    · exact keeps_alloc w _ _
    · rintro b ⟨a, ha, rfl⟩
      injection ha with ha
      subst ha
      exact ⟨.inr (Nat.le_refl _), by simp⟩
  by_cases hcap : xs.length + ys.length ≤ cap
  · obtain ⟨hl, h'⟩ := row_facts hrow
    rcases h' with ⟨rfl, rfl⟩ | ⟨b, o, t, pre, sp, post, rfl, h2, h3, mk, h4, hz⟩
    · have hxs : xs = [] := List.eq_nil_of_length_eq_zero (by omega)
      have hys : ys = [] := List.eq_nil_of_length_eq_zero (by omega)
      subst hxs; subst hys
      refine ⟨none, 0, w, ?_, row_nil e w, Keeps.refl _ _, fun b hb => ?_⟩
      · have hf' : (Builtin.firstCells e.sz 0 y).run P w = .ok (flat e ([] : List α)).toArray w := hcells _ rfl
        rw [← hsz] at hf'
        rcases hd with ⟨E', hd⟩ | hd <;>
          simp [Builtin.append_, run_underlying hT, run_underlying hd, sizeOf, typeInfo, hi, hlen, hf']
      · obtain ⟨a, ha, _⟩ := hb; cases ha
    · have hlf : (flat e ys).length ≤ sp.length := by
        rw [flat_len] at *
        have := Nat.mul_le_mul_right e.sz hcap
        rw [Nat.add_mul] at this
        omega
      have hf' : (Builtin.firstCells e.sz ys.length y).run P w = .ok (flat e ys).toArray w := hcells _ rfl
      have hst := run_storeCells_fz P b (o + xs.length * e.sz) t mk (flat e ys) 0 _ w h4 (by simpa using hz.fz) (by
        have hx : (flat e xs).length = xs.length * e.sz := flat_len xs
        simp only [List.size_toArray, List.length_append]
        omega) (flat_leaf ys)
      simp only [Nat.add_zero] at hst
      have hw : (pre ++ (flat e xs ++ (sp ++ post))).take (o + xs.length * e.sz) ++ flat e ys ++ (pre ++ (flat e xs ++ (sp ++ post))).drop (o + xs.length * e.sz + (flat e ys).length)
          = pre ++ (flat e (xs ++ ys) ++ (sp.drop (flat e ys).length ++ post)) := by
        have e1 : o + xs.length * e.sz = (pre ++ flat e xs).length := by rw [List.length_append, flat_len, h2]
        have e0 : pre ++ (flat e xs ++ (sp ++ post)) = (pre ++ flat e xs) ++ (sp ++ post) := by simp
        rw [e0, e1, List.take_left, ← List.drop_drop, List.drop_left, List.drop_append_of_le_length hlf, flat_append]
        simp
      refine ⟨some ⟨b, o, none⟩, cap, w.setRow b (pre ++ (flat e (xs ++ ys) ++ (sp.drop (flat e ys).length ++ post))).toArray, ?_, ?_, ?_, ?_⟩
      · rw [hw] at hst
        rcases hd with ⟨E', hd⟩ | hd <;>
          simp [Builtin.append_, run_underlying hT, run_underlying hd, sizeOf, typeInfo, hi, hlen, hcap, hf', hsz, Addr.add_lit, hst]
      · refine row_mk' (by omega) h2 (sp := sp.drop (flat e ys).length) (post := post) (t := t) ?_ (hz.len ?_) (setRow_heap w b _ _ t _ h4)
        · rw [List.length_drop, flat_append, List.length_append]
          omega
        · simp only [List.length_append, List.length_drop, flat_append]
          omega
      · exact ⟨rfl, rfl, rfl, by simp, fun k _ hk => setRow_other w b k _ fun e => hk ⟨_, rfl, e.symm⟩⟩
      · rintro k ⟨a, ha, rfl⟩
        injection ha with ha
        subst ha
        exact ⟨.inl ⟨_, rfl, rfl⟩, by simpa using (Array.getElem?_eq_some_iff.1 h4).1⟩
  · exact grow (by omega)
end
end Go.Lift

/- One operation each: what it does to the frame and to the pieces of memory. -/
namespace Go.Lift
open Go
set_option linter.unusedVariables false

section
variable {P : Program} {ops : Array Oper} {Q : Exit → Act → World → Prop} {w : World} {o : Oper} {os : List Oper} {l : List Value}

/-- A call of a function with a body. -/
theorem s_call (f : FuncId) (args : Array Value) (hw : Region.wanted o (yielded ops l.toArray) = true) (hp : pev P (execOp (Fr l).eval o) = some (.enter f args))
    (K : Calls P f args w fun e w' => ∃ v, e = .returned v ∧ WL P ops Q os (Fr (dstSet o.dst l v)) w') : WL P ops Q (o :: os) (Fr l) w :=
  step_run hw (pev_run _ _ hp w) (by
    simp only [Oper.upon]
    refine K.mono fun e w' he => ?_
    obtain ⟨v, rfl, h⟩ := he
    show wpList P ops Q os ((Fr l).put o.dst v) w'
    rw [Fr.put_dst]
    exact h.out)

/-- The same frame, otherwise spelled. -/
theorem fr_eq (l2 l1 : List Value) {l0 : List Value} (h1 : l0 = l1) (h2 : l2 = l1) (K : WL P ops Q os (Fr l2) w) : WL P ops Q os (Fr l0) w := by
  subst h1; subst h2; exact K

/-! ### Slices -/

variable {α : Type} {e : Enc α} {A : Option Addr} {cap : Nat} {xs ys : List α} {w0 : World} {D R : Nat → Prop} {X S : List Atom}

theorem s_append (s x : Operand) (T T' E : TypeId) (bytes : Nat) (y : Value) (ho : o.op = .call { callee := .builtin .append, args := #[s, x], argTypes := #[T, T'] })
    (hT : P.underlying T = some (.slice E)) (el : ElTy P E e bytes) (hs : (Fr l).eval s = .slice A xs.length cap) (hx : (Fr l).eval x = y)
    (hw : Region.wanted o (yielded ops l.toArray) = true) (hS : Own w0 D R w (rowA e A cap xs :: X) S) (hy : Src P w T' y e ys)
    (hb : (xs.length + ys.length) * bytes ≤ 140737488355328) (h63 : xs.length + ys.length ≤ maxLen)
    (K : ∀ A' cap' w', Own w0 D R w' (rowA e A' cap' (xs ++ ys) :: X) S → WL P ops Q os (Fr (dstSet o.dst l (.slice A' (xs ++ ys).length cap'))) w') :
    WL P ops Q (o :: os) (Fr l) w := by
  obtain ⟨A', cap', w', hr, hrow, hk, hd⟩ := run_append (T' := T') (ty := o.type) hT el hS.x0 hy h63 hb
  refine step_val hw ?_ (K A' cap' w' (hS.turn1 hk hrow hd))
  unfold execOp
  simp only [ho, resolve, invoke, builtin, Sem.run_bind, Sem.run_pure, Result.andThen_ok, List.map_toArray, List.map_cons, List.map_nil, hs, hx, hr]

/-- A slice written out. -/
theorem run_buildSlice {T E : TypeId} {n bytes : Nat} {parts : Array (Nat × Value)} {i : TypeInfo} {z : Value} (hT : P.underlying T = some (.slice E)) (hi : P.info? E = some i) (hz : i.zero = some z)
    (hn : n * i.size ≤ 16777216) {cs : Array Value}
    (hf : Instr.fill (fun j => some (j * i.size, i.size)) ((Array.range (n * i.size)).map ((if n * i.size = 0 then #[] else z.cells)[· % (if n * i.size = 0 then #[] else z.cells).size]!)) parts.toList = some cs) :
    (Instr.buildSlice T n parts).run P w = .ok (.slice (some ⟨w.heap.size, 0, none⟩) n n) (w.alloc (.cells cs E)) := by
  have h24 : ¬ (2 ^ 24 < n * i.size) := by omega
  by_cases h0 : n * i.size = 0
  · simp [h0] at hf
    simp [Instr.buildSlice, run_underlying hT, sizeOf, typeInfo, hi, h0, hf, newRow]
  · simp only [h0, if_false] at hf
    simp [Instr.buildSlice, run_underlying hT, sizeOf, typeInfo, zeroValue, hi, hz, h0, hf, newRow, h24]

theorem s_lit (T E : TypeId) (bytes n : Nat) (ps : Array (Nat × Operand)) (xs : List α) (z : Value) (ho : o.op = .buildSlice T n ps) (hT : P.underlying T = some (.slice E))
    (hinfo : (P.info? E).map (fun i => (i.zero, i.size, i.bytes)) = some (some z, e.sz, bytes))
    (hn : n * e.sz ≤ 16777216) (hxs : xs.length = n)
    (hw : Region.wanted o (yielded ops l.toArray) = true)
    (hf : Instr.fill (fun j => some (j * e.sz, e.sz)) ((Array.range (n * e.sz)).map ((if n * e.sz = 0 then #[] else z.cells)[· % (if n * e.sz = 0 then #[] else z.cells).size]!)) (ps.map fun (i, x) => (i, (Fr l).eval x)).toList = some (flat e xs).toArray)
    (hS : Own w0 D R w X S)
    (K : ∀ A' cap' w', Own w0 D R w' (rowA e A' cap' xs :: X) S → WL P ops Q os (Fr (dstSet o.dst l (.slice A' xs.length cap'))) w') :
    WL P ops Q (o :: os) (Fr l) w := by
  obtain ⟨i, hi, hz, hsz, hby⟩ := info_parts hinfo
  have hr := run_buildSlice (P := P) (w := w) (T := T) (E := E) (n := n) (bytes := bytes) (parts := ps.map fun (i, x) => (i, (Fr l).eval x)) (cs := (flat e xs).toArray) hT hi hz (by rw [hsz]; exact hn) (by rw [hsz]; exact hf)
  subst hxs
  refine step_val hw ?_ (K (some ⟨w.heap.size, 0, none⟩) xs.length (w.alloc (.cells (flat e xs).toArray E)) (hS.new (keeps_alloc' _ _ _) ?_ ?_))
  · unfold execOp
    simp only [ho, Sem.run_bind, Sem.run_pure, Result.andThen_ok, hr]
  · have := row_mk (w := w.alloc (.cells (flat e xs).toArray E)) (e := e) (xs := xs) (cap := xs.length) (b := w.heap.size) (o := 0) (t := E) (pre := []) (sp := []) (post := []) (Nat.le_refl _) rfl (by rw [flat_len]; simp) (by simpa using heap_alloc_new w _)
    exact this
  · rintro b ⟨a, ha, rfl⟩
    injection ha with ha
    subst ha
    exact ⟨Nat.le_refl _, by simp⟩

/-- Room for so many elements. -/
def room (bytes n : Nat) : Option Unit := if n * bytes ≤ 140737488355328 ∧ n ≤ maxLen then some () else none
theorem room_some {bytes n : Nat} {u : Unit} (h : room bytes n = some u) : n * bytes ≤ 140737488355328 ∧ n ≤ maxLen := by
  unfold room at h
  split at h
  · assumption
  · cases h

theorem then_normal {J : Act → World → Prop} {a : Act} (h : J a w) : Exit.then J Q .normal a w := h
theorem then_exit {J : Act → World → Prop} {a : Act} {i : Nat} (h : Q (.exit i) a w) : Exit.then J Q (.exit i) a w := h
theorem then_ret {J : Act → World → Prop} {a : Act} (h : Q .ret a w) : Exit.then J Q .ret a w := h
theorem in_normal {a : Act} {i : Nat} (h : Q .normal a w) : Exit.inBlock i Q .normal a w := h
theorem in_ret {a : Act} {i : Nat} (h : Q .ret a w) : Exit.inBlock i Q .ret a w := h
theorem in_exit_eq {a : Act} {i : Nat} (h : Q .normal a w) : Exit.inBlock i Q (.exit i) a w := by simpa [Exit.inBlock] using h
theorem in_exit_ne {a : Act} {i j : Nat} (hn : j ≠ i) (h : Q (.exit j) a w) : Exit.inBlock i Q (.exit j) a w := by simpa [Exit.inBlock, hn] using h

/-! ### Numbers -/

def band (k : IntKind) (a b : Int) : Int := k.wrap ((BitVec.ofInt k.bits a &&& BitVec.ofInt k.bits b).toNat)
def bor (k : IntKind) (a b : Int) : Int := k.wrap ((BitVec.ofInt k.bits a ||| BitVec.ofInt k.bits b).toNat)
def bxor (k : IntKind) (a b : Int) : Int := k.wrap ((BitVec.ofInt k.bits a ^^^ BitVec.ofInt k.bits b).toNat)
def bandNot (k : IntKind) (a b : Int) : Int := k.wrap ((BitVec.ofInt k.bits a &&& ~~~ BitVec.ofInt k.bits b).toNat)

def gshl (k : IntKind) (x y : Int) : Option Int := if y < 0 then none else some (k.wrap (x * 2 ^ (min y.toNat k.bits)))
def gshr (k : IntKind) (x y : Int) : Option Int := if y < 0 then none else some (x.fdiv (2 ^ (min y.toNat k.bits)))
def gquo (k : IntKind) (x y : Int) : Option Int := if y = 0 then none else some (k.wrap (x.tdiv y))
def grem (_k : IntKind) (x y : Int) : Option Int := if y = 0 then none else some (x.tmod y)

theorem s_gshl (x y : Operand) (t : TypeId) {t' : TypeId} (k k' : IntKind) (a b : Int) {z : Int} (ho : o.op = .binOp .shl t x y t') (hx : (Fr l).eval x = .int k a) (hy : (Fr l).eval y = .int k' b)
    (hw : Region.wanted o (yielded ops l.toArray) = true) (hz : gshl k a b = some z) (K : WL P ops Q os (Fr (dstSet o.dst l (.int k z))) w) : WL P ops Q (o :: os) (Fr l) w := by
  unfold gshl at hz
  split at hz
  · cases hz
  · rename_i hb
    injection hz with hz
    subst hz
    refine step_val hw ?_ K
    unfold execOp
    simp [ho, hx, hy, eqGuard_shl, binOp, Op.shift, hb]
theorem s_gshr (x y : Operand) (t : TypeId) {t' : TypeId} (k k' : IntKind) (a b : Int) {z : Int} (ho : o.op = .binOp .shr t x y t') (hx : (Fr l).eval x = .int k a) (hy : (Fr l).eval y = .int k' b)
    (hw : Region.wanted o (yielded ops l.toArray) = true) (hz : gshr k a b = some z) (K : WL P ops Q os (Fr (dstSet o.dst l (.int k z))) w) : WL P ops Q (o :: os) (Fr l) w := by
  unfold gshr at hz
  split at hz
  · cases hz
  · rename_i hb
    injection hz with hz
    subst hz
    refine step_val hw ?_ K
    unfold execOp
    simp [ho, hx, hy, eqGuard_shr, binOp, Op.shift, hb]
theorem s_gquo (x y : Operand) (t : TypeId) {t' : TypeId} (k k' : IntKind) (a b : Int) {z : Int} (ho : o.op = .binOp .quo t x y t') (hx : (Fr l).eval x = .int k a) (hy : (Fr l).eval y = .int k b)
    (hw : Region.wanted o (yielded ops l.toArray) = true) (hz : gquo k a b = some z) (K : WL P ops Q os (Fr (dstSet o.dst l (.int k z))) w) : WL P ops Q (o :: os) (Fr l) w := by
  unfold gquo at hz
  split at hz
  · cases hz
  · rename_i hb
    injection hz with hz
    subst hz
    refine step_val hw ?_ K
    unfold execOp
    simp [ho, hx, hy, eqGuard_quo, binOp, Op.intDiv, hb]
theorem s_grem (x y : Operand) (t : TypeId) {t' : TypeId} (k k' : IntKind) (a b : Int) {z : Int} (ho : o.op = .binOp .rem t x y t') (hx : (Fr l).eval x = .int k a) (hy : (Fr l).eval y = .int k b)
    (hw : Region.wanted o (yielded ops l.toArray) = true) (hz : grem k a b = some z) (K : WL P ops Q os (Fr (dstSet o.dst l (.int k z))) w) : WL P ops Q (o :: os) (Fr l) w := by
  unfold grem at hz
  split at hz
  · cases hz
  · rename_i hb
    injection hz with hz
    subst hz
    refine step_val hw ?_ K
    unfold execOp
    simp [ho, hx, hy, eqGuard_rem, binOp, Op.intDiv, hb]

/-- An element's place. -/
def ElP (A : Option Addr) (sz k : Nat) (p : Addr) : Prop := ∃ a, A = some a ∧ p = a.add (k * sz)

/-- What an index reads; none: out of range. -/
def ix {β : Type} (xs : List β) (i : Int) : Option β := if 0 ≤ i then xs[i.toNat]? else none
/-- What a store leaves. -/
def up {β : Type} (xs : List β) (i : Int) (y : β) : Option (List β) := if 0 ≤ i ∧ i.toNat < xs.length then some (xs.set i.toNat y) else none

theorem ix_some {β : Type} {xs : List β} {i : Int} {y : β} (h : ix xs i = some y) : 0 ≤ i ∧ i < xs.length ∧ xs[i.toNat]? = some y := by
  unfold ix at h
  split at h
  · rename_i h0
    have := (List.getElem?_eq_some_iff.1 h).1
    exact ⟨h0, by omega, h⟩
  · cases h
theorem up_some {β : Type} {xs zs : List β} {i : Int} {y : β} (h : up xs i y = some zs) : 0 ≤ i ∧ i < xs.length ∧ zs = xs.set i.toNat y := by
  unfold up at h
  split at h
  · rename_i h0
    injection h with h
    exact ⟨h0.1, by omega, h.symm⟩
  · cases h

theorem SlR.some_of_pos (h : SlR w e A xs) (hp : 0 < xs.length) : ∃ a, A = some a ∧ ∀ j u, (flat e xs)[j]? = some u → w.cell? (a.add j) = some u := by
  rcases h with ⟨_, rfl⟩ | h
  · simp at hp
  · exact h

theorem s_index (x iop : Operand) (T E : TypeId) (bytes : Nat) (k : IntKind) (i : Int) (ho : o.op = .indexAddr T x iop) (hT : P.underlying T = some (.slice E)) (el : ElTy P E e bytes)
    (hx : (Fr l).eval x = .slice A xs.length cap) (hi : (Fr l).eval iop = .int k i)
    (hw : Region.wanted o (yielded ops l.toArray) = true) (hr : SlR w e A xs) (h0 : 0 ≤ i) (h1 : i < xs.length)
    (K : ∀ p, ElP A e.sz i.toNat p → WL P ops Q os (Fr (dstSet o.dst l (.pointer (some p)))) w) :
    WL P ops Q (o :: os) (Fr l) w := by
  obtain ⟨a, rfl, hc⟩ := hr.some_of_pos (by omega)
  obtain ⟨⟨inf, z, hinf, hz, hsz, hby, hzs⟩, _⟩ := el
  refine step_val hw ?_ (K (a.add (i.toNat * e.sz)) ⟨a, rfl, rfl⟩)
  unfold execOp
  have hin : 0 ≤ i ∧ i < (xs.length : Int) := ⟨h0, h1⟩
  simp [ho, hx, hi, Instr.indexAt, asIntOf, run_underlying hT, hin, sizeOf, typeInfo, hinf, hsz]

theorem add_add (a : Addr) (m n : Nat) : (a.add m).add n = a.add (m + n) := by
  unfold Addr.add
  by_cases hm : m = 0
  · subst hm; simp
  · by_cases hn : n = 0
    · subst hn; simp [hm]
    · simp [hm, hn, Nat.add_assoc]

/-- A value read at an address where its cells stand. -/
theorem run_loadVar_enc {E : TypeId} {bytes : Nat} (el : ElTy P E e bytes) (a : Addr) (y : α) (hc : ∀ j u, (e.cs y)[j]? = some u → w.cell? (a.add j) = some u) :
    (loadVar E a).run P w = .ok (e.v y) w := by
  obtain ⟨⟨i, z, hi, hz, hsz, hby, hzs⟩, hagg⟩ := el
  unfold loadVar
  simp only [Sem.run_bind, hagg w, Result.andThen_ok]
  unfold Enc.v
  cases h : e.agg with
  | true =>
    have hl := run_loadCells_list (P := P) (w := w) a (e.cs y) hc
    simp only [e.len] at hl
    simp [sizeOf, typeInfo, hi, hsz, hl]
  | false =>
    have h1 := e.len y
    rw [e.one h] at h1
    match hcs : e.cs y, h1 with
    | [u], _ =>
      have := hc 0 u (by rw [hcs]; rfl)
      rw [Addr.add_zero'] at this
      simp [this]

theorem s_load_el (x : Operand) (E : TypeId) (bytes : Nat) (p : Addr) (k : Nat) (y : α) (ho : o.op = .load E x) (el : ElTy P E e bytes) (hx : (Fr l).eval x = .pointer (some p))
    (hw : Region.wanted o (yielded ops l.toArray) = true) (hp : ElP A e.sz k p) (hr : SlR w e A xs) (hy : xs[k]? = some y)
    (K : WL P ops Q os (Fr (dstSet o.dst l (e.v y))) w) : WL P ops Q (o :: os) (Fr l) w := by
  obtain ⟨a, rfl, rfl⟩ := hp
  have hk : k < xs.length := (List.getElem?_eq_some_iff.1 hy).1
  have hyk : xs[k] = y := (List.getElem?_eq_some_iff.1 hy).2
  obtain ⟨a', ha, hc⟩ := hr.some_of_pos (by omega)
  injection ha with ha
  subst ha
  have hld := run_loadVar_enc (P := P) (w := w) el (a.add (k * e.sz)) y (fun j u hj => by
    rw [add_add]
    refine hc _ u ?_
    have hjl : j < e.sz := by rw [← e.len y]; exact (List.getElem?_eq_some_iff.1 hj).1
    rw [flat_get xs k j hk hjl, hyk]
    exact hj)
  refine step_val hw ?_ K
  unfold execOp
  simp [ho, hx, Instr.loadAt, Instr.sureAddr, hld]


theorem mid_set {pre cs rest new : List Value} (k : Nat) (hk : k + new.length ≤ cs.length) :
    (pre ++ (cs ++ rest)).take (pre.length + k) ++ new ++ (pre ++ (cs ++ rest)).drop (pre.length + k + new.length) = pre ++ ((cs.take k ++ (new ++ cs.drop (k + new.length))) ++ rest) := by
  have e1 : (pre ++ (cs ++ rest)).take (pre.length + k) = pre ++ cs.take k := by
    rw [List.take_append, List.take_of_length_le (by omega), Nat.add_sub_cancel_left, List.take_append_of_le_length (by omega)]
  have e2 : (pre ++ (cs ++ rest)).drop (pre.length + k + new.length) = cs.drop (k + new.length) ++ rest := by
    rw [List.drop_append, List.drop_of_length_le (by omega), List.nil_append, show pre.length + k + new.length - pre.length = k + new.length by omega, List.drop_append_of_le_length hk]
  rw [e1, e2]
  simp

theorem run_storeVar_enc {E : TypeId} {bytes : Nat} (el : ElTy P E e bytes) (a : Addr) (y : α) {w' : World} (h : (storeCells a (e.cs y)).run P w = .ok () w') :
    (storeVar E a (e.v y)).run P w = .ok () w' := by
  obtain ⟨⟨i, z, hi, hz, hsz, hby, hzs⟩, _⟩ := el
  unfold storeVar
  have hs : (e.cs y).length = i.size := by rw [hsz, e.len]
  simp [sizeOf, typeInfo, hi, hs, e.v_cells, h]

theorem run_store_row {b o' t : Nat} {m : Nat × Nat} {pre rest : List Value} {k : Nat} (y : α) (hk : k < xs.length) (hp : pre.length = o')
    (hb : w.heap[b]? = some (.cells (pre ++ (flat e xs ++ rest)).toArray t m)) (hz : Fz m (pre ++ (flat e xs ++ rest)).length) :
    (storeCells (⟨b, o' + k * e.sz, none⟩ : Addr) (e.cs y)).run P w = .ok () (w.setRow b (pre ++ (flat e (xs.set k y) ++ rest)).toArray) := by
  have hfit : k * e.sz + (e.cs y).length ≤ (flat e xs).length := by
    rw [e.len, flat_len, ← Nat.succ_mul]
    exact Nat.mul_le_mul_right _ hk
  have h := run_storeCells_fz P b (o' + k * e.sz) t m (e.cs y) 0 _ w hb (by simpa using hz) (by simp only [List.size_toArray, List.length_append]; omega) (e.leaf y)
  simp only [Nat.add_zero] at h
  rw [h, ← hp, mid_set (k * e.sz) hfit, flat_set _ _ _ hk, e.len]

theorem s_store_el (x yop : Operand) (E : TypeId) (bytes : Nat) (p : Addr) (k : Nat) (y : α) (ho : o.op = .store E x yop) (el : ElTy P E e bytes) (hx : (Fr l).eval x = .pointer (some p)) (hy : (Fr l).eval yop = e.v y)
    (hw : Region.wanted o (yielded ops l.toArray) = true) (hp : ElP A e.sz k p) (hk : k < xs.length) (hS : Own w0 D R w (rowA e A cap xs :: X) S)
    (K : ∀ w', Own w0 D R w' (rowA e A cap (xs.set k y) :: X) S → WL P ops Q os (Fr (dstSet o.dst l undef)) w') : WL P ops Q (o :: os) (Fr l) w := by
  obtain ⟨a, rfl, rfl⟩ := hp
  obtain ⟨hl, h'⟩ := row_facts hS.x0
  rcases h' with ⟨h1, _⟩ | ⟨b, o', t, pre, sp, post, h1, h2, h3, mk, h4, hz⟩
  · cases h1
  injection h1 with h1
  subst h1
  have hst := run_storeVar_enc (P := P) (w := w) el _ y (run_store_row (P := P) y hk h2 h4 hz.fz)
  have hln : (flat e (xs.set k y)).length = (flat e xs).length := by rw [flat_len, flat_len, List.length_set]
  refine step_unit hw ?_ (K _ (hS.turn1 (w' := w.setRow b (pre ++ (flat e (xs.set k y) ++ (sp ++ post))).toArray) ?_ ?_ ?_))
  · unfold execOp
    simp [ho, hx, hy, Instr.storeAt, Instr.sureAddr, Addr.add_lit, hst]
  · exact ⟨rfl, rfl, rfl, by simp, fun k _ hk => setRow_other w b k _ fun e => hk ⟨_, rfl, e.symm⟩⟩
  · exact row_mk' (by rw [List.length_set]; exact hl) h2 (by rw [hln]; exact h3) (hz.len (by simp only [List.length_append, hln])) (setRow_heap w b _ _ t _ h4)
  · rintro c ⟨a, ha, rfl⟩
    injection ha with ha
    subst ha
    exact ⟨.inl ⟨_, rfl, rfl⟩, by simpa using (Array.getElem?_eq_some_iff.1 h4).1⟩

/-- A part of a list; none: out of range. -/
def sub {β : Type} (xs : List β) (lo hi : Int) : Option (List β) := if 0 ≤ lo ∧ lo ≤ hi ∧ hi ≤ xs.length then some ((xs.take hi.toNat).drop lo.toNat) else none

theorem sub_some {β : Type} {xs ys : List β} {lo hi : Int} (h : sub xs lo hi = some ys) : 0 ≤ lo ∧ lo ≤ hi ∧ hi ≤ xs.length ∧ ys = (xs.take hi.toNat).drop lo.toNat := by
  unfold sub at h
  split at h
  · rename_i h0
    injection h with h
    exact ⟨h0.1, h0.2.1, h0.2.2, h.symm⟩
  · cases h

/-- A bound of a slice. -/
def Bnd (l : List Value) (x : Option Operand) (i d : Int) : Prop := (x = none ∧ i = d) ∨ ∃ op k, x = some op ∧ (Fr l).eval op = .int k i

theorem run_sliceBounds {lo hi : Option Operand} {a b : Int} {n c : Nat} (hlo : Bnd l lo a 0) (hhi : Bnd l hi b n) (h0 : 0 ≤ a) (h1 : a ≤ b) (h2 : b ≤ n) (hc : n ≤ c) (isSlice : Bool) :
    (Instr.sliceBounds isSlice n c (lo.map (Fr l).eval) (hi.map (Fr l).eval) none).run P w = .ok (a.toNat, b.toNat, c) w := by
  have bnd : ∀ (k : IntKind) (i : Int) (y : Nat) (code : BoundsCode), 0 ≤ i → i ≤ y → (Instr.sliceBound (.int k i) y code).run P w = .ok i.toNat w := fun k i y code h h' => run_sliceBound (P := P) (w := w) k i y code h h'
  have hbc : b ≤ (c : Int) := by omega
  have hab : a ≤ (b.toNat : Int) := by omega
  rcases hlo with ⟨rfl, rfl⟩ | ⟨lop, lk, rfl, hlv⟩ <;> rcases hhi with ⟨rfl, rfl⟩ | ⟨hop, hk, rfl, hhv⟩
  · simp [Instr.sliceBounds]
  · simp [Instr.sliceBounds, hhv, bnd _ _ _ _ (show 0 ≤ b by omega) hbc]
  · simp [Instr.sliceBounds, hlv, bnd _ _ _ _ h0 h1]
  · simp [Instr.sliceBounds, hlv, hhv, bnd _ _ _ _ (show 0 ≤ b by omega) hbc, bnd _ _ _ _ h0 hab]

def cutAddr (A : Option Addr) (cap l sz : Nat) : Option Addr := if cap = l then A else A.map (·.add (l * sz))

theorem blk_cutAddr {A : Option Addr} {c k sz b : Nat} (h : blkOf (cutAddr A c k sz) b) : blkOf A b := by
  obtain ⟨a, ha, rfl⟩ := h
  unfold cutAddr at ha
  split at ha
  · exact ⟨a, ha, rfl⟩
  · cases A with
    | none => simp at ha
    | some a0 =>
      simp at ha
      subst ha
      refine ⟨a0, rfl, ?_⟩
      unfold Addr.add
      split <;> rfl

theorem flat_part (xs : List α) (a b : Nat) (j : Nat) (u : Value) (h : (flat e ((xs.take b).drop a))[j]? = some u) : (flat e xs)[a * e.sz + j]? = some u := by
  rw [flat_drop, flat_take, List.getElem?_drop] at h
  rw [List.getElem?_take] at h
  split at h
  · exact h
  · cases h

theorem sl_part {Rd : Nat → Prop} {a b : Nat} (hab : a ≤ b) (hb : b ≤ xs.length) (h : (slA Rd e A cap xs).at w) : (slA Rd e (cutAddr A cap a e.sz) (cap - a) ((xs.take b).drop a)).at w := by
  obtain ⟨hl, h'⟩ := h
  refine ⟨by simp; omega, ?_⟩
  rcases h' with ⟨rfl, rfl⟩ | ⟨ad, rfl, hc⟩
  · refine .inl ⟨?_, by simp⟩
    unfold cutAddr; split <;> rfl
  · refine .inr ?_
    unfold cutAddr
    by_cases hca : cap = a
    · refine ⟨ad, if_pos hca, fun j u hj => ?_⟩
      have : (xs.take b).drop a = [] := List.drop_of_length_le (by simp; omega)
      rw [this] at hj
      simp [flat] at hj
    · refine ⟨ad.add (a * e.sz), if_neg hca, fun j u hj => ?_⟩
      rw [add_add]
      exact hc _ u (flat_part xs a b j u hj)

theorem row_part {a b : Nat} (hab : a ≤ b) (hb : b ≤ xs.length) (h : (rowA e A cap xs).at w) : (rowA e (cutAddr A cap a e.sz) (cap - a) ((xs.take b).drop a)).at w := by
  obtain ⟨hl, h'⟩ := row_facts h
  rcases h' with ⟨rfl, rfl⟩ | ⟨bl, o', t, pre, sp, post, rfl, h2, h3, mk, h4, hz⟩
  · have hx : xs = [] := List.eq_nil_of_length_eq_zero (by omega)
    subst hx
    have : cutAddr none 0 a e.sz = none := by unfold cutAddr; split <;> rfl
    rw [this, Nat.zero_sub]
    simpa using row_nil e w
  · unfold cutAddr
    by_cases hca : cap = a
    · rw [if_pos hca]
      have hx : (xs.take b).drop a = [] := List.drop_of_length_le (by simp; omega)
      rw [hx, hca, Nat.sub_self]
      exact row_mk' (Nat.le_refl _) h2 (sp := []) (post := flat e xs ++ (sp ++ post)) (t := t) (m := mk) (by simp [flat]) (hz.len (by simp [flat])) (by simpa [flat] using h4)
    · rw [if_neg hca]
      simp only [Option.map_some, Addr.add_lit]
      have e1 : flat e xs = flat e (xs.take a) ++ (flat e ((xs.take b).drop a) ++ flat e (xs.drop b)) := by
        rw [← flat_append, ← flat_append]
        congr 1
        have : xs.take a = (xs.take b).take a := by rw [List.take_take, Nat.min_eq_left hab]
        rw [this, ← List.append_assoc, List.take_append_drop, List.take_append_drop]
      have hla : (flat e (xs.take a)).length = a * e.sz := by rw [flat_len, List.length_take, Nat.min_eq_left (by omega)]
      refine row_mk' (by simp; omega) (pre := pre ++ flat e (xs.take a)) (sp := flat e (xs.drop b) ++ sp) (post := post) (t := t) (m := mk) (by rw [List.length_append, h2, hla]) ?_ (hz.len (by rw [e1]; simp)) ?_
      · have := congrArg List.length e1
        simp only [List.length_append] at this ⊢
        rw [Nat.sub_mul]
        omega
      · rw [h4]
        congr 3
        rw [e1]
        simp

theorem run_slice {T E : TypeId} {bytes : Nat} {lo hi : Option Operand} {a b : Int} (hT : P.underlying T = some (.slice E)) (el : ElTy P E e bytes) (hlo : Bnd l lo a 0) (hhi : Bnd l hi b xs.length)
    (h0 : 0 ≤ a) (h1 : a ≤ b) (h2 : b ≤ xs.length) (hc : xs.length ≤ cap) :
    (Instr.sliceAt T (.slice A xs.length cap) (lo.map (Fr l).eval) (hi.map (Fr l).eval) none).run P w = .ok (.slice (cutAddr A cap a.toNat e.sz) ((xs.take b.toNat).drop a.toNat).length (cap - a.toNat)) w := by
  obtain ⟨⟨i, z, hi', hz, hsz, hby, hzs⟩, _⟩ := el
  have hb := run_sliceBounds (P := P) (w := w) hlo hhi h0 h1 h2 hc true
  have hln : ((xs.take b.toNat).drop a.toNat).length = b.toNat - a.toNat := by simp; omega
  unfold Instr.sliceAt
  simp only [Sem.run_bind, run_underlying hT, Result.andThen_ok]
  unfold Instr.slice
  simp only [Sem.run_bind, run_underlying hT, Result.andThen_ok, hb, sizeOf, typeInfo, run_program, hi', Sem.run_pure, hsz, hln]
  rfl

/-- One slice is a part of another one. -/
def Part {β : Type} (e : Enc β) (A : Option Addr) (cap : Nat) (xs : List β) (A' : Option Addr) (cap' : Nat) (ys : List β) : Prop :=
  ∃ a b, a ≤ b ∧ b ≤ xs.length ∧ A' = cutAddr A cap a e.sz ∧ cap' = cap - a ∧ ys = (xs.take b).drop a

section
variable {A' : Option Addr} {cap' : Nat}
theorem Part.sl (h : Part e A cap xs A' cap' ys) {Rd : Nat → Prop} (hs : (slA Rd e A cap xs).at w) : (slA Rd e A' cap' ys).at w := by
  obtain ⟨a, b, h1, h2, rfl, rfl, rfl⟩ := h
  exact sl_part h1 h2 hs
theorem Part.row (h : Part e A cap xs A' cap' ys) (hs : (rowA e A cap xs).at w) : (rowA e A' cap' ys).at w := by
  obtain ⟨a, b, h1, h2, rfl, rfl, rfl⟩ := h
  exact row_part h1 h2 hs
theorem Part.blk (h : Part e A cap xs A' cap' ys) {c : Nat} (hc : blkOf A' c) : blkOf A c := by
  obtain ⟨a, b, h1, h2, rfl, rfl, rfl⟩ := h
  exact blk_cutAddr hc
theorem Part.trans {A'' : Option Addr} {cap'' : Nat} {zs : List α} (h : Part e A cap xs A' cap' ys) (h' : Part e A' cap' ys A'' cap'' zs) (hc : xs.length ≤ cap) : ∀ {Rd : Nat → Prop}, (slA Rd e A cap xs).at w → (slA Rd e A'' cap'' zs).at w :=
  fun hs => h'.sl (h.sl hs)
end

/-- A part of what is read alone. -/
theorem s_slice (x : Operand) (lo hi : Option Operand) (T E : TypeId) (bytes : Nat) (a b : Int) (ho : o.op = .slice T x lo hi none) (hT : P.underlying T = some (.slice E)) (el : ElTy P E e bytes)
    (hx : (Fr l).eval x = .slice A xs.length cap) (hlo : Bnd l lo a 0) (hhi : Bnd l hi b xs.length)
    (hw : Region.wanted o (yielded ops l.toArray) = true) (hc : xs.length ≤ cap) (hy : sub xs a b = some ys)
    (K : ∀ A' cap', Part e A cap xs A' cap' ys → WL P ops Q os (Fr (dstSet o.dst l (.slice A' ys.length cap'))) w) : WL P ops Q (o :: os) (Fr l) w := by
  obtain ⟨h0, h1, h2, rfl⟩ := sub_some hy
  refine step_val hw ?_ (K (cutAddr A cap a.toNat e.sz) (cap - a.toNat) ⟨a.toNat, b.toNat, by omega, by omega, rfl, rfl, rfl⟩)
  unfold execOp
  simp only [ho, hx, Sem.run_bind, Option.map_none, run_slice hT el hlo hhi h0 h1 h2 hc, Result.andThen_ok, Sem.run_pure]

theorem Own.sl_mem {Rd : Nat → Prop} (hS : Own w0 D R w X S) (h : slA Rd e A cap xs ∈ S) : (slA Rd e A cap xs).at w := hS.sok _ h
theorem Own.row_mem (hS : Own w0 D R w X S) (h : rowA e A cap xs ∈ X) : (rowA e A cap xs).at w := hS.xok _ h
theorem Own.box_mem {b : Nat} {cs : List Value} (hS : Own w0 D R w X S) (h : boxA b cs ∈ X) : (boxA b cs).at w := hS.xok _ h

theorem Own.addPart {Rd : Nat → Prop} {A' : Option Addr} {cap' : Nat} (hS : Own w0 D R w X S) (h : slA Rd e A cap xs ∈ S) (hp : Part e A cap xs A' cap' ys) : Own w0 D R w X (slA Rd e A' cap' ys :: S) :=
  hS.addS (hp.sl (hS.sok _ h)) fun _ hb => ⟨_, h, hb⟩

theorem Own.toPart {A' : Option Addr} {cap' : Nat} (hS : Own w0 D R w (rowA e A cap xs :: X) S) (hp : Part e A cap xs A' cap' ys) : Own w0 D R w (rowA e A' cap' ys :: X) S :=
  hS.turn1 (Keeps.refl _ _) (hp.row hS.x0) fun b hb => ⟨.inl (hp.blk hb), (hS.xdom _ (List.mem_cons_self ..) b (hp.blk hb)).2⟩

theorem Own.addNil (e : Enc α) (hS : Own w0 D R w X S) : Own w0 D R w (rowA e none 0 [] :: X) S :=
  hS.new (Keeps.refl _ _) (row_nil e w) fun b ⟨_, h, _⟩ => by cases h

theorem Own.addNilS (Rd : Nat → Prop) (e : Enc α) (hS : Own w0 D R w X S) (h : ∀ b, Rd b → doms S b) : Own w0 D R w X (slA Rd e none 0 [] :: S) :=
  hS.addS (sl_nil Rd e 0 w) h

theorem Own.freezeRow (hS : Own w0 D R w (rowA e A cap xs :: X) S) (hD : ∀ b, ¬ D b) : Own w0 D R w X (slA (blkOf A) e A cap xs :: S) :=
  hS.freeze (fun b _ => hD b) (sl_of_row hS.x0) fun _ h => h

theorem Own.len (hS : Own w0 D R w (rowA e A cap xs :: X) S) : xs.length ≤ cap := hS.x0.1

/-! ### Results -/

theorem ret_v {fn : Func} {Rr : Ending → World → Prop} (v : Value) (h : pev P (results fn l.toArray) = some v) (hR : Rr (.returned v) w) : bodyPost P fn Rr .ret (Fr l) w :=
  ⟨rfl, v, pev_run _ _ h w, hR⟩
theorem end_v {fn : Func} {Rr : Ending → World → Prop} (v : Value) (h : pev P (results fn l.toArray) = some v) (hR : Rr (.returned v) w) : bodyPost P fn Rr .normal (Fr l) w :=
  ⟨rfl, v, pev_run _ _ h w, hR⟩

theorem bind_some {α β : Type} {x : Option α} {f : α → Option β} {r : β} (h : x.bind f = some r) : ∃ a, x = some a ∧ f a = some r := Option.bind_eq_some_iff.1 h

theorem forall2 {β : Type} {p : β → Prop} {a : β} {l : List β} (h : p a) (t : ∀ x ∈ l, p x) : ∀ x ∈ a :: l, p x := fun x hx => by
  rcases List.mem_cons.1 hx with rfl | hx
  · exact h
  · exact t x hx
theorem forall0 {β : Type} {p : β → Prop} : ∀ x ∈ ([] : List β), p x := fun x hx => by cases hx

theorem doms_sub {B : Atom} {L : List Atom} (h : ∀ b, B.dom b → doms S b) (t : ∀ b, doms L b → doms S b) : ∀ b, doms (B :: L) b → doms S b := fun b ⟨C, hC, hb⟩ => by
  rcases List.mem_cons.1 hC with rfl | hC
  · exact h b hb
  · exact t b ⟨C, hC, hb⟩
theorem doms_sub0 : ∀ b, doms [] b → doms S b := fun b h => (doms_nil b h).elim

/-! ### Variables in memory -/

theorem box_heap {b : Nat} {cs : List Value} (h : (boxA b cs).at w) : ∃ t, w.heap[b]? = some (.cells cs.toArray t (0, 0)) := by
  obtain ⟨t, h⟩ := h
  exact ⟨t, (cut_some h).2⟩

theorem box_mk {b t : Nat} {cs : List Value} (h : w.heap[b]? = some (.cells cs.toArray t (0, 0))) : (boxA b cs).at w :=
  ⟨t, by rw [show cut (boxA b cs).dom (look w) b = look w b from cut_pos rfl]; exact h⟩

theorem s_box (x : Operand) (E : TypeId) (cs : List Value) (v : Value) (ho : o.op = .box E x) (hx : (Fr l).eval x = v) (hv : v.cells = cs.toArray)
    (hw : Region.wanted o (yielded ops l.toArray) = true) (hS : Own w0 D R w X S)
    (K : ∀ b w', Own w0 D R w' (boxA b cs :: X) S → WL P ops Q os (Fr (dstSet o.dst l (.pointer (some ⟨b, 0, none⟩)))) w') : WL P ops Q (o :: os) (Fr l) w := by
  refine step_val hw (v := .pointer (some ⟨w.heap.size, 0, none⟩)) (w' := w.alloc (.cells cs.toArray E)) ?_ (K w.heap.size _ (hS.new (keeps_alloc' _ _ _) (box_mk (t := E) (heap_alloc_new w _)) ?_))
  · unfold execOp
    simp [ho, hx, Instr.box, newVar, newRow, hv]
  · rintro b rfl
    exact ⟨Nat.le_refl _, by simp⟩

theorem s_alloc (E : TypeId) (cs : List Value) (ho : o.op = .alloc E) (hz : ∃ z, pev P (zeroValue E) = some z ∧ z.cells = cs.toArray)
    (hw : Region.wanted o (yielded ops l.toArray) = true) (hS : Own w0 D R w X S)
    (K : ∀ b w', Own w0 D R w' (boxA b cs :: X) S → WL P ops Q os (Fr (dstSet o.dst l (.pointer (some ⟨b, 0, none⟩)))) w') : WL P ops Q (o :: os) (Fr l) w := by
  obtain ⟨z, hz1, hz2⟩ := hz
  refine step_val hw (v := .pointer (some ⟨w.heap.size, 0, none⟩)) (w' := w.alloc (.cells cs.toArray E)) ?_ (K w.heap.size _ (hS.new (keeps_alloc' _ _ _) (box_mk (t := E) (heap_alloc_new w _)) ?_))
  · unfold execOp
    simp [ho, Instr.alloc, newVar, newRow, hz2, pev_run _ _ hz1 w]
  · rintro b rfl
    exact ⟨Nat.le_refl _, by simp⟩

/-- A variable, or a part of one, is read: n cells from 'off' on. -/
theorem run_load_box {T : TypeId} {b off n : Nat} {cs vs : List Value} {v : Value} (h : (boxA b cs).at w) (hvs : (cs.drop off).take n = vs) (hn : vs.length = n)
    (hT : (pev P (isAgg T) = some true ∧ pev P (sizeOf T) = some n ∧ v = .agg vs.toArray) ∨ (pev P (isAgg T) = some false ∧ vs = [v])) :
    (loadVar T ⟨b, off, none⟩).run P w = .ok v w := by
  obtain ⟨t, hb⟩ := box_heap h
  have hcell : ∀ j u, vs[j]? = some u → w.cell? ((⟨b, off, none⟩ : Addr).add j) = some u := fun j u hj => by
    rw [Addr.add_lit, cell_of_row w b (off + j) _ t (0, 0) hb, List.getElem?_toArray]
    rw [← hvs, List.getElem?_take] at hj
    split at hj
    · rwa [List.getElem?_drop] at hj
    · cases hj
  unfold loadVar
  rcases hT with ⟨h1, h2, rfl⟩ | ⟨h1, rfl⟩
  · have hl := run_loadCells_list (P := P) (w := w) ⟨b, off, none⟩ vs hcell
    rw [hn] at hl
    simp only [Sem.run_bind, pev_run _ _ h1 w, pev_run _ _ h2 w, Result.andThen_ok, if_true, hl, Sem.run_pure]
  · have := hcell 0 v rfl
    rw [Addr.add_zero'] at this
    simp [pev_run _ _ h1 w, this]

theorem s_load_box (x : Operand) (T : TypeId) (b off n : Nat) (cs vs : List Value) (v : Value) (ho : o.op = .load T x) (hx : (Fr l).eval x = .pointer (some ⟨b, off, none⟩))
    (hw : Region.wanted o (yielded ops l.toArray) = true) (h : (boxA b cs).at w) (hvs : (cs.drop off).take n = vs) (hn : vs.length = n)
    (hT : (pev P (isAgg T) = some true ∧ pev P (sizeOf T) = some n ∧ v = .agg vs.toArray) ∨ (pev P (isAgg T) = some false ∧ vs = [v]))
    (K : WL P ops Q os (Fr (dstSet o.dst l v)) w) : WL P ops Q (o :: os) (Fr l) w := by
  refine step_val hw ?_ K
  unfold execOp
  simp [ho, hx, Instr.loadAt, Instr.sureAddr, run_load_box h hvs hn hT]

/-- A variable, or a part of one, is written. -/
theorem s_store_box (x yop : Operand) (T : TypeId) (b off : Nat) (cs cs' vs : List Value) (v : Value) (ho : o.op = .store T x yop) (hx : (Fr l).eval x = .pointer (some ⟨b, off, none⟩)) (hy : (Fr l).eval yop = v)
    (hw : Region.wanted o (yielded ops l.toArray) = true) (hv : v.cells = vs.toArray) (hsz : pev P (sizeOf T) = some vs.length) (hone : ∀ u ∈ vs, u.oneCell' = true)
    (hfit : off + vs.length ≤ cs.length) (hcs : cs.take off ++ (vs ++ cs.drop (off + vs.length)) = cs') (hS : Own w0 D R w (boxA b cs :: X) S)
    (K : ∀ w', Own w0 D R w' (boxA b cs' :: X) S → WL P ops Q os (Fr (dstSet o.dst l undef)) w') : WL P ops Q (o :: os) (Fr l) w := by
  obtain ⟨t, hb⟩ := box_heap hS.x0
  have h := run_storeCells_at P b off t vs 0 _ w hb (by simpa using hfit) hone
  simp only [Nat.add_zero, List.append_assoc, hcs] at h
  have hsv : (storeVar T ⟨b, off, none⟩ v).run P w = .ok () (w.setRow b cs'.toArray) := by
    unfold storeVar
    simp [pev_run _ _ hsz w, hv, h]
  refine step_unit hw ?_ (K _ (hS.turn1 (w' := w.setRow b cs'.toArray) ?_ (box_mk (setRow_heap w b _ _ t _ hb)) ?_))
  · unfold execOp
    simp [ho, hx, hy, Instr.storeAt, Instr.sureAddr, hsv]
  · exact ⟨rfl, rfl, rfl, by simp, fun k _ hk => setRow_other w b k _ hk⟩
  · rintro c rfl
    exact ⟨.inl rfl, by simpa using (Array.getElem?_eq_some_iff.1 hb).1⟩
end
end Go.Lift

/- More operations: bytes as strings, slices of slices, a literal that is converted. -/
namespace Go.Lift
open Go
set_option linter.unusedVariables false

/-- Bytes as a string's letters. -/
def b8 (xs : List Int) : List UInt8 := xs.map fun n => UInt8.ofNat n.toNat

section
variable {P : Program} {ops : Array Oper} {Q : Exit → Act → World → Prop} {w : World} {o : Oper} {os : List Oper} {l : List Value}
variable {α : Type} {e : Enc α} {A : Option Addr} {cap : Nat} {xs ys : List α} {w0 : World} {D R : Nat → Prop} {X S : List Atom}

theorem run_bytes_str {src dst E : TypeId} (hs : P.underlying src = some (.slice E)) (he : P.underlying E = some (.int .u8)) (hd : P.underlying dst = some .string) {A : Option Addr} {n cap : Nat} {xs : List Int}
    (hn : n = xs.length) (h : SlR w (Enc.int .u8) A xs) : (convert src dst (.slice A n cap)).run P w = .ok (.string ⟨(b8 xs).toArray⟩) w := by
  subst hn
  rcases h with ⟨rfl, rfl⟩ | ⟨a, rfl, hc⟩
  · exact run_convert_bytes_nil (P := P) (w := w) src E hs he _ _ dst hd
  · have hl : (loadCells a xs.length).run P w = .ok (xs.map (Value.int .u8)).toArray w := by
      have hfl : flat (Enc.int .u8) xs = xs.map (Value.int .u8) := by
        unfold flat; rw [List.map_eq_flatMap]; rfl
      have := run_loadCells_list (P := P) (w := w) a (flat (Enc.int .u8) xs) hc
      rw [flat_len, hfl] at this
      simpa [Enc.int] using this
    rw [run_convert_bytes_string w src dst E _ xs.length cap hs he hd, run_bytesToString w _ xs.length cap xs hl, foldl_push_bytes]
    simp [b8, ByteArray.empty, ByteArray.emptyWithCapacity]
    rfl

theorem s_str (x : Operand) (src dst E : TypeId) (xs : List Int) (A : Option Addr) (n cap : Nat) (ho : o.op = .convert src dst x) (hs : P.underlying src = some (.slice E)) (he : P.underlying E = some (.int .u8)) (hd : P.underlying dst = some .string)
    (hx : (Fr l).eval x = .slice A n cap) (hn : n = xs.length) (hw : Region.wanted o (yielded ops l.toArray) = true) (h : SlR w (Enc.int .u8) A xs)
    (K : WL P ops Q os (Fr (dstSet o.dst l (.string ⟨(b8 xs).toArray⟩))) w) : WL P ops Q (o :: os) (Fr l) w := by
  refine step_val hw ?_ K
  unfold execOp
  simp only [ho, hx, Sem.run_bind, run_bytes_str hs he hd hn h, Result.andThen_ok, Sem.run_pure]

theorem s_streq (x y : Operand) (t t' : TypeId) (a b : List UInt8) (ho : o.op = .binOp .eql t x y t') (hx : (Fr l).eval x = .string ⟨a.toArray⟩) (hy : (Fr l).eval y = .string ⟨b.toArray⟩)
    (hw : Region.wanted o (yielded ops l.toArray) = true) (K : WL P ops Q os (Fr (dstSet o.dst l (.bool (a == b)))) w) : WL P ops Q (o :: os) (Fr l) w := by
  refine step_val hw ?_ K
  unfold execOp
  simp [ho, hx, hy, eqGuard_at_string, binOp, Op.stringOp, ByteArray.toList_mk]
theorem s_strneq (x y : Operand) (t t' : TypeId) (a b : List UInt8) (ho : o.op = .binOp .neq t x y t') (hx : (Fr l).eval x = .string ⟨a.toArray⟩) (hy : (Fr l).eval y = .string ⟨b.toArray⟩)
    (hw : Region.wanted o (yielded ops l.toArray) = true) (K : WL P ops Q os (Fr (dstSet o.dst l (.bool (!(a == b))))) w) : WL P ops Q (o :: os) (Fr l) w := by
  refine step_val hw ?_ K
  unfold execOp
  simp [ho, hx, hy, eqGuard_at_string, binOp, Op.stringOp, ByteArray.toList_mk]
theorem s_strlss (x y : Operand) (t t' : TypeId) (a b : List UInt8) (ho : o.op = .binOp .lss t x y t') (hx : (Fr l).eval x = .string ⟨a.toArray⟩) (hy : (Fr l).eval y = .string ⟨b.toArray⟩)
    (hw : Region.wanted o (yielded ops l.toArray) = true) (K : WL P ops Q os (Fr (dstSet o.dst l (.bool (Op.bytesLess a b)))) w) : WL P ops Q (o :: os) (Fr l) w := by
  refine step_val hw ?_ K
  unfold execOp
  simp [ho, hx, hy, eqGuard_at_string, binOp, Op.stringOp, ByteArray.toList_mk]

/-- The letters of a string as bytes. -/
def bnums (s : List UInt8) : List Int := s.map fun b => (b.toNat : Int)

theorem src_str {T : TypeId} (hT : P.underlying T = some .string) (s : List UInt8) : Src P w T (.string ⟨s.toArray⟩) (Enc.int .u8) (bnums s) where
  ty := .inr hT
  lenOf := by simp [Builtin.lenOf, bnums, ByteArray.size]
  cells w' _ := by
    have hfl : flat (Enc.int .u8) (bnums s) = s.map fun b => .int .u8 (b.toNat : Int) := by
      unfold flat bnums
      induction s with
      | nil => rfl
      | cons b s ih => simp [Enc.int, List.flatMap_cons] at ih ⊢; exact ih
    rw [hfl]
    simp only [Builtin.firstCells, Sem.run_pure, bnums, List.length_map]
    congr 1
    apply Array.toList_inj.1
    simp [ByteArray.data_extract]

/-! ### What is written out and converted to its own kind is marked, and from then on read alone -/

theorem cellAt_freeze (a : Addr) (n : Nat) (p : Addr) : (w.freeze a n).cell? p = w.cell? p := by
  unfold World.freeze
  split
  · rfl
  · unfold World.cell?
    simp only [Array.getElem?_modify]
    by_cases h : a.block = p.block
    · rw [if_pos h]
      cases w.heap[p.block]? with
      | none => rfl
      | some ob => cases ob <;> rfl
    · rw [if_neg h]

theorem s_conv (x : Operand) (T E : TypeId) (n : Nat) (ho : o.op = .convert T T x) (hT : P.underlying T = some (.slice E)) (hE : P.underlying E = some (.int .u8))
    (hx : (Fr l).eval x = .slice A n cap) (hA : A ≠ none) (hw : Region.wanted o (yielded ops l.toArray) = true)
    (hS : Own w0 D R w (rowA e A cap xs :: X) S) (hD : ∀ b, ¬ D b)
    (K : ∀ w', Own w0 D R w' X (slA (blkOf A) e A cap xs :: S) → WL P ops Q os (Fr (dstSet o.dst l (.slice A n cap))) w') : WL P ops Q (o :: os) (Fr l) w := by
  obtain ⟨hl, h'⟩ := row_facts hS.x0
  rcases h' with ⟨h1, _⟩ | ⟨b, o', t, pre, sp, post, rfl, h2, h3, mk, h4, hz⟩
  · exact absurd h1 hA
  have hsh : w.shape? b = some (t, (pre ++ (flat e xs ++ (sp ++ post))).toArray.size) := by
    unfold World.shape?; rw [h4]
  refine step_val hw ?_ (K (w.freeze ⟨b, (pre ++ (flat e xs ++ (sp ++ post))).toArray.size, none⟩ 1) ?_)
  · unfold execOp
    simp only [ho, hx]
    unfold convert
    simp only [Sem.run_bind, run_underlying hT, run_underlying hE, Result.andThen_ok, beq_self_eq_true, markStringish, run_shape, hsh, run_freeze, Sem.run_pure]
  · have hk : Keeps (rowA e (some ⟨b, o', none⟩) cap xs).dom w (w.freeze ⟨b, (pre ++ (flat e xs ++ (sp ++ post))).toArray.size, none⟩ 1) := by
      refine ⟨rfl, rfl, rfl, by simp [World.freeze], fun k _ hk => ?_⟩
      simp only [World.freeze]
      rw [if_neg (by decide)]
      simp only [Array.getElem?_modify]
      rw [if_neg (fun h => hk ⟨_, rfl, h⟩)]
    have hat : (slA (blkOf (some ⟨b, o', none⟩)) e (some ⟨b, o', none⟩) cap xs).at (w.freeze ⟨b, (pre ++ (flat e xs ++ (sp ++ post))).toArray.size, none⟩ 1) := by
      have h0 := sl_of_row hS.x0
      refine ⟨h0.1, h0.2.imp id ?_⟩
      rintro ⟨a, ha, hc⟩
      refine ⟨a, ha, fun j u hj => ?_⟩
      have h5 := cellAt_cut (hc j u hj)
      have h6 : blkOf (some ⟨b, o', none⟩) (a.add j).block := h5.1
      unfold cellAt
      rw [show (slA (blkOf (some ⟨b, o', none⟩)) e (some ⟨b, o', none⟩) cap xs).dom = blkOf (some ⟨b, o', none⟩) from rfl, cut_pos h6]
      show (w.freeze _ 1).cell? (a.add j) = some u
      rw [cellAt_freeze]
      exact h5.2
    have hsz : (w.freeze ⟨b, (pre ++ (flat e xs ++ (sp ++ post))).toArray.size, none⟩ 1).heap.size = w.heap.size := by simp [World.freeze]
    have hbl : ∀ c, blkOf (some ⟨b, o', none⟩) c → (blkOf (some ⟨b, o', none⟩) c ∨ w.heap.size ≤ c) ∧ c < (w.freeze ⟨b, (pre ++ (flat e xs ++ (sp ++ post))).toArray.size, none⟩ 1).heap.size := fun c hc => by
      refine ⟨.inl hc, ?_⟩
      rw [hsz]
      exact (hS.xdom _ (List.mem_cons_self ..) c hc).2
    have h7 := hS.turn1 (B := slA (blkOf (some ⟨b, o', none⟩)) e (some ⟨b, o', none⟩) cap xs) hk hat hbl
    exact h7.freeze (fun c _ => hD c) h7.x0 fun _ h => h

/-! ### Slices of slices, read alone -/

def SlsOk (e : Enc α) (A : Option Addr) (cap : Nat) (xss : List (List α)) (h : Hp) : Prop :=
  xss.length ≤ cap ∧ ((A = none ∧ xss = []) ∨ ∃ a, A = some a ∧ ∀ (j : Nat) (xs : List α), xss[j]? = some xs → ∃ B c, cellAt h (a.add j) = some (.slice B xs.length c) ∧ SlOk e B c xs h)

def slsA (Rd : Nat → Prop) (e : Enc α) (A : Option Addr) (cap : Nat) (xss : List (List α)) : Atom := ⟨Rd, SlsOk e A cap xss⟩

theorem Own.sls_mem {Rd : Nat → Prop} {xss : List (List α)} (hS : Own w0 D R w X S) (h : slsA Rd e A cap xss ∈ S) : (slsA Rd e A cap xss).at w := hS.sok _ h

theorem s_index_sls {Rd : Nat → Prop} {xss : List (List α)} (x iop : Operand) (T E : TypeId) (k : IntKind) (i : Int) (ho : o.op = .indexAddr T x iop) (hT : P.underlying T = some (.slice E)) (hsz : pev P (sizeOf E) = some 1)
    (hx : (Fr l).eval x = .slice A xss.length cap) (hi : (Fr l).eval iop = .int k i)
    (hw : Region.wanted o (yielded ops l.toArray) = true) (hr : (slsA Rd e A cap xss).at w) (h0 : 0 ≤ i) (h1 : i < xss.length)
    (K : ∀ p, ElP A 1 i.toNat p → WL P ops Q os (Fr (dstSet o.dst l (.pointer (some p)))) w) :
    WL P ops Q (o :: os) (Fr l) w := by
  rcases hr.2 with ⟨_, rfl⟩ | ⟨a, rfl, hc⟩
  · simp at h1; omega
  refine step_val hw ?_ (K (a.add (i.toNat * 1)) ⟨a, rfl, rfl⟩)
  unfold execOp
  have hin : 0 ≤ i ∧ i < (xss.length : Int) := ⟨h0, h1⟩
  simp [ho, hx, hi, Instr.indexAt, asIntOf, run_underlying hT, hin, pev_run _ _ hsz w]

theorem s_load_sls {Rd : Nat → Prop} {xss : List (List α)} {ys : List α} (x : Operand) (E : TypeId) (p : Addr) (k : Nat) (ho : o.op = .load E x) (hagg : pev P (isAgg E) = some false) (hx : (Fr l).eval x = .pointer (some p))
    (hw : Region.wanted o (yielded ops l.toArray) = true) (hp : ElP A 1 k p) (hr : (slsA Rd e A cap xss).at w) (hy : xss[k]? = some ys)
    (K : ∀ B c, (slA Rd e B c ys).at w → WL P ops Q os (Fr (dstSet o.dst l (.slice B ys.length c))) w) : WL P ops Q (o :: os) (Fr l) w := by
  obtain ⟨a, rfl, rfl⟩ := hp
  rcases hr.2 with ⟨h, _⟩ | ⟨a', ha, hc⟩
  · cases h
  injection ha with ha
  subst ha
  obtain ⟨B, c, h1, h2⟩ := hc k ys hy
  refine step_val hw ?_ (K B c h2)
  unfold execOp
  have hcell : w.cell? (a.add k) = some (.slice B ys.length c) := (cellAt_cut h1).2
  rw [Nat.mul_one] at hx
  simp [ho, hx, Instr.loadAt, Instr.sureAddr, loadVar, pev_run _ _ hagg w, hcell]

theorem Own.addEl {Rd : Nat → Prop} {xss : List (List α)} {B : Option Addr} {c : Nat} {ys : List α} (hS : Own w0 D R w X S) (h : slsA Rd e A cap xss ∈ S) (hy : (slA Rd e B c ys).at w) : Own w0 D R w X (slA Rd e B c ys :: S) :=
  hS.addS hy fun _ hb => ⟨_, h, hb⟩

theorem SlR.nil_of (h : SlR w e A xs) (hA : A.isNone = true) : [] = xs := by
  rcases h with ⟨_, h⟩ | ⟨a, rfl, _⟩
  · exact h.symm
  · cases hA
theorem row_ne (h : (rowA e A cap xs).at w) (hp : 0 < xs.length) : A ≠ none := by
  rintro rfl
  have := (row_none h).1
  subst this
  simp at hp

/-! ### A slice of slices written out -/

def SlsIn (S : List Atom) (e : Enc α) : List Value → List (List α) → Prop
  | [], [] => True
  | v :: vs, xs :: xss => (∃ B c Rd, v = .slice B xs.length c ∧ slA Rd e B c xs ∈ S) ∧ SlsIn S e vs xss
  | _, _ => False

theorem SlsIn.get {S : List Atom} : ∀ {vs : List Value} {xss : List (List α)}, SlsIn S e vs xss → ∀ (j : Nat) (xs : List α), xss[j]? = some xs → ∃ B c Rd, vs[j]? = some (.slice B xs.length c) ∧ slA Rd e B c xs ∈ S
  | [], [], _, j, xs, h => by simp at h
  | v :: vs, ys :: xss, h, 0, xs, hj => by
    simp at hj
    subst hj
    obtain ⟨B, c, Rd, h1, h2⟩ := h.1
    exact ⟨B, c, Rd, by simp [h1], h2⟩
  | v :: vs, ys :: xss, h, j + 1, xs, hj => by
    obtain ⟨B, c, Rd, h1, h2⟩ := SlsIn.get h.2 j xs (by simpa using hj)
    exact ⟨B, c, Rd, by simpa using h1, h2⟩
  | [], _ :: _, h, _, _, _ => h.elim
  | _ :: _, [], h, _, _, _ => h.elim
theorem SlsIn.len {S : List Atom} : ∀ {vs : List Value} {xss : List (List α)}, SlsIn S e vs xss → vs.length = xss.length
  | [], [], _ => rfl
  | _ :: _, _ :: _, h => by simp [SlsIn.len h.2]
  | [], _ :: _, h => h.elim
  | _ :: _, [], h => h.elim
theorem SlsIn.leaf {S : List Atom} : ∀ {vs : List Value} {xss : List (List α)}, SlsIn S e vs xss → ∀ u ∈ vs, u.oneCell' = true
  | [], [], _, u, hu => by cases hu
  | v :: vs, _ :: _, h, u, hu => by
    rcases List.mem_cons.1 hu with rfl | hu
    · obtain ⟨B, c, Rd, h1, _⟩ := h.1; rw [h1]; rfl
    · exact SlsIn.leaf h.2 u hu
  | [], _ :: _, h, _, _ => h.elim
  | _ :: _, [], h, _, _ => h.elim

theorem s_lit_sls (T E : TypeId) (bytes n : Nat) (ps : Array (Nat × Operand)) (vs : List Value) (xss : List (List α)) (ho : o.op = .buildSlice T n ps) (hT : P.underlying T = some (.slice E))
    (hinfo : (P.info? E).map (fun i => (i.zero, i.size, i.bytes)) = some (some (.slice none 0 0), 1, bytes))
    (hn : n ≤ 16777216) (hxs : xss.length = n)
    (hw : Region.wanted o (yielded ops l.toArray) = true)
    (hf : Instr.fill (fun j => some (j * 1, 1)) ((Array.range (n * 1)).map ((if n * 1 = 0 then #[] else (Value.slice none 0 0).cells)[· % (if n * 1 = 0 then #[] else (Value.slice none 0 0).cells).size]!)) (ps.map fun (i, x) => (i, (Fr l).eval x)).toList = some vs.toArray)
    (hS : Own w0 D R w X S) (hin : SlsIn S e vs xss)
    (K : ∀ A' cap' w' Rd', Own w0 D R w' X (slsA Rd' e A' cap' xss :: S) → WL P ops Q os (Fr (dstSet o.dst l (.slice A' xss.length cap'))) w') :
    WL P ops Q (o :: os) (Fr l) w := by
  obtain ⟨i, hi, hz, hsz, hby⟩ := info_parts hinfo
  have hr := run_buildSlice (P := P) (w := w) (T := T) (E := E) (n := n) (bytes := bytes) (parts := ps.map fun (i, x) => (i, (Fr l).eval x)) (cs := vs.toArray) hT hi hz (by rw [hsz]; omega) (by rw [hsz]; exact hf)
  subst hxs
  refine step_val hw ?_ (K (some ⟨w.heap.size, 0, none⟩) xss.length (w.alloc (.cells vs.toArray E)) (fun b => b = w.heap.size ∨ doms S b) ?_)
  · unfold execOp
    simp only [ho, Sem.run_bind, Sem.run_pure, Result.andThen_ok, hr]
  · have hk := keeps_alloc' w (.cells vs.toArray E) (fun _ => False)
    have hsS : ∀ A ∈ S, ∀ b, A.dom b → b < w.heap.size := fun A hA b hb => (hS.sdom A hA b hb).2
    have hxX : ∀ A ∈ X, ∀ b, A.dom b → b < w.heap.size := fun A hA b hb => (hS.xdom A hA b hb).2
    have hcell : ∀ a : Addr, a.block < w.heap.size → (w.alloc (.cells vs.toArray E)).heap[a.block]? = w.heap[a.block]? := fun a ha => hk.block _ ha id
    constructor
    · exact ⟨hk.os.trans hS.keep.os, hk.tape.trans hS.keep.tape, hk.output.trans hS.keep.output, Nat.le_trans hS.keep.size hk.size, fun b hb hn => by
        rw [hk.block b (Nat.lt_of_lt_of_le hb hS.keep.size) id]; exact hS.keep.block b hb hn⟩
    · exact fun A hA => at_keep (hS.xok A hA) fun b hb => hk.block b (hxX A hA b hb) id
    · refine forall2 ?_ fun A hA => at_keep (hS.sok A hA) fun b hb => hk.block b (hsS A hA b hb) id
      refine ⟨Nat.le_refl _, .inr ⟨_, rfl, fun j xs hj => ?_⟩⟩
      obtain ⟨B, c, Rd, h1, h2⟩ := hin.get j xs hj
      refine ⟨B, c, ?_, ?_⟩
      · have hlt : j < vs.length := (List.getElem?_eq_some_iff.1 h1).1
        rw [Addr.add_lit]
        unfold cellAt
        rw [show (slsA (fun b => b = w.heap.size ∨ doms S b) e (some ⟨w.heap.size, 0, none⟩) xss.length xss).dom = fun b => b = w.heap.size ∨ doms S b from rfl, cut_pos (.inl rfl)]
        show (match (w.alloc (.cells vs.toArray E)).heap[w.heap.size]? with | some (.cells c _ _) => if (none : Option Nat).isSome then none else c[0 + j]? | _ => none) = _
        rw [heap_alloc_new]
        simp only [Option.isSome_none, Bool.false_eq_true, if_false, Nat.zero_add, List.getElem?_toArray]
        exact h1
      · have h3 := hS.sok _ h2
        refine ⟨h3.1, h3.2.imp id ?_⟩
        rintro ⟨a, ha, hc⟩
        refine ⟨a, ha, fun q u hq => ?_⟩
        have h4 := cellAt_cut (hc q u hq)
        have h5 : Rd (a.add q).block := h4.1
        have h6 := hsS _ h2 _ h5
        unfold cellAt
        rw [show (slsA (fun b => b = w.heap.size ∨ doms S b) e (some ⟨w.heap.size, 0, none⟩) xss.length xss).dom = fun b => b = w.heap.size ∨ doms S b from rfl, cut_pos (.inr ⟨_, h2, h5⟩)]
        show (match (w.alloc (.cells vs.toArray E)).heap[(a.add q).block]? with | some (.cells c _ _) => if (a.add q).spot.isSome then none else c[(a.add q).off]? | _ => none) = _
        rw [hcell _ h6]
        exact h4.2
    · exact fun A hA b hb => ⟨(hS.xdom A hA b hb).1, Nat.lt_of_lt_of_le (hxX A hA b hb) hk.size⟩
    · refine forall2 ?_ fun A hA b hb => ⟨(hS.sdom A hA b hb).1, Nat.lt_of_lt_of_le (hsS A hA b hb) hk.size⟩
      rintro b (rfl | ⟨A, hA, hb⟩)
      · exact ⟨.inr hS.keep.size, by simp⟩
      · exact ⟨(hS.sdom A hA b hb).1, Nat.lt_of_lt_of_le (hsS A hA b hb) hk.size⟩
    · exact hS.xx
    · intro A hA
      refine forall2 ?_ (hS.xs A hA)
      rintro b ha (rfl | ⟨B, hB, hb⟩)
      · exact absurd (hxX A hA _ ha) (Nat.lt_irrefl _)
      · exact hS.xs A hA B hB b ha hb

/-! ### make -/
def mk (bytes : Nat) (n : Int) : Option Nat := if 0 ≤ n ∧ (bytes : Int) * n ≤ 140737488355328 ∧ n ≤ 9223372036854775807 then some n.toNat else none

theorem s_make (T E : TypeId) (bytes : Nat) (lo co : Operand) (k k' : IntKind) (n : Int) (m : Nat) (x0 : α) (z : Value) (ho : o.op = .makeSlice T lo co) (hT : P.underlying T = some (.slice E))
    (hinfo : (P.info? E).map (fun i => (i.zero, i.size, i.bytes)) = some (some z, 1, bytes)) (h1 : e.sz = 1) (hz : z.cells = #[z]) (hx : e.cs x0 = [z])
    (hl : (Fr l).eval lo = .int k n) (hc : (Fr l).eval co = .int k' n) (hw : Region.wanted o (yielded ops l.toArray) = true) (hm : mk bytes n = some m) (hS : Own w0 D R w X S)
    (K : ∀ A' cap' w', Own w0 D R w' (rowA e A' cap' (List.replicate m x0) :: X) S → WL P ops Q os (Fr (dstSet o.dst l (.slice A' (List.replicate m x0).length cap'))) w') : WL P ops Q (o :: os) (Fr l) w := by
  obtain ⟨i, hi, hz', hsz, hby⟩ := info_parts hinfo
  unfold mk at hm
  split at hm
  · rename_i hn
    injection hm with hm
    subst hm
    have hr := run_make (P := P) w T E i z hT hi hz' k k' n n hn.1 (Int.le_refl _) (by rw [hby]; omega) hn.2.2
    have hcells : madeCells z.cells (n.toNat * i.size) = (flat e (List.replicate n.toNat x0)).toArray := by
      apply Array.toList_inj.1
      rw [hz, hsz, Nat.mul_one, toList_madeCells_one]
      show _ = flat e (List.replicate n.toNat x0)
      generalize n.toNat = m
      induction m with
      | zero => rfl
      | succ m ih => rw [List.replicate_succ, List.replicate_succ, flat_cons, hx, ← ih]; rfl
    rw [hcells] at hr
    refine step_val hw (v := .slice (some ⟨w.heap.size, 0, none⟩) n.toNat n.toNat) (w' := w.alloc (.cells (flat e (List.replicate n.toNat x0)).toArray E)) ?_ ?_
    · unfold execOp
      simp only [ho, hl, hc, Sem.run_bind, hr, Result.andThen_ok, Sem.run_pure]
    · have := K (some ⟨w.heap.size, 0, none⟩) n.toNat (w.alloc (.cells (flat e (List.replicate n.toNat x0)).toArray E)) (hS.new (keeps_alloc' _ _ _) ?_ ?_)
      · simpa using this
      · exact row_mk (w := w.alloc (.cells (flat e (List.replicate n.toNat x0)).toArray E)) (e := e) (xs := List.replicate n.toNat x0) (cap := n.toNat) (b := w.heap.size) (o := 0) (t := E) (pre := []) (sp := []) (post := []) (by simp) rfl (by rw [flat_len]; simp) (by simpa using heap_alloc_new w _)
      · rintro b ⟨a, ha, rfl⟩
        injection ha with ha
        subst ha
        exact ⟨Nat.le_refl _, by simp⟩
  · cases hm

/-! ### A slice is nil, or it isn't -/
theorem s_sleq_nil (x : Operand) (T E : TypeId) {t' : TypeId} (n : Nat) (ho : o.op = .binOp .eql T x (.const (.slice none 0 0)) t') (hT : P.underlying T = some (.slice E))
    (hx : (Fr l).eval x = .slice A n cap) (hw : Region.wanted o (yielded ops l.toArray) = true)
    (K : WL P ops Q os (Fr (dstSet o.dst l (.bool A.isNone))) w) : WL P ops Q (o :: os) (Fr l) w := by
  refine step_val hw ?_ K
  unfold execOp
  have h : (Op.equal T (.slice A n cap) (.slice none 0 0)).run P w = .ok A.isNone w := by
    unfold Op.equal Op.maxDepth Op.equalIn
    cases A <;> simp [run_underlying hT]
  have hc : (Fr l).eval (.const (.slice none 0 0)) = .slice none 0 0 := rfl
  simp only [ho, hx, hc, eqGuard_at_slice, binOp, Sem.run_bind, Sem.run_pure, Result.andThen_ok, h]
end
end Go.Lift

/- From an argument that reads as data to the pieces of memory that the walks speak of, and back. -/
namespace Go.Lift
open Go Go.ChangeShapes Go.WideShapes Go.ChangeAt Go.RowKit
set_option linter.unusedVariables false

theorem Own.start {w : World} {S : List Atom} (h : ∀ A ∈ S, A.at w) (hd : ∀ A ∈ S, ∀ b, A.dom b → b < w.heap.size) : Own w (doms []) (doms S) w [] S where
  keep := Keeps.refl _ _
  xok := forall0
  sok := h
  xdom := forall0
  sdom A hA b hb := ⟨.inl ⟨A, hA, hb⟩, hd A hA b hb⟩
  xx := List.Pairwise.nil
  xs := forall0

theorem Own.below {w w' : World} {R : Nat → Prop} {X S : List Atom} (h : Own w (doms []) R w' X S) : Below w.heap.size w w' :=
  ⟨h.keep.os, h.keep.tape, h.keep.output, h.keep.size, fun k hk => h.keep.block k hk (doms_nil k)⟩

/-- Where the arguments lie. -/
def Old (w : World) (b : Nat) : Prop := b < w.heap.size

theorem flat_ints (k : IntKind) (xs : List Int) : flat (Enc.int k) xs = xs.map (Value.int k) := by
  unfold flat; rw [List.map_eq_flatMap]; rfl

theorem cellAt_old {w : World} {a : Addr} {v : Value} (h : w.cell? a = some v) : cellAt (cut (Old w) (look w)) a = some v := by
  have hlt : a.block < w.heap.size := block_lt_of_cell h
  unfold cellAt
  rw [cut_pos (show Old w a.block from hlt)]
  exact h

theorem slOk_ints {w : World} {k : IntKind} {a : Addr} {len cap : Nat} {zs : List Int} (hl : len ≤ cap) (hz : zs.length = cap)
    (hc : ∀ i, i < cap → w.cell? (a.add i) = some (.int k (zs.getD i 0))) : SlOk (Enc.int k) (some a) cap (zs.take len) (cut (Old w) (look w)) := by
  refine ⟨by simp; omega, .inr ⟨a, rfl, fun j u hj => ?_⟩⟩
  rw [flat_ints, List.map_take, List.getElem?_take] at hj
  split at hj
  · rename_i hjl
    have hjz : j < zs.length := by omega
    rw [List.getElem?_map, List.getElem?_eq_getElem hjz] at hj
    simp only [Option.map_some, Option.some.injEq] at hj
    subst hj
    apply cellAt_old
    rw [hc j (by omega)]
    simp [List.getD, List.getElem?_eq_getElem hjz]
  · cases hj

section
variable {H : Type} {enc : TypeId × Value → H} {P : Program} {W : World} {r : Reach} {b0 : Nat} {sp : Nat → Bool} {held : Bool}

theorem op_ints {t e : TypeId} {k : IntKind} {v : Value} {d : DataW H} {ps : List MemPlace} (ht : P.underlying t = some (.slice e)) (he : P.underlying e = some (.int k)) (hc : P.cellsOf e = 1)
    (hval : Value.okWide P W r b0 t v) (hd : DataW.Trod enc P W 0 (fun _ => true) held t v d ps) :
    ∃ A cap xs, v = .slice A (List.length xs) cap ∧ (slA (Old W) (Enc.int k) A cap xs).at W ∧ (∀ n ∈ xs, (Lit.int k n).wf = true) ∧ xs.length ≤ maxLen := by
  obtain ⟨a0, len, cap, rfl⟩ := okWide_slice ht hval
  obtain ⟨fuel, hf⟩ := hd
  rcases open_ints ht he hc hf with ⟨hcs, _⟩ | ⟨x, l, c, zs, hcs, _, hl, hm, hz, _, hcell, hwz⟩
  · simp [Value.cells] at hcs
    obtain ⟨rfl, rfl, rfl⟩ := hcs
    exact ⟨none, 0, [], rfl, sl_nil _ _ _ _, by simp, Nat.zero_le _⟩
  · simp [Value.cells] at hcs
    obtain ⟨rfl, rfl, rfl⟩ := hcs
    simp only [if_true] at hz
    refine ⟨some x, cap, zs.take len, ?_, slOk_ints hl hz (fun i hi => hcell i (by omega)), fun n hn => hwz n (List.mem_of_mem_take hn), by simp; omega⟩
    rw [List.length_take, Nat.min_eq_left (by omega)]

theorem op_rows {t e q : TypeId} {k : IntKind} {v : Value} {d : DataW H} {ps : List MemPlace} (ht : P.underlying t = some (.slice e)) (he : P.underlying e = some (.slice q)) (hq : P.underlying q = some (.int k))
    (ce : P.cellsOf e = 1) (cq : P.cellsOf q = 1)
    (hval : Value.okWide P W r b0 t v) (hd : DataW.Trod enc P W 0 (fun _ => true) held t v d ps) :
    ∃ A cap xss, v = .slice A (List.length xss) cap ∧ (slsA (Old W) (Enc.int k) A cap xss).at W ∧ (∀ xs ∈ xss, (∀ n ∈ xs, (Lit.int k n).wf = true) ∧ List.length xs ≤ maxLen) ∧ xss.length ≤ maxLen := by
  obtain ⟨a0, len, cap, rfl⟩ := okWide_slice ht hval
  obtain ⟨fuel, hf⟩ := hd
  rcases Go.Deep.open_int_rows ht he hq ce cq hf with ⟨hcs, _⟩ | ⟨a, l, c, A, L, C, Z, hcs, _, hl, hm, _, hr⟩
  · simp [Value.cells] at hcs
    obtain ⟨rfl, rfl, rfl⟩ := hcs
    exact ⟨none, 0, [], rfl, ⟨Nat.le_refl _, .inl ⟨rfl, rfl⟩⟩, by simp, Nat.zero_le _⟩
  · simp [Value.cells] at hcs
    obtain ⟨rfl, rfl, rfl⟩ := hcs
    have hrow : ∀ j, j < len → SlOk (Enc.int k) (A j) (C j) ((Z j).take (L j)) (cut (Old W) (look W)) := by
      intro j hj
      obtain ⟨h1, h2, h3, h4, h5, h6, h7⟩ := hr j (by omega)
      cases hA : A j with
      | none =>
        have hC := h6 hA
        have hz : Z j = [] := List.eq_nil_of_length_eq_zero (by omega)
        rw [hz]
        exact ⟨by simp, .inl ⟨rfl, by simp⟩⟩
      | some a' => exact slOk_ints h2 h4 fun i hi => (h7 a' hA).2 i hi
    refine ⟨some a, cap, (List.range len).map fun j => (Z j).take (L j), by simp, ⟨by simp; omega, .inr ⟨a, rfl, fun j xs hj => ?_⟩⟩, ?_, by simp; omega⟩
    · have hjl : j < len := by
        have := (List.getElem?_eq_some_iff.1 hj).1
        simpa using this
      simp [hjl] at hj
      subst hj
      obtain ⟨h1, h2, h3, h4, h5, h6, h7⟩ := hr j (by omega)
      refine ⟨A j, C j, ?_, hrow j hjl⟩
      have := cellAt_old h1
      rw [List.length_take, Nat.min_eq_left (by omega)]
      exact this
    · intro xs hxs
      simp only [List.mem_map, List.mem_range] at hxs
      obtain ⟨j, hj, rfl⟩ := hxs
      obtain ⟨h1, h2, h3, h4, h5, h6, h7⟩ := hr j (by omega)
      exact ⟨fun n hn => h5 n (List.mem_of_mem_take hn), by simp; omega⟩
end

theorem wf_u8 {n : Int} (h : (Lit.int .u8 n).wf = true) : 0 ≤ n ∧ n ≤ 255 := bounds_u8 h
theorem wf_u16 {n : Int} (h : (Lit.int .u16 n).wf = true) : 0 ≤ n ∧ n ≤ 65535 := bounds_u16 h
theorem wf_u32 {n : Int} (h : (Lit.int .u32 n).wf = true) : 0 ≤ n ∧ n ≤ 4294967295 := bounds_u32 h
theorem wf_u64 {n : Int} (h : (Lit.int .u64 n).wf = true) : 0 ≤ n ∧ n ≤ 18446744073709551615 := bounds_u64 h
theorem wf_i64 {n : Int} (h : (Lit.int .i64 n).wf = true) : -9223372036854775808 ≤ n ∧ n ≤ 9223372036854775807 := bounds_i64 h
end Go.Lift

/- Arguments that are slices of structs of two numbers. -/
namespace Go.Lift
open Go Go.ChangeShapes Go.WideShapes Go.ChangeAt Go.RowKit
set_option linter.unusedVariables false

def numOf (v : Value) : Int := match v with
  | .int _ n => n
  | _ => 0

section
variable {H : Type} {enc : TypeId × Value → H} {P : Program} {W : World} {r : Reach} {b0 : Nat} {held : Bool}

theorem op_pairs {t E : TypeId} {f0 f1 : Field} {k0 k1 : IntKind} {e : Enc (Int × Int)} {v : Value} {d : DataW H} {ps : List MemPlace} (ht : P.underlying t = some (.slice E)) (he : P.underlying E = some (.struct #[f0, f1]))
    (ce : P.cellsOf E = 2) (o0 : f0.offset = 0) (o1 : f1.offset = 1) (c0 : P.cellsOf f0.type = 1) (c1 : P.cellsOf f1.type = 1) (u0 : P.underlying f0.type = some (.int k0)) (u1 : P.underlying f1.type = some (.int k1))
    (hcs : ∀ x, e.cs x = [.int k0 x.1, .int k1 x.2])
    (hval : Value.okWide P W r b0 t v) (hd : DataW.Trod enc P W 0 (fun _ => true) held t v d ps) :
    ∃ A cap xs, v = .slice A (List.length xs) cap ∧ (slA (Old W) e A cap xs).at W ∧ (∀ x ∈ xs, (Lit.int k0 x.1).wf = true ∧ (Lit.int k1 x.2).wf = true) ∧ xs.length ≤ maxLen := by
  have hsz : e.sz = 2 := by rw [← e.len (0, 0), hcs]; rfl
  obtain ⟨a0, len, cap, rfl⟩ := okWide_slice ht hval
  obtain ⟨fuel, hf⟩ := hd
  rcases Go.Deep.open_slice_pairs ht he ce o0 o1 c0 c1 hf with ⟨hcs', _⟩ | ⟨a, l, c, m, n, V0, V1, D0, D1, P0, P1, hcs', _, hl, hm, hmm, _, hx⟩
  · simp [Value.cells] at hcs'
    obtain ⟨rfl, rfl, rfl⟩ := hcs'
    exact ⟨none, 0, [], rfl, sl_nil _ _ _ _, by simp, Nat.zero_le _⟩
  · simp [Value.cells] at hcs'
    obtain ⟨rfl, rfl, rfl⟩ := hcs'
    simp only [if_true] at hmm
    subst hmm
    have h0 : ∀ i, i < m → V0 i = .int k0 (numOf (V0 i)) ∧ (Lit.int k0 (numOf (V0 i))).wf = true := fun i hi => by
      obtain ⟨z, hz, _, hw⟩ := DataW.trod_int u0 (hx i hi).2.2.1
      simp only [List.cons.injEq, and_true] at hz
      rw [hz]; exact ⟨rfl, hw⟩
    have h1 : ∀ i, i < m → V1 i = .int k1 (numOf (V1 i)) ∧ (Lit.int k1 (numOf (V1 i))).wf = true := fun i hi => by
      obtain ⟨z, hz, _, hw⟩ := DataW.trod_int u1 (hx i hi).2.2.2
      simp only [List.cons.injEq, and_true] at hz
      rw [hz]; exact ⟨rfl, hw⟩
    refine ⟨some a, m, (List.range len).map fun i => (numOf (V0 i), numOf (V1 i)), by simp, ⟨by simpa using hl, .inr ⟨a, rfl, fun j u hj => ?_⟩⟩, fun x hx' => ?_, by simp; omega⟩
    · have hjl : j < 2 * len := by
        have := (List.getElem?_eq_some_iff.1 hj).1
        rw [flat_len, hsz] at this
        simp at this; omega
      have hq : j = (j / 2) * 2 + j % 2 := by omega
      have hq2 : j / 2 < len := by omega
      have hg := flat_get (e := e) ((List.range len).map fun i => (numOf (V0 i), numOf (V1 i))) (j / 2) (j % 2) (by simpa using hq2) (by rw [hsz]; omega)
      rw [hsz, ← hq, hj, hcs] at hg
      apply cellAt_old
      have hx := hx (j / 2) (by omega)
      rcases Nat.mod_two_eq_zero_or_one j with h | h
      · rw [h] at hg hq
        simp only [List.getElem_map, List.getElem_range, List.getElem?_cons_zero, Option.some.injEq] at hg
        rw [hg, ← (h0 (j / 2) (by omega)).1, hq]
        simpa using hx.1
      · rw [h] at hg hq
        simp only [List.getElem_map, List.getElem_range, List.getElem?_cons_succ, List.getElem?_cons_zero, Option.some.injEq] at hg
        rw [hg, ← (h1 (j / 2) (by omega)).1, hq]
        have := hx.2.1
        rw [show (j / 2 * 2 + 1) / 2 = j / 2 by omega]
        exact this
    · obtain ⟨i, hi, rfl⟩ := List.mem_map.1 hx'
      have := List.mem_range.1 hi
      exact ⟨(h0 i (by omega)).2, (h1 i (by omega)).2⟩
end
end Go.Lift

/- Arguments that are structs of six numbers. -/
namespace Go.Lift
open Go Go.ChangeShapes Go.WideShapes Go.ChangeAt Go.RowKit
set_option linter.unusedVariables false

section
variable {H : Type} {enc : TypeId × Value → H} {P : Program} {W : World} {r : Reach} {b0 base : Nat} {sp : Nat → Bool} {held : Bool}

theorem rec_field {fs : Array Field} {xs : List (DataW H × List MemPlace)} {n : Nat} {cs : List Value} (hx : xs.length = fs.size)
    (h : ∀ (i : Nat) (f : Field), fs[i]? = some f → DataW.trod enc P W base sp held n f.type ((cs.drop f.offset).take (P.cellsOf f.type)) = xs[i]?)
    {i : Nat} {f : Field} {k : IntKind} {c : Value} (hf : fs[i]? = some f) (hu : P.underlying f.type = some (.int k)) (hcs : (cs.drop f.offset).take (P.cellsOf f.type) = [c]) :
    ∃ m, c = .int k m ∧ (Lit.int k m).wf = true := by
  have h1 := h i f hf
  have hi : i < xs.length := by rw [hx]; exact (Array.getElem?_eq_some_iff.1 hf).1
  rw [hcs, List.getElem?_eq_getElem hi] at h1
  obtain ⟨m, hm, _, hw⟩ := DataW.trod_int hu h1
  simp only [List.cons.injEq, and_true] at hm
  exact ⟨m, hm, hw⟩

theorem op_rec6 {t : TypeId} {f0 f1 f2 f3 f4 f5 : Field} {k0 k1 k2 k3 k4 k5 : IntKind} {v : Value} {d : DataW H} {ps : List MemPlace} (ht : P.underlying t = some (.struct #[f0, f1, f2, f3, f4, f5])) (hC : P.cellsOf t = 6)
    (u0 : P.underlying f0.type = some (.int k0)) (u1 : P.underlying f1.type = some (.int k1)) (u2 : P.underlying f2.type = some (.int k2)) (u3 : P.underlying f3.type = some (.int k3)) (u4 : P.underlying f4.type = some (.int k4)) (u5 : P.underlying f5.type = some (.int k5))
    (c0 : f0.offset = 0 ∧ P.cellsOf f0.type = 1) (c1 : f1.offset = 1 ∧ P.cellsOf f1.type = 1) (c2 : f2.offset = 2 ∧ P.cellsOf f2.type = 1) (c3 : f3.offset = 3 ∧ P.cellsOf f3.type = 1) (c4 : f4.offset = 4 ∧ P.cellsOf f4.type = 1) (c5 : f5.offset = 5 ∧ P.cellsOf f5.type = 1)
    (hval : Value.okWide P W r b0 t v) (hd : DataW.Trod enc P W base sp held t v d ps) :
    ∃ n0 n1 n2 n3 n4 n5 : Int, v = .agg #[.int k0 n0, .int k1 n1, .int k2 n2, .int k3 n3, .int k4 n4, .int k5 n5] ∧
      (Lit.int k0 n0).wf = true ∧ (Lit.int k1 n1).wf = true ∧ (Lit.int k2 n2).wf = true ∧ (Lit.int k3 n3).wf = true ∧ (Lit.int k4 n4).wf = true ∧ (Lit.int k5 n5).wf = true := by
  obtain ⟨cs, rfl, hsz⟩ := okWide_struct ht hval
  obtain ⟨fuel, hf⟩ := hd
  obtain ⟨xs, n, _, _, _, hx, h⟩ := DataW.trod_struct ht hf
  rw [hC] at hsz
  obtain ⟨l⟩ := cs
  match l, hsz with
  | [a0, a1, a2, a3, a4, a5], _ =>
    simp only [Value.cells] at h
    obtain ⟨n0, rfl, w0⟩ := rec_field hx h (i := 0) rfl u0 (c := a0) (by simp [c0])
    obtain ⟨n1, rfl, w1⟩ := rec_field hx h (i := 1) rfl u1 (c := a1) (by simp [c1])
    obtain ⟨n2, rfl, w2⟩ := rec_field hx h (i := 2) rfl u2 (c := a2) (by simp [c2])
    obtain ⟨n3, rfl, w3⟩ := rec_field hx h (i := 3) rfl u3 (c := a3) (by simp [c3])
    obtain ⟨n4, rfl, w4⟩ := rec_field hx h (i := 4) rfl u4 (c := a4) (by simp [c4])
    obtain ⟨n5, rfl, w5⟩ := rec_field hx h (i := 5) rfl u5 (c := a5) (by simp [c5])
    exact ⟨n0, n1, n2, n3, n4, n5, rfl, w0, w1, w2, w3, w4, w5⟩
end
end Go.Lift

/- Rules for plain models: loops, room, wraps. -/
namespace Go.Lift
open Go

theorem iter_le {S R : Type} {body : S → Option (S ⊕ R)} {r : R} : ∀ (n m : Nat) (s : S), n ≤ m → iter body n s = some r → iter body m s = some r
  | 0, _, _, _, h => by cases h
  | n + 1, 0, _, hl, _ => by omega
  | n + 1, m + 1, s, hl, h => by
    simp only [iter] at h ⊢
    split at h
    · cases h
    · rename_i s' e
      exact iter_le n m s' (by omega) h
    · rename_i r' e
      exact h

/-- A loop of few rounds. -/
theorem loop_few {S R : Type} {body : S → Option (S ⊕ R)} {r : R} {s : S} (n : Nat) (hn : n ≤ 18446744073709551616) (h : iter body n s = some r) : loop body s = some r :=
  iter_le n _ s hn h

theorem iter_meas {S R : Type} {body : S → Option (S ⊕ R)} (I : S → Prop) (m : S → Nat) (Q : R → Prop)
    (hb : ∀ s, I s → (∃ s', body s = some (.inl s') ∧ I s' ∧ m s' < m s) ∨ (∃ r, body s = some (.inr r) ∧ Q r)) :
    ∀ n s, I s → m s < n → ∃ r, iter body n s = some r ∧ Q r := by
  intro n
  induction n with
  | zero => intro s _ h; omega
  | succ n ih =>
    intro s hI hm
    rcases hb s hI with ⟨s', e, hI', hlt⟩ | ⟨r, e, hQ⟩
    · obtain ⟨r, hr, hQ⟩ := ih s' hI' (by omega)
      exact ⟨r, by simp only [iter, e, hr], hQ⟩
    · exact ⟨r, by simp only [iter, e], hQ⟩

/-- A loop with an invariant and a measure. -/
theorem loop_meas {S R : Type} {body : S → Option (S ⊕ R)} (I : S → Prop) (m : S → Nat) (Q : R → Prop) {s : S} (h0 : I s) (hm : m s < 18446744073709551616)
    (hb : ∀ s, I s → (∃ s', body s = some (.inl s') ∧ I s' ∧ m s' < m s) ∨ (∃ r, body s = some (.inr r) ∧ Q r)) : ∃ r, loop body s = some r ∧ Q r :=
  iter_meas I m Q hb _ s h0 hm

/-- The same, the outcome known. -/
theorem loop_is {S R : Type} {body : S → Option (S ⊕ R)} (I : S → Prop) (m : S → Nat) {r : R} {s : S} (h0 : I s) (hm : m s < 18446744073709551616)
    (hb : ∀ s, I s → (∃ s', body s = some (.inl s') ∧ I s' ∧ m s' < m s) ∨ body s = some (.inr r)) : loop body s = some r := by
  obtain ⟨r', h, e⟩ := loop_meas I m (fun x => x = r) h0 hm (fun s hs => (hb s hs).imp id fun h => ⟨r, h, rfl⟩)
  rw [h, e]

theorem room_ok {b n : Nat} (h : n * b ≤ 140737488355328) (h' : n ≤ maxLen) : room b n = some () := by
  unfold room; rw [if_pos ⟨h, h'⟩]
theorem room_one {n : Nat} (h : n ≤ 1099511627776) : room 1 n = some () := room_ok (by omega) (by unfold maxLen; omega)
theorem mk_ok {b : Nat} {n : Int} (h0 : 0 ≤ n) (h : (b : Int) * n ≤ 140737488355328) (h' : n ≤ 9223372036854775807) : mk b n = some n.toNat := by
  unfold mk; rw [if_pos ⟨h0, h, h'⟩]

theorem ix_ok {β : Type} {xs : List β} {i : Int} (h0 : 0 ≤ i) (h : i.toNat < xs.length) : ix xs i = some xs[i.toNat] := by
  unfold ix; rw [if_pos h0, List.getElem?_eq_getElem h]
theorem ix_nat {β : Type} {xs : List β} {i : Nat} (h : i < xs.length) : ix xs (i : Int) = some xs[i] := by
  rw [ix_ok (by omega) (by simpa using h)]; simp
theorem sub_ok {β : Type} {xs : List β} {lo hi : Int} (h0 : 0 ≤ lo) (h : lo ≤ hi) (h' : hi ≤ xs.length) : sub xs lo hi = some ((xs.take hi.toNat).drop lo.toNat) := by
  unfold sub; rw [if_pos ⟨h0, h, h'⟩]

theorem i64_id {n : Int} (h : -9223372036854775808 ≤ n) (h' : n < 9223372036854775808) : IntKind.i64.wrap n = n := by rw [IntKind.wrap_i64]; omega
theorem u64_id {n : Int} (h : 0 ≤ n) (h' : n < 18446744073709551616) : IntKind.u64.wrap n = n := by
  simp [IntKind.wrap, IntKind.bits, IntKind.signed]; omega
theorem wrap_u64' (n : Int) : IntKind.u64.wrap n = n % 18446744073709551616 := by simp [IntKind.wrap, IntKind.bits, IntKind.signed]
theorem u32_id {n : Int} (h : 0 ≤ n) (h' : n < 4294967296) : IntKind.u32.wrap n = n := by rw [IntKind.wrap_u32]; omega

theorem gshr_ok {k : IntKind} {x y : Int} (h : 0 ≤ y) : gshr k x y = some (x / 2 ^ (min y.toNat k.bits)) := by
  unfold gshr; rw [if_neg (by omega), Int.fdiv_eq_ediv_of_nonneg _ (by exact Int.le_of_lt (Int.pow_pos (by decide)))]
theorem gshl_ok {k : IntKind} {x y : Int} (h : 0 ≤ y) : gshl k x y = some (k.wrap (x * 2 ^ (min y.toNat k.bits))) := by
  unfold gshl; rw [if_neg (by omega)]

end Go.Lift

/- Regions that draw their order: the first operations are quiet (each yields one value in every world of a class), the others wait for all before them. -/
namespace Go.Lift
open Go

section
variable {P : Program} {Q : Exit → Act → World → Prop}

/-- What operation k waits for. -/
def waits (o : Oper) (j : Nat) : Bool := o.after.any fun e => Region.binds .any e && e.on == j

def seesB (l : List Oper) (m : Nat) (o : Oper) : Bool :=
  (o.looksAt l.toArray).all fun t => (List.range m).all fun j => match (l[j]?).bind (·.dst) with
    | some d => d != t || waits o j
    | none => true

def drawB (l : List Oper) (m : Nat) : Bool :=
  decide (m ≤ l.length) && Region.noSelect l.toArray
  && ((List.range m).all fun k => match l[k]? with
    | some o => seesB l m o && o.after.all fun e => !Region.binds .any e || decide (e.on < k)
    | none => false)
  && (decide (m = l.length) || ((List.range m).all fun j => (List.range (m + 1)).any fun k => decide (j < k) && match l[k]? with
    | some o => waits o j
    | none => false))
  && ((List.range l.length).all fun i => decide (i ≤ m) || match l[i]? with
    | some o => o.after.any fun e => Region.binds .any e && decide (m ≤ e.on) && decide (e.on < l.length)
    | none => true)
  && Region.seqB .any l.toArray (l.length - m) m (List.replicate m true ++ List.replicate (l.length - m) false).toArray

theorem waits_spec {o : Oper} {j : Nat} (h : waits o j = true) : ∃ e ∈ o.after, Region.binds .any e = true ∧ e.on = j := by
  unfold waits at h
  rw [Array.any_eq_true'] at h
  obtain ⟨e, he, h⟩ := h
  simp only [Bool.and_eq_true, beq_iff_eq] at h
  exact ⟨e, he, h.1, h.2⟩

def cnt (L : Nat → Bool) : Nat → Nat
  | 0 => 0
  | m + 1 => cnt L m + (if L m then 0 else 1)

theorem cnt_congr {L L' : Nat → Bool} : ∀ m, (∀ j, j < m → L' j = L j) → cnt L' m = cnt L m
  | 0, _ => rfl
  | m + 1, h => by simp only [cnt, cnt_congr m (fun j hj => h j (by omega)), h m (by omega)]

theorem cnt_set {L L' : Nat → Bool} {i : Nat} : ∀ m, i < m → L i = false → L' i = true → (∀ j, j ≠ i → L' j = L j) → cnt L' m + 1 = cnt L m
  | 0, h, _, _, _ => by omega
  | m + 1, h, h0, h1, h2 => by
    simp only [cnt]
    by_cases e : i = m
    · subst e
      rw [cnt_congr i (fun j hj => h2 j (by omega)), h0, h1]; simp
    · have := cnt_set m (by omega) h0 h1 h2
      rw [h2 m (fun h => e h.symm)]; omega

theorem cnt_zero {L : Nat → Bool} : ∀ m, cnt L m = 0 → ∀ j, j < m → L j = true
  | 0, _, _, hj => by omega
  | m + 1, h, j, hj => by
    simp only [cnt] at h
    by_cases e : j = m
    · subst e
      cases hL : L j with
      | true => rfl
      | false => simp [hL] at h
    · exact cnt_zero m (by omega) j (by omega)

theorem cnt_pos {L : Nat → Bool} : ∀ m, cnt L m ≠ 0 → ∃ j, j < m ∧ L j = false ∧ ∀ i, i < j → L i = true
  | 0, h => absurd rfl h
  | m + 1, h => by
    by_cases e : cnt L m = 0
    · refine ⟨m, by omega, ?_, fun i hi => cnt_zero m e i hi⟩
      cases hL : L m with
      | false => rfl
      | true => simp [cnt, e, hL] at h
    · obtain ⟨j, hj, h0, h1⟩ := cnt_pos m e
      exact ⟨j, by omega, h0, h1⟩

theorem wpAny_more {md : Region.Mode} {ops : Array Oper} : ∀ (f : Nat) (listed : Array Bool) (a : Act) (w : World), wpAny P md ops Q f listed a w → wpAny P md ops Q (f + 1) listed a w
  | 0, listed, a, w, h => ⟨fun _ => h.2, fun i hi => by rw [h.1] at hi; cases hi⟩
  | f + 1, listed, a, w, h => ⟨h.1, fun i hi => wpOp_mono (fun a' w' h' => wpAny_more f _ a' w' h') (h.2 i hi)⟩

/-- The frame with this of the first operations done. -/
structure Mixed (l : List Oper) (m : Nat) (l0 ls : List Value) (listed : Array Bool) (a : Act) : Prop where
  df : a.defers = []
  sz : a.tmps.size = ls.length
  off : ∀ t, (∀ k o, k < m → listed.getD k true = true → l[k]? = some o → o.dst ≠ some t) → a.tmps[t]? = l0[t]?
  on : ∀ k o t, k < m → listed.getD k true = true → l[k]? = some o → o.dst = some t → a.tmps[t]? = ls[t]?

/-- What is asked of a quiet operation, at the frame in which all values stand. -/
def Qv (C : World → Prop) (ls : List Value) : Exit → Act → World → Prop := fun e a w => e = .normal ∧ a = Fr ls ∧ C w

theorem not_lets {C : World → Prop} {ls : List Value} : ¬ LetsOut (Qv C ls) := fun ⟨_, _, h⟩ => by cases h.1

theorem set_same {ls : List Value} {t : Nat} {v : Value} (h : ls.set t v = ls) (ht : t < ls.length) : ls[t]? = some v := by
  rw [← h, List.getElem?_set_self ht]

/-- A quiet operation, at a frame that agrees where it looks. -/
theorem quiet_op {ops : Array Oper} {C : World → Prop} {ls : List Value} {o : Oper} {a : Act} {w : World} {K : Act → World → Prop} (hs : ∀ cs b, o.op ≠ .select cs b)
    (hev : ∀ x ∈ o.op.operands, a.eval x = (Fr ls).eval x) (hwn : Region.wanted o (yielded ops a.tmps) = Region.wanted o (yielded ops (Fr ls).tmps))
    (hq : WL P ops (Qv C ls) [o] (Fr ls) w)
    (hK : ∀ v w', dstSet o.dst ls v = ls → C w' → K (a.put o.dst v) w') :
    if Region.wanted o (yielded ops a.tmps) then o.wp P a w K Q ∨ (o.asks P a w ∧ LetsOut Q) else K (a.put o.dst undef) w := by
  have hf : ∀ v, (Fr ls).put o.dst v = Fr ls → dstSet o.dst ls v = ls := fun v hv => by
    rw [Fr.put_dst] at hv
    have := congrArg Act.tmps hv
    simpa using this
  have h := hq.out
  unfold wpList at h
  rw [hwn]
  split at h
  · rename_i hw
    rw [if_pos hw]
    refine .inl ?_
    have h := h.resolve_right fun h => not_lets h.2
    unfold Oper.wp at h ⊢
    rw [execOp_congr o hs hev]
    generalize (execOp (Fr ls).eval o).run P w = r at h ⊢
    cases r with
    | ok n w' =>
      cases n with
      | value u => exact hK _ _ (hf _ h.2.1) h.2.2
      | skip => exact hK _ _ (hf _ h.2.1) h.2.2
      | enter f args =>
        refine Calls.mono h fun e w'' he => ?_
        cases e with
        | returned v => exact hK _ _ (hf _ he.2.1) he.2.2
        | panicked c => cases he.1
        | outgrown => exact (not_lets he).elim
      | row nm args => exact Rows.mono h fun v w'' he => hK _ _ (hf _ he.2.1) he.2.2
      | defer d =>
        simp only [Oper.upon] at h
        have h2 := congrArg Act.defers h.2.1
        cases hd : o.dst with
        | none => rw [hd] at h2; simp [Act.put] at h2
        | some t => rw [hd] at h2; simp [Act.put] at h2
      | _ => exact h.elim
    | halt x w' =>
      cases x with
      | panic v => cases h.1
      | _ => exact h.elim
  · rename_i hw
    rw [if_neg hw]
    exact hK _ _ (hf _ h.2.1) h.2.2

/-- The operations ahead, one after the other. -/
inductive Heads (P : Program) (ops : Array Oper) (C : World → Prop) (ls : List Value) : List Oper → Prop
  | nil : Heads P ops C ls []
  | cons {o : Oper} {os : List Oper} : (∀ w, C w → WL P ops (Qv C ls) [o] (Fr ls) w) → Heads P ops C ls os → Heads P ops C ls (o :: os)

theorem Heads.pure {ops : Array Oper} {C : World → Prop} {ls : List Value} {o : Oper} {os : List Oper} (h : pstep P ops o ls = some ls) (t : Heads P ops C ls os) : Heads P ops C ls (o :: os) :=
  .cons (fun _ hC => pstep_wp h (wl_nil ⟨rfl, rfl, hC⟩)) t

theorem Heads.get {ops : Array Oper} {C : World → Prop} {ls : List Value} : ∀ {os : List Oper}, Heads P ops C ls os → ∀ (k : Nat) (o : Oper), os[k]? = some o → ∀ w, C w → WL P ops (Qv C ls) [o] (Fr ls) w
  | _, .nil, k, o, h => by simp at h
  | _, .cons h t, 0, o, e => by simp at e; subst e; exact h
  | _, .cons h t, k + 1, o, e => by simp at e; exact t.get k o e

def fill1 (ls l : List Value) (o : Oper) : List Value := match o.dst with
  | some d => l.set d (ls.getD d undef)
  | none => l

def fillAll (os : List Oper) (ls l : List Value) : List Value := match os with
  | [] => l
  | o :: os => fillAll os ls (fill1 ls l o)

theorem fillAll_len (ls : List Value) : ∀ (os : List Oper) (l : List Value), (fillAll os ls l).length = l.length
  | [], l => rfl
  | o :: os, l => by
    unfold fillAll
    rw [fillAll_len]
    unfold fill1
    split <;> simp

theorem fillAll_off {ls : List Value} {t : Nat} : ∀ (os : List Oper) (l : List Value), (∀ o ∈ os, o.dst ≠ some t) → (fillAll os ls l)[t]? = l[t]?
  | [], l, _ => rfl
  | o :: os, l, h => by
    unfold fillAll
    rw [fillAll_off os _ fun o' ho' => h o' (List.mem_cons_of_mem _ ho')]
    unfold fill1
    split
    · rename_i d hd
      rw [List.getElem?_set_ne]
      intro e; subst e; exact h o List.mem_cons_self hd
    · rfl

end

section
variable {P : Program} {Q : Exit → Act → World → Prop} {l : List Oper} {m : Nat} {l0 ls : List Value} {C : World → Prop}

theorem mixed_eval {listed : Array Bool} {a : Act} {o : Oper} (hm : Mixed l m l0 ls listed a) (hoff : ∀ t : Nat, (∀ (k : Nat) (o : Oper), k < m → l[k]? = some o → o.dst ≠ some t) → ls[t]? = l0[t]?)
    (hsee : seesB l m o = true) (hdone : ∀ j, j < m → waits o j = true → listed.getD j true = true) :
    ∀ t ∈ o.looksAt l.toArray, a.tmps[t]? = ls[t]? := by
  intro t ht
  unfold seesB at hsee
  have h1 := List.all_eq_true.1 hsee t ht
  rw [List.all_eq_true] at h1
  by_cases hex : ∃ k o', k < m ∧ l[k]? = some o' ∧ o'.dst = some t
  · obtain ⟨k, o', hk, ho', hd⟩ := hex
    have h2 := h1 k (List.mem_range.2 hk)
    rw [ho'] at h2
    simp only [Option.bind_some, hd, Bool.or_eq_true, bne_self_eq_false, Bool.false_eq_true, false_or] at h2
    exact hm.on k o' t hk (hdone k hk h2) ho' hd
  · rw [hoff t fun k o' hk ho' hd => hex ⟨k, o', hk, ho', hd⟩]
    exact hm.off t fun k o' hk _ ho' hd => hex ⟨k, o', hk, ho', hd⟩

theorem eval_of_tmps {a : Act} {x : Operand} (h : ∀ t, x = .tmp t → a.tmps[t]? = ls[t]?) : a.eval x = (Fr ls).eval x := by
  cases x with
  | tmp t =>
    have := h t rfl
    simp only [Act.eval, Array.getD_eq_getD_getElem?, List.getElem?_toArray]; rw [this]
  | _ => rfl


theorem looks_tmp {ops : Array Oper} {o : Oper} {t : Tmp} (h : .tmp t ∈ o.op.operands) : t ∈ o.looksAt ops := by
  unfold Oper.looksAt
  refine List.mem_append_left _ (List.mem_filterMap.2 ⟨.tmp t, by simpa using h, rfl⟩)

theorem wanted_of_tmps {ops : Array Oper} {o : Oper} {a : Act} (h : ∀ t ∈ o.looksAt ops, a.tmps[t]? = ls[t]?) :
    Region.wanted o (yielded ops a.tmps) = Region.wanted o (yielded ops (Fr ls).tmps) := by
  cases hg : o.guard with
  | none => unfold Region.wanted; rw [hg]
  | some g =>
    obtain ⟨g, b⟩ := g
    have e : yielded ops a.tmps g = yielded ops (Fr ls).tmps g := by
      unfold yielded
      cases ht : (ops[g]?).bind (·.dst) with
      | none => rfl
      | some t =>
        have := h t (by unfold Oper.looksAt; rw [hg]; simp [ht])
        simp only [Option.bind_some, List.getElem?_toArray]
        rw [this]
    unfold Region.wanted
    rw [hg]
    simp only [e]

theorem mixed_core (hB : drawB l m = true) (hlen : ls.length = l0.length) (hoff : ∀ t : Nat, (∀ (k : Nat) (o : Oper), k < m → l[k]? = some o → o.dst ≠ some t) → ls[t]? = l0[t]?)
    (heads : Heads P l.toArray C ls (l.take m)) (tail : ∀ w, C w → WL P l.toArray Q (l.drop m) (Fr ls) w) :
    ∀ (u : Nat) (listed : Array Bool) (a : Act) (w : World), C w → Mixed l m l0 ls listed a → listed.size = l.length →
      (∀ (k : Nat) (o : Oper), k < m → listed.getD k true = true → l[k]? = some o → ∀ e ∈ o.after, Region.binds .any e = true → listed.getD e.on true = true) →
      (∀ k, m ≤ k → k < l.length → listed.getD k true = false) → cnt (fun k => listed.getD k true) m = u →
      wpAny P .any l.toArray Q (u + (l.length - m)) listed a w := by
  unfold drawB at hB
  simp only [Bool.and_eq_true, decide_eq_true_eq, List.all_eq_true, List.mem_range, Bool.or_eq_true, List.any_eq_true] at hB
  obtain ⟨⟨⟨⟨⟨hml, hsel⟩, hhead⟩, hcov⟩, htl⟩, hseq⟩ := hB
  intro u
  induction u with
  | zero =>
    intro listed a w hC hM hsz hcl hno hcnt
    have hall := cnt_zero m hcnt
    have hls : listed = (List.replicate m true ++ List.replicate (l.length - m) false).toArray := by
      apply Array.ext (by simp [hsz]; omega)
      intro i h1 h2
      by_cases hi : i < m
      · have := hall i hi
        simp only [Array.getD_eq_getD_getElem?, Array.getElem?_eq_getElem h1, Option.getD_some] at this
        simp [this, List.getElem_append, hi]
      · have := hno i (by omega) (by omega)
        simp only [Array.getD_eq_getD_getElem?, Array.getElem?_eq_getElem h1, Option.getD_some] at this
        simp [this, List.getElem_append, hi]
    have ha : a = Fr ls := by
      have ht : a.tmps = ls.toArray := by
        apply Array.ext (by simp [hM.sz])
        intro i h1 h2
        have h3 : a.tmps[i]? = ls[i]? := by
          by_cases hex : ∃ (k : Nat) (o' : Oper), k < m ∧ l[k]? = some o' ∧ o'.dst = some i
          · obtain ⟨k, o', hk, ho', hd⟩ := hex
            exact hM.on k o' i hk (hall k hk) ho' hd
          · rw [hoff i fun k o' hk ho' hd => hex ⟨k, o', hk, ho', hd⟩]
            exact hM.off i fun k o' hk _ ho' hd => hex ⟨k, o', hk, ho', hd⟩
        have h2' : i < ls.length := by simpa using h2
        rw [Array.getElem?_eq_getElem h1, List.getElem?_eq_getElem h2'] at h3
        simpa using h3
      cases a
      simp only at ht
      have := hM.df
      simp only at this
      rw [ht, this]
    subst ha
    have h := wpAny_of_seq (P := P) (md := .any) (Q' := Q) (ops := l.toArray) (l.drop m) m listed (Fr ls) w (fun j => by simp) (by
      rw [hls]; simpa [List.length_drop] using hseq) (tail w hC).out
    simpa using h
  | succ u ih =>
    intro listed a w hC hM hsz hcl hno hcnt
    rw [show u + 1 + (l.length - m) = (u + (l.length - m)) + 1 by omega]
    obtain ⟨k0, hk0, hk0f, hk0l⟩ := cnt_pos (L := fun k => listed.getD k true) m (by omega)
    refine ⟨fun hnil => ?_, fun i hi => ?_⟩
    · exfalso
      have h1 := hhead k0 hk0
      cases ho : l[k0]? with
      | none => rw [ho] at h1; cases h1
      | some o =>
        rw [ho] at h1
        simp only [Bool.and_eq_true, Array.all_eq_true_iff_forall_mem, Bool.or_eq_true, Bool.not_eq_true', decide_eq_true_eq] at h1
        have : k0 ∈ Region.ready .any l.toArray listed := mem_ready.2 ⟨hk0f, o, by simpa using ho, fun e he hb => by
          have h2 := (h1.2 e he).resolve_left (by simp [hb])
          have h3 := hk0l e.on h2
          simp only [Array.getD_eq_getD_getElem?] at h3 ⊢
          rw [Array.getElem?_eq_getElem (show e.on < listed.size by omega)] at h3 ⊢
          simpa using h3⟩
        rw [hnil] at this; cases this
    · obtain ⟨hiun, o, ho, hdeps⟩ := mem_ready.1 hi
      have ho' : l[i]? = some o := by simpa using ho
      have hil : i < l.length := (List.getElem?_eq_some_iff.1 ho').1
      have hdone : ∀ j, waits o j = true → listed.getD j true = true := fun j hj => by
        obtain ⟨e, he, hb, rfl⟩ := waits_spec hj
        have := hdeps e he hb
        simp only [Array.getD_eq_getD_getElem?] at this ⊢
        cases h : listed[e.on]? with
        | none => rw [h] at this; cases this
        | some b => rw [h] at this; simpa using this
      have him : i < m := by
        rcases Nat.lt_or_ge i m with h | h
        · exact h
        · exfalso
          rcases Nat.eq_or_lt_of_le h with h | h
          · subst h
            have hc := hcov.resolve_left (by omega)
            have key : ∀ d, d ≤ m → ∀ j, m - d ≤ j → j < m → listed.getD j true = true := by
              intro d
              induction d with
              | zero => intro _ j h1 h2; omega
              | succ d ihd =>
                intro hd j h1 h2
                by_cases hj : m - d ≤ j
                · exact ihd (by omega) j hj h2
                · obtain ⟨k, hk, hjk, hw⟩ := hc j h2
                  cases hok : l[k]? with
                  | none => rw [hok] at hw; cases hw
                  | some ok =>
                    rw [hok] at hw
                    simp only at hw
                    by_cases hkm : k = m
                    · subst hkm
                      rw [ho'] at hok
                      injection hok with hok
                      subst hok
                      exact hdone j hw
                    · obtain ⟨e, he, hb, hej⟩ := waits_spec hw
                      have := hcl k ok (by omega) (ihd (by omega) k (by omega) (by omega)) hok e he hb
                      rw [hej] at this; exact this
            have := key m (Nat.le_refl m) k0 (by omega) hk0
            rw [this] at hk0f; cases hk0f
          · have h1 := (htl i hil).resolve_left (by omega)
            rw [ho'] at h1
            simp only [Array.any_eq_true'] at h1
            obtain ⟨e, he, h2⟩ := h1
            simp only [Bool.and_eq_true, decide_eq_true_eq] at h2
            have h3 := hdeps e he h2.1.1
            have h4 := hno e.on h2.1.2 h2.2
            simp only [Array.getD_eq_getD_getElem?] at h3 h4
            rw [Array.getElem?_eq_getElem (show e.on < listed.size by omega)] at h3 h4
            simp at h3 h4
            rw [h3] at h4; cases h4
      have h1 := hhead i him
      rw [ho'] at h1
      simp only [Bool.and_eq_true] at h1
      have hag := mixed_eval hM hoff h1.1 (fun j _ hj => hdone j hj)
      have hstep := quiet_op (Q := Q) (ops := l.toArray) (K := wpAny P .any l.toArray Q (u + (l.length - m)) (listed.setIfInBounds i true)) (Region.noSelect_spec hsel i o · · ho)
        (fun x hx => eval_of_tmps fun t ht => hag t (looks_tmp (by subst ht; exact hx))) (wanted_of_tmps hag) (heads.get i o (by rw [List.getElem?_take, if_pos him]; exact ho') w hC)
        (fun v w' hv hC' => ?_)
      · unfold wpOp; simp only [ho]; exact hstep
      · have hset : ∀ j, j ≠ i → (listed.setIfInBounds i true).getD j true = listed.getD j true := fun j hj => getD_set_ne true (fun h => hj h.symm)
        have hself : (listed.setIfInBounds i true).getD i true = true := by
          simp only [Array.getD_eq_getD_getElem?]
          rw [Array.getElem?_setIfInBounds_self_of_lt (by omega)]; rfl
        refine ih _ _ _ hC' ?_ (by simpa using hsz) ?_ ?_ ?_
        · -- the frame
          refine ⟨?_, ?_, ?_, ?_⟩
          · cases hd : o.dst <;> simp [Act.put, hM.df]
          · cases hd : o.dst <;> simp [Act.put, hM.sz]
          · intro t ht
            have h2 : o.dst ≠ some t := ht i o him hself ho'
            have h3 : (a.put o.dst v).tmps[t]? = a.tmps[t]? := by
              cases hd : o.dst with
              | none => rfl
              | some d =>
                have : d ≠ t := fun h => h2 (by rw [hd, h])
                simp [Act.put, Array.getElem?_setIfInBounds_ne this]
            rw [h3]
            refine hM.off t fun k o' hk hl ho'' => ht k o' hk ?_ ho''
            by_cases hki : k = i
            · subst hki; exact hself
            · rw [hset k hki]; exact hl
          · intro k o' t hk hl hok hd
            by_cases hti : o.dst = some t
            · rw [hti] at hv ⊢
              simp only [dstSet] at hv
              by_cases hlt : t < ls.length
              · rw [set_same hv hlt]
                simp only [Act.put]
                rw [Array.getElem?_setIfInBounds_self_of_lt (by rw [hM.sz]; exact hlt)]
              · have hge : ls.length ≤ t := Nat.le_of_not_lt hlt
                rw [List.getElem?_eq_none hge]
                simp only [Act.put]
                rw [Array.getElem?_eq_none (by simp only [Array.size_setIfInBounds, hM.sz]; exact hge)]
            · have h3 : (a.put o.dst v).tmps[t]? = a.tmps[t]? := by
                cases hd' : o.dst with
                | none => rfl
                | some d =>
                  have : d ≠ t := fun h => hti (by rw [hd', h])
                  simp [Act.put, Array.getElem?_setIfInBounds_ne this]
              rw [h3]
              have hki : k ≠ i := fun h => by
                subst h
                rw [ho'] at hok
                injection hok with hok
                subst hok
                exact hti hd
              rw [hset k hki] at hl
              exact hM.on k o' t hk hl hok hd
        · intro k o' hk hl hok e he hb
          by_cases hei : e.on = i
          · rw [hei]; exact hself
          · rw [hset _ hei]
            by_cases hki : k = i
            · subst hki
              rw [ho'] at hok
              injection hok with hok
              subst hok
              have := hdeps e he hb
              simp only [Array.getD_eq_getD_getElem?] at this ⊢
              cases h : listed[e.on]? with
              | none => rw [h] at this; cases this
              | some b => rw [h] at this; simpa using this
            · rw [hset k hki] at hl
              exact hcl k o' hk hl hok e he hb
        · intro k hk hkl
          rw [hset k (by omega)]; exact hno k hk hkl
        · have := cnt_set (L := fun k => listed.getD k true) (L' := fun k => (listed.setIfInBounds i true).getD k true) m him hiun hself hset
          omega

/-- A region that draws its order. -/
theorem region_mixed {id : Nat} {w : World} (m : Nat) (ls : List Value) (C : World → Prop) (hm : P.follows .mixedOrders = true) (hB : drawB l m = true) (hfill : fillAll (l.take m) ls l0 = ls)
    (hC : C { w with drawn := w.drawn + 1 }) (heads : Heads P l.toArray C ls (l.take m)) (tail : ∀ w, C w → WL P l.toArray Q (l.drop m) (Fr ls) w) :
    (Code.region id l.toArray true).wp P Q (Fr l0) w := by
  have hB' := hB
  unfold drawB at hB'
  simp only [Bool.and_eq_true, decide_eq_true_eq] at hB'
  have hml := hB'.1.1.1.1.1
  have hlen : ls.length = l0.length := by rw [← hfill]; exact fillAll_len _ _ _
  have hoff : ∀ t : Nat, (∀ (k : Nat) (o : Oper), k < m → l[k]? = some o → o.dst ≠ some t) → ls[t]? = l0[t]? := fun t h => by
    rw [← hfill]
    refine fillAll_off _ _ fun o ho => ?_
    obtain ⟨k, hk, e⟩ := List.getElem_of_mem ho
    have hkm : k < m := by simp at hk; omega
    have : l[k]? = some o := by
      rw [List.getElem_take] at e
      rw [List.getElem?_eq_some_iff]; exact ⟨_, e⟩
    exact h k o hkm this
  refine wp_region_any hm ?_
  have hc : cnt (fun k => (Array.replicate l.toArray.size false).getD k true) m = m := by
    have : ∀ n, n ≤ m → cnt (fun k => (Array.replicate l.toArray.size false).getD k true) n = n := by
      intro n
      induction n with
      | zero => intro _; rfl
      | succ n ih =>
        intro hn
        have e : (Array.replicate l.toArray.size false).getD n true = false := getD_in (by simp; omega) (getD_replicate_false _ _)
        simp only [cnt, e]
        rw [ih (by omega)]; simp
    exact this m (Nat.le_refl m)
  have H := mixed_core hB hlen hoff heads tail m (Array.replicate l.toArray.size false) (Fr l0) { w with drawn := w.drawn + 1 } hC
    ⟨rfl, by simp [hlen], fun t _ => by simp, fun k o t hk hl => by
      rw [getD_in (by simp; omega) (getD_replicate_false _ _)] at hl; cases hl⟩ (by simp)
    (fun k o hk hl => by rw [getD_in (by simp; omega) (getD_replicate_false _ _)] at hl; cases hl)
    (fun k hk hkl => getD_in (by simpa using hkl) (getD_replicate_false _ _)) hc
  rw [show m + (l.length - m) = l.toArray.size by simp; omega] at H
  exact H

end

theorem Own.draw {w0 w : World} {D R : Nat → Prop} {X S : List Atom} (h : Own w0 D R w X S) (n : Nat) : Own w0 D R { w with drawn := n } X S :=
  ⟨⟨h.keep.os, h.keep.tape, h.keep.output, h.keep.size, h.keep.block⟩, h.xok, h.sok, h.xdom, h.sdom, h.xx, h.xs⟩

theorem ElP.uniq {A : Option Addr} {n k : Nat} {p q : Addr} (h : ElP A n k p) (h' : ElP A n k q) : p = q := by
  obtain ⟨a, rfl, rfl⟩ := h
  obtain ⟨b, e, rfl⟩ := h'
  injection e with e
  rw [e]

theorem SlR.elP {α : Type} {w : World} {e : Enc α} {A : Option Addr} {xs : List α} (h : SlR w e A xs) {i : Int} (h0 : 0 ≤ i) (h1 : i < xs.length) : ∃ p, ElP A e.sz i.toNat p := by
  obtain ⟨a, rfl, _⟩ := h.some_of_pos (by omega)
  exact ⟨_, a, rfl, rfl⟩

end Go.Lift

/- Elements that are structs: a part of one is read. -/
namespace Go.Lift
open Go

section
variable {P : Program} {ops : Array Oper} {Q : Exit → Act → World → Prop} {w : World} {o : Oper} {os : List Oper} {l : List Value}
variable {α : Type} {e : Enc α} {A : Option Addr} {xs : List α}

theorem s_load_field (x : Operand) (T : TypeId) (p : Addr) (k off : Nat) (y : α) (v : Value) (ho : o.op = .load T x) (hT : pev P (isAgg T) = some false) (hx : (Fr l).eval x = .pointer (some (p.add off)))
    (hw : Region.wanted o (yielded ops l.toArray) = true) (hp : ElP A e.sz k p) (hr : SlR w e A xs) (hy : xs[k]? = some y) (hv : (e.cs y)[off]? = some v)
    (K : WL P ops Q os (Fr (dstSet o.dst l v)) w) : WL P ops Q (o :: os) (Fr l) w := by
  obtain ⟨a, rfl, rfl⟩ := hp
  have hk : k < xs.length := (List.getElem?_eq_some_iff.1 hy).1
  have hyk : xs[k] = y := (List.getElem?_eq_some_iff.1 hy).2
  obtain ⟨a', ha, hc⟩ := hr.some_of_pos (by omega)
  injection ha with ha
  subst ha
  have hoff : off < e.sz := by rw [← e.len y]; exact (List.getElem?_eq_some_iff.1 hv).1
  have hcell : w.cell? ((a.add (k * e.sz)).add off) = some v := by
    rw [add_add]
    refine hc _ v ?_
    rw [flat_get xs k off hk hoff, hyk]
    exact hv
  have hld : (loadVar T ((a.add (k * e.sz)).add off)).run P w = .ok v w := by
    unfold loadVar
    simp [pev_run _ _ hT w, hcell]
  refine step_val hw ?_ K
  unfold execOp
  simp [ho, hx, Instr.loadAt, Instr.sureAddr, hld]
end
end Go.Lift

/- Regions that draw their order: a chain of operations that come one after the other, and among them some that only look, and may come up late. -/
namespace Go.Lift
open Go

/-- After the operation o (number i) was reckoned ahead of time, it may come up till the first link of the chain that waits for it: till then nothing touches what it reads and writes. -/
def chk (l : List Oper) (o : Oper) (i : Nat) : List (Bool × Nat) → Bool
  | [] => true
  | (b, j) :: rest => match l[j]? with
    | none => false
    | some x => (waits x i && !b) ||
      ((match o.dst with | some d => x.dst != some d && (waits x i || !(x.looksAt l.toArray).contains d) | none => true)
        && (match x.dst with | some d => !(o.looksAt l.toArray).contains d | none => true) && chk l o i rest)

def ownB (l : List Oper) (o : Oper) : Bool := match o.dst with | some d => !(o.looksAt l.toArray).contains d | none => true

def spineOk (l : List Oper) : List (Bool × Nat) → List Nat → Bool
  | [], _ => true
  | (b, i) :: rest, grp => (match l[i]? with
      | none => false
      | some o => (grp.isEmpty || grp.any fun g => waits o g) && !(rest.any fun x => x.2 == i) && (!b || (chk l o i rest && ownB l o)))
    && spineOk l rest (if b then (if grp.isEmpty then [] else i :: grp) else [i])

def spineB (l : List Oper) (π : List (Bool × Nat)) : Bool :=
  Region.noSelect l.toArray && spineOk l π []
  && (List.range l.length).all fun i => (π.any fun x => x.2 == i) && match l[i]? with
    | some o => o.after.all fun e => !Region.binds .any e || decide (e.on < i)
    | none => true

section
variable {P : Program} {Q : Exit → Act → World → Prop} {C : World → Prop} {l : List Oper}

def Walk (P : Program) (Q : Exit → Act → World → Prop) (C : World → Prop) (l : List Oper) : List (Bool × Nat) → List Value → World → Prop
  | [], m, w => C w ∧ Q .normal (Fr m) w
  | (true, i) :: rest, m, w => ∃ o m', l[i]? = some o ∧ m' = fill1 m' m o ∧ (∀ w', C w' → WL P l.toArray (Qv (fun x => x = w') m') [o] (Fr m') w') ∧ Walk P Q C l rest m' w
  | (false, i) :: rest, m, w => C w ∧ ∃ o, l[i]? = some o ∧ WL P l.toArray (fun e a w' => e = .normal ∧ ∃ m', a = Fr m' ∧ Walk P Q C l rest m' w') [o] (Fr m) w

structure Pend (P : Program) (C : World → Prop) (l : List Oper) (rest : List (Bool × Nat)) (m : List Value) (i : Nat) (o : Oper) (li : List Value) : Prop where
  ho : l[i]? = some o
  q : ∀ w, C w → WL P l.toArray (Qv (fun x => x = w) li) [o] (Fr li) w
  see : ∀ t ∈ o.looksAt l.toArray, li[t]? = m[t]?
  val : ∀ t, o.dst = some t → li[t]? = m[t]?
  len : li.length = m.length
  ck : chk l o i rest = true
  own : ∀ t, o.dst = some t → t ∉ o.looksAt l.toArray

structure Inv (P : Program) (C : World → Prop) (l : List Oper) (rest : List (Bool × Nat)) (F : List Nat) (m : List Value) (listed : Array Bool) (a : Act) : Prop where
  df : a.defers = []
  sz : a.tmps.size = m.length
  glob : ∀ t : Nat, (∀ (x : Nat) (o : Oper), x ∈ F → l[x]? = some o → o.dst ≠ some t) → a.tmps[t]? = m[t]?
  lsz : listed.size = l.length
  cov : ∀ i : Nat, i < l.length → listed.getD i true = false → i ∈ F ∨ ∃ b, (b, i) ∈ rest
  unF : ∀ i ∈ F, listed.getD i true = false
  unR : ∀ x ∈ rest, listed.getD x.2 true = false
  disj : ∀ i ∈ F, ∀ x ∈ rest, x.2 ≠ i
  pend : ∀ i ∈ F, ∃ o li, Pend P C l rest m i o li
  pair : ∀ x ∈ F, ∀ y ∈ F, x ≠ y → ∀ (ox oy : Oper), l[x]? = some ox → l[y]? = some oy → ∀ t, ox.dst = some t → oy.dst ≠ some t ∧ (t ∈ oy.looksAt l.toArray → waits oy x = true)

theorem fill1_len (m' m : List Value) (o : Oper) : (fill1 m' m o).length = m.length := by unfold fill1; split <;> simp
theorem fill1_ne {m' m : List Value} {o : Oper} {t : Nat} (h : o.dst ≠ some t) : (fill1 m' m o)[t]? = m[t]? := by
  unfold fill1
  split
  · rename_i d hd
    rw [List.getElem?_set_ne]
    intro e; subst e; exact h hd
  · rfl

/-- What the check says of the next one. -/
theorem chk_cons {o x : Oper} {i j : Nat} {b : Bool} {rest : List (Bool × Nat)} (h : chk l o i ((b, j) :: rest) = true) (hx : l[j]? = some x) (hd : ¬ (waits x i = true ∧ b = false)) :
    (∀ t, o.dst = some t → x.dst ≠ some t ∧ (t ∈ x.looksAt l.toArray → waits x i = true)) ∧ (∀ t, x.dst = some t → t ∉ o.looksAt l.toArray) ∧ chk l o i rest = true := by
  unfold chk at h
  rw [hx] at h
  simp only [Bool.or_eq_true, Bool.and_eq_true, Bool.not_eq_true'] at h
  have h := h.resolve_left hd
  refine ⟨fun t ht => ?_, fun t ht => ?_, h.2⟩
  · have h1 := h.1.1
    rw [ht] at h1
    simp only [Bool.and_eq_true, bne_iff_ne, ne_eq, Bool.or_eq_true, Bool.not_eq_true', List.contains_eq_mem, decide_eq_false_iff_not] at h1
    exact ⟨h1.1, fun hm => h1.2.resolve_right (fun hn => hn hm)⟩
  · have h1 := h.1.2
    rw [ht] at h1
    simpa using h1

theorem waits_listed {listed : Array Bool} {o : Oper} (hdeps : ∀ e ∈ o.after, Region.binds .any e = true → listed.getD e.on false = true) {j : Nat} (hj : waits o j = true) : listed.getD j true = true := by
  obtain ⟨e, he, hb, rfl⟩ := waits_spec hj
  have := hdeps e he hb
  simp only [Array.getD_eq_getD_getElem?] at this ⊢
  cases h : listed[e.on]? with
  | none => rw [h] at this; cases this
  | some b => rw [h] at this; simpa using this

/-- The ones that only look, at the head of what is left, are reckoned ahead. -/
theorem norm {w : World} {listed : Array Bool} {a : Act} : ∀ (rest : List (Bool × Nat)) (grp F : List Nat) (m : List Value), Inv P C l rest F m listed a → Walk P Q C l rest m w → spineOk l rest grp = true →
    ∃ rest' grp' F' m', Inv P C l rest' F' m' listed a ∧ Walk P Q C l rest' m' w ∧ spineOk l rest' grp' = true ∧ (rest' = [] ∨ ∃ i r, rest' = (false, i) :: r)
  | [], grp, F, m, hI, hW, hB => ⟨[], grp, F, m, hI, hW, hB, .inl rfl⟩
  | (false, i) :: r, grp, F, m, hI, hW, hB => ⟨_, grp, F, m, hI, hW, hB, .inr ⟨i, r, rfl⟩⟩
  | (true, i) :: r, grp, F, m, hI, hW, hB => by
    obtain ⟨o, m', ho, hm', hq, hW'⟩ := hW
    unfold spineOk at hB
    rw [ho] at hB
    simp only [Bool.and_eq_true, Bool.or_eq_true, Bool.not_eq_true', Bool.true_eq_false, false_or] at hB
    obtain ⟨⟨⟨_, hnd⟩, hck, hown⟩, hB'⟩ := hB
    have hlen : m'.length = m.length := by rw [hm']; exact fill1_len _ _ _
    have hne : ∀ t, o.dst ≠ some t → m'[t]? = m[t]? := fun t ht => by rw [hm']; exact fill1_ne ht
    have hsep : ∀ x ∈ F, ∀ ox lx, Pend P C l ((true, i) :: r) m x ox lx → _ := fun x hx ox lx hp => chk_cons hp.ck ho (fun h => by cases h.2)
    refine norm r _ (i :: F) m' ⟨hI.df, by rw [hlen]; exact hI.sz, ?_, hI.lsz, ?_, ?_, fun x hx => hI.unR x (List.mem_cons_of_mem _ hx), ?_, ?_, ?_⟩ hW' hB'
    · intro t ht
      rw [hne t (ht i o List.mem_cons_self ho)]
      exact hI.glob t fun x o' hx => ht x o' (List.mem_cons_of_mem _ hx)
    · intro j hj hu
      rcases hI.cov j hj hu with h | ⟨b, h⟩
      · exact .inl (List.mem_cons_of_mem _ h)
      · rcases List.mem_cons.1 h with h | h
        · injection h with _ h; subst h; exact .inl List.mem_cons_self
        · exact .inr ⟨b, h⟩
    · intro j hj
      rcases List.mem_cons.1 hj with h | h
      · subst h; exact hI.unR (true, j) List.mem_cons_self
      · exact hI.unF j h
    · intro j hj x hx
      rcases List.mem_cons.1 hj with h | h
      · subst h
        intro e
        rw [List.any_eq_false] at hnd
        exact hnd x hx (by simp [e])
      · exact hI.disj j h x (List.mem_cons_of_mem _ hx)
    · intro j hj
      rcases List.mem_cons.1 hj with h | h
      · subst h
        refine ⟨o, m', ho, hq, fun _ _ => rfl, fun _ _ => rfl, rfl, hck, fun t ht => ?_⟩
        unfold ownB at hown
        rw [ht] at hown
        simpa using hown
      · obtain ⟨ox, lx, hp⟩ := hI.pend j h
        obtain ⟨s1, s2, s3⟩ := hsep j h ox lx hp
        exact ⟨ox, lx, hp.ho, hp.q, fun t ht => by rw [hp.see t ht, hne t (fun e => s2 t e ht)], fun t ht => by rw [hp.val t ht, hne t (s1 t ht).1], by rw [hp.len, hlen], s3, hp.own⟩
    · intro x hx y hy hxy ox oy hox hoy t ht
      rcases List.mem_cons.1 hx with h | h
      · subst h
        rcases List.mem_cons.1 hy with h' | h'
        · exact absurd h'.symm hxy
        · obtain ⟨ox', lx, hp⟩ := hI.pend y h'
          obtain ⟨s1, s2, s3⟩ := hsep y h' ox' lx hp
          rw [ho] at hox; injection hox with hox; subst hox
          rw [hp.ho] at hoy; injection hoy with hoy; subst hoy
          exact ⟨fun e => (s1 t e).1 ht, fun hm => absurd hm (s2 t ht)⟩
      · rcases List.mem_cons.1 hy with h' | h'
        · subst h'
          obtain ⟨ox', lx, hp⟩ := hI.pend x h
          obtain ⟨s1, s2, s3⟩ := hsep x h ox' lx hp
          rw [ho] at hoy; injection hoy with hoy; subst hoy
          rw [hp.ho] at hox; injection hox with hox; subst hox
          exact s1 t ht
        · exact hI.pair x h y h' hxy ox oy hox hoy t ht

theorem not_ready {listed : Array Bool} : ∀ (π : List (Bool × Nat)) (grp : List Nat), spineOk l π grp = true → grp ≠ [] → (∀ g ∈ grp, listed.getD g true = false) → (∀ x ∈ π, listed.getD x.2 true = false) →
    ∀ x ∈ π, x.2 ∉ Region.ready .any l.toArray listed
  | [], _, _, _, _, _, x, hx => by cases hx
  | (b, i) :: r, grp, hB, hg, hgu, hu, x, hx => by
    unfold spineOk at hB
    cases ho : l[i]? with
    | none => rw [ho] at hB; simp at hB
    | some o =>
      rw [ho] at hB
      simp only [Bool.and_eq_true, Bool.or_eq_true, Bool.not_eq_true'] at hB
      obtain ⟨⟨⟨hact, _⟩, _⟩, hB'⟩ := hB
      rcases List.mem_cons.1 hx with h | h
      · subst h
        intro hr
        obtain ⟨_, o', ho', hdeps⟩ := mem_ready.1 hr
        have : o' = o := by
          have h1 : l[i]? = some o' := by simpa using ho'
          rw [ho] at h1; injection h1 with h1; exact h1.symm
        subst this
        have hact := hact.resolve_left (by simpa using hg)
        obtain ⟨g, hgm, hw⟩ := List.any_eq_true.1 hact
        have := waits_listed hdeps hw
        rw [hgu g hgm] at this; cases this
      · refine not_ready r _ hB' ?_ ?_ (fun y hy => hu y (List.mem_cons_of_mem _ hy)) x h
        · cases b
          · simp
          · simp [hg]
        · intro g hgm
          cases b
          · simp at hgm; subst hgm; exact hu (false, g) List.mem_cons_self
          · simp only [if_true] at hgm
            split at hgm
            · cases hgm
            · rcases List.mem_cons.1 hgm with h1 | h1
              · subst h1; exact hu (true, g) List.mem_cons_self
              · exact hgu g h1

theorem getD_self {listed : Array Bool} {i : Nat} (h : i < listed.size) : (listed.setIfInBounds i true).getD i true = true := by
  simp only [Array.getD_eq_getD_getElem?]
  rw [Array.getElem?_setIfInBounds_self_of_lt h]; rfl

theorem put_tmps_ne {a : Act} {d : Option Tmp} {v : Value} {t : Nat} (h : d ≠ some t) : (a.put d v).tmps[t]? = a.tmps[t]? := by
  cases d with
  | none => rfl
  | some d =>
    have : d ≠ t := fun e => h (by rw [e])
    simp [Act.put, Array.getElem?_setIfInBounds_ne this]
theorem put_tmps_eq {a : Act} {v : Value} {t : Nat} (h : t < a.tmps.size) : (a.put (some t) v).tmps[t]? = some v := by
  simp only [Act.put]
  rw [Array.getElem?_setIfInBounds_self_of_lt h]

theorem spine_core (hsel : Region.noSelect l.toArray = true)
    (hlow : ∀ (k : Nat) (o : Oper), l[k]? = some o → ∀ e ∈ o.after, Region.binds .any e = true → e.on < k) :
    ∀ (u : Nat) (rest : List (Bool × Nat)) (grp F : List Nat) (m : List Value) (listed : Array Bool) (a : Act) (w : World), Inv P C l rest F m listed a → Walk P Q C l rest m w → spineOk l rest grp = true →
      cnt (fun k => listed.getD k true) l.length = u → wpAny P .any l.toArray Q u listed a w := by
  intro u
  induction u with
  | zero =>
    intro rest grp F m listed a w hI hW hB hcnt
    obtain ⟨rest, grp, F, m, hI, hW, hB, hh⟩ := norm rest grp F m hI hW hB
    have hall := cnt_zero _ hcnt
    have hF : F = [] := by
      cases F with
      | nil => rfl
      | cons i F =>
        obtain ⟨o, li, hp⟩ := hI.pend i List.mem_cons_self
        have := hall i (List.getElem?_eq_some_iff.1 hp.ho).1
        rw [hI.unF i List.mem_cons_self] at this; cases this
    have hR : rest = [] := by
      rcases hh with h | ⟨i, r, h⟩
      · exact h
      · subst h
        obtain ⟨_, o, ho, _⟩ := hW
        have := hall i (List.getElem?_eq_some_iff.1 ho).1
        rw [hI.unR (false, i) List.mem_cons_self] at this; cases this
    subst hF; subst hR
    have ha : a = Fr m := by
      have ht : a.tmps = m.toArray := by
        apply Array.ext (by simp [hI.sz])
        intro i h1 h2
        have h3 := hI.glob i fun x o hx => by cases hx
        have h2' : i < m.length := by simpa using h2
        rw [Array.getElem?_eq_getElem h1, List.getElem?_eq_getElem h2'] at h3
        simpa using h3
      cases a
      simp only at ht
      have := hI.df
      simp only at this
      rw [ht, this]
    subst ha
    refine ⟨?_, hW.2⟩
    cases hr : Region.ready .any l.toArray listed with
    | nil => rfl
    | cons i r =>
      obtain ⟨hu, o, ho, _⟩ := mem_ready.1 (show i ∈ Region.ready .any l.toArray listed by rw [hr]; exact List.mem_cons_self)
      have ho' : l[i]? = some o := by simpa using ho
      rw [hall i (List.getElem?_eq_some_iff.1 ho').1] at hu; cases hu
  | succ u ih =>
    intro rest grp F m listed a w hI hW hB hcnt
    obtain ⟨rest, grp, F, m, hI, hW, hB, hh⟩ := norm rest grp F m hI hW hB
    refine ⟨fun hnil => ?_, fun i hi => ?_⟩
    · exfalso
      obtain ⟨k0, hk0, hk0f, hk0l⟩ := cnt_pos (L := fun k => listed.getD k true) l.length (by omega)
      have hk0f : listed.getD k0 true = false := hk0f
      obtain ⟨o, ho⟩ : ∃ o, l[k0]? = some o := ⟨_, List.getElem?_eq_getElem hk0⟩
      have : k0 ∈ Region.ready .any l.toArray listed := mem_ready.2 ⟨hk0f, o, by simpa using ho, fun e he hb => by
        have h2 := hlow k0 o ho e he hb
        have h3 : listed.getD e.on true = true := hk0l e.on h2
        simp only [Array.getD_eq_getD_getElem?] at h3 ⊢
        rw [Array.getElem?_eq_getElem (show e.on < listed.size by rw [hI.lsz]; omega)] at h3 ⊢
        simpa using h3⟩
      rw [hnil] at this; cases this
    · obtain ⟨hiun, o, ho0, hdeps⟩ := mem_ready.1 hi
      have ho : l[i]? = some o := by simpa using ho0
      have hil : i < l.length := (List.getElem?_eq_some_iff.1 ho).1
      have hset : ∀ j, j ≠ i → (listed.setIfInBounds i true).getD j true = listed.getD j true := fun j hj => getD_set_ne true (fun h => hj h.symm)
      have hself := getD_self (listed := listed) (i := i) (by rw [hI.lsz]; exact hil)
      have hcnt' : cnt (fun k => (listed.setIfInBounds i true).getD k true) l.length = u := by
        have := cnt_set (L := fun k => listed.getD k true) (L' := fun k => (listed.setIfInBounds i true).getD k true) l.length hil hiun hself hset
        omega
      have hselo := (Region.noSelect_spec hsel i o · · ho0)
      by_cases hF : i ∈ F
      · -- one of those that were reckoned ahead
        obtain ⟨o', li, hp⟩ := hI.pend i hF
        have e : o' = o := by have h1 := hp.ho; rw [ho] at h1; injection h1 with h1; exact h1.symm
        subst e
        have hag : ∀ t ∈ o'.looksAt l.toArray, a.tmps[t]? = li[t]? := fun t ht => by
          rw [hp.see t ht]
          refine hI.glob t fun x ox hx hox e => ?_
          by_cases hxi : x = i
          · subst hxi
            rw [ho] at hox; injection hox with hox; subst hox
            exact hp.own t e ht
          · have := waits_listed hdeps ((hI.pair x hx i hF hxi ox o' hox ho t e).2 ht)
            rw [hI.unF x hx] at this; cases this
        unfold wpOp
        simp only [ho0]
        refine quiet_op hselo (fun x hx => eval_of_tmps fun t ht => hag t (looks_tmp (by subst ht; exact hx))) (wanted_of_tmps hag) (hp.q w (by
          have : ∀ (r : List (Bool × Nat)), (r = [] ∨ ∃ i r', r = (false, i) :: r') → Walk P Q C l r m w → C w := by
            rintro r (h | ⟨j, r', h⟩) hw
            · subst h; exact hw.1
            · subst h; exact hw.1
          exact this rest hh hW)) fun v w' hv hw' => ?_
        subst hw'
        refine ih rest grp (F.filter (· != i)) m _ _ _ ⟨?_, ?_, ?_, by simpa using hI.lsz, ?_, ?_, ?_, ?_, ?_, ?_⟩ hW hB hcnt'
        · cases hd : o'.dst <;> simp [Act.put, hI.df]
        · cases hd : o'.dst <;> simp [Act.put, hI.sz]
        · intro t ht
          by_cases hdt : o'.dst = some t
          · rw [hdt] at hv ⊢
            simp only [dstSet] at hv
            rw [← hp.val t hdt]
            by_cases hlt : t < li.length
            · rw [set_same hv hlt, put_tmps_eq (by rw [hI.sz, ← hp.len]; exact hlt)]
            · rw [List.getElem?_eq_none (Nat.le_of_not_lt hlt), Array.getElem?_eq_none]
              simp only [Act.put, Array.size_setIfInBounds, hI.sz, ← hp.len]; exact Nat.le_of_not_lt hlt
          · rw [put_tmps_ne hdt]
            refine hI.glob t fun x ox hx hox => ?_
            by_cases hxi : x = i
            · subst hxi
              rw [ho] at hox; injection hox with hox; subst hox
              exact hdt
            · exact ht x ox (List.mem_filter.2 ⟨hx, by simpa using hxi⟩) hox
        · intro j hj hu
          have hji : j ≠ i := fun e => by subst e; rw [hself] at hu; cases hu
          rw [hset j hji] at hu
          rcases hI.cov j hj hu with h | h
          · exact .inl (List.mem_filter.2 ⟨h, by simpa using hji⟩)
          · exact .inr h
        · intro j hj
          have h := List.mem_filter.1 hj
          rw [hset j (by simpa using h.2)]; exact hI.unF j h.1
        · intro x hx
          rw [hset x.2 (hI.disj i hF x hx)]; exact hI.unR x hx
        · intro j hj; exact hI.disj j (List.mem_filter.1 hj).1
        · intro j hj; exact hI.pend j (List.mem_filter.1 hj).1
        · intro x hx y hy; exact hI.pair x (List.mem_filter.1 hx).1 y (List.mem_filter.1 hy).1
      · -- the next link of the chain
        obtain ⟨b, hmem⟩ := (hI.cov i hil hiun).resolve_left hF
        rcases hh with h | ⟨i', r, h⟩
        · subst h; cases hmem
        subst h
        have hB0 := hB
        unfold spineOk at hB
        obtain ⟨hCw, o1, ho1, hwl⟩ := hW
        rw [ho1] at hB
        simp only [Bool.and_eq_true, Bool.or_eq_true, Bool.not_eq_true'] at hB
        obtain ⟨⟨⟨_, hnd⟩, _⟩, hB'⟩ := hB
        have hB' : spineOk l r [i'] = true := by simpa using hB'
        have hii : i = i' := by
          rcases List.mem_cons.1 hmem with h | h
          · injection h
          · exfalso
            exact not_ready r [i'] hB' (by simp) (fun g hg => by simp at hg; subst hg; exact hI.unR (false, g) List.mem_cons_self) (fun y hy => hI.unR y (List.mem_cons_of_mem _ hy)) (b, i) h hi
        subst hii
        have e : o1 = o := by rw [ho] at ho1; injection ho1 with h; exact h.symm
        subst e
        have hnw : ∀ x ∈ F, ¬ (waits o1 x = true) := fun x hx hw => by
          have := waits_listed hdeps hw
          rw [hI.unF x hx] at this; cases this
        have hsep : ∀ x ∈ F, ∀ ox lx, Pend P C l ((false, i) :: r) m x ox lx → _ := fun x hx ox lx hp => chk_cons hp.ck ho (fun h => hnw x hx h.1)
        have hag : ∀ t ∈ o1.looksAt l.toArray, a.tmps[t]? = m[t]? := fun t ht => by
          refine hI.glob t fun x ox hx hox e => ?_
          obtain ⟨ox', lx, hp⟩ := hI.pend x hx
          obtain ⟨s1, _, _⟩ := hsep x hx ox' lx hp
          rw [hp.ho] at hox; injection hox with hox; subst hox
          exact hnw x hx ((s1 t e).2 ht)
        have hwn := wanted_of_tmps (ls := m) hag
        have hev : ∀ x ∈ o1.op.operands, a.eval x = (Fr m).eval x := fun x hx => eval_of_tmps fun t ht => hag t (looks_tmp (by subst ht; exact hx))
        -- what is left, whatever it yields
        have next : ∀ v w' m', (Fr m).put o1.dst v = Fr m' → Walk P Q C l r m' w' → wpAny P .any l.toArray Q u (listed.setIfInBounds i true) (a.put o1.dst v) w' := by
          intro v w' m' hm' hW'
          have hm1 : dstSet o1.dst m v = m' := by
            rw [Fr.put_dst] at hm'
            have := congrArg Act.tmps hm'
            simpa using this
          have hne : ∀ t : Nat, o1.dst ≠ some t → m'[t]? = m[t]? := fun t ht => by
            rw [← hm1]
            cases hd : o1.dst with
            | none => rfl
            | some d =>
              simp only [dstSet]
              rw [List.getElem?_set_ne]
              intro e; subst e; exact ht hd
          have hlen : m'.length = m.length := by rw [← hm1]; cases o1.dst <;> simp [dstSet]
          refine ih r [i] F m' _ _ _ ⟨?_, ?_, ?_, by simpa using hI.lsz, ?_, ?_, ?_, fun j hj x hx => hI.disj j hj x (List.mem_cons_of_mem _ hx), ?_, hI.pair⟩ hW' hB' hcnt'
          · cases hd : o1.dst <;> simp [Act.put, hI.df]
          · rw [hlen]; cases hd : o1.dst <;> simp [Act.put, hI.sz]
          · intro t ht
            by_cases hdt : o1.dst = some t
            · rw [← hm1, hdt]
              simp only [dstSet]
              by_cases hlt : t < m.length
              · rw [put_tmps_eq (by rw [hI.sz]; exact hlt), List.getElem?_set_self hlt]
              · rw [List.getElem?_eq_none (by simp; omega), Array.getElem?_eq_none]
                simp only [Act.put, Array.size_setIfInBounds, hI.sz]; omega
            · rw [put_tmps_ne hdt, hne t hdt]; exact hI.glob t ht
          · intro j hj hu
            have hji : j ≠ i := fun e => by subst e; rw [hself] at hu; cases hu
            rw [hset j hji] at hu
            rcases hI.cov j hj hu with h | ⟨b', h⟩
            · exact .inl h
            · rcases List.mem_cons.1 h with h | h
              · injection h with _ h; exact absurd h hji
              · exact .inr ⟨b', h⟩
          · intro j hj
            rw [hset j (fun e => hF (e ▸ hj))]; exact hI.unF j hj
          · intro x hx
            have : x.2 ≠ i := fun e => by
              rw [List.any_eq_false] at hnd
              exact hnd x hx (by simp [e])
            rw [hset x.2 this]; exact hI.unR x (List.mem_cons_of_mem _ hx)
          · intro j hj
            obtain ⟨ox, lx, hp⟩ := hI.pend j hj
            obtain ⟨s1, s2, s3⟩ := hsep j hj ox lx hp
            exact ⟨ox, lx, hp.ho, hp.q, fun t ht => by rw [hp.see t ht, hne t (fun e => s2 t e ht)], fun t ht => by rw [hp.val t ht, hne t (s1 t ht).1], by rw [hp.len, hlen], s3, hp.own⟩
        have h := hwl.out
        unfold wpList at h
        unfold wpOp
        simp only [ho0]
        rw [hwn]
        split at h
        · rename_i hw
          rw [if_pos hw]
          refine .inl ?_
          have h := h.resolve_right fun h => by obtain ⟨_, _, h1⟩ := h.2; cases h1.1
          unfold Oper.wp at h ⊢
          rw [execOp_congr o1 hselo hev]
          generalize (execOp (Fr m).eval o1).run P w = res at h ⊢
          cases res with
          | ok n w' =>
            cases n with
            | value v => obtain ⟨_, m', hm', hW'⟩ := h; exact next v w' m' hm' hW'
            | skip => obtain ⟨_, m', hm', hW'⟩ := h; exact next _ w' m' hm' hW'
            | enter f args =>
              refine Calls.mono h fun e w'' he => ?_
              cases e with
              | returned v => obtain ⟨_, m', hm', hW'⟩ := he; exact next v w'' m' hm' hW'
              | panicked c => cases he.1
              | outgrown => obtain ⟨_, _, h1⟩ := he; cases h1.1
            | row nm args => exact Rows.mono h fun v w'' he => by obtain ⟨_, m', hm', hW'⟩ := he; exact next v w'' m' hm' hW'
            | defer d =>
              simp only [Oper.upon] at h
              obtain ⟨_, m', h2, _⟩ := h
              have h2 := congrArg Act.defers h2
              cases hd : o1.dst with
              | none => rw [hd] at h2; simp [Act.put] at h2
              | some t => rw [hd] at h2; simp [Act.put] at h2
            | _ => exact h.elim
          | halt x w' =>
            cases x with
            | panic v => cases h.1
            | _ => exact h.elim
        · rename_i hw
          rw [if_neg hw]
          obtain ⟨_, m', hm', hW'⟩ := h
          exact next _ w m' hm' hW'

/-- A region that draws its order, walked along a chain. -/
theorem region_spine {id : Nat} {w : World} {m : List Value} (π : List (Bool × Nat)) (C : World → Prop) (hm : P.follows .mixedOrders = true) (hB : spineB l π = true)
    (h : Walk P Q C l π m { w with drawn := w.drawn + 1 }) : (Code.region id l.toArray true).wp P Q (Fr m) w := by
  unfold spineB at hB
  simp only [Bool.and_eq_true, List.all_eq_true, List.mem_range, List.any_eq_true, beq_iff_eq] at hB
  obtain ⟨⟨hsel, hok⟩, hall⟩ := hB
  refine wp_region_any hm ?_
  have hc : cnt (fun k => (Array.replicate l.toArray.size false).getD k true) l.length = l.length := by
    have : ∀ n, n ≤ l.length → cnt (fun k => (Array.replicate l.toArray.size false).getD k true) n = n := by
      intro n
      induction n with
      | zero => intro _; rfl
      | succ n ih =>
        intro hn
        have e : (Array.replicate l.toArray.size false).getD n true = false := getD_in (by simp; omega) (getD_replicate_false _ _)
        simp only [cnt, e]
        rw [ih (by omega)]; simp
    exact this _ (Nat.le_refl _)
  have hin : ∀ x ∈ π, x.2 < l.length := by
    have : ∀ (π : List (Bool × Nat)) (grp : List Nat), spineOk l π grp = true → ∀ x ∈ π, x.2 < l.length := by
      intro π
      induction π with
      | nil => intro _ _ x hx; cases hx
      | cons y r ihr =>
        intro grp h x hx
        obtain ⟨b, i⟩ := y
        unfold spineOk at h
        simp only [Bool.and_eq_true] at h
        rcases List.mem_cons.1 hx with e | e
        · subst e
          cases ho : l[i]? with
          | none => rw [ho] at h; simp at h
          | some o => exact (List.getElem?_eq_some_iff.1 ho).1
        · exact ihr _ h.2 x e
    exact this π [] hok
  have H := spine_core (P := P) (Q := Q) (C := C) (l := l) hsel (fun k o ho e he hb => by
      have h1 := (hall k (List.getElem?_eq_some_iff.1 ho).1).2
      rw [ho] at h1
      simp only [Array.all_eq_true_iff_forall_mem, Bool.or_eq_true, Bool.not_eq_true', decide_eq_true_eq] at h1
      exact (h1 e he).resolve_left (by simp [hb])) l.length π [] [] m (Array.replicate l.toArray.size false) (Fr m) _
    ⟨rfl, by simp, fun t _ => by simp, by simp, fun i hi _ => .inr (by
        obtain ⟨x, hx, e⟩ := (hall i hi).1
        exact ⟨x.1, by rw [← e]; exact hx⟩), (fun i hi => by cases hi), fun x hx => getD_in (by simpa using hin x hx) (getD_replicate_false _ _), (fun i hi => by cases hi), (fun i hi => by cases hi), (fun x hx => by cases hx)⟩ h hok hc
  simpa using H
end
end Go.Lift

/- The steps of a region that draws its order. -/
namespace Go.Lift
open Go

/-- These pieces are there. -/
structure Has (X S : List Atom) (w : World) : Prop where
  x : ∀ A ∈ X, A.at w
  s : ∀ A ∈ S, A.at w

section
variable {α : Type} {e : Enc α} {A : Option Addr} {cap : Nat} {xs : List α} {w : World} {X S : List Atom} {Rd : Nat → Prop}
theorem Own.has {w0 : World} {D R : Nat → Prop} {X' S' : List Atom} (h : Own w0 D R w X S) (hx : ∀ A ∈ X', A ∈ X) (hs : ∀ A ∈ S', A ∈ S) : Has X' S' w :=
  ⟨fun A hA => h.xok A (hx A hA), fun A hA => h.sok A (hs A hA)⟩
theorem Has.sl_mem (hS : Has X S w) (h : slA Rd e A cap xs ∈ S) : (slA Rd e A cap xs).at w := hS.s _ h
theorem Has.sls_mem {xss : List (List α)} (hS : Has X S w) (h : slsA Rd e A cap xss ∈ S) : (slsA Rd e A cap xss).at w := hS.s _ h
theorem Has.row_mem (hS : Has X S w) (h : rowA e A cap xs ∈ X) : (rowA e A cap xs).at w := hS.x _ h
theorem Has.box_mem {b : Nat} {cs : List Value} (hS : Has X S w) (h : boxA b cs ∈ X) : (boxA b cs).at w := hS.x _ h
end

section
variable {P : Program} {Q : Exit → Act → World → Prop} {C : World → Prop} {l : List Oper} {m m' : List Value} {i : Nat} {rest : List (Bool × Nat)} {w : World}

theorem Walk.done (hC : C w) (h : Q .normal (Fr m) w) : Walk P Q C l [] m w := ⟨hC, h⟩
theorem Walk.link {o : Oper} (hC : C w) (ho : l[i]? = some o) (h : WL P l.toArray (fun e a w' => e = .normal ∧ ∃ m', a = Fr m' ∧ Walk P Q C l rest m' w') [o] (Fr m) w) : Walk P Q C l ((false, i) :: rest) m w :=
  ⟨hC, o, ho, h⟩
theorem Walk.after {ops : Array Oper} (K : Walk P Q C l rest m w) : WL P ops (fun e a w' => e = .normal ∧ ∃ m', a = Fr m' ∧ Walk P Q C l rest m' w') [] (Fr m) w := wl_nil ⟨rfl, _, rfl, K⟩
theorem Walk.float {o : Oper} (m' : List Value) (ho : l[i]? = some o) (hm : m' = fill1 m' m o) (q : ∀ w', C w' → WL P l.toArray (Qv (fun x => x = w') m') [o] (Fr m') w') (K : Walk P Q C l rest m' w) : Walk P Q C l ((true, i) :: rest) m w :=
  ⟨o, m', ho, hm, q, K⟩

theorem pstep_again {ops : Array Oper} {o : Oper} (hsel : ∀ cs b, o.op ≠ .select cs b) (hown : ∀ t, o.dst = some t → t ∉ o.looksAt ops) (h : pstep P ops o m = some m') : pstep P ops o m' = some m' := by
  have key : ∀ v, m' = dstSet o.dst m v → (∀ t ∈ o.looksAt ops, (Fr m').tmps[t]? = m[t]?) := fun v hv t ht => by
    simp only [List.getElem?_toArray]
    rw [hv]
    cases hd : o.dst with
    | none => rfl
    | some d =>
      simp only [dstSet]
      rw [List.getElem?_set_ne]
      intro e; subst e; exact hown _ hd ht
  have fin : ∀ v, m' = dstSet o.dst m v → dstSet o.dst m' v = m' := fun v hv => by
    rw [hv]
    cases o.dst <;> simp [dstSet]
  unfold pstep at h ⊢
  cases hw : Region.wanted o (yielded ops m.toArray) with
  | true =>
    rw [hw] at h
    simp only at h
    split at h
    · rename_i v hv
      injection h with h
      have hag := key v h.symm
      have h1 := wanted_of_tmps (ls := m) hag
      simp only at h1
      rw [hw] at h1
      rw [h1]
      have h2 : execOp (Fr m').eval o = execOp (Fr m).eval o := execOp_congr o hsel fun x hx => eval_of_tmps fun t ht => hag t (looks_tmp (by subst ht; exact hx))
      simp only
      rw [h2, hv]
      exact congrArg some (fin v h.symm)
    · cases h
  | false =>
    rw [hw] at h
    injection h with h
    have hag := key undef h.symm
    have h1 := wanted_of_tmps (ls := m) hag
    simp only at h1
    rw [hw] at h1
    rw [h1]
    exact congrArg some (fin undef h.symm)

/-- So many that touch no memory. -/
def segW (P : Program) (l : List Oper) : Nat → List (Bool × Nat) → List Value → Option (List Value)
  | 0, _, m => some m
  | _ + 1, [], _ => none
  | k + 1, (b, i) :: r, m => match l[i]? with
    | none => none
    | some o => match !b || ownB l o with
      | true => match pstep P l.toArray o m with
        | some m' => segW P l k r m'
        | none => none
      | false => none

theorem Walk.seg (hsel : Region.noSelect l.toArray = true) : ∀ (k : Nat) (π : List (Bool × Nat)) {m : List Value} (m' : List Value), segW P l k π m = some m' → C w → Walk P Q C l (π.drop k) m' w → Walk P Q C l π m w
  | 0, π, m, m', h, _, K => by simp only [segW, Option.some.injEq] at h; subst h; simpa using K
  | k + 1, [], m, m', h, _, _ => by simp [segW] at h
  | k + 1, (b, i) :: r, m, m', h, hC, K => by
    unfold segW at h
    split at h
    · cases h
    rename_i o ho
    split at h
    · rename_i hb
      split at h
      · rename_i m1 hp
        have K1 := Walk.seg hsel k r m' h hC (by simpa using K)
        cases b with
        | false => exact Walk.link hC ho (pstep_wp hp (Walk.after K1))
        | true =>
          have hown : ∀ t, o.dst = some t → t ∉ o.looksAt l.toArray := fun t ht => by
            simp only [Bool.not_true, Bool.false_or] at hb
            unfold ownB at hb
            rw [ht] at hb
            simpa using hb
          have h2 := pstep_again (Region.noSelect_spec hsel i o · · (by simpa using ho)) hown hp
          refine Walk.float m1 ho ?_ (fun w' _ => pstep_wp h2 (wl_nil ⟨rfl, rfl, rfl⟩)) K1
          unfold pstep at hp
          unfold fill1
          have aux : ∀ v, dstSet o.dst m v = m1 → m1 = match o.dst with | some d => m.set d (m1.getD d undef) | none => m := fun v hv => by
            subst hv
            cases hd : o.dst with
            | none => rfl
            | some d =>
              simp only [dstSet]
              by_cases hlt : d < m.length
              · simp [hlt]
              · rw [List.set_eq_of_length_le (Nat.le_of_not_lt hlt), List.set_eq_of_length_le (Nat.le_of_not_lt hlt)]
          split at hp
          · split at hp
            · injection hp with hp; exact aux _ hp
            · cases hp
          · injection hp with hp; exact aux _ hp
      · cases h
    · cases h

theorem region_chain {id : Nat} {w0 : World} {D R : Nat → Prop} {X S : List Atom} (π : List (Bool × Nat)) (C : World → Prop) (hm : P.follows .mixedOrders = true) (hB : spineB l π = true) (hO : Own w0 D R w X S)
    (h : ∀ w', Own w0 D R w' X S → Walk P Q C l π m w') : (Code.region id l.toArray true).wp P Q (Fr m) w :=
  region_spine π C hm hB (h _ (hO.draw _))
end
end Go.Lift

/- A call of a function without a body: the comparison of two rows of bytes. -/
namespace Go.Lift
open Go

/-- The comparison of two rows of bytes. -/
def cmpB (xs ys : List Int) : Int := Lib.compareBytes (b8 xs) (b8 ys)

section
variable {P : Program} {ops : Array Oper} {Q : Exit → Act → World → Prop} {w : World} {o : Oper} {os : List Oper} {l : List Value}

theorem run_loadBytes : ∀ (xs : List Int) (a : Addr) (acc : ByteArray), (∀ (j : Nat) (u : Value), (flat (Enc.int .u8) xs)[j]? = some u → w.cell? (a.add j) = some u) →
    (Extern.Bytes.loadBytes a xs.length acc).run P w = .ok ⟨acc.data ++ (b8 xs).toArray⟩ w
  | [], a, acc, _ => by simp [Extern.Bytes.loadBytes, b8]
  | x :: xs, a, acc, h => by
    have h0 := h 0 (.int .u8 x) rfl
    rw [Addr.add_zero'] at h0
    have ih := run_loadBytes xs (a.add 1) (acc.push x.toNat.toUInt8) (fun j u hj => by
      rw [add_add, Nat.add_comm 1 j]
      exact h (j + 1) u hj)
    simp only [List.length_cons, Extern.Bytes.loadBytes, Sem.run_bind]
    rw [show (load a).run P w = .ok (.int .u8 x) w by simp [h0]]
    simp only [Result.andThen, ih]
    congr 1
    simp [b8, ByteArray.push]

theorem run_bytesOf {A : Option Addr} {cap : Nat} {xs : List Int} (h : SlR w (Enc.int .u8) A xs) : (Extern.Bytes.bytesOf (.slice A xs.length cap)).run P w = .ok ⟨(b8 xs).toArray⟩ w := by
  rcases h with ⟨rfl, rfl⟩ | ⟨a, rfl, hc⟩
  · rfl
  · simp only [Extern.Bytes.bytesOf]
    rw [run_loadBytes xs a _ hc]
    congr 1
    simp only [ByteArray.empty, ByteArray.emptyWithCapacity]
    congr 1
    exact Array.empty_append

theorem s_compare (f : FuncId) (fn : Func) {A B : Option Addr} {ca cb : Nat} {xs ys : List Int} (hf : P.funcs[f]? = some fn) (h1 : (fn.name == "runtime.NumGoroutine") = false) (h2 : fn.body.isNone = true) (h3 : Extern.findNext fn = none)
    (h4 : Extern.find fn = some Extern.BytealgCompare.compare) (hx : execOp (Fr l).eval o = callFunc f #[.slice A xs.length ca, .slice B ys.length cb])
    (hw : Region.wanted o (yielded ops l.toArray) = true) (ha : SlR w (Enc.int .u8) A xs) (hb : SlR w (Enc.int .u8) B ys)
    (K : WL P ops Q os (Fr (dstSet o.dst l (.int .i64 (cmpB xs ys)))) w) : WL P ops Q (o :: os) (Fr l) w := by
  refine step_val hw ?_ K
  rw [hx, run_callFunc_extern hf h1 h2 h3 h4]
  change ((do pure (goInt (Extern.BytealgCompare.cmp (← Extern.Bytes.bytesOf (.slice A xs.length ca)) (← Extern.Bytes.bytesOf (.slice B ys.length cb)))) : Sem Value).run P w).andThen _ = _
  simp only [Sem.run_bind, run_bytesOf ha, run_bytesOf hb, Result.andThen, Sem.run_pure]
  rw [Lib.cmp_eq]
  rfl
end
end Go.Lift

/- Arrays by value: an element is read at a place that is reckoned. -/
namespace Go.Lift
open Go

section
variable {P : Program} {ops : Array Oper} {Q : Exit → Act → World → Prop} {w : World} {o : Oper} {os : List Oper} {l : List Value}
variable {α : Type} {e : Enc α}

theorem s_index_arr (x iop : Operand) (T E : TypeId) (n bytes : Nat) (k : IntKind) (i : Int) (ys : List α) (y : α) (hag : e.agg = false) (ho : o.op = .index T x iop) (hT : P.underlying T = some (.array n E)) (el : ElTy P E e bytes)
    (hx : (Fr l).eval x = .agg (flat e ys).toArray) (hi : (Fr l).eval iop = .int k i) (hn : ys.length = n)
    (hw : Region.wanted o (yielded ops l.toArray) = true) (h0 : 0 ≤ i) (hy : ys[i.toNat]? = some y)
    (K : WL P ops Q os (Fr (dstSet o.dst l (e.v y))) w) : WL P ops Q (o :: os) (Fr l) w := by
  obtain ⟨⟨inf, z, hinf, hz, hsz, hby, hzs⟩, ha⟩ := el
  have hlt : i.toNat < ys.length := (List.getElem?_eq_some_iff.1 hy).1
  have hin : 0 ≤ i ∧ i < (n : Int) := ⟨h0, by omega⟩
  have h1 := e.one hag
  have hg := flat_get (e := e) ys i.toNat 0 hlt (by omega)
  have hyk : ys[i.toNat] = y := (List.getElem?_eq_some_iff.1 hy).2
  rw [hyk] at hg
  have hv : (e.cs y)[0]? = some (e.v y) := by
    have := e.len y
    rw [h1] at this
    match hcs : e.cs y, this with
    | [u], _ => simp [Enc.v, hag, hcs]
  rw [hv, Nat.add_zero] at hg
  refine step_val hw ?_ K
  unfold execOp
  have hA := ha w
  rw [hag] at hA
  simp [ho, hx, hi, Instr.index, asIntOf, run_underlying hT, hin, sizeOf, typeInfo, hinf, hsz, part, hA, hg]
end
end Go.Lift

/- What is reckoned from boxes that are there: the loads are answered in turn. -/
namespace Go.Lift
open Go

/-- The loads of a computation, answered by these cells in turn; the addresses that it asked for. -/
def bev (P : Program) {α : Type} : Sem α → List (Nat × List Value × Nat) → Option (α × List Addr)
  | .pure a, hs => match hs with
    | [] => some (a, [])
    | _ :: _ => none
  | .program k, hs => bev P (k P) hs
  | .mark _ k, hs => bev P k hs
  | .load _ a k, hs => match hs with
    | [] => none
    | h :: hs => match h.2.1[h.2.2]? with
      | none => none
      | some v => match bev P (k v) hs with
        | none => none
        | some r => some (r.1, a :: r.2)
  | _, _ => none

def hints (hs : List (Nat × List Value × Nat)) : List Addr := hs.map fun h => ⟨h.1, h.2.2, none⟩

theorem box_cell {w : World} {b : Nat} {cs : List Value} {off : Nat} {v : Value} (h : (boxA b cs).at w) (hv : cs[off]? = some v) : w.cell? ⟨b, off, none⟩ = some v := by
  obtain ⟨t, hb⟩ := box_heap h
  rw [cell_of_row w b off _ t (0, 0) hb, List.getElem?_toArray]
  exact hv

theorem bev_run {P : Program} {w : World} {α : Type} : ∀ (s : Sem α) (hs : List (Nat × List Value × Nat)) (r : α), bev P s hs = some (r, hints hs) → (∀ h ∈ hs, (boxA h.1 h.2.1).at w) → s.run P w = .ok r w
  | .pure a, hs, r, h, _ => by
    unfold bev at h
    cases hs with
    | nil => simp only [Option.some.injEq, Prod.mk.injEq] at h; rw [h.1]; rfl
    | cons x xs => cases h
  | .program k, hs, r, h, hat => by simp only [bev] at h; exact bev_run (k P) hs r h hat
  | .mark _ k, hs, r, h, hat => by simp only [bev] at h; exact bev_run k hs r h hat
  | .load m a k, hs, r, h, hat => by
    unfold bev at h
    cases hs with
    | nil => cases h
    | cons x xs =>
      simp only at h
      cases hv : x.2.1[x.2.2]? with
      | none => rw [hv] at h; cases h
      | some v =>
        rw [hv] at h
        simp only at h
        cases hb : bev P (k v) xs with
        | none => rw [hb] at h; cases h
        | some q =>
          rw [hb] at h
          simp only [Option.some.injEq, Prod.mk.injEq, hints, List.map_cons, List.cons.injEq] at h
          obtain ⟨h1, h2, h3⟩ := h
          have hc := box_cell (hat x List.mem_cons_self) hv
          have ih := bev_run (k v) xs r (by rw [hb, ← h1]; exact congrArg some (Prod.ext rfl h3)) fun y hy => hat y (List.mem_cons_of_mem _ hy)
          simp only [Sem.run, h2, hc]
          exact ih
  | .store .., _, _, h, _ => by simp [bev] at h
  | .new .., _, _, h, _ => by simp [bev] at h
  | .shape .., _, _, h, _ => by simp [bev] at h
  | .freeze .., _, _, h, _ => by simp [bev] at h
  | .frozen .., _, _, h, _ => by simp [bev] at h
  | .getObj .., _, _, h, _ => by simp [bev] at h
  | .setObj .., _, _, h, _ => by simp [bev] at h
  | .choose .., _, _, h, _ => by simp [bev] at h
  | .sys .., _, _, h, _ => by simp [bev] at h
  | .halt _, _, _, h, _ => by simp [bev] at h

section
variable {P : Program} {w : World} {l : List Value}
/-- The results are read, some of them from variables. -/
theorem ret_b {fn : Func} {Rr : Ending → World → Prop} (v : Value) (hs : List (Nat × List Value × Nat)) (h : bev P (results fn l.toArray) hs = some (v, hints hs)) (hat : ∀ h ∈ hs, (boxA h.1 h.2.1).at w) (hR : Rr (.returned v) w) :
    bodyPost P fn Rr .ret (Fr l) w := ⟨rfl, v, bev_run _ hs v h hat, hR⟩
theorem end_b {fn : Func} {Rr : Ending → World → Prop} (v : Value) (hs : List (Nat × List Value × Nat)) (h : bev P (results fn l.toArray) hs = some (v, hints hs)) (hat : ∀ h ∈ hs, (boxA h.1 h.2.1).at w) (hR : Rr (.returned v) w) :
    bodyPost P fn Rr .normal (Fr l) w := ⟨rfl, v, bev_run _ hs v h hat, hR⟩
end
end Go.Lift

/- Equality of arrays of numbers. -/
namespace Go.Lift
open Go

section
variable {P : Program} {ops : Array Oper} {Q : Exit → Act → World → Prop} {w : World} {o : Oper} {os : List Oper} {l : List Value}

theorem all_get_eq : ∀ (xs ys : List Int), xs.length = ys.length → ((List.range xs.length).all fun i => xs.getD i 0 == ys.getD i 0) = (xs == ys)
  | [], [], _ => rfl
  | x :: xs, y :: ys, h => by
    have ih := all_get_eq xs ys (by simpa using h)
    rw [List.length_cons, List.range_succ_eq_map, List.all_cons, List.all_map]
    simp only [List.getD_cons_zero, Function.comp_def, List.getD_cons_succ, ih]
    simp [List.cons_beq_cons]
  | [], _ :: _, h => by simp at h
  | _ :: _, [], h => by simp at h

theorem run_items (d : Nat) {e : TypeId} {k : IntKind} (he : P.underlying e = some (.int k)) (hc : P.cellsOf e = 1) {n : Nat} (xs ys : List Int) (hx : xs.length = n) (hy : ys.length = n) :
    ∀ (is : List Nat), (∀ i ∈ is, i < n) → (Op.eqItems (d + 1) e (P.cellsOf e) (xs.map (Value.int k)).toArray (ys.map (Value.int k)).toArray is).run P w = .ok (is.all fun i => xs.getD i 0 == ys.getD i 0) w
  | [], _ => by simp [Op.eqItems]
  | i :: is, h => by
    have hi := h i List.mem_cons_self
    have px : (part e (xs.map (Value.int k)).toArray (i * 1)).run P w = .ok (.int k (xs.getD i 0)) w := by
      simp [part, isAgg, run_underlying he, List.getD, List.getElem?_eq_getElem (show i < xs.length by omega)]
    have py : (part e (ys.map (Value.int k)).toArray (i * 1)).run P w = .ok (.int k (ys.getD i 0)) w := by
      simp [part, isAgg, run_underlying he, List.getD, List.getElem?_eq_getElem (show i < ys.length by omega)]
    have ih := run_items d he hc xs ys hx hy is fun j hj => h j (List.mem_cons_of_mem _ hj)
    rw [hc] at ih ⊢
    simp only [Op.eqItems, Sem.run_bind, px, py, Result.andThen_ok, run_equalIn_int w d e k k _ _ he, List.all_cons]
    cases hb : (xs.getD i 0 == ys.getD i 0)
    · simp
    · simp only [Bool.not_true, Bool.false_eq_true, if_false, Bool.true_and]
      exact ih

theorem run_eq_arr {t e : TypeId} {k : IntKind} {n : Nat} {inf : TypeInfo} (ht : P.underlying t = some (.array n e)) (he : P.underlying e = some (.int k)) (hi : P.info? e = some inf) (hc : P.cellsOf e = 1) (xs ys : List Int) (hx : xs.length = n) (hy : ys.length = n) :
    (Op.equalIn 10000 t (.agg (xs.map (Value.int k)).toArray) (.agg (ys.map (Value.int k)).toArray)).run P w = .ok (xs == ys) w := by
  rw [run_equalIn_array w 9999 _ _ ht hi, run_items 9998 he hc xs ys hx hy _ (fun i hi => List.mem_range.1 hi), ← all_get_eq xs ys (hx.trans hy.symm), hx]

theorem s_eql_arr (x y : Operand) (t t' : TypeId) {e : TypeId} {k : IntKind} {n : Nat} (xs ys : List Int) (ho : o.op = .binOp .eql t x y t') (ht : P.underlying t = some (.array n e)) (he : P.underlying e = some (.int k)) (hi : (P.info? e).isSome = true) (hc : P.cellsOf e = 1)
    (hg : P.eqGuardType P.depth t = false) (hx : (Fr l).eval x = .agg (xs.map (Value.int k)).toArray) (hy : (Fr l).eval y = .agg (ys.map (Value.int k)).toArray) (lx : xs.length = n) (ly : ys.length = n)
    (hw : Region.wanted o (yielded ops l.toArray) = true) (K : WL P ops Q os (Fr (dstSet o.dst l (.bool (xs == ys)))) w) : WL P ops Q (o :: os) (Fr l) w := by
  obtain ⟨inf, hinf⟩ := Option.isSome_iff_exists.1 hi
  refine step_val hw ?_ K
  unfold execOp
  simp [ho, hx, hy, run_eqGuard_agg, hg, run_eql_struct, run_eq_arr ht he hinf hc xs ys lx ly]

/-- The equality of two structs of numbers and truths. -/
def eqRec (P : Program) (xs ys : Array Value) : List Field → Option Bool
  | [] => some true
  | f :: fs => match P.underlying f.type, xs[f.offset]?, ys[f.offset]? with
    | some (.int _), some (.int k a), some (.int k' b) => if f.name ≠ "_" ∧ k = k' then (eqRec P xs ys fs).map (fun r => (a == b) && r) else none
    | some .bool, some (.bool a), some (.bool b) => if f.name ≠ "_" then (eqRec P xs ys fs).map (fun r => (a == b) && r) else none
    | _, _, _ => none

theorem run_eqRec {xs ys : Array Value} (d : Nat) : ∀ (fs : List Field) (r : Bool), eqRec P xs ys fs = some r → (Op.eqFields (d + 1) xs ys fs).run P w = .ok r w
  | [], r, h => by simp only [eqRec, Option.some.injEq] at h; subst h; simp [Op.eqFields]
  | f :: fs, r, h => by
    unfold eqRec at h
    split at h
    · rename_i k0 k a k' b hu hx hy
      split at h
      · rename_i hn
        obtain ⟨hn, rfl⟩ := hn
        rw [Option.map_eq_some_iff] at h
        obtain ⟨r', hr, rfl⟩ := h
        have px : (part f.type xs f.offset).run P w = .ok (.int k a) w := by simp [part, isAgg, run_underlying hu, hx]
        have py : (part f.type ys f.offset).run P w = .ok (.int k b) w := by simp [part, isAgg, run_underlying hu, hy]
        have ih := run_eqRec d fs r' hr
        simp only [Op.eqFields, if_pos hn, Sem.run_bind, px, py, Result.andThen_ok, run_equalIn_int w d f.type k k0 _ _ hu]
        cases hb : (a == b)
        · simp
        · simp only [Bool.not_true, Bool.false_eq_true, if_false, Bool.true_and]
          exact ih
      · cases h
    · rename_i a b hu hx hy
      split at h
      · rename_i hn
        rw [Option.map_eq_some_iff] at h
        obtain ⟨r', hr, rfl⟩ := h
        have px : (part f.type xs f.offset).run P w = .ok (.bool a) w := by simp [part, isAgg, run_underlying hu, hx]
        have py : (part f.type ys f.offset).run P w = .ok (.bool b) w := by simp [part, isAgg, run_underlying hu, hy]
        have ih := run_eqRec d fs r' hr
        simp only [Op.eqFields, if_pos hn, Sem.run_bind, px, py, Result.andThen_ok, run_equalIn_bool' w d f.type _ _ hu]
        cases hb : (a == b)
        · simp
        · simp only [Bool.not_true, Bool.false_eq_true, if_false, Bool.true_and]
          exact ih
      · cases h
    · cases h

theorem s_eql_rec (x y : Operand) (t t' : TypeId) {xs ys : Array Value} (r : Bool) (ho : o.op = .binOp .eql t x y t') (ht : P.underlying t = some (.struct (P.fieldsOf t))) (hp : P.stoodInHeld t = false)
    (hg : P.eqGuardType P.depth t = false) (hx : (Fr l).eval x = .agg xs) (hy : (Fr l).eval y = .agg ys) (hr : eqRec P xs ys (P.fieldsOf t).toList = some r)
    (hw : Region.wanted o (yielded ops l.toArray) = true) (K : WL P ops Q os (Fr (dstSet o.dst l (.bool r))) w) : WL P ops Q (o :: os) (Fr l) w := by
  refine step_val hw ?_ K
  unfold execOp
  have h := run_eqRec (w := w) (P := P) 9998 (P.fieldsOf t).toList r hr
  simp [ho, hx, hy, run_eqGuard_agg, hg, run_eql_struct, run_equalIn_agg w 9999 t xs ys ht hp, h]
end
end Go.Lift
