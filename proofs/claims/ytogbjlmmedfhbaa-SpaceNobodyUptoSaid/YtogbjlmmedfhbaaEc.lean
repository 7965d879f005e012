/- Operations, forms, contracts, calls. -/
import Derived.Test.YtogbjlmmedfhbaaEb
import Derived.Laws.MakeOwn
import Derived.Laws.CopyRow
import Derived.Lib.ConvBytes
/- Operations that change memory: new variables, stores, new rows. -/
namespace Go.Lift
open Go
set_option linter.unusedVariables false

structure Cx where
  P : Program
  G : Globs
  w0 : World
  D : Nat → Prop
  R : Nat → Prop
  z0 : Zn

structure At (c : Cx) (ρ : Nat → HI) (Z : Nat → Prop) (z : Zn) (X : List Atom) (st : St) (l : List Value) (w : World) : Prop where
  fr : FrAt ρ z st.mem.length st.fr l
  mem : MemAt ρ z st.mem.length st.mem X
  own : Own c.w0 c.D c.R w X [zA Z z]
  ext : Ext c.z0 z
  gl : GlAt c.G c.z0
  dr : ∀ b, c.D b → c.R b

theorem GlAt.ext {G : Globs} {z z' : Zn} (h : GlAt G z) (e : Ext z z') : GlAt G z' := fun g hg => let ⟨c, h1, h2, t, m, h3⟩ := h g hg; ⟨c, Ty.holds_ext e _ _ _ h1, h2.ext e, t, m, e.hp _ _ h3⟩

section
variable {c : Cx} {ρ ρ' : Nat → HI} {Z Z' : Nat → Prop} {z z' : Zn} {X : List Atom} {st : St} {l : List Value} {w w' : World}
theorem At.fx (h : At c ρ Z z X st l w) : Fx X Z z w := ⟨h.own.sok _ (List.mem_singleton.2 rfl), h.own.xok⟩
theorem At.gz (h : At c ρ Z z X st l w) : GlAt c.G z := h.gl.ext h.ext

/-! ### Pieces by their number -/
variable {w0 : World} {D R : Nat → Prop} {S : List Atom} {A B : Atom}

theorem Own.setAt (hS : Own w0 D R w X S) (i : Nat) (hi : X[i]? = some A) (hk : Keeps A.dom w w') (hB : B.at w') (hd : ∀ b, B.dom b → (A.dom b ∨ w.heap.size ≤ b) ∧ b < w'.heap.size) : Own w0 D R w' (X.set i B) S := by
  have h1 := (hS.pick i hi).turn1 hk hB hd
  refine h1.perm ?_
  have hlt := (List.getElem?_eq_some_iff.1 hi).1
  have h2 : (X.set i B)[i]? = some B := by simp [hlt]
  have h3 := perm_pick (X.set i B) i B h2
  rw [List.eraseIdx_set_eq] at h3
  exact h3.symm

theorem Own.push (hS : Own w0 D R w X S) (hk : Keeps (fun _ => False) w w') (hB : B.at w') (hd : ∀ b, B.dom b → w.heap.size ≤ b ∧ b < w'.heap.size) : Own w0 D R w' (X ++ [B]) S :=
  (hS.new hk hB hd).perm (by simpa using (List.perm_append_comm (l₁ := [B]) (l₂ := X)))

theorem deadA_at (w : World) : deadA.at w := trivial

/-- A piece goes, and another one comes in its stead, behind all. -/
theorem Own.move (hS : Own w0 D R w X S) (i : Nat) (hi : X[i]? = some A) (hk : Keeps A.dom w w') (hB : B.at w') (hd : ∀ b, B.dom b → (A.dom b ∨ w.heap.size ≤ b) ∧ b < w'.heap.size) : Own w0 D R w' (X.set i deadA ++ [B]) S := by
  have h1 := (hS.pick i hi).turn1 hk hB hd
  have h2 : Own w0 D R w' (deadA :: B :: X.eraseIdx i) S := h1.new (Keeps.refl _ _) (deadA_at w') (fun b hb => hb.elim)
  refine h2.perm ?_
  have hlt := (List.getElem?_eq_some_iff.1 hi).1
  have h3 : (X.set i deadA)[i]? = some deadA := by simp [hlt]
  have h4 := perm_pick (X.set i deadA) i deadA h3
  rw [List.eraseIdx_set_eq] at h4
  have h5 : (deadA :: B :: X.eraseIdx i).Perm (B :: deadA :: X.eraseIdx i) := List.Perm.swap ..
  refine h5.trans (((h4.symm).cons B).trans ?_)
  simpa using (List.perm_append_comm (l₁ := [B]) (l₂ := X.set i deadA))

/-! ### What an act leaves -/

structure Lk where
  lk : Nat → Bool
  sz : Bool

structure Held (k : Lk) (X X' : List Atom) (Z Z' : Nat → Prop) (z z' : Zn) : Prop where
  x : ∀ i, k.lk i = true → i < X.length → X'[i]? = X[i]?
  z : k.sz = true → Z' = Z ∧ z' = z

theorem Held.refl (k : Lk) (X : List Atom) (Z : Nat → Prop) (z : Zn) : Held k X X Z Z z z := ⟨fun _ _ _ => rfl, fun _ => ⟨rfl, rfl⟩⟩
theorem Held.trans {k : Lk} {X' X'' : List Atom} {Z'' : Nat → Prop} {z'' : Zn} (h : Held k X X' Z Z' z z') (h' : Held k X' X'' Z' Z'' z' z'') : Held k X X'' Z Z'' z z'' :=
  ⟨fun i hi hl => by
    have e := h.x i hi hl
    have hl' : i < X'.length := by
      rw [List.getElem?_eq_getElem hl] at e
      exact (List.getElem?_eq_some_iff.1 e).1
    rw [h'.x i hi hl', e], fun hs => ⟨(h'.z hs).1.trans (h.z hs).1, (h'.z hs).2.trans (h.z hs).2⟩⟩
theorem Held.mono {k k' : Lk} {X' : List Atom} (h : Held k X X' Z Z' z z') (hl : ∀ i, k'.lk i = true → k.lk i = true) (hs : k'.sz = true → k.sz = true) : Held k' X X' Z Z' z z' :=
  ⟨fun i hi => h.x i (hl i hi), fun e => h.z (hs e)⟩

/-- A later state: nothing that was known is lost, what is held stays. -/
structure LatK (k : Lk) (ρ ρ' : Nat → HI) (z z' : Zn) (n n' : Nat) (X X' : List Atom) (Z Z' : Nat → Prop) : Prop where
  lat : Later ρ ρ' z z' n n'
  held : Held k X X' Z Z' z z'
theorem LatK.refl (k : Lk) (ρ : Nat → HI) (z : Zn) (n : Nat) (X : List Atom) (Z : Nat → Prop) : LatK k ρ ρ z z n n X X Z Z := ⟨Later.refl .., Held.refl ..⟩
theorem LatK.trans {k : Lk} {ρ ρ' ρ'' : Nat → HI} {z z' z'' : Zn} {n n' n'' : Nat} {X X' X'' : List Atom} {Z Z' Z'' : Nat → Prop} (h : LatK k ρ ρ' z z' n n' X X' Z Z') (h' : LatK k ρ' ρ'' z' z'' n' n'' X' X'' Z' Z'') : LatK k ρ ρ'' z z'' n n'' X X'' Z Z'' :=
  ⟨h.lat.trans h'.lat, h.held.trans h'.held⟩
/-- What stays as it is. -/
def kOf (ro : List Nat) : Lk := ⟨fun i => ro.contains i, false⟩
def Ro (ro : List Nat) (X X' : List Atom) : Prop := ∀ i, ro.contains i = true → i < X.length → X'[i]? = X[i]?
theorem Held.ro {ro : List Nat} {X' : List Atom} (h : Held (kOf ro) X X' Z Z' z z') : Ro ro X X' := h.x

def Acts {R' : Type} (c : Cx) (k : Lk) (ρ : Nat → HI) (Z : Nat → Prop) (z : Zn) (X : List Atom) (st : St) (l : List Value) (w : World) (s : Sem Next) (K : AV → List Pc → Option R') (r : R') : Prop :=
  ∃ av mem v w' ρ' Z' z' X', K av mem = some r ∧ av.at ρ' z' mem.length v ∧ At c ρ' Z' z' X' ⟨st.fr, mem⟩ l w' ∧ (s.run c.P w = .ok (.value v) w' ∨ (s.run c.P w = .ok .skip w' ∧ v = undef)) ∧
    Later ρ ρ' z z' st.mem.length mem.length ∧ Held k X X' Z Z' z z'

def ext1 (ρ : Nat → HI) (n : Nat) (h : HI) : Nat → HI := fun i => match Nat.beq i n with | true => h | false => ρ i
theorem ext1_lt (ρ : Nat → HI) {n : Nat} (h : HI) {i : Nat} (hi : i < n) : ext1 ρ n h i = ρ i := by
  unfold ext1
  split
  · rename_i hb; have := Nat.eq_of_beq_eq_true hb; omega
  · rfl
theorem ext1_eq (ρ : Nat → HI) (n : Nat) (h : HI) : ext1 ρ n h n = h := by
  unfold ext1
  split
  · rfl
  · rename_i hb; rw [Nat.beq_refl] at hb; cases hb

theorem later1 (ρ : Nat → HI) (z : Zn) (n : Nat) (h : HI) : Later ρ (ext1 ρ n h) z z n (n + 1) := ⟨fun _ hi => ext1_lt ρ h hi, Ext.refl z, Nat.le_succ n⟩

theorem MemAt.push {n : Nat} {mem : List Pc} (hm : MemAt ρ z n mem X) (hn : n = mem.length) (L : Later ρ ρ' z z n (n + 1)) {p : Pc} (hp : p.is ρ' z (n + 1) n A) : MemAt ρ' z (n + 1) (mem ++ [p]) (X ++ [A]) := by
  have h1 := hm.later L (by omega) rfl
  refine ⟨by simp [h1.1], fun i q B hq hB => ?_⟩
  rw [List.getElem?_append] at hq hB
  rw [← h1.1] at hB
  split at hq
  · rw [if_pos (by assumption)] at hB; exact h1.2 i q B hq hB
  · rename_i hi
    rw [if_neg hi] at hB
    have : i - mem.length = 0 := by
      have := (List.getElem?_eq_some_iff.1 hq).1
      simp at this; omega
    rw [this] at hq hB
    simp at hq hB
    subst hq; subst hB
    have : i = n := by omega
    subst this
    exact hp

theorem MemAt.put {n : Nat} {mem : List Pc} (hm : MemAt ρ z n mem X) {h : Nat} {p : Pc} (hp : p.is ρ z n h A) : MemAt ρ z n (mem.set h p) (X.set h A) := by
  refine ⟨by simp [hm.1], fun i q B hq hB => ?_⟩
  rw [List.getElem?_set] at hq hB
  split at hq
  · rename_i e; subst e
    rw [if_pos rfl] at hB
    split at hq
    · injection hq with hq; subst hq
      split at hB
      · injection hB with hB; subst hB; exact hp
      · cases hB
    · cases hq
  · rename_i e; rw [if_neg e] at hB; exact hm.2 i q B hq hB

/-- A new piece in a new block. -/
theorem acts_new {R' : Type} {k : Lk} (h : At c ρ Z z X st l w) {s : Sem Next} {K : AV → List Pc → Option R'} {r : R'} {hi : HI} {p : Pc} {av : AV} {v : Value} {B : Atom}
    (hK : K av (st.mem ++ [p]) = some r) (hs : s.run c.P w = .ok (.value v) w') (hk : Keeps (fun _ => False) w w') (hB : B.at w') (hd : ∀ b, B.dom b → w.heap.size ≤ b ∧ b < w'.heap.size)
    (hp : p.is (ext1 ρ st.mem.length hi) z (st.mem.length + 1) st.mem.length B) (hv : av.at (ext1 ρ st.mem.length hi) z (st.mem.length + 1) v) : Acts c k ρ Z z X st l w s K r := by
  have L := later1 ρ z st.mem.length hi
  have e : (st.mem ++ [p]).length = st.mem.length + 1 := by simp
  refine ⟨av, st.mem ++ [p], v, w', ext1 ρ st.mem.length hi, Z, z, X ++ [B], hK, by rw [e]; exact hv, ⟨?_, ?_, h.own.push hk hB hd, h.ext, h.gl, h.dr⟩, .inl hs, by rw [e]; exact L, ⟨fun i _ hi => ?_, fun _ => ⟨rfl, rfl⟩⟩⟩
  · show FrAt _ _ (st.mem ++ [p]).length _ _
    rw [e]; exact h.fr.later L
  · show MemAt _ _ (st.mem ++ [p]).length _ _
    rw [e]; exact h.mem.push rfl L hp
  · rw [List.getElem?_append, if_pos hi]

/-- A piece is written to. -/
theorem acts_put {R' : Type} {k : Lk} (h : At c ρ Z z X st l w) {s : Sem Next} {K : AV → List Pc → Option R'} {r : R'} {i : Nat} {p : Pc} {av : AV} {v : Value} {A B : Atom}
    (hK : K av (st.mem.set i p) = some r) (hi : X[i]? = some A) (hlk : k.lk i = false) (hs : s.run c.P w = .ok (.value v) w' ∨ (s.run c.P w = .ok .skip w' ∧ v = undef)) (hk : Keeps A.dom w w') (hB : B.at w') (hd : ∀ b, B.dom b → (A.dom b ∨ w.heap.size ≤ b) ∧ b < w'.heap.size)
    (hp : p.is ρ z st.mem.length i B) (hv : av.at ρ z st.mem.length v) : Acts c k ρ Z z X st l w s K r := by
  have e : (st.mem.set i p).length = st.mem.length := by simp
  refine ⟨av, st.mem.set i p, v, w', ρ, Z, z, X.set i B, hK, by rw [e]; exact hv, ⟨?_, ?_, h.own.setAt i hi hk hB hd, h.ext, h.gl, h.dr⟩, hs, by rw [e]; exact Later.refl .., ⟨fun j hj _ => ?_, fun _ => ⟨rfl, rfl⟩⟩⟩
  · show FrAt _ _ (st.mem.set i p).length _ _
    rw [e]; exact h.fr
  · show MemAt _ _ (st.mem.set i p).length _ _
    rw [e]; exact h.mem.put hp
  · rw [List.getElem?_set, if_neg]
    rintro rfl
    rw [hlk] at hj; cases hj

/-- A piece goes, another one comes. -/
theorem acts_move {R' : Type} {k : Lk} (h : At c ρ Z z X st l w) {s : Sem Next} {K : AV → List Pc → Option R'} {r : R'} {i : Nat} {hi : HI} {p : Pc} {av : AV} {v : Value} {A B : Atom}
    (hK : K av (st.mem.set i .dead ++ [p]) = some r) (hX : X[i]? = some A) (hlk : k.lk i = false) (hs : s.run c.P w = .ok (.value v) w') (hk : Keeps A.dom w w') (hB : B.at w') (hd : ∀ b, B.dom b → (A.dom b ∨ w.heap.size ≤ b) ∧ b < w'.heap.size)
    (hp : p.is (ext1 ρ st.mem.length hi) z (st.mem.length + 1) st.mem.length B) (hv : av.at (ext1 ρ st.mem.length hi) z (st.mem.length + 1) v) : Acts c k ρ Z z X st l w s K r := by
  have L := later1 ρ z st.mem.length hi
  have e : (st.mem.set i .dead ++ [p]).length = st.mem.length + 1 := by simp
  have hdead : (Pc.dead).is ρ z st.mem.length i deadA := trivial
  refine ⟨av, st.mem.set i .dead ++ [p], v, w', ext1 ρ st.mem.length hi, Z, z, X.set i deadA ++ [B], hK, by rw [e]; exact hv, ⟨?_, ?_, h.own.move i hX hk hB hd, h.ext, h.gl, h.dr⟩, .inl hs, by rw [e]; exact L, ⟨fun j hj hjl => ?_, fun _ => ⟨rfl, rfl⟩⟩⟩
  · show FrAt _ _ (st.mem.set i .dead ++ [p]).length _ _
    rw [e]; exact h.fr.later L
  · show MemAt _ _ (st.mem.set i .dead ++ [p]).length _ _
    rw [e]
    exact (h.mem.put hdead).push (by simp) L hp
  · rw [List.getElem?_append, if_pos (by simpa using hjl), List.getElem?_set, if_neg]
    rintro rfl
    rw [hlk] at hj; cases hj

/-! ### Variables -/

theorem box_at_new {cs : List Value} {E : TypeId} (w : World) : (boxA w.heap.size cs).at (w.alloc (.cells cs.toArray E)) := box_mk (t := E) (heap_alloc_new w _)

def xalloc {R' : Type} (P : Program) (E : TypeId) (mem : List Pc) (K : AV → List Pc → Option R') : Option R' :=
  match zeroL P E with
  | some ls => K (.vl false [.ptr mem.length 0]) (mem ++ [.box ls])
  | none => none

theorem new_box {R' : Type} {k : Lk} (h : At c ρ Z z X st l w) {s : Sem Next} {K : AV → List Pc → Option R'} {r : R'} {ls : List Leaf} {cs : List Value} {E : TypeId}
    (hK : K (.vl false [.ptr st.mem.length 0]) (st.mem ++ [.box ls]) = some r) (hl : Lvs ρ z st.mem.length ls cs)
    (hs : s.run c.P w = .ok (.value (.pointer (some ⟨w.heap.size, 0, none⟩))) (w.alloc (.cells cs.toArray E))) : Acts c k ρ Z z X st l w s K r := by
  have L := later1 ρ z st.mem.length ⟨some ⟨w.heap.size, 0, none⟩, 0, .unit, 0⟩
  have he := congrArg HI.A (ext1_eq ρ st.mem.length ⟨some ⟨w.heap.size, 0, none⟩, 0, .unit, 0⟩)
  exact acts_new (hi := ⟨some ⟨w.heap.size, 0, none⟩, 0, .unit, 0⟩) h hK hs (keeps_alloc' _ _ _) (box_at_new (E := E) w) (by rintro b rfl; exact ⟨Nat.le_refl _, by simp⟩)
    ⟨w.heap.size, cs, he, Lvs.later L _ _ hl, rfl⟩ (Cmp.one ⟨Nat.lt_succ_self _, w.heap.size, he, rfl⟩)

theorem xalloc_acts {R' : Type} {k : Lk} (h : At c ρ Z z X st l w) {E : TypeId} {K : AV → List Pc → Option R'} {r : R'} (hx : xalloc c.P E st.mem K = some r) {o : Oper} (ho : o.op = .alloc E) :
    Acts c k ρ Z z X st l w (execOp (Fr l).eval o) K r := by
  unfold xalloc at hx
  split at hx
  · rename_i ls hz
    obtain ⟨i, v, cs, h1, h2, h3, h4⟩ := zeroL_spec hz
    refine new_box (E := E) h hx (h4 ρ z _) ?_
    simp [execOp, ho, Instr.alloc, newVar, newRow, zeroValue, typeInfo, h1, h2, h3]
  · cases hx

def xbox {R' : Type} (x : AV) (mem : List Pc) (K : AV → List Pc → Option R') : Option R' :=
  match x.asLs with
  | some ls => K (.vl false [.ptr mem.length 0]) (mem ++ [.box ls])
  | none => none

theorem asLs_at {x : AV} {ls : List Leaf} {n : Nat} {v : Value} (h : x.asLs = some ls) (hx : x.at ρ z n v) : ∃ cs, Lvs ρ z n ls cs ∧ v.cells = cs.toArray := by
  unfold AV.asLs at h
  split at h
  · injection h with h; subst h; exact Cmp.cells hx
  · cases h

theorem xbox_acts {R' : Type} {k : Lk} (h : At c ρ Z z X st l w) {E : TypeId} {x : Operand} {K : AV → List Pc → Option R'} {r : R'} (hx : xbox (opd c.G st.fr x) st.mem K = some r) {o : Oper} (ho : o.op = .box E x) :
    Acts c k ρ Z z X st l w (execOp (Fr l).eval o) K r := by
  unfold xbox at hx
  split at hx
  · rename_i ls hls
    obtain ⟨cs, h1, h2⟩ := asLs_at hls (opd_at h.fr h.gz x)
    refine new_box (E := E) h hx h1 ?_
    simp [execOp, ho, Instr.box, newVar, newRow, h2]
  · cases hx

theorem run_storeVar_at {P : Program} {T : TypeId} {b off : Nat} {cs vs : List Value} {v : Value} (hb : (boxA b cs).at w) (hv : v.cells = vs.toArray) (hs : szB P T vs.length = true) (hone : ∀ u ∈ vs, u.oneCell' = true) (hl : off + vs.length ≤ cs.length) :
    ∃ w', (storeVar T ⟨b, off, none⟩ v).run P w = .ok () w' ∧ (boxA b (cs.take off ++ (vs ++ cs.drop (off + vs.length)))).at w' ∧ Keeps (boxA b cs).dom w w' ∧ b < w'.heap.size := by
  obtain ⟨t, hh⟩ := box_heap hb
  obtain ⟨i, hi, hsz⟩ := szB_spec hs
  have hst := run_storeCells_at P b off t vs 0 _ w hh (by simp; omega) hone
  simp only [Nat.add_zero] at hst
  refine ⟨w.setRow b (cs.take off ++ (vs ++ cs.drop (off + vs.length))).toArray, ?_, box_mk (t := t) (setRow_heap w b _ _ t _ hh), ⟨rfl, rfl, rfl, by simp, fun k _ hk => setRow_other w b k _ fun e => hk e⟩, ?_⟩
  · have hne : ¬ (v.cells.size ≠ i.size) := by rw [hv, hsz]; simp
    unfold storeVar
    simp only [Sem.run_bind, sizeOf, typeInfo]
    rw [List.append_assoc] at hst
    simp [hi, hv, hsz, hst]
  · have := (Array.getElem?_eq_some_iff.1 hh).1
    simpa using this

/-- What a store leaves. -/
def xstore {R' : Type} (P : Program) (k : Lk) (T : TypeId) (lf : Leaf) (x : AV) (mem : List Pc) (K : AV → List Pc → Option R') : Option R' :=
  match x.asLs with
  | some vs => match szB P T (szs vs) with
    | true => match lf with
      | .ptr h off => match k.lk h, mem[h]? with
        | false, some (.box ls) => match putL ls off (szs vs) vs with
          | some ls' => K .und (mem.set h (.box ls'))
          | none => none
        | _, _ => none
      | .pta h off te m i => match k.lk h, mem[h]? with
        | false, some (.box ls) => match cutL ls off (m * te.sz) with
          | some [.dat (.arr m' u) a] => Ty.as Ty.den (.arr m' u) (.arr m te) a fun a => mkL te vs fun y rest => match rest with
            | [] => match putL ls off (m * te.sz) [.dat (.arr m te) ⟨a.1.set i y, by rw [List.length_set]; exact a.2⟩] with
              | some ls' => K .und (mem.set h (.box ls'))
              | none => none
            | _ => none
          | _ => none
        | _, _ => none
      | .elr h i off => match k.lk h, mem[h]? with
        | false, some (.row te xs) => match Nat.beq off 0 && Nat.beq (szs vs) te.sz with
          | true => mkL te vs fun y rest => match rest with
            | [] => K .und (mem.set h (.row te (xs.set i y)))
            | _ => none
          | false => none
        | _, _ => none
      | .nel s i j off => match k.lk (arNum mem), mem[arNum mem]? with
        | false, some (.ar T' U xs) => match Nat.beq s U.sz && Nat.ble (off + szs vs) U.sz with
          | true => match putL (unL U ((ndR xs i).getD j U.zero)) off (szs vs) vs with
            | some ls' => mkL U ls' fun y rest => match rest with
              | [] => K .und (mem.set (arNum mem) (.ar T' U (xs.set i (ndX T'.zero xs i, (ndR xs i).set j y))))
              | _ => none
            | none => none
          | false => none
        | _, _ => none
      | _ => none
    | false => none
  | none => none

/-- Some cells of an element are stored. -/
theorem run_store_part {P : Program} {α : Type} {e : Enc α} {b o' t : Nat} {m : Nat × Nat} {pre rest ns : List Value} {ch : List α} {j off : Nat} {d d' : α} (hj : ch[j]? = some d) (hof : off + ns.length ≤ e.sz) (hp : pre.length = o')
    (hb : w.heap[b]? = some (.cells (pre ++ (flat e ch ++ rest)).toArray t m)) (hz : Fz m (pre ++ (flat e ch ++ rest)).length) (hone : ∀ u ∈ ns, u.oneCell' = true) (hd : e.cs d' = (e.cs d).take off ++ (ns ++ (e.cs d).drop (off + ns.length))) :
    (storeCells (⟨b, o' + (j * e.sz + off), none⟩ : Addr) ns).run P w = .ok () (w.setRow b (pre ++ (flat e (ch.set j d') ++ rest)).toArray) := by
  have hjl : j < ch.length := (List.getElem?_eq_some_iff.1 hj).1
  have hfl : (flat e ch).length = ch.length * e.sz := flat_len ch
  have hle : j * e.sz + e.sz ≤ ch.length * e.sz := by rw [← Nat.succ_mul]; exact Nat.mul_le_mul_right _ hjl
  have hdl : (e.cs d).length = e.sz := e.len d
  have hF : flat e ch = (flat e ch).take (j * e.sz) ++ (e.cs d ++ (flat e ch).drop (j * e.sz + e.sz)) := by
    have h1 := flat_set (e := e) ch j d hjl
    have h2 : ch.set j d = ch := by
      obtain ⟨_, rfl⟩ := List.getElem?_eq_some_iff.1 hj
      exact List.set_getElem_self hjl
    rw [h2] at h1
    exact h1
  have hF' : flat e (ch.set j d') = (flat e ch).take (j * e.sz) ++ (e.cs d' ++ (flat e ch).drop (j * e.sz + e.sz)) := flat_set (e := e) ch j d' hjl
  have hPl : ((flat e ch).take (j * e.sz)).length = j * e.sz := by rw [List.length_take]; omega
  have h := run_storeCells_fz P b (o' + (j * e.sz + off)) t m ns 0 _ w hb (by simpa using hz) (by simp only [List.size_toArray, List.length_append]; omega) hone
  simp only [Nat.add_zero] at h
  rw [h]
  have e1 : pre ++ (flat e ch ++ rest) = (pre ++ (flat e ch).take (j * e.sz)) ++ (e.cs d ++ ((flat e ch).drop (j * e.sz + e.sz) ++ rest)) := by
    conv => lhs; rw [hF]
    simp only [List.append_assoc]
  have hAl : (pre ++ (flat e ch).take (j * e.sz)).length = o' + j * e.sz := by rw [List.length_append, hPl, hp]
  have e2 : (pre ++ (flat e ch).take (j * e.sz)) ++ (((e.cs d).take off ++ (ns ++ (e.cs d).drop (off + ns.length))) ++ ((flat e ch).drop (j * e.sz + e.sz) ++ rest)) = pre ++ (flat e (ch.set j d') ++ rest) := by
    rw [hF', hd]
    simp only [List.append_assoc]
  have e3 := mid_set (pre := pre ++ (flat e ch).take (j * e.sz)) (cs := e.cs d) (rest := (flat e ch).drop (j * e.sz + e.sz) ++ rest) (new := ns) off (by omega)
  rw [e2, ← e1, hAl, show o' + j * e.sz + off = o' + (j * e.sz + off) by omega] at e3
  rw [e3]

/-- A node's row is written to. -/
theorem ar_row {z : Zn} {T U : Ty} {xs : List (T.den × List U.den)} {cs : List (List Value × List (Chunk U.sz))} (hok : ArOk z T U xs cs) {w w' : World} (hat : (arA z.tb U cs).at w) {i : Nat} (hi : i < z.nn) {c : List Value × List (Chunk U.sz)} (hc : cs[i]? = some c) {ch : List (Chunk U.sz)}
    (hk : Keeps (rowA U.enc (z.tb i).A (z.tb i).cap c.2).dom w w') (hr : (rowA U.enc (z.tb i).A (z.tb i).cap ch).at w') (hlt : ∀ j d, cs[j]? = some d → (∀ b, ((z.tb j).box d.1).dom b → b < w.heap.size) ∧ ∀ b, (rowA U.enc (z.tb j).A (z.tb j).cap d.2).dom b → b < w.heap.size) :
    (arA z.tb U (cs.set i (c.1, ch))).at w' ∧ Keeps (arA z.tb U cs).dom w w' ∧ (arA z.tb U (cs.set i (c.1, ch))).dom = (arA z.tb U cs).dom := by
  have hil : i < cs.length := (List.getElem?_eq_some_iff.1 hc).1
  have hat := arA_at.1 hat
  have hcl : cs.length = z.nn := by rw [hok.len, hok.nn]
  refine ⟨arA_at.2 fun j d hd => ?_, ⟨hk.os, hk.tape, hk.output, hk.size, fun b hb hn => hk.block b hb fun hd => hn ⟨i, hil, .inr hd⟩⟩, ?_⟩
  · rw [List.getElem?_set] at hd
    by_cases e : i = j
    · subst e
      rw [if_pos rfl, if_pos hil] at hd
      injection hd with hd; subst hd
      refine ⟨at_keep (hat i c hc).1 fun b hb => hk.block b ((hlt i c hc).1 b hb) fun hd => ?_, hr⟩
      have hb : b = (z.tb i).blk := hb
      subst hb
      exact hok.br i i hi hi hd
    · have hne := e
      rw [if_neg e] at hd
      have hj : j < z.nn := by rw [← hcl]; exact (List.getElem?_eq_some_iff.1 hd).1
      obtain ⟨h1, h2⟩ := hat j d hd
      refine ⟨at_keep h1 fun b hb => hk.block b ((hlt j d hd).1 b hb) fun hdm => ?_, at_keep h2 fun b hb => hk.block b ((hlt j d hd).2 b hb) fun hdm => ?_⟩
      · have hb : b = (z.tb j).blk := hb
        subst hb
        exact hok.br j i hj hi hdm
      · exact hok.rr i j hi hj hne b hdm hb
  · show (fun b => ∃ j, j < (cs.set i (c.1, ch)).length ∧ _) = _
    rw [List.length_set]; rfl

theorem put_flat {te : Ty} {ch : List (Chunk te.sz)} {i : Nat} (hi : i < ch.length) (d : Chunk te.sz) : (flat te.enc ch).take (i * te.sz) ++ (d.1 ++ (flat te.enc ch).drop (i * te.sz + d.1.length)) = flat te.enc (ch.set i d) := by
  have := flat_set (e := te.enc) ch i d hi
  rw [this, d.2.1]
  rfl

theorem xstore_acts {R' : Type} {k : Lk} (h : At c ρ Z z X st l w) {T : TypeId} {a x : Operand} {lf : Leaf} {K : AV → List Pc → Option R'} {r : R'} (hlf : (opd c.G st.fr a).asLeaf = some lf) (hx : xstore c.P k T lf (opd c.G st.fr x) st.mem K = some r) {o : Oper} (ho : o.op = .store T a x) :
    Acts c k ρ Z z X st l w (execOp (Fr l).eval o) K r := by
  have ha := asLeaf_at hlf (opd_at h.fr h.gz a)
  unfold xstore at hx
  split at hx
  · rename_i vs hvs
    obtain ⟨ns, h1, h2⟩ := asLs_at hvs (opd_at h.fr h.gz x)
    have hnl := Lvs.len _ _ h1
    split at hx
    · rename_i hs
      rw [← hnl] at hs
      split at hx
      · rename_i hh off
        split at hx
        · rename_i ls hk hp
          split at hx
          · rename_i ls' hput
            obtain ⟨A, hA, b, cs, h3, h4, rfl⟩ := h.mem.get hp
            obtain ⟨h5, b', h6, e⟩ := ha
            rw [h3] at h6; injection h6 with h6; injection h6 with h6; subst h6
            injection e with e
            obtain ⟨h7, h8⟩ := putL_at _ _ _ _ _ _ _ hput h4 h1
            rw [← hnl] at h7 h8
            obtain ⟨w', h9, h10, h11, h12⟩ := run_storeVar_at (h.own.xok _ (List.mem_of_getElem? hA)) h2 hs (Lvs.leaf _ _ h1) h8
            refine acts_put (v := undef) h hx hA hk (.inr ⟨?_, rfl⟩) h11 h10 (fun q hq => ⟨.inl hq, by rw [show q = b from hq]; exact h12⟩) ⟨b, _, h3, h7, rfl⟩ rfl
            simp [execOp, ho, e, Instr.storeAt, Instr.sureAddr, h9]
          · cases hx
        · cases hx
      · rename_i hh off te m i
        split at hx
        · rename_i ls hk hp
          split at hx
          · rename_i m' u av hc
            obtain ⟨A, hA, b, cs, h3, h4, rfl⟩ := h.mem.get hp
            obtain ⟨h5, him, b', h6, e⟩ := ha
            rw [h3] at h6; injection h6 with h6; injection h6 with h6; subst h6
            injection e with e
            obtain ⟨eq, hx'⟩ := Ty.as_some hx
            clear hx
            cases eq
            obtain ⟨y, rest, c1, d1, h13, hns, h14, h15⟩ := mkL_at te hx' h1
            split at h13
            · split at h13
              · rename_i ls' hput
                rw [show d1 = [] from h15, List.append_nil] at hns
                subst hns
                obtain ⟨h16, h17⟩ := cutL_at _ _ _ _ _ hc h4
                obtain ⟨ch, he, hfl⟩ := holds_arr (Lvs.of_one h16)
                have hch : ch.length = m := by rw [← he.1]; exact av.2
                obtain ⟨d, hd⟩ := Ty.holds_chunk h14
                subst hd
                have hi' : i < ch.length := by omega
                have hnew : Lvs ρ z st.mem.length [.dat (.arr m te) ⟨av.1.set i y, by rw [List.length_set]; exact av.2⟩] (flat te.enc (ch.set i d)) := Lvs.one ⟨ch.set i d, he.set i h14, rfl⟩
                obtain ⟨h7, h8⟩ := putL_at _ _ _ _ _ _ _ hput h4 hnew
                have hdl : d.1.length = te.sz := d.2.1
                have hle : i * te.sz + te.sz ≤ m * te.sz := by rw [← Nat.succ_mul]; exact Nat.mul_le_mul_right _ (by omega)
                obtain ⟨w', h9, h10, h11, h12⟩ := run_storeVar_at (off := off + i * te.sz) (h.own.xok _ (List.mem_of_getElem? hA)) h2 hs (Lvs.leaf _ _ h1) (by omega)
                have hcells : cs.take (off + i * te.sz) ++ (d.1 ++ cs.drop (off + i * te.sz + d.1.length)) = cs.take off ++ (flat te.enc (ch.set i d) ++ cs.drop (off + m * te.sz)) := by
                  have e1 : cs = cs.take off ++ (flat te.enc ch ++ cs.drop (off + m * te.sz)) := by
                    rw [← hfl, ← List.drop_drop, List.take_append_drop, List.take_append_drop]
                  have hof : (cs.take off).length = off := by rw [List.length_take]; omega
                  have hfll : (flat te.enc ch).length = m * te.sz := by rw [flat_len, hch]; rfl
                  rw [← put_flat hi' d]
                  conv => lhs; rw [e1]
                  have g1 : (cs.take off ++ (flat te.enc ch ++ cs.drop (off + m * te.sz))).take (off + i * te.sz) = cs.take off ++ (flat te.enc ch).take (i * te.sz) := by
                    rw [List.take_append, hof, List.take_of_length_le (by omega), Nat.add_sub_cancel_left, List.take_append_of_le_length (by omega)]
                  have g2 : (cs.take off ++ (flat te.enc ch ++ cs.drop (off + m * te.sz))).drop (off + i * te.sz + d.1.length) = (flat te.enc ch).drop (i * te.sz + d.1.length) ++ cs.drop (off + m * te.sz) := by
                    rw [List.drop_append, hof, List.drop_of_length_le (by omega), List.nil_append, show off + i * te.sz + d.1.length - off = i * te.sz + d.1.length by omega, List.drop_append_of_le_length (by omega)]
                  rw [g1, g2]
                  simp [List.append_assoc]
                rw [hcells] at h10
                refine acts_put (v := undef) h h13 hA hk (.inr ⟨?_, rfl⟩) h11 h10 (fun q hq => ⟨.inl hq, by rw [show q = b from hq]; exact h12⟩) ⟨b, _, h3, h7, rfl⟩ rfl
                simp [execOp, ho, e, Instr.storeAt, Instr.sureAddr, h9]
              · cases h13
            · cases h13
          · cases hx
        · cases hx
      · rename_i hh i off
        split at hx
        · rename_i te xs hk hp
          split at hx
          · rename_i hb
            simp only [Bool.and_eq_true] at hb
            have hoff := Nat.eq_of_beq_eq_true hb.1
            have hszv := Nat.eq_of_beq_eq_true hb.2
            subst hoff
            obtain ⟨A, hA, hc, ch, he, rfl⟩ := h.mem.get hp
            obtain ⟨h5, hil, ad, h6, e⟩ := ha
            injection e with e
            obtain ⟨y, rest, c1, d1, h13, hns, h14, h15⟩ := mkL_at te hx h1
            split at h13
            · rw [show d1 = [] from h15, List.append_nil] at hns
              subst hns
              obtain ⟨d, hd⟩ := Ty.holds_chunk h14
              subst hd
              have hix : i < xs.length := by rw [hc.2] at hil; exact hil
              have hi' : i < ch.length := by rw [← he.1]; exact hix
              have hrow := h.own.xok _ (List.mem_of_getElem? hA)
              obtain ⟨hle, h'⟩ := row_facts hrow
              rcases h' with ⟨h7, _⟩ | ⟨b, o', t, pre, sp, post, h7, h8, h9, mk, h10, hz⟩
              · rw [h6] at h7; cases h7
              · rw [h6] at h7; injection h7 with h7; subst h7
                have hst := run_store_row (P := c.P) (e := te.enc) (k := i) d hi' h8 h10 hz.fz
                have hw' := setRow_heap w b _ (pre ++ (flat te.enc (ch.set i d) ++ (sp ++ post))).toArray t _ h10
                have hrow' : (rowA te.enc (some ⟨b, o', none⟩) (ρ hh).cap (ch.set i d)).at (w.setRow b (pre ++ (flat te.enc (ch.set i d) ++ (sp ++ post))).toArray) := by
                  refine row_mk' (by rw [List.length_set]; exact hle) h8 (sp := sp) (post := post) (t := t) ?_ (hz.len (by simp only [List.length_append, flat_len, List.length_set])) hw'
                  rw [flat_len, List.length_set, ← flat_len (e := te.enc) ch]; exact h9
                obtain ⟨inf, hi2, hsz2⟩ := szB_spec hs
                have hbl := (Array.getElem?_eq_some_iff.1 h10).1
                refine acts_put (v := undef) (w' := w.setRow b (pre ++ (flat te.enc (ch.set i d) ++ (sp ++ post))).toArray) h h13 hA hk (.inr ⟨?_, rfl⟩)
                  ⟨rfl, rfl, rfl, by simp, fun q _ hq => setRow_other w b q _ fun e' => hq ⟨_, h6, e'.symm⟩⟩ hrow' ?_ ⟨⟨hc.1, by rw [List.length_set]; exact hc.2⟩, _, he.set i h14, by rw [h6]⟩ rfl
                · have hz : (i * (ρ hh).ty.sz) = i * te.sz := by rw [hc.1]
                  simp only [execOp, ho, e, addr_add0, addr_lit, hz, Instr.storeAt, Instr.sureAddr, Sem.run_bind, Sem.run_pure, Result.andThen_ok]
                  unfold storeVar
                  simp only [Sem.run_bind, sizeOf, typeInfo]
                  have hst' : (storeCells (⟨b, o' + i * te.sz, none⟩ : Addr) d.1).run c.P w = .ok () (w.setRow b (pre ++ (flat te.enc (ch.set i d) ++ (sp ++ post))).toArray) := hst
                  simp [hi2, h2, hsz2, hst']
                · rintro q ⟨ad', h11, rfl⟩
                  injection h11 with h11; subst h11
                  exact ⟨.inl ⟨_, h6, rfl⟩, by simpa using hbl⟩
            · cases h13
          · cases hx
        · cases hx
      · rename_i s i j off
        split at hx
        · rename_i T' U xs hk hp
          split at hx
          · rename_i hb
            simp only [Bool.and_eq_true] at hb
            have hs' := Nat.eq_of_beq_eq_true hb.1
            have hof := Nat.le_of_ble_eq_true hb.2
            subst hs'
            split at hx
            · rename_i ls' hput
              obtain ⟨A, hA, cs, hok, rfl⟩ := h.mem.get hp
              obtain ⟨hi, hj, ad, h6, e⟩ := ha
              injection e with e
              obtain ⟨c0, hc0, hT, hE, hlen⟩ := ar_get hok hi
              rw [hlen] at hj
              obtain ⟨d, hd1, hd2⟩ := hE.get (List.getElem?_eq_getElem hj)
              have hgd : (ndR xs i).getD j U.zero = (ndR xs i)[j] := by simp [List.getD, hj]
              rw [hgd] at hput
              obtain ⟨h7, h8⟩ := putL_at _ _ _ _ _ _ _ hput (unL_at (n := st.mem.length) (ρ := ρ) _ _ _ hd2) h1
              obtain ⟨y, rest, c1, d1, h13, hns, h14, h15⟩ := mkL_at U hx h7
              split at h13
              · rw [show d1 = [] from h15, List.append_nil] at hns
                obtain ⟨d', hd'⟩ := Ty.holds_chunk h14
                subst hd'
                have hat := h.own.xok _ (List.mem_of_getElem? hA)
                have hrow := (arA_at.1 hat i c0 hc0).2
                obtain ⟨hle, h'⟩ := row_facts hrow
                rcases h' with ⟨h17, _⟩ | ⟨b, o', t, pre, sp, post, h17, h18, h9, mk, h10, hz⟩
                · rw [h6] at h17; cases h17
                · have h17' := h17
                  rw [h6] at h17; injection h17 with h17; subst h17
                  rw [← hnl] at hof hns
                  have hst := run_store_part (P := c.P) (e := U.enc) (j := j) (off := off) (d := d) (d' := d') hd1 hof h18 h10 hz.fz (Lvs.leaf _ _ h1) hns.symm
                  have hw' := setRow_heap w b _ (pre ++ (flat U.enc (c0.2.set j d') ++ (sp ++ post))).toArray t _ h10
                  have hrow' : (rowA U.enc (z.tb i).A (z.tb i).cap (c0.2.set j d')).at (w.setRow b (pre ++ (flat U.enc (c0.2.set j d') ++ (sp ++ post))).toArray) := by
                    rw [h17']
                    refine row_mk' (by rw [List.length_set]; exact hle) h18 (sp := sp) (post := post) (t := t) ?_ (hz.len (by simp only [List.length_append, flat_len, List.length_set])) hw'
                    rw [flat_len, List.length_set, ← flat_len (e := U.enc) c0.2]; exact h9
                  have hdom := h.own.xdom _ (List.mem_of_getElem? hA)
                  obtain ⟨g1, g2, g3⟩ := ar_row hok hat hi hc0 (ch := c0.2.set j d') (w' := w.setRow b (pre ++ (flat U.enc (c0.2.set j d') ++ (sp ++ post))).toArray)
                    ⟨rfl, rfl, rfl, by simp, fun q _ hq => setRow_other w b q _ fun e' => hq ⟨_, h17', e'.symm⟩⟩ hrow' (fun q dd hq => by
                      have hql := (List.getElem?_eq_some_iff.1 hq).1
                      exact ⟨fun b hb => (hdom b ⟨q, hql, .inl hb⟩).2, fun b hb => (hdom b ⟨q, hql, .inr hb⟩).2⟩)
                  obtain ⟨inf, hi2, hsz2⟩ := szB_spec hs
                  refine acts_put (v := undef) (w' := w.setRow b (pre ++ (flat U.enc (c0.2.set j d') ++ (sp ++ post))).toArray) h h13 hA hk (.inr ⟨?_, rfl⟩) g2 g1 (fun q hq => ?_) ⟨_, ?_, rfl⟩ rfl
                  · simp only [execOp, ho, e, addr_lit, Instr.storeAt, Instr.sureAddr, Sem.run_bind, Sem.run_pure, Result.andThen_ok]
                    unfold storeVar
                    simp only [Sem.run_bind, sizeOf, typeInfo]
                    have hst' : (storeCells (⟨b, o' + (j * U.sz + off), none⟩ : Addr) ns).run c.P w = .ok () (w.setRow b (pre ++ (flat U.enc (c0.2.set j d') ++ (sp ++ post))).toArray) := hst
                    rw [show o' + j * U.sz + off = o' + (j * U.sz + off) by omega]
                    simp [hi2, h2, hsz2, hst']
                  · rw [g3] at hq
                    exact ⟨.inl hq, by simpa using (hdom q hq).2⟩
                  · refine ⟨by rw [List.length_set]; exact hok.nn, by rw [List.length_set, List.length_set]; exact hok.len, fun q x cc hx' hcc => ?_, hok.bb, hok.br, hok.rr⟩
                    rw [List.getElem?_set] at hx' hcc
                    by_cases eq : i = q
                    · subst eq
                      rw [if_pos rfl, if_pos (by rw [← hok.nn]; exact hi)] at hx'
                      rw [if_pos rfl, if_pos (List.getElem?_eq_some_iff.1 hc0).1] at hcc
                      injection hx' with hx'; injection hcc with hcc
                      subst hx'; subst hcc
                      exact ⟨hT, hE.set j h14, by rw [List.length_set]; exact hlen⟩
                    · rw [if_neg eq] at hx' hcc
                      exact hok.ok q x cc hx' hcc
              · cases h13
            · cases hx
          · cases hx
        · cases hx
      · cases hx
    · cases hx
  · cases hx
end
end Go.Lift

/- New rows, append, copy, texts and bytes. -/
namespace Go.Lift
open Go
set_option linter.unusedVariables false

section
variable {P : Program} {w : World}

/-- The element type's row of the table fits the kind of data; how many bytes an element takes. -/
def elB (P : Program) (E : TypeId) (te : Ty) : Option Nat :=
  match P.info? E, tinfo P E with
  | some i, some (s, a) => match i.zero with
    | some z => match Nat.beq s te.sz && (a == te.agg) && Nat.beq z.cells.size te.sz with
      | true => some i.bytes
      | false => none
    | none => none
  | _, _ => none

theorem elB_spec {E : TypeId} {te : Ty} {b : Nat} (h : elB P E te = some b) : ElTy P E te.enc b := by
  unfold elB at h
  split at h
  · rename_i i s a hi ht
    split at h
    · rename_i z hz
      split at h
      · rename_i hb
        simp only [Bool.and_eq_true, beq_iff_eq] at hb
        injection h with h
        obtain ⟨⟨i', hi', hs'⟩, hag⟩ := tinfo_spec ht
        rw [hi] at hi'; injection hi' with hi'; subst hi'
        refine ⟨⟨i, z, hi, hz, hs'.trans (Nat.eq_of_beq_eq_true hb.1.1), h, Nat.eq_of_beq_eq_true hb.2⟩, fun w => ?_⟩
        rw [hag w, hb.1.2]; rfl
      · cases h
    · cases h
  · cases h

theorem range_map_const (zs : List Value) (k : Nat) : ((List.range (k * zs.length)).map fun i => zs.toArray[i % zs.toArray.size]!) = (List.replicate k zs).flatten := by
  induction k with
  | zero => simp
  | succ k ih =>
    rw [Nat.succ_mul, List.range_add, List.map_append, ih, List.map_map]
    rw [show List.replicate (k + 1) zs = List.replicate k zs ++ [zs] from List.replicate_succ', List.flatten_append]
    congr 1
    apply List.ext_getElem
    · simp
    · intro i h1 h2
      have hi : i < zs.length := by simpa using h1
      simp only [List.getElem_map, List.getElem_range, Function.comp_apply, List.flatten_singleton]
      have hm : (k * zs.length + i) % zs.length = i := by
        rw [Nat.mul_comm, Nat.mul_add_mod, Nat.mod_eq_of_lt hi]
      simp [hm, hi]

theorem made_cells (zs : List Value) (k : Nat) : ((Array.range (k * zs.length)).map fun i => zs.toArray[i % zs.toArray.size]!) = ((List.replicate k zs).flatten).toArray := by
  rw [← range_map_const]
  apply Array.toList_inj.1
  simp [Array.toList_range]

theorem flat_replicate {te : Ty} (d : Chunk te.sz) (k : Nat) : flat te.enc (List.replicate k d) = (List.replicate k d.1).flatten := by
  induction k with
  | zero => rfl
  | succ k ih => rw [List.replicate_succ, flat_cons, ih, List.replicate_succ, List.flatten_cons]; rfl
end

section
variable {c : Cx} {ρ ρ' : Nat → HI} {Z Z' : Nat → Prop} {z z' : Zn} {X : List Atom} {st : St} {l : List Value} {w w' : World}

/-- A new row. -/
theorem new_row {R' : Type} {k : Lk} (h : At c ρ Z z X st l w) {s : Sem Next} {K : AV → List Pc → Option R'} {r : R'} {te : Ty} {xs : List te.den} {ch : List (Chunk te.sz)} {E : TypeId}
    (hK : K (.vl false [.row st.mem.length]) (st.mem ++ [.row te xs]) = some r) (he : Els (te.holds z) xs ch)
    (hs : s.run c.P w = .ok (.value (.slice (some ⟨w.heap.size, 0, none⟩) xs.length xs.length)) (w.alloc (.cells (flat te.enc ch).toArray E))) : Acts c k ρ Z z X st l w s K r := by
  have e1 := ext1_eq ρ st.mem.length ⟨some ⟨w.heap.size, 0, none⟩, xs.length, te, xs.length⟩
  have L := later1 ρ z st.mem.length ⟨some ⟨w.heap.size, 0, none⟩, xs.length, te, xs.length⟩
  refine acts_new (hi := ⟨some ⟨w.heap.size, 0, none⟩, xs.length, te, xs.length⟩) (B := rowA te.enc (some ⟨w.heap.size, 0, none⟩) xs.length ch) h hK hs (keeps_alloc' _ _ _) ?_ ?_ ⟨by rw [e1]; exact ⟨rfl, rfl⟩, ch, he, by rw [e1]⟩ (Cmp.one ⟨Nat.lt_succ_self _, by rw [e1]⟩)
  · refine row_mk (b := w.heap.size) (o := 0) (t := E) (pre := []) (sp := []) (post := []) (by rw [he.1]; exact Nat.le_refl _) rfl (by rw [flat_len, he.1]; simp) (by simpa using heap_alloc_new w _)
  · rintro b ⟨a, ha, rfl⟩
    injection ha with ha
    subst ha
    exact ⟨Nat.le_refl _, by simp⟩

/-! ### Rows written out -/

def xlit {R' : Type} (P : Program) (T : TypeId) (m : Nat) (ps : List (Nat × AV)) (mem : List Pc) (K : AV → List Pc → Option R') : Option R' :=
  match P.underlying T with
  | some (.slice E) => match tyOf P 8 E, zeroL P E, P.info? E with
    | some te, some zs, some i => match Nat.beq (szs zs) te.sz && Nat.beq i.size te.sz && Nat.ble (m * te.sz) 16777216 with
      | true => match fillL (fun i => some (i * te.sz, te.sz)) (List.replicate m zs).flatten ps with
        | some ls => mkN (mkL te) m ls fun xs rest => match rest with
          | [] => K (.vl false [.row mem.length]) (mem ++ [.row te xs])
          | _ => none
        | none => none
      | false => none
    | _, _, _ => none
  | _ => none

theorem Lvs.replicate {n : Nat} {ls : List Leaf} {cs : List Value} (h : Lvs ρ z n ls cs) : ∀ m, Lvs ρ z n (List.replicate m ls).flatten (List.replicate m cs).flatten
  | 0 => rfl
  | m + 1 => by
    rw [List.replicate_succ, List.flatten_cons, List.replicate_succ, List.flatten_cons]
    exact h.append (Lvs.replicate h m)

theorem mkN_len {R' α : Type} {f : List Leaf → (α → List Leaf → Option R') → Option R'} (hf : ∀ (ls : List Leaf) (K : α → List Leaf → Option R') (r : R'), f ls K = some r → ∃ x ls', K x ls' = some r) :
    ∀ (m : Nat) {ls : List Leaf} {K : List α → List Leaf → Option R'} {r : R'}, mkN f m ls K = some r → ∃ xs ls', xs.length = m ∧ K xs ls' = some r
  | 0, ls, K, r, h => ⟨[], ls, rfl, h⟩
  | m + 1, ls, K, r, h => by
    obtain ⟨x, ls1, h1⟩ := hf _ _ _ h
    obtain ⟨xs, ls2, h2, h3⟩ := mkN_len hf m h1
    exact ⟨x :: xs, ls2, by simp [h2], h3⟩

/-- Elements, and as many as were asked for. -/
theorem mkN_at' {R' : Type} {n : Nat} {t : Ty} (m : Nat) {ls : List Leaf} {K : List t.den → List Leaf → Option R'} {r : R'} {cs : List Value} (h : mkN (mkL t) m ls K = some r) (hl : Lvs ρ z n ls cs) :
    ∃ xs ls' ch d, K xs ls' = some r ∧ cs = flat t.enc ch ++ d ∧ Els (t.holds z) xs ch ∧ Lvs ρ z n ls' d ∧ xs.length = m := by
  induction m generalizing ls K cs with
  | zero => exact ⟨[], ls, [], cs, h, rfl, Els.nil, hl, rfl⟩
  | succ m ih =>
    obtain ⟨x, ls1, c1, d, h1, rfl, h2, h3⟩ := mkL_at t h hl
    obtain ⟨xs, ls2, ch, d2, h4, rfl, h5, h6, h7⟩ := ih h1 h3
    obtain ⟨c', rfl⟩ := Ty.holds_chunk h2
    refine ⟨x :: xs, ls2, c' :: ch, d2, h4, ?_, ?_, h6, by simp [h7]⟩
    · rw [flat_cons, List.append_assoc]; rfl
    · have := (Els.one (p := t.holds z) h2).append h5
      simpa using this

theorem xlit_acts {R' : Type} {k : Lk} (h : At c ρ Z z X st l w) {T : TypeId} {m : Nat} {ps : Array (Nat × Operand)} {K : AV → List Pc → Option R'} {r : R'}
    (hx : xlit c.P T m (ps.toList.map fun p => (p.1, opd c.G st.fr p.2)) st.mem K = some r) {o : Oper} (ho : o.op = .buildSlice T m ps) : Acts c k ρ Z z X st l w (execOp (Fr l).eval o) K r := by
  unfold xlit at hx
  split at hx
  · rename_i E hu
    split at hx
    · rename_i te zs i ht hz hi
      split at hx
      · rename_i hb
        simp only [Bool.and_eq_true] at hb
        have hb1 := Nat.eq_of_beq_eq_true hb.1.1
        have hb2 := Nat.eq_of_beq_eq_true hb.1.2
        have hb3 := Nat.le_of_ble_eq_true hb.2
        split at hx
        · rename_i ls hf
          obtain ⟨i', v, cs, h1, h2, h3, h4⟩ := zeroL_spec hz
          rw [hi] at h1; injection h1 with h1; subst h1
          have h5 := h4 ρ z st.mem.length
          have hcl : cs.length = te.sz := by rw [Lvs.len _ _ h5, hb1]
          obtain ⟨cs', h6, h7⟩ := fillL_at hf (h5.replicate m) (parts_at h.fr h.gz ps.toList)
          obtain ⟨xs, rest, ch, d, h8, h9, h10, h11, h12⟩ := mkN_at' m hx h7
          split at h8
          · rw [show d = [] from h11, List.append_nil] at h9
            subst h9
            refine new_row (E := E) h h8 h10 ?_
            have hvc : v.cells.size = i.size := by rw [h3, hb2]; simpa using hcl
            have hcells : (Array.range (m * i.size)).map ((if m * i.size = 0 then #[] else v.cells)[· % (if m * i.size = 0 then #[] else v.cells).size]!) = ((List.replicate m cs).flatten).toArray := by
              by_cases h0 : m * i.size = 0
              · have : (List.replicate m cs).flatten = [] := by
                  rcases Nat.mul_eq_zero.1 h0 with h0 | h0
                  · subst h0; rfl
                  · have : cs = [] := List.eq_nil_of_length_eq_zero (by omega)
                    subst this; simp
                rw [this, h0]; simp
              · rw [if_neg h0, h3, ← made_cells, hcl, hb2]
            have hr := run_buildSlice (P := c.P) (w := w) (T := T) (E := E) (n := m) (bytes := i.bytes) (parts := ps.map fun (i, x) => (i, (Fr l).eval x)) (cs := (flat te.enc ch).toArray) hu hi h2 (by rw [hb2]; exact hb3) (by
              rw [hcells, hb2]
              have : (ps.map fun (i, x) => (i, (Fr l).eval x)).toList = ps.toList.map fun p => (p.1, (Fr l).eval p.2) := by simp
              rw [this]; exact h6)
            rw [h12]
            unfold execOp
            simp only [ho, Sem.run_bind, Sem.run_pure, Result.andThen_ok, hr]
          · cases h8
        · cases hx
      · cases hx
    · cases hx
  · cases hx

/-! ### What stands for a row -/

/-- The elements of a slice, however it is known; and the leaf's piece, where it has one. -/
def rowOf (P : Program) (T : TypeId) (mem : List Pc) (te : Ty) (x : AV) : Option (List te.den) :=
  match P.underlying T with
  | some (.slice E) => match szB P E te.sz with
    | true => match x.asLeaf with
      | some .nils => some []
      | some (.dat (.slc u) xs) => Ty.as (fun t => List t.den) u te xs some
      | some (.row h) => match mem[h]? with
        | some (.row u xs) => Ty.as (fun t => List t.den) u te xs some
        | _ => none
      | some (.part h a b) => match mem[h]? with
        | some (.row u xs) => Ty.as (fun t => List t.den) u te xs fun xs => some ((xs.take b).drop a)
        | _ => none
      | some (.bpart h off t m a b) => match mem[h]? with
        | some (.box ls) => match cutL ls off (m * t.sz) with
          | some [.dat (.arr m' u) xs] => match Nat.beq m m' && t.beq u with
            | true => Ty.as (fun t => List t.den) u te xs.1 fun xs => some ((xs.take b).drop a)
            | false => none
          | _ => none
        | _ => none
      | _ => none
    | false => none
  | some .string => match x.asStr with
    | some s => Ty.as (fun t => List t.den) (.int .u8) te (bnums s) some
    | none => none
  | _ => none

/-- What append or copy read. -/
structure SrcAt (P : Program) (w : World) (T : TypeId) (v : Value) {te : Ty} (ch : List (Chunk te.sz)) : Prop where
  ty : (∃ E, P.underlying T = some (.slice E)) ∨ P.underlying T = some .string
  len : (Builtin.lenOf v).run P w = .ok ch.length w
  first : ∀ k, k ≤ ch.length → ∀ w', w'.heap = w.heap → (Builtin.firstCells te.sz k v).run P w' = .ok (flat te.enc (ch.take k)).toArray w'

theorem src_nil {P : Program} {T E : TypeId} (hT : P.underlying T = some (.slice E)) {te : Ty} {cap : Nat} : SrcAt P w T (.slice none 0 cap) ([] : List (Chunk te.sz)) where
  ty := .inl ⟨_, hT⟩
  len := rfl
  first k hk w' _ := by
    simp only [List.take_nil]
    exact run_firstCells_none (P := P) (w := w') _ _ _ _

theorem src_some {P : Program} {T E : TypeId} (hT : P.underlying T = some (.slice E)) {te : Ty} {ch : List (Chunk te.sz)} {a : Addr} {m cap : Nat} (hm : m = ch.length) (hc : ∀ j u, (flat te.enc ch)[j]? = some u → w.cell? (a.add j) = some u) :
    SrcAt P w T (.slice (some a) m cap) ch where
  ty := .inl ⟨_, hT⟩
  len := by subst hm; rfl
  first k hk w' hw := by
    refine run_firstCells_some (P := P) w' te.sz k a _ _ _ ?_ fun j u hj => ?_
    · rw [flat_len, List.length_take, Nat.min_eq_left hk]; rfl
    · have := flat_take (e := te.enc) ch k
      rw [this] at hj
      rw [List.getElem?_take] at hj
      split at hj
      · have := hc j u hj
        unfold World.cell? at *; rw [hw]; exact this
      · cases hj

theorem src_slr {P : Program} {T E : TypeId} (hT : P.underlying T = some (.slice E)) {te : Ty} {ch : List (Chunk te.sz)} {A : Option Addr} {m cap : Nat} (hm : m = ch.length) (h : SlR w te.enc A ch) : SrcAt P w T (.slice A m cap) ch := by
  rcases h with ⟨rfl, rfl⟩ | ⟨a, rfl, hc⟩
  · subst hm; exact src_nil hT
  · exact src_some hT hm hc

theorem els_bytes (s : List UInt8) : ∃ ch : List (Chunk (Ty.int .u8).sz), Els (t := .int .u8) ((Ty.int .u8).holds z) (bnums s) ch ∧ flat (Ty.int .u8).enc ch = s.map fun b => .int .u8 (b.toNat : Int) := by
  induction s with
  | nil => exact ⟨[], Els.nil, rfl⟩
  | cons b s ih =>
    obtain ⟨ch, h1, h2⟩ := ih
    let d : Chunk (Ty.int .u8).sz := ⟨[.int .u8 (b.toNat : Int)], rfl, by intro u hu; rw [List.mem_singleton] at hu; subst hu; rfl⟩
    refine ⟨d :: ch, ?_, by rw [flat_cons, h2]; rfl⟩
    have := (Els.one (t := .int .u8) (p := (Ty.int .u8).holds z) (x := (b.toNat : Int)) (c := d) rfl).append h1
    exact this

theorem rowOf_src (h : At c ρ Z z X st l w) {T : TypeId} {te : Ty} {x : AV} {v : Value} {xs : List te.den} (hx : rowOf c.P T st.mem te x = some xs) (hv : x.at ρ z st.mem.length v) :
    ∃ ch, Els (te.holds z) xs ch ∧ SrcAt c.P w T v ch := by
  unfold rowOf at hx
  split at hx
  · rename_i E hu
    split at hx
    · rename_i hs
      split at hx
      · rename_i hlf
        have e : [v] = _ := asLeaf_at hlf hv
        injection e with e; subst e
        injection hx with hx; subst hx
        exact ⟨[], Els.nil, src_nil hu⟩
      · rename_i u ys hlf
        obtain ⟨e, hx⟩ := Ty.as_some hx
        cases e
        have hx : some ys = some xs := hx
        injection hx with hx; subst hx
        obtain ⟨A, cap, ch, e, hle, he, hA⟩ := asLeaf_at hlf hv
        injection e with e; subst e
        refine ⟨ch, he, src_slr hu he.1 ?_⟩
        rcases hA with ⟨rfl, rfl⟩ | ⟨a, rfl, hz⟩
        · exact .inl ⟨rfl, rfl⟩
        · exact .inr ⟨a, rfl, h.fx.inZ hz⟩
      · rename_i hh hlf
        split at hx
        · rename_i u ys hp
          obtain ⟨e, hx⟩ := Ty.as_some hx
          cases e
          have hx : some ys = some xs := hx
          injection hx with hx; subst hx
          obtain ⟨A, hA, hc, ch, he, rfl⟩ := h.mem.get hp
          obtain ⟨_, e⟩ := asLeaf_at hlf hv
          injection e with e; subst e
          exact ⟨ch, he, src_slr hu (by rw [hc.2]; exact he.1) (SlR.of_row (h.own.xok _ (List.mem_of_getElem? hA)))⟩
        · cases hx
      · rename_i hh a b hlf
        split at hx
        · rename_i u ys hp
          obtain ⟨e, hx⟩ := Ty.as_some hx
          cases e
          have hx : some ((ys.take b).drop a) = some xs := hx
          injection hx with hx; subst hx
          obtain ⟨A, hA, hc, ch, he, rfl⟩ := h.mem.get hp
          obtain ⟨_, hab, hbl, pp, hpp, e⟩ := asLeaf_at hlf hv
          injection e with e; subst e
          have hrow := h.own.xok _ (List.mem_of_getElem? hA)
          have hbl' : b ≤ ch.length := by rw [← he.1, ← hc.2]; exact hbl
          rw [hc.1] at hpp
          have hpart := row_cut (e := te.enc) hab hbl' hrow hpp
          refine ⟨(ch.take b).drop a, (he.take b).drop a, src_slr hu ?_ (SlR.of_row hpart)⟩
          rw [List.length_drop, List.length_take]; omega
        · cases hx
      · rename_i hh off t m a b hlf
        split at hx
        · rename_i ls hp
          split at hx
          · rename_i m' u ys hcut
            split at hx
            · rename_i hb
              simp only [Bool.and_eq_true] at hb
              have e1 := Nat.eq_of_beq_eq_true hb.1
              have e2 := Ty.of_beq hb.2
              subst e1; subst e2
              obtain ⟨e, hx⟩ := Ty.as_some hx
              cases e
              have hx : some ((ys.1.take b).drop a) = some xs := hx
              injection hx with hx; subst hx
              obtain ⟨A, hA, bl', cs, h3, h4, rfl⟩ := h.mem.get hp
              obtain ⟨_, hab, hbm, bl, hbl, e⟩ := asLeaf_at hlf hv
              injection e with e; subst e
              rw [h3] at hbl; injection hbl with hbl; injection hbl with hbl; subst hbl
              obtain ⟨h5, h6⟩ := cutL_at _ _ _ _ _ hcut h4
              obtain ⟨ch, he, hfl⟩ := Lvs.of_one h5
              have hcl : ch.length = m := by rw [← he.1]; exact ys.2
              refine ⟨(ch.take b).drop a, (he.take b).drop a, src_some hu (by rw [List.length_drop, List.length_take]; omega) fun j u hj => ?_⟩
              by_cases hma : m = a
              · rw [List.drop_of_length_le (by rw [List.length_take]; omega)] at hj
                simp [flat] at hj
              · rw [if_neg hma, addr_lit]
                rw [flat_drop, List.getElem?_drop, flat_take, List.getElem?_take] at hj
                split at hj
                · have hj2 : (flat te.enc ch)[a * te.sz + j]? = some u := hj
                  rw [← hfl] at hj2
                  have := box_cells (h.own.xok _ (List.mem_of_getElem? hA)) _ u (drop_take_get hj2)
                  rw [Nat.add_assoc]
                  exact this
                · cases hj
            · cases hx
          · cases hx
        · cases hx
      · cases hx
    · cases hx
  · rename_i hu
    split at hx
    · rename_i s hs
      obtain ⟨e, hx⟩ := Ty.as_some hx
      cases e
      have hx : some (bnums s) = some xs := hx
      injection hx with hx; subst hx
      have := asStr_at hs hv
      subst this
      obtain ⟨ch, h1, h2⟩ := els_bytes (z := z) s
      have hbl : (bnums s : List Int).length = s.length := by simp [bnums]
      have hl : ch.length = s.length := h1.1.symm.trans hbl
      have hsz : (ByteArray.mk s.toArray).size = s.length := by simp [ByteArray.size]
      refine ⟨ch, h1, .inr hu, ?_, fun k hk w' _ => ?_⟩
      · rw [hl]; simp only [Builtin.lenOf, hsz]; rfl
      · have h3 := flat_take (e := (Ty.int .u8).enc) ch k
        have h4 : (Ty.int .u8).enc.sz = 1 := rfl
        rw [h4, Nat.mul_one] at h3
        have h5 : ((ByteArray.mk s.toArray).extract 0 k).data.toList = s.take k := by
          simp [ByteArray.data_extract, List.extract_eq_take_drop]
        have h6 : (ByteArray.mk s.toArray |>.extract 0 k).data.map (fun b => Value.int .u8 (b.toNat : Int)) = (flat (Ty.int .u8).enc (ch.take k)).toArray := by
          apply Array.toList_inj.1
          rw [Array.toList_map, h5]
          simp only
          rw [show flat (Ty.int .u8).enc (ch.take k) = (flat (Ty.int .u8).enc ch).take k from h3, h2, List.map_take]
        exact congrArg (fun q => Result.ok q w') h6
    · cases hx
  · cases hx

/-! ### append -/

theorem SrcAt.src {P : Program} {T : TypeId} {v : Value} {te : Ty} {ch : List (Chunk te.sz)} (h : SrcAt P w T v ch) : Src P w T v te.enc ch where
  ty := h.ty
  lenOf := h.len
  cells w' hw := by
    have := h.first ch.length (Nat.le_refl _) w' hw
    rwa [List.take_length] at this

/-- The element's kind that a row, or a new one, has. -/
def rowTy (P : Program) (T : TypeId) (mem : List Pc) (x : AV) : Option Ty :=
  match P.underlying T with
  | some (.slice E) => match x.asLeaf with
    | some .nils => tyOf P 8 E
    | some (.row h) => match mem[h]? with
      | some (.row u _) => some u
      | _ => none
    | some (.part h _ _) => match mem[h]? with
      | some (.row u _) => some u
      | _ => none
    | some (.dat (.slc u) _) => some u
    | _ => none
  | _ => none

/-- append: the row goes, a new one comes. -/
def xappend {R' : Type} (P : Program) (k : Lk) (T T' : TypeId) (x y : AV) (mem : List Pc) (K : AV → List Pc → Option R') : Option R' :=
  match P.underlying T, rowTy P T mem x with
  | some (.slice E), some te => match elB P E te, rowOf P T mem te x, rowOf P T' mem te y with
    | some b, some xs, some ys => match x.asLeaf with
      | some .nils => Option.bind (room b (0 + ys.length)) fun _ => K (.vl false [.row mem.length]) (mem ++ [.row te ys])
      | some (.row h) => match k.lk h with
        | false => Option.bind (room b (xs.length + ys.length)) fun _ => K (.vl false [.row mem.length]) (mem.set h .dead ++ [.row te (xs ++ ys)])
        | true => none
      | some (.part h _ _) => match k.lk h with
        | false => Option.bind (room b (xs.length + ys.length)) fun _ => K (.vl false [.row mem.length]) (mem.set h .dead ++ [.row te (xs ++ ys)])
        | true => none
      | _ => none
    | _, _, _ => none
  | _, _ => none

theorem Keeps.mono {M N : Nat → Prop} (h : Keeps M w w') (hm : ∀ b, M b → N b) : Keeps N w w' := ⟨h.os, h.tape, h.output, h.size, fun b hb hn => h.block b hb fun hx => hn (hm b hx)⟩

theorem append_move {R' : Type} {k : Lk} (h : At c ρ Z z X st l w) {T T' ty E : TypeId} {te : Ty} {b hh : Nat} {K : AV → List Pc → Option R'} {r : R'} {xs ys : List te.den} {A : Option Addr} {cap : Nat} {ch dh : List (Chunk te.sz)} {y : Value} {s : Sem Next} {At0 : Atom}
    (hu : c.P.underlying T = some (.slice E)) (el : ElTy c.P E te.enc b) (hX : X[hh]? = some At0) (hlk : k.lk hh = false) (hdom : ∀ q, blkOf A q → At0.dom q)
    (hrow : (rowA te.enc A cap ch).at w) (hex : Els (te.holds z) xs ch) (hey : Els (te.holds z) ys dh) (hy : SrcAt c.P w T' y dh) (hroom : (xs.length + ys.length) * b ≤ 140737488355328 ∧ xs.length + ys.length ≤ maxLen)
    (hK : K (.vl false [.row st.mem.length]) (st.mem.set hh .dead ++ [.row te (xs ++ ys)]) = some r)
    (hs : ∀ v w', (Builtin.append_ #[T, T'] ty #[.slice A ch.length cap, y]).run c.P w = .ok v w' → s.run c.P w = .ok (.value v) w') : Acts c k ρ Z z X st l w s K r := by
  obtain ⟨A', cap', w', h1, h2, h3, h4⟩ := run_append (T' := T') (ty := ty) hu el hrow hy.src (by rw [← hex.1, ← hey.1]; exact hroom.2) (by rw [← hex.1, ← hey.1]; exact hroom.1)
  have e1 := ext1_eq ρ st.mem.length ⟨A', cap', te, (xs ++ ys).length⟩
  have hea := hex.append hey
  refine acts_move (hi := ⟨A', cap', te, (xs ++ ys).length⟩) (B := rowA te.enc A' cap' (ch ++ dh)) h hK hX hlk (hs _ _ h1) (h3.mono hdom) h2 (fun q hq => ⟨(h4 q hq).1.imp (hdom q) id, (h4 q hq).2⟩) ⟨by rw [e1]; exact ⟨rfl, rfl⟩, ch ++ dh, hea, by rw [e1]⟩ (Cmp.one ⟨Nat.lt_succ_self _, ?_⟩)
  rw [e1]
  show [Value.slice A' (ch ++ dh).length cap'] = [Value.slice A' (xs ++ ys).length cap']
  rw [hea.1]

theorem xappend_acts {R' : Type} {k : Lk} (h : At c ρ Z z X st l w) {T T' : TypeId} {x y : Operand} {K : AV → List Pc → Option R'} {r : R'} (hx : xappend c.P k T T' (opd c.G st.fr x) (opd c.G st.fr y) st.mem K = some r)
    {o : Oper} (ho : o.op = .call { callee := .builtin .append, args := #[x, y], argTypes := #[T, T'] }) : Acts c k ρ Z z X st l w (execOp (Fr l).eval o) K r := by
  have hxv := opd_at h.fr h.gz x
  have hyv := opd_at h.fr h.gz y
  have hrun : ∀ A m cap, (Fr l).eval x = .slice A m cap → ∀ v w', (Builtin.append_ #[T, T'] o.type #[.slice A m cap, (Fr l).eval y]).run c.P w = .ok v w' → (execOp (Fr l).eval o).run c.P w = .ok (.value v) w' := by
    intro A m cap e v w' hr
    unfold execOp
    simp [ho, e, resolve, invoke, builtin, hr]
  unfold xappend at hx
  split at hx
  · rename_i E te hu hte
    split at hx
    · rename_i b xs ys hb hxs hys
      have el := elB_spec hb
      obtain ⟨dh, hey, hsy⟩ := rowOf_src h hys hyv
      split at hx
      · rename_i hlf
        have e : [(Fr l).eval x] = _ := asLeaf_at hlf hxv
        injection e with e
        obtain ⟨u, h1, h2⟩ := bind_ex hx
        have hroom := room_some h1
        rw [Nat.zero_add] at hroom
        obtain ⟨A', cap', w', h3, h4, h5, h6⟩ := run_append (T' := T') (ty := o.type) hu el (row_nil te.enc w) hsy.src (by rw [← hey.1]; simpa using hroom.2) (by rw [← hey.1]; simpa using hroom.1)
        have e1 := ext1_eq ρ st.mem.length ⟨A', cap', te, ys.length⟩
        refine acts_new (hi := ⟨A', cap', te, ys.length⟩) (B := rowA te.enc A' cap' dh) h h2 (hrun _ _ _ e _ _ h3) (h5.mono fun q hq => by obtain ⟨a, ha, _⟩ := hq; cases ha) (by simpa using h4) (fun q hq => ⟨(h6 q hq).1.resolve_left (fun hq => by obtain ⟨a, ha, _⟩ := hq; cases ha), (h6 q hq).2⟩) ⟨by rw [e1]; exact ⟨rfl, rfl⟩, dh, hey, by rw [e1]⟩ (Cmp.one ⟨Nat.lt_succ_self _, ?_⟩)
        rw [e1]
        show [Value.slice A' ([] ++ dh).length cap'] = [Value.slice A' ys.length cap']
        rw [List.nil_append, hey.1]
      · rename_i hh hlf
        split at hx
        · rename_i hlk
          obtain ⟨u, h1, h2⟩ := bind_ex hx
          have hx0 : ∃ ys', st.mem[hh]? = some (.row te ys') ∧ xs = ys' := by
            unfold rowTy at hte
            rw [hu, hlf] at hte
            simp only at hte
            split at hte
            · rename_i v ys' hp
              injection hte with hte; subst hte
              refine ⟨ys', hp, ?_⟩
              unfold rowOf at hxs
              rw [hu, hlf] at hxs
              simp only [hp] at hxs
              split at hxs
              · obtain ⟨e, hxs⟩ := Ty.as_some hxs
                have hxs : some ys' = some xs := hxs
                injection hxs with hxs; exact hxs.symm
              · cases hxs
            · cases hte
          obtain ⟨xs', hp, rfl⟩ := hx0
          obtain ⟨A, hA, hc, ch, he, rfl⟩ := h.mem.get hp
          obtain ⟨_, e⟩ := asLeaf_at hlf hxv
          injection e with e
          refine append_move (ty := o.type) h hu el hA hlk (fun q hq => hq) (h.own.xok _ (List.mem_of_getElem? hA)) he hey hsy (room_some h1) h2 ?_
          have hl : ch.length = (ρ hh).len := by rw [hc.2, he.1]
          rw [hl]
          exact hrun _ _ _ e
        · cases hx
      · rename_i hh a0 b0 hlf
        split at hx
        · rename_i hlk
          obtain ⟨u, h1, h2⟩ := bind_ex hx
          have hx0 : ∃ ys', st.mem[hh]? = some (.row te ys') ∧ xs = (ys'.take b0).drop a0 := by
            unfold rowTy at hte
            rw [hu, hlf] at hte
            simp only at hte
            split at hte
            · rename_i v ys' hp
              injection hte with hte; subst hte
              refine ⟨ys', hp, ?_⟩
              unfold rowOf at hxs
              rw [hu, hlf] at hxs
              simp only [hp] at hxs
              split at hxs
              · obtain ⟨e, hxs⟩ := Ty.as_some hxs
                have hxs : some ((ys'.take b0).drop a0) = some xs := hxs
                injection hxs with hxs; exact hxs.symm
              · cases hxs
            · cases hte
          obtain ⟨xs', hp, rfl⟩ := hx0
          obtain ⟨A, hA, hc, ch, he, rfl⟩ := h.mem.get hp
          obtain ⟨_, hab, hbl, pp, hpp, e⟩ := asLeaf_at hlf hxv
          injection e with e
          have hbl' : b0 ≤ ch.length := by rw [← he.1, ← hc.2]; exact hbl
          rw [hc.1] at hpp
          have hpart := row_cut (e := te.enc) hab hbl' (h.own.xok _ (List.mem_of_getElem? hA)) hpp
          refine append_move (ty := o.type) h hu el hA hlk (fun q hq => hpp.blk hq) hpart ((he.take b0).drop a0) hey hsy (room_some h1) h2 ?_
          have hl : ((ch.take b0).drop a0).length = b0 - a0 := by rw [List.length_drop, List.length_take]; omega
          rw [hl]
          refine hrun _ _ _ ?_
          rw [e]
        · cases hx
      · cases hx
    · cases hx
  · cases hx
end
end Go.Lift

/- make, append of make, copy. -/
namespace Go.Lift
open Go
set_option linter.unusedVariables false

/-- Room for a new row of so many elements, of that capacity. -/
def mk2 (b : Nat) (n c : Int) : Option Nat := if 0 ≤ n ∧ n ≤ c ∧ (b : Int) * c ≤ 140737488355328 ∧ c ≤ 9223372036854775807 then some n.toNat else none
def mk1 (n : Int) : Option Nat := if 0 ≤ n ∧ n ≤ 9223372036854775807 then some n.toNat else none

/-- A new element's data. -/
def zeroK {R : Type} (P : Program) (E : TypeId) (te : Ty) (K : te.den → Nat → Option R) : Option R :=
  match zeroL P E, P.info? E with
  | some zs, some i => match Nat.beq (szs zs) te.sz && Nat.beq i.size te.sz with
    | true => mkL te zs fun x rest => match rest with
      | [] => K x i.bytes
      | _ => none
    | false => none
  | _, _ => none

theorem zeroK_spec {R : Type} {P : Program} {E : TypeId} {te : Ty} {K : te.den → Nat → Option R} {r : R} (h : zeroK P E te K = some r) :
    ∃ (x : te.den) (i : TypeInfo) (v : Value) (d : Chunk te.sz), K x i.bytes = some r ∧ P.info? E = some i ∧ i.zero = some v ∧ i.size = te.sz ∧ v.cells = d.1.toArray ∧ ∀ z, te.holds z x d.1 := by
  unfold zeroK at h
  split at h
  · rename_i zs i hz hi
    split at h
    · rename_i hb
      simp only [Bool.and_eq_true] at hb
      obtain ⟨i', v, cs, h1, h2, h3, h4⟩ := zeroL_spec hz
      rw [hi] at h1; injection h1 with h1; subst h1
      have key : ∀ z, ∃ x, te.holds z x cs ∧ K x i.bytes = some r := fun z => by
        obtain ⟨x, rest, c, d, h5, h6, h7, h8⟩ := mkL_at te h (h4 (fun _ => ⟨none, 0, .unit, 0⟩) z 0)
        split at h5
        · have : d = [] := h8
          subst this
          rw [List.append_nil] at h6
          subst h6
          exact ⟨x, h7, h5⟩
        · cases h5
      obtain ⟨x0, hx0, hK⟩ := key ⟨fun _ => none, fun _ => ⟨0, none, 0, 0⟩, 0⟩
      obtain ⟨d, rfl⟩ := Ty.holds_chunk hx0
      refine ⟨x0, i, v, d, hK, hi, h2, Nat.eq_of_beq_eq_true hb.2, h3, fun z => Ty.holds_ext ⟨fun b o e => (by cases e), Nat.zero_le _, fun i hi => (by cases hi)⟩ te _ _ hx0⟩
    · cases h
  · cases h

section
variable {c : Cx} {ρ ρ' : Nat → HI} {Z Z' : Nat → Prop} {z z' : Zn} {X : List Atom} {st : St} {l : List Value} {w w' : World} {P : Program}

theorem Els.rep {t : Ty} {x : t.den} {d : Chunk t.sz} (h : t.holds z x d.1) (m : Nat) : Els (t.holds z) (List.replicate m x) (List.replicate m d) := Els.replicate (p := t.holds z) h m

def xmake {R' : Type} (P : Program) (T : TypeId) (n cp : AV) (mem : List Pc) (K : AV → List Pc → Option R') : Option R' :=
  match P.underlying T, n.asInt, cp.asInt with
  | some (.slice E), some (_, a), some (_, b) => match tyOf P 8 E with
    | some te => zeroK P E te fun x0 bytes => Option.bind (mk2 bytes a b) fun m => K (.vl false [.row mem.length]) (mem ++ [.row te (List.replicate m x0)])
    | none => none
  | _, _, _ => none

theorem made_flat {te : Ty} {d : Chunk te.sz} {v : Value} (hv : v.cells = d.1.toArray) (k : Nat) : madeCells v.cells (k * te.sz) = (flat te.enc (List.replicate k d)).toArray := by
  have := made_cells d.1 k
  rw [d.2.1] at this
  unfold madeCells
  rw [hv, flat_replicate]
  exact this

theorem xmake_acts {R' : Type} {k : Lk} (h : At c ρ Z z X st l w) {T : TypeId} {lo co : Operand} {K : AV → List Pc → Option R'} {r : R'} (hx : xmake c.P T (opd c.G st.fr lo) (opd c.G st.fr co) st.mem K = some r) {o : Oper} (ho : o.op = .makeSlice T lo co) :
    Acts c k ρ Z z X st l w (execOp (Fr l).eval o) K r := by
  unfold xmake at hx
  split at hx
  · rename_i E kl a kc b hu ha hb
    have hla := asInt_at ha (opd_at h.fr h.gz lo)
    have hlb := asInt_at hb (opd_at h.fr h.gz co)
    split at hx
    · rename_i te hte
      obtain ⟨x0, i, v, d, h1, h2, h3, h4, h5, h6⟩ := zeroK_spec hx
      obtain ⟨m, hm, hK⟩ := bind_ex h1
      unfold mk2 at hm
      split at hm
      · rename_i hn
        injection hm with hm; subst hm
        have hr := run_make (P := c.P) w T E i v hu h2 h3 kl kc a b hn.1 hn.2.1 (by omega) hn.2.2.2
        rw [h4, made_flat h5] at hr
        have e1 := ext1_eq ρ st.mem.length ⟨some ⟨w.heap.size, 0, none⟩, b.toNat, te, a.toNat⟩
        refine acts_new (hi := ⟨some ⟨w.heap.size, 0, none⟩, b.toNat, te, a.toNat⟩) (B := rowA te.enc (some ⟨w.heap.size, 0, none⟩) b.toNat (List.replicate a.toNat d)) (v := .slice (some ⟨w.heap.size, 0, none⟩) a.toNat b.toNat) (w' := w.alloc (.cells (flat te.enc (List.replicate b.toNat d)).toArray E)) h hK ?_ (keeps_alloc' _ _ _) ?_ ?_ ⟨by rw [e1]; exact ⟨rfl, by simp⟩, List.replicate a.toNat d, Els.rep (h6 z) _, by rw [e1]⟩ (Cmp.one ⟨Nat.lt_succ_self _, by rw [e1]⟩)
        · simp [execOp, ho, hla, hlb, hr]
        · have hspl : flat te.enc (List.replicate b.toNat d) = [] ++ (flat te.enc (List.replicate a.toNat d) ++ (flat te.enc (List.replicate (b.toNat - a.toNat) d) ++ [])) := by
            rw [List.nil_append, List.append_nil, ← flat_append, List.replicate_append_replicate, Nat.add_sub_of_le (by omega)]
          rw [hspl]
          refine row_mk (b := w.heap.size) (o := 0) (t := E) (pre := []) (sp := flat te.enc (List.replicate (b.toNat - a.toNat) d)) (post := []) (by simp; omega) rfl ?_ (heap_alloc_new w _)
          rw [flat_len, flat_len, List.length_replicate, List.length_replicate, ← Nat.add_mul, Nat.add_sub_of_le (by omega)]
        · rintro q ⟨ad, hq, rfl⟩
          injection hq with hq; subst hq
          exact ⟨Nat.le_refl _, by simp⟩
      · cases hm
    · cases hx
  · cases hx

/-! ### []byte(s) -/

def bch (b : UInt8) : Chunk (Ty.int .u8).sz := ⟨[Value.int .u8 b.toNat], rfl, fun v hv => by rw [List.mem_singleton.1 hv]; rfl⟩

def xsbytes {R' : Type} (P : Program) (s d : TypeId) (x : AV) (mem : List Pc) (K : AV → List Pc → Option R') : Option R' :=
  match P.underlying s, P.underlying d, x.asStr with
  | some .string, some (.slice e), some bs => match P.underlying e with
    | some (.int .u8) => K (.vl false [.row mem.length]) (mem ++ [.row (.int .u8) (bnums bs)])
    | _ => none
  | _, _, _ => none

theorem xsbytes_acts {R' : Type} {k : Lk} (h : At c ρ Z z X st l w) {s d : TypeId} {x : Operand} {K : AV → List Pc → Option R'} {r : R'} (hx : xsbytes c.P s d (opd c.G st.fr x) st.mem K = some r) {o : Oper} (ho : o.op = .convert s d x) :
    Acts c k ρ Z z X st l w (execOp (Fr l).eval o) K r := by
  unfold xsbytes at hx
  split at hx
  · rename_i e bs hs hd hstr
    have hv := asStr_at hstr (opd_at h.fr h.gz x)
    split at hx
    · rename_i he
      have hr := Lib.run_convert_string_bytes w s d e ⟨bs.toArray⟩ hs hd he
      have hsz : (⟨bs.toArray⟩ : ByteArray).size = bs.length := by simp [ByteArray.size]
      have hcap : bs.length ≤ grownCap w bs.length 0 e := grownCap_ge w _ _ _
      have e1 := ext1_eq ρ st.mem.length ⟨some ⟨w.heap.size, 0, none⟩, grownCap w bs.length 0 e, .int .u8, (bnums bs).length⟩
      have hcells : Lib.bytesCells w e ⟨bs.toArray⟩ = ([] ++ (flat (Ty.int .u8).enc (bs.map bch) ++ (List.replicate (grownCap w bs.length 0 e - bs.length) (Value.int .u8 0) ++ []))).toArray := by
        apply Array.toList_inj.1
        have hfl : flat (Ty.int .u8).enc (bs.map bch) = bs.map fun b : UInt8 => Value.int .u8 b.toNat := by
          clear hr hsz hcap e1 hx hstr hv
          induction bs with
          | nil => rfl
          | cons b bs ih => rw [List.map_cons, flat_cons, ih]; rfl
        rw [hfl]
        unfold Lib.bytesCells
        rw [hsz]
        simp
      refine acts_new (hi := ⟨some ⟨w.heap.size, 0, none⟩, grownCap w bs.length 0 e, .int .u8, (bnums bs).length⟩) (B := rowA (Ty.int .u8).enc (some ⟨w.heap.size, 0, none⟩) (grownCap w bs.length 0 e) (bs.map bch))
        (v := .slice (some ⟨w.heap.size, 0, none⟩) bs.length (grownCap w bs.length 0 e)) (w' := Lib.bytesWorld w e ⟨bs.toArray⟩) h hx ?_ ?_ ?_ ?_ ⟨by rw [e1]; exact ⟨rfl, rfl⟩, _, ?_, by rw [e1]⟩ (Cmp.one ⟨Nat.lt_succ_self _, by rw [e1, show (bnums bs).length = bs.length from List.length_map _]⟩)
      · rw [hsz] at hr
        unfold execOp
        simp only [ho, hv, Sem.run_bind, hr, Result.andThen_ok]
        rfl
      · exact ⟨rfl, rfl, rfl, by rw [Lib.bytesWorld_size]; omega, fun b hb _ => Lib.bytesWorld_at_old w e _ b hb⟩
      · have hn := Lib.bytesWorld_at_new w e ⟨bs.toArray⟩
        rw [hcells] at hn
        refine row_mk' (by simpa using hcap) rfl ?_ ?_ hn
        · rw [flat_len, List.length_map, List.length_replicate]
          show bs.length * 1 + (grownCap w bs.length 0 e - bs.length) = grownCap w bs.length 0 e * 1
          rw [Nat.mul_one, Nat.mul_one, Nat.add_sub_of_le hcap]
        · exact .inr ⟨rfl, by simp⟩
      · rintro q ⟨ad, hq, rfl⟩
        injection hq with hq; subst hq
        exact ⟨Nat.le_refl _, by rw [Lib.bytesWorld_size]; exact Nat.lt_succ_self _⟩
      · refine ⟨(List.length_map (as := bs) fun b : UInt8 => ((b.toNat : Nat) : Int)).trans (List.length_map bch).symm, fun i y d hy hd => ?_⟩
        cases hb : bs[i]? with
        | none => rw [List.getElem?_map, hb] at hd; cases hd
        | some b =>
          rw [List.getElem?_map, hb] at hd
          injection hd with hd
          subst hd
          have hy' : (bs.map fun b : UInt8 => ((b.toNat : Nat) : Int))[i]? = some ((b.toNat : Nat) : Int) := by rw [List.getElem?_map, hb]; rfl
          have e : (some y : Option Int) = some ((b.toNat : Nat) : Int) := hy.symm.trans hy'
          injection e with e
          show [Value.int .u8 ((b.toNat : Nat) : Int)] = [Value.int .u8 y]
          exact congrArg (fun n : Int => [Value.int .u8 n]) e.symm
    · cases hx
  · cases hx

/-! ### append(x, make(T, n)...) -/

theorem run_appendZ {T T' ty E : TypeId} {te : Ty} {A : Option Addr} {cap : Nat} {xs : List (Chunk te.sz)} {k kk : IntKind} {n : Int} {v : Value} {d : Chunk te.sz} {i : TypeInfo} (hT : P.underlying T = some (.slice E)) (hT' : P.underlying T' = some (.int kk))
    (hi : P.info? E = some i) (hz : i.zero = some v) (hsz : i.size = te.sz) (hv : v.cells = d.1.toArray) (hrow : (rowA te.enc A cap xs).at w) (h0 : 0 ≤ n) (hn63 : n ≤ 9223372036854775807) (h63 : xs.length + n.toNat ≤ maxLen) (hb : (xs.length + n.toNat) * i.bytes ≤ 140737488355328) :
    ∃ A' cap' w', (Builtin.append_ #[T, T'] ty #[.slice A xs.length cap, .int k n]).run P w = .ok (.slice A' (xs ++ List.replicate n.toNat d).length cap') w' ∧ (rowA te.enc A' cap' (xs ++ List.replicate n.toNat d)).at w' ∧
      Keeps (blkOf A) w w' ∧ ∀ b, blkOf A' b → (blkOf A b ∨ w.heap.size ≤ b) ∧ b < w'.heap.size := by
  have hwr : IntKind.i64.wrap n = n := by rw [IntKind.wrap_i64]; omega
  generalize hm : n.toNat = m at *
  have hnm : n = (m : Int) := by omega
  have hzs : v.cells.size = te.enc.sz := by rw [hv]; exact d.2.1
  have hys : (List.replicate m d).length = m := by simp
  have hsmall : xs.length + m ≤ 9223372036854775807 := by simp only [maxLen] at h63; omega
  have hln : (xs ++ List.replicate m d).length = xs.length + m := by simp
  have hnb : ¬ (281474976710656 < (m : Int) * (i.bytes : Int)) := by
    have h1 : m * i.bytes ≤ 140737488355328 := Nat.le_trans (Nat.mul_le_mul_right _ (Nat.le_add_left m xs.length)) hb
    have h2 : ((m : Int) * (i.bytes : Int)) = ((m * i.bytes : Nat) : Int) := by rw [Int.natCast_mul]
    omega
  have hzc : (if m * te.sz = 0 then (#[] : Array Value) else Builtin.zeroCells v.cells m) = (flat te.enc (List.replicate m d)).toArray := by
    have := made_flat hv m
    split
    · rename_i h0
      have : (flat te.enc (List.replicate m d)).length = 0 := by rw [flat_len, hys]; exact h0
      rw [List.eq_nil_of_length_eq_zero this]
    · rw [← this]
      unfold Builtin.zeroCells madeCells
      rw [hzs]; rfl
  have hneg : ¬ ((m : Int) < 0) := by omega
  have hw00 : IntKind.i64.wrap 0 = 0 := by rw [IntKind.wrap_i64]; omega
  have hz0 : m * i.size = 0 → flat te.enc (List.replicate m d) = [] := fun h0 => by
    rw [hsz] at h0
    have : (flat te.enc (List.replicate m d)).length = 0 := by rw [flat_len, hys]; exact h0
    exact List.eq_nil_of_length_eq_zero this
  have hz1 : ¬ (m * i.size = 0) → Builtin.zeroCells v.cells m = (flat te.enc (List.replicate m d)).toArray := fun h0 => by
    rw [hsz] at h0
    rw [if_neg h0] at hzc
    exact hzc
  have old : ∀ A, SlR w te.enc A xs → (Builtin.firstCells te.enc.sz xs.length (.slice A xs.length cap)).run P w.drew = .ok (flat te.enc xs).toArray w.drew := fun A h => SlR.first (by exact h)
  have grow : cap < xs.length + m → ∃ A' cap' w', (Builtin.append_ #[T, T'] ty #[.slice A xs.length cap, .int k n]).run P w = .ok (.slice A' (xs ++ List.replicate m d).length cap') w' ∧ (rowA te.enc A' cap' (xs ++ List.replicate m d)).at w' ∧
      Keeps (blkOf A) w w' ∧ ∀ b, blkOf A' b → (blkOf A b ∨ w.heap.size ≤ b) ∧ b < w'.heap.size := by
    intro hcap
    have hfit := growslice_fits hcap hb
    have hge := grownCap_ge w (xs.length + m) cap E
    refine ⟨some ⟨w.heap.size, 0, none⟩, grownCap w (xs.length + m) cap E, w.drew.alloc (.cells ((flat te.enc xs).toArray ++ (flat te.enc (List.replicate m d)).toArray ++ Builtin.zeroCells v.cells (grownCap w (xs.length + m) cap E - (xs.length + m))) E), ?_, ?_, ?_, ?_⟩
    · have hn : ¬ (xs.length + m ≤ cap) := by omega
      have h63' : ¬ (9223372036854775807 < ((xs.length : Int) + (m : Int))) := by omega
      have h48' : ¬ (281474976710656 < Builtin.nextslicecap (xs.length + m) cap * i.bytes) := by omega
      have hfo : (Builtin.firstCells i.size xs.length (.slice A xs.length cap)).run P w.drew = .ok (flat te.enc xs).toArray w.drew := by
        rw [hsz]; exact old A (SlR.of_row hrow)
      subst hnm
      by_cases hm0 : m * i.size = 0
      · have hz3 : (flat te.enc (List.replicate m d)).toArray = #[] := by rw [hz0 hm0]
        simp [Builtin.append_, run_underlying hT, run_underlying hT', sizeOf, typeInfo, zeroValue, asInt, asIntOf, hwr, hneg, hnb, hi, hz, hn, h63', h48', Question.forced, hfo, newRow, grownCap, hm0, hz3] <;>
          (try (congr 2; apply Array.ext'; simp [List.append_assoc]))
      · have hz3 := hz1 hm0
        simp [Builtin.append_, run_underlying hT, run_underlying hT', sizeOf, typeInfo, zeroValue, asInt, asIntOf, hwr, hneg, hnb, hi, hz, hn, h63', h48', Question.forced, hfo, newRow, grownCap, hm0, hz3] <;>
          (try (congr 2; apply Array.ext'; simp [List.append_assoc]))
    · have e1 : ((flat te.enc xs).toArray ++ (flat te.enc (List.replicate m d)).toArray ++ Builtin.zeroCells v.cells (grownCap w (xs.length + m) cap E - (xs.length + m)))
          = ([] ++ (flat te.enc (xs ++ List.replicate m d) ++ ((Builtin.zeroCells v.cells (grownCap w (xs.length + m) cap E - (xs.length + m))).toList ++ []))).toArray := by
        apply Array.toList_inj.1; simp [flat_append, List.append_assoc]
      rw [e1]
      refine row_mk (by omega) (pre := []) (sp := (Builtin.zeroCells v.cells (grownCap w (xs.length + m) cap E - (xs.length + m))).toList) (post := []) (t := E) rfl ?_ (heap_alloc_new w.drew _)
      have e2 : (Builtin.zeroCells v.cells (grownCap w (xs.length + m) cap E - (xs.length + m))).toList.length = (grownCap w (xs.length + m) cap E - (xs.length + m)) * te.enc.sz := by
        rw [Array.length_toList, size_zeroCells, hzs]
      rw [e2, flat_len, hln, ← Nat.add_mul]
      congr 1
      omega
    · exact keeps_alloc w _ _
    · rintro b ⟨a, ha, rfl⟩
      injection ha with ha
      subst ha
      exact ⟨.inr (Nat.le_refl _), by simp⟩
  by_cases hcap : xs.length + m ≤ cap
  · obtain ⟨hl, h'⟩ := row_facts hrow
    rcases h' with ⟨rfl, rfl⟩ | ⟨b, o, t, pre, sp, post, rfl, h2, h3, mk, h4, hz'⟩
    · have hxs : xs = [] := List.eq_nil_of_length_eq_zero (by omega)
      have hm0 : m = 0 := by omega
      subst hxs; subst hm0
      refine ⟨none, 0, w, ?_, row_nil te.enc w, Keeps.refl _ _, fun b hb => ?_⟩
      · subst hnm
        simp [Builtin.append_, run_underlying hT, run_underlying hT', sizeOf, typeInfo, asInt, asIntOf, hw00, hi]
      · obtain ⟨a, ha, _⟩ := hb; cases ha
    · have hlf : (flat te.enc (List.replicate m d)).length ≤ sp.length := by
        rw [flat_len] at *
        have := Nat.mul_le_mul_right te.enc.sz hcap
        rw [Nat.add_mul] at this
        rw [hys]
        omega
      have hst := run_storeCells_fz P b (o + xs.length * te.enc.sz) t mk (flat te.enc (List.replicate m d)) 0 _ w h4 (by simpa using hz'.fz) (by
        have hx : (flat te.enc xs).length = xs.length * te.enc.sz := flat_len xs
        simp only [List.size_toArray, List.length_append]
        omega) (flat_leaf _)
      simp only [Nat.add_zero] at hst
      have hw : (pre ++ (flat te.enc xs ++ (sp ++ post))).take (o + xs.length * te.enc.sz) ++ flat te.enc (List.replicate m d) ++ (pre ++ (flat te.enc xs ++ (sp ++ post))).drop (o + xs.length * te.enc.sz + (flat te.enc (List.replicate m d)).length)
          = pre ++ (flat te.enc (xs ++ List.replicate m d) ++ (sp.drop (flat te.enc (List.replicate m d)).length ++ post)) := by
        have e1 : o + xs.length * te.enc.sz = (pre ++ flat te.enc xs).length := by rw [List.length_append, flat_len, h2]
        have e0 : pre ++ (flat te.enc xs ++ (sp ++ post)) = (pre ++ flat te.enc xs) ++ (sp ++ post) := by simp
        rw [e0, e1, List.take_left, ← List.drop_drop, List.drop_left, List.drop_append_of_le_length hlf, flat_append]
        simp
      refine ⟨some ⟨b, o, none⟩, cap, w.setRow b (pre ++ (flat te.enc (xs ++ List.replicate m d) ++ (sp.drop (flat te.enc (List.replicate m d)).length ++ post))).toArray, ?_, ?_, ?_, ?_⟩
      · rw [hw] at hst
        have hst : (storeCells ⟨b, o + xs.length * i.size, none⟩ (flat te.enc (List.replicate m d))).run P w = .ok () (w.setRow b (pre ++ (flat te.enc (xs ++ List.replicate m d) ++ (sp.drop (flat te.enc (List.replicate m d)).length ++ post))).toArray) := by
          rw [hsz]; exact hst
        subst hnm
        by_cases hm0 : m * i.size = 0
        · have hz3 := hz0 hm0
          rw [hz3] at hst ⊢
          simp [Builtin.append_, run_underlying hT, run_underlying hT', sizeOf, typeInfo, zeroValue, asInt, asIntOf, hwr, hneg, hnb, hi, hz, hcap, hm0, Addr.add_lit, hst]
        · have hz3 := hz1 hm0
          simp [Builtin.append_, run_underlying hT, run_underlying hT', sizeOf, typeInfo, zeroValue, asInt, asIntOf, hwr, hneg, hnb, hi, hz, hcap, hm0, hz3, Addr.add_lit, hst]
      · refine row_mk' (by omega) h2 (sp := sp.drop (flat te.enc (List.replicate m d)).length) (post := post) (t := t) ?_ (hz'.len ?_) (setRow_heap w b _ _ t _ h4)
        · rw [List.length_drop, flat_append, List.length_append]
          omega
        · simp only [List.length_append, List.length_drop, flat_append]
          omega
      · exact ⟨rfl, rfl, rfl, by simp, fun k _ hk => setRow_other w b k _ fun e => hk ⟨_, rfl, e.symm⟩⟩
      · rintro k ⟨a, ha, rfl⟩
        injection ha with ha
        subst ha
        exact ⟨.inl ⟨_, rfl, rfl⟩, by simpa using (Array.getElem?_eq_some_iff.1 h4).1⟩
  · exact grow (by omega)

theorem mk1_some {n : Int} {m : Nat} (h : mk1 n = some m) : 0 ≤ n ∧ n ≤ 9223372036854775807 ∧ n.toNat = m := by
  unfold mk1 at h
  split at h
  · rename_i hn; injection h with h; exact ⟨hn.1, hn.2, h⟩
  · cases h

def xappendZ {R' : Type} (P : Program) (k : Lk) (T T' : TypeId) (x y : AV) (mem : List Pc) (K : AV → List Pc → Option R') : Option R' :=
  match P.underlying T, P.underlying T', y.asInt, x.asLeaf with
  | some (.slice E), some (.int _), some (_, n), some .nils => match tyOf P 8 E with
    | some te => zeroK P E te fun x0 bytes => Option.bind (mk1 n) fun m => Option.bind (room bytes (0 + m)) fun _ => K (.vl false [.row mem.length]) (mem ++ [.row te (List.replicate m x0)])
    | none => none
  | some (.slice E), some (.int _), some (_, n), some (.row h) => match k.lk h, mem[h]? with
    | false, some (.row te xs) => zeroK P E te fun x0 bytes => Option.bind (mk1 n) fun m => Option.bind (room bytes (xs.length + m)) fun _ => K (.vl false [.row mem.length]) (mem.set h .dead ++ [.row te (xs ++ List.replicate m x0)])
    | _, _ => none
  | _, _, _, _ => none

theorem xappendZ_acts {R' : Type} {k : Lk} (h : At c ρ Z z X st l w) {T T' : TypeId} {x y : Operand} {K : AV → List Pc → Option R'} {r : R'} (hx : xappendZ c.P k T T' (opd c.G st.fr x) (opd c.G st.fr y) st.mem K = some r)
    {o : Oper} (ho : o.op = .call { callee := .builtin .append, args := #[x, y], argTypes := #[T, T'] }) : Acts c k ρ Z z X st l w (execOp (Fr l).eval o) K r := by
  have hxv := opd_at h.fr h.gz x
  have hyv := opd_at h.fr h.gz y
  have hrun : ∀ A m cap kk n, (Fr l).eval x = .slice A m cap → (Fr l).eval y = .int kk n → ∀ v w', (Builtin.append_ #[T, T'] o.type #[.slice A m cap, .int kk n]).run c.P w = .ok v w' → (execOp (Fr l).eval o).run c.P w = .ok (.value v) w' := by
    intro A m cap kk n e e' v w' hr
    unfold execOp
    simp [ho, e, e', resolve, invoke, builtin, hr]
  unfold xappendZ at hx
  split at hx
  · rename_i E kk kn n hu hu' hn hlf
    have hyi := asInt_at hn hyv
    have e : [(Fr l).eval x] = _ := asLeaf_at hlf hxv
    injection e with e
    split at hx
    · rename_i te hte
      obtain ⟨x0, i, v, d, h1, h2, h3, h4, h5, h6⟩ := zeroK_spec hx
      obtain ⟨m, hm, h7⟩ := bind_ex h1
      obtain ⟨u, hr, hK⟩ := bind_ex h7
      have hroom := room_some hr
      rw [Nat.zero_add] at hroom
      obtain ⟨hn0, hn63, rfl⟩ := mk1_some hm
      obtain ⟨A', cap', w', h8, h9, h10, h11⟩ := run_appendZ (xs := []) (A := none) (cap := 0) (k := kn) (ty := o.type) hu hu' h2 h3 h4 h5 (row_nil te.enc w) hn0 hn63 (by simpa using hroom.2) (by simpa using hroom.1)
      have e1 := ext1_eq ρ st.mem.length ⟨A', cap', te, n.toNat⟩
      refine acts_new (hi := ⟨A', cap', te, n.toNat⟩) (B := rowA te.enc A' cap' (List.replicate n.toNat d)) h hK (hrun _ _ _ _ _ e hyi _ _ h8) (h10.mono fun q hq => by obtain ⟨a, ha, _⟩ := hq; cases ha) (by simpa using h9) (fun q hq => ⟨(h11 q hq).1.resolve_left (fun hq => by obtain ⟨a, ha, _⟩ := hq; cases ha), (h11 q hq).2⟩) ⟨by rw [e1]; exact ⟨rfl, by simp⟩, List.replicate n.toNat d, Els.rep (h6 z) _, by rw [e1]⟩ (Cmp.one ⟨Nat.lt_succ_self _, ?_⟩)
      rw [e1]
      simp
    · cases hx
  · rename_i E kk kn n hh hu hu' hn hlf
    have hyi := asInt_at hn hyv
    split at hx
    · rename_i te xs hlk hp
      obtain ⟨A, hA, hc, ch, he, rfl⟩ := h.mem.get hp
      obtain ⟨_, e⟩ := asLeaf_at hlf hxv
      injection e with e
      obtain ⟨x0, i, v, d, h1, h2, h3, h4, h5, h6⟩ := zeroK_spec hx
      obtain ⟨m, hm, h7⟩ := bind_ex h1
      obtain ⟨u, hr, hK⟩ := bind_ex h7
      have hroom := room_some hr
      obtain ⟨hn0, hn63, rfl⟩ := mk1_some hm
      rw [he.1] at hroom
      obtain ⟨A', cap', w', h8, h9, h10, h11⟩ := run_appendZ (k := kn) (ty := o.type) hu hu' h2 h3 h4 h5 (h.own.xok _ (List.mem_of_getElem? hA)) hn0 hn63 hroom.2 hroom.1
      have e1 := ext1_eq ρ st.mem.length ⟨A', cap', te, (xs ++ List.replicate n.toNat x0).length⟩
      have hl : ch.length = (ρ hh).len := by rw [hc.2, he.1]
      rw [← hl] at e
      refine acts_move (hi := ⟨A', cap', te, (xs ++ List.replicate n.toNat x0).length⟩) (B := rowA te.enc A' cap' (ch ++ List.replicate n.toNat d)) h hK hA hlk (hrun _ _ _ _ _ e hyi _ _ h8) h10 h9 h11 ⟨by rw [e1]; exact ⟨rfl, rfl⟩, _, he.append (Els.rep (h6 z) _), by rw [e1]⟩ (Cmp.one ⟨Nat.lt_succ_self _, ?_⟩)
      rw [e1]
      show [Value.slice A' (ch ++ List.replicate n.toNat d).length cap'] = [Value.slice A' (xs ++ List.replicate n.toNat x0).length cap']
      simp [he.1]
    · cases hx
  · cases hx

/-! ### copy -/

/-- The places from a to b get what there is of ys. -/
def cpyL {β : Type} (xs : List β) (a b : Nat) (ys : List β) : List β := xs.mapIdx fun i x => if a ≤ i ∧ i < b then (ys[i - a]?).getD x else x
theorem cpyL_len {β : Type} (xs : List β) (a b : Nat) (ys : List β) : (cpyL xs a b ys).length = xs.length := by simp [cpyL]
def Arr.cpy {β : Type} {n : Nat} (x : Arr n β) (a b : Nat) (ys : List β) : Arr n β := ⟨cpyL x.1 a b ys, by rw [cpyL_len]; exact x.2⟩

theorem cpyL_eq {β : Type} {xs ys : List β} {a b : Nat} (hab : a ≤ b) (hb : b ≤ xs.length) : cpyL xs a b ys = xs.take a ++ (ys.take (min ys.length (b - a)) ++ xs.drop (a + min ys.length (b - a))) := by
  apply List.ext_getElem?
  intro i
  unfold cpyL
  rw [List.getElem?_mapIdx]
  by_cases h1 : i < a
  · rw [List.getElem?_append_left (by simp; omega), List.getElem?_take, if_pos h1]
    cases hx : xs[i]? with
    | none => rfl
    | some x => simp only [Option.map_some]; rw [if_neg (by omega)]
  · have hla : (xs.take a).length = a := by simp; omega
    rw [List.getElem?_append_right (by omega), hla]
    have hlk : (ys.take (min ys.length (b - a))).length = min ys.length (b - a) := by simp
    by_cases h2 : i - a < min ys.length (b - a)
    · rw [List.getElem?_append_left (by omega), List.getElem?_take, if_pos h2]
      have hi : i < xs.length := by omega
      have hy : i - a < ys.length := by omega
      rw [List.getElem?_eq_getElem hi, List.getElem?_eq_getElem hy]
      simp only [Option.map_some, Option.getD_some]
      rw [if_pos ⟨by omega, by omega⟩]
    · rw [List.getElem?_append_right (by omega), hlk, List.getElem?_drop, show a + min ys.length (b - a) + (i - a - min ys.length (b - a)) = i by omega]
      cases hx : xs[i]? with
      | none => rfl
      | some x =>
        simp only [Option.map_some]
        split
        · rename_i h3
          rw [List.getElem?_eq_none (by omega)]; rfl
        · rfl

theorem Els.cpy {t : Ty} {p : t.den → List Value → Prop} {xs ys : List t.den} {cs ds : List (Chunk t.sz)} (h : Els p xs cs) (h' : Els p ys ds) (a b : Nat) : Els p (cpyL xs a b ys) (cpyL cs a b ds) := by
  refine ⟨by rw [cpyL_len, cpyL_len]; exact h.1, fun i x c hx hc => ?_⟩
  unfold cpyL at hx hc
  rw [List.getElem?_mapIdx] at hx hc
  obtain ⟨x0, h1, rfl⟩ := Option.map_eq_some_iff.1 hx
  obtain ⟨c0, h2, rfl⟩ := Option.map_eq_some_iff.1 hc
  split
  · cases hy : ys[i - a]? with
    | none =>
      have : ds[i - a]? = none := by
        rw [List.getElem?_eq_none_iff] at hy ⊢; rw [← h'.1]; exact hy
      rw [this]; exact h.2 i x0 c0 h1 h2
    | some y =>
      obtain ⟨d, hd, hp⟩ := h'.get hy
      rw [hd]; exact hp
  · exact h.2 i x0 c0 h1 h2

theorem flat_cpy {t : Ty} {cs ds : List (Chunk t.sz)} {a b : Nat} (hab : a ≤ b) (hb : b ≤ cs.length) :
    flat t.enc (cpyL cs a b ds) = (flat t.enc cs).take (a * t.sz) ++ (flat t.enc (ds.take (min ds.length (b - a))) ++ (flat t.enc cs).drop ((a + min ds.length (b - a)) * t.sz)) := by
  rw [cpyL_eq hab hb, flat_append, flat_append]
  have h1 := flat_take (e := t.enc) cs a
  have h2 := flat_drop (e := t.enc) cs (a + min ds.length (b - a))
  rw [h1, h2]
  rfl

/-- copy: what is read, and the cells that it is put into. -/
theorem run_copyG {dT sT ty E : TypeId} {te : Ty} {base : Option Addr} {dLen dCap : Nat} {v : Value} {ch : List (Chunk te.sz)} (hu : P.underlying dT = some (.slice E)) (hs : szB P E te.sz = true) (hsrc : SrcAt P w sT v ch)
    {w' : World} (hst : (match base with | some a => storeCells a (flat te.enc (ch.take (min ch.length dLen))) | none => pure ()).run P w = .ok () w') :
    (Builtin.copy_ #[dT, sT] ty #[.slice base dLen dCap, v]).run P w = .ok (goInt (min ch.length dLen : Nat)) w' := by
  obtain ⟨inf, hi, hsz⟩ := szB_spec hs
  have hf := hsrc.first (min ch.length dLen) (Nat.min_le_left ..) w rfl
  have hmin : Nat.min ch.length dLen = min ch.length dLen := rfl
  cases base with
  | none =>
    have hst : w = w' := by injection hst
    subst hst
    simp [Builtin.copy_, run_underlying hu, hsrc.len, sizeOf, typeInfo, hi, hsz, hmin, hf]
  | some a =>
    have hst : (storeCells a (flat te.enc (ch.take (min ch.length dLen)))).run P w = .ok () w' := hst
    simp [Builtin.copy_, run_underlying hu, hsrc.len, sizeOf, typeInfo, hi, hsz, hmin, hf, hst]

def xcopy {R' : Type} (P : Program) (k : Lk) (T T' : TypeId) (x y : AV) (mem : List Pc) (K : AV → List Pc → Option R') : Option R' :=
  match P.underlying T, x.asLeaf with
  | some (.slice E), some (.bpart h off t m a b) => match k.lk h, mem[h]? with
    | false, some (.box ls) => match cutL ls off (m * t.sz) with
      | some [.dat (.arr m' u) xs] => Ty.as Ty.den (.arr m' u) (.arr m t) xs fun xs => match szB P E t.sz, rowOf P T' mem t y with
        | true, some ys => match putL ls off (m * t.sz) [.dat (.arr m t) (Arr.cpy xs a b ys)] with
          | some ls' => K (avI .i64 (min ys.length (b - a) : Nat)) (mem.set h (.box ls'))
          | none => none
        | _, _ => none
      | _ => none
    | _, _ => none
  | some (.slice E), some (.row h) => match k.lk h, mem[h]? with
    | false, some (.row t xs) => match szB P E t.sz, rowOf P T' mem t y with
      | true, some ys => K (avI .i64 (min ys.length (xs.length - 0) : Nat)) (mem.set h (.row t (cpyL xs 0 xs.length ys)))
      | _, _ => none
    | _, _ => none
  | some (.slice E), some (.part h a b) => match k.lk h, mem[h]? with
    | false, some (.row t xs) => match szB P E t.sz, rowOf P T' mem t y with
      | true, some ys => K (avI .i64 (min ys.length (b - a) : Nat)) (mem.set h (.row t (cpyL xs a b ys)))
      | _, _ => none
    | _, _ => none
  | _, _ => none

/-- copy into a part of a row. -/
theorem copy_row {R' : Type} {k : Lk} (h : At c ρ Z z X st l w) {hh : Nat} {t : Ty} {xs ys : List t.den} (hp : st.mem[hh]? = some (.row t xs)) (hlk : k.lk hh = false) {T T' E ty : TypeId} {a b dCap : Nat} {base : Option Addr} {v : Value} {dh : List (Chunk t.sz)} {s : Sem Next} {K : AV → List Pc → Option R'} {r : R'}
    (hu : c.P.underlying T = some (.slice E)) (hs : szB c.P E t.sz = true) (hey : Els (t.holds z) ys dh) (hsrc : SrcAt c.P w T' v dh) (hab : a ≤ b) (hb : b ≤ xs.length) (hbase : base = (ρ hh).A.map (fun ad => ad.add (a * t.sz)) ∨ a = b)
    (hK : K (avI .i64 (min ys.length (b - a) : Nat)) (st.mem.set hh (.row t (cpyL xs a b ys))) = some r)
    (hrun : ∀ u w', (Builtin.copy_ #[T, T'] ty #[.slice base (b - a) dCap, v]).run c.P w = .ok u w' → s.run c.P w = .ok (.value u) w') : Acts c k ρ Z z X st l w s K r := by
  obtain ⟨A, hA, hc, ch, he, rfl⟩ := h.mem.get hp
  have hrow := h.own.xok _ (List.mem_of_getElem? hA)
  obtain ⟨hle, h'⟩ := row_facts hrow
  have hlen : ys.length = dh.length := hey.1
  have hbl : b ≤ ch.length := by rw [← he.1]; exact hb
  have hfin : (Pc.row t (cpyL xs a b ys)).is ρ z st.mem.length hh (rowA t.enc (ρ hh).A (ρ hh).cap (cpyL ch a b dh)) := ⟨⟨hc.1, by rw [cpyL_len]; exact hc.2⟩, _, he.cpy hey a b, rfl⟩
  have noop : min dh.length (b - a) = 0 → cpyL ch a b dh = ch := fun h0 => by
    rw [cpyL_eq hab hbl, h0]; simp
  have hdom : ∀ b', (rowA t.enc (ρ hh).A (ρ hh).cap (cpyL ch a b dh)).dom b' → (rowA t.enc (ρ hh).A (ρ hh).cap ch).dom b' := fun b' hb' => hb'
  have hold : ∀ b', (rowA t.enc (ρ hh).A (ρ hh).cap ch).dom b' → b' < w.heap.size := fun b' hb' => (h.own.xdom _ (List.mem_of_getElem? hA) b' hb').2
  rw [hlen] at hK
  by_cases h0 : min dh.length (b - a) = 0
  · have hr := run_copyG (ty := ty) (w' := w) (base := base) (dLen := b - a) (dCap := dCap) hu hs hsrc (by
      rw [h0]
      cases base <;> rfl)
    refine acts_put (w' := w) (B := rowA t.enc (ρ hh).A (ρ hh).cap (cpyL ch a b dh)) h hK hA hlk (.inl (hrun _ _ hr)) (Keeps.refl _ _) (by rw [noop h0]; exact hrow) (fun b' hb' => ⟨.inl hb', hold b' hb'⟩) hfin (Cmp.one rfl)
  · rcases h' with ⟨h1, h2⟩ | ⟨bl, o', t', pre, sp, post, h1, h2, h3, mk, h4, hz'⟩
    · have : ch.length = 0 := by omega
      omega
    · have hb2 : base = some ⟨bl, o' + a * t.sz, none⟩ := by
        rcases hbase with h5 | h5
        · rw [h5, h1]; simp [addr_lit]
        · omega
      subst hb2
      have hfl : (flat t.enc ch).length = ch.length * t.sz := flat_len ch
      have hfd : (flat t.enc (dh.take (min dh.length (b - a)))).length = min dh.length (b - a) * t.sz := by rw [flat_len, List.length_take, Nat.min_eq_left (Nat.min_le_left ..)]; rfl
      have hmul : (a + min dh.length (b - a)) * t.sz ≤ ch.length * t.sz := Nat.mul_le_mul_right _ (by omega)
      rw [Nat.add_mul] at hmul
      have hst := run_storeCells_fz c.P bl (o' + a * t.sz) t' mk (flat t.enc (dh.take (min dh.length (b - a)))) 0 _ w h4 (by simpa using hz'.fz) (by simp only [List.size_toArray, List.length_append]; omega) (flat_leaf _)
      simp only [Nat.add_zero] at hst
      have hcells : (pre ++ (flat t.enc ch ++ (sp ++ post))).take (o' + a * t.sz) ++ flat t.enc (dh.take (min dh.length (b - a))) ++ (pre ++ (flat t.enc ch ++ (sp ++ post))).drop (o' + a * t.sz + (flat t.enc (dh.take (min dh.length (b - a)))).length)
          = pre ++ (flat t.enc (cpyL ch a b dh) ++ (sp ++ post)) := by
        rw [flat_cpy hab hbl, hfd]
        have g1 : (pre ++ (flat t.enc ch ++ (sp ++ post))).take (o' + a * t.sz) = pre ++ (flat t.enc ch).take (a * t.sz) := by
          rw [List.take_append, h2, List.take_of_length_le (by omega), Nat.add_sub_cancel_left, List.take_append_of_le_length (by omega)]
        have g2 : (pre ++ (flat t.enc ch ++ (sp ++ post))).drop (o' + a * t.sz + min dh.length (b - a) * t.sz) = (flat t.enc ch).drop ((a + min dh.length (b - a)) * t.sz) ++ (sp ++ post) := by
          rw [List.drop_append, h2, List.drop_of_length_le (by omega), List.nil_append, show o' + a * t.sz + min dh.length (b - a) * t.sz - o' = a * t.sz + min dh.length (b - a) * t.sz by omega, List.drop_append_of_le_length (by omega), Nat.add_mul]
        rw [g1, g2]
        simp [List.append_assoc]
      have hst2 : (storeCells (⟨bl, o' + a * t.sz, none⟩ : Addr) (flat t.enc (dh.take (min dh.length (b - a))))).run c.P w = .ok () (w.setRow bl (pre ++ (flat t.enc (cpyL ch a b dh) ++ (sp ++ post))).toArray) := by
        rw [← hcells]; exact hst
      have hr := run_copyG (ty := ty) (base := some ⟨bl, o' + a * t.sz, none⟩) (dLen := b - a) (dCap := dCap) hu hs hsrc hst2
      have hbk := (Array.getElem?_eq_some_iff.1 h4).1
      refine acts_put (w' := w.setRow bl (pre ++ (flat t.enc (cpyL ch a b dh) ++ (sp ++ post))).toArray) h hK hA hlk (.inl (hrun _ _ hr)) ⟨rfl, rfl, rfl, by simp, fun q _ hq => setRow_other w bl q _ fun e' => hq ⟨_, h1, e'.symm⟩⟩ ?_ ?_ hfin (Cmp.one rfl)
      · rw [h1]
        refine row_mk' (by rw [cpyL_len]; exact hle) h2 (sp := sp) (post := post) (t := t') ?_ (hz'.len (by simp only [List.length_append, flat_len, cpyL_len])) (setRow_heap w bl _ _ t' _ h4)
        rw [flat_len, cpyL_len, ← flat_len (e := t.enc) ch]; exact h3
      · rintro q ⟨ad', h11, rfl⟩
        rw [h1] at h11
        injection h11 with h11; subst h11
        exact ⟨.inl ⟨_, h1, rfl⟩, by simpa using hbk⟩

/-- copy into a part of an array variable. -/
theorem copy_box {R' : Type} {k : Lk} (h : At c ρ Z z X st l w) {hh off m : Nat} {t : Ty} {ls ls' : List Leaf} {xs : Arr m t.den} {ys : List t.den} (hp : st.mem[hh]? = some (.box ls)) (hlk : k.lk hh = false) {T T' E ty : TypeId} {a b dCap bl : Nat} {v : Value} {dh : List (Chunk t.sz)} {s : Sem Next} {K : AV → List Pc → Option R'} {r : R'}
    (hcut : cutL ls off (m * t.sz) = some [.dat (.arr m t) xs]) (hput : putL ls off (m * t.sz) [.dat (.arr m t) (Arr.cpy xs a b ys)] = some ls')
    (hu : c.P.underlying T = some (.slice E)) (hs : szB c.P E t.sz = true) (hey : Els (t.holds z) ys dh) (hsrc : SrcAt c.P w T' v dh) (hab : a ≤ b) (hb : b ≤ m) (hbl : (ρ hh).A = some ⟨bl, 0, none⟩)
    (hK : K (avI .i64 (min ys.length (b - a) : Nat)) (st.mem.set hh (.box ls')) = some r)
    (hrun : ∀ u w', (Builtin.copy_ #[T, T'] ty #[.slice (some (if m = a then ⟨bl, off, none⟩ else ⟨bl, off + a * t.sz, none⟩)) (b - a) dCap, v]).run c.P w = .ok u w' → s.run c.P w = .ok (.value u) w') : Acts c k ρ Z z X st l w s K r := by
  obtain ⟨A, hA, b', cs, h3, h4, rfl⟩ := h.mem.get hp
  rw [hbl] at h3; injection h3 with h3; injection h3 with h3; subst h3
  obtain ⟨h16, h17⟩ := cutL_at _ _ _ _ _ hcut h4
  obtain ⟨ch, he, hfl⟩ := holds_arr (Lvs.of_one h16)
  have hch : ch.length = m := by rw [← he.1]; exact xs.2
  have hnew : Lvs ρ z st.mem.length [.dat (.arr m t) (Arr.cpy xs a b ys)] (flat t.enc (cpyL ch a b dh)) := Lvs.one ⟨cpyL ch a b dh, he.cpy hey a b, rfl⟩
  obtain ⟨h7, h8⟩ := putL_at _ _ _ _ _ _ _ hput h4 hnew
  have hbox := h.own.xok _ (List.mem_of_getElem? hA)
  obtain ⟨t', hh'⟩ := box_heap hbox
  have hbk := (Array.getElem?_eq_some_iff.1 hh').1
  have hlen : ys.length = dh.length := hey.1
  have hfll : (flat t.enc ch).length = m * t.sz := by rw [flat_len, hch]; rfl
  have e1 : cs = cs.take off ++ (flat t.enc ch ++ cs.drop (off + m * t.sz)) := by
    rw [← hfl, ← List.drop_drop, List.take_append_drop, List.take_append_drop]
  have hof : (cs.take off).length = off := by rw [List.length_take]; omega
  have hcpl : (flat t.enc (cpyL ch a b dh)).length = m * t.sz := by rw [flat_len, cpyL_len, hch]; rfl
  rw [hlen] at hK
  have hst : ∃ w', (storeCells (if m = a then ⟨bl, off, none⟩ else ⟨bl, off + a * t.sz, none⟩ : Addr) (flat t.enc (dh.take (min dh.length (b - a))))).run c.P w = .ok () w' ∧ (boxA bl (cs.take off ++ (flat t.enc (cpyL ch a b dh) ++ cs.drop (off + m * t.sz)))).at w' ∧ Keeps (boxA bl cs).dom w w' ∧ bl < w'.heap.size := by
    by_cases h0 : min dh.length (b - a) = 0
    · refine ⟨w, by rw [h0]; rfl, ?_, Keeps.refl _ _, hbk⟩
      have : cpyL ch a b dh = ch := by rw [cpyL_eq hab (by omega), h0]; simp
      rw [this, ← e1]; exact hbox
    · rw [if_neg (by omega)]
      have hfd : (flat t.enc (dh.take (min dh.length (b - a)))).length = min dh.length (b - a) * t.sz := by rw [flat_len, List.length_take, Nat.min_eq_left (Nat.min_le_left ..)]; rfl
      have hmul : (a + min dh.length (b - a)) * t.sz ≤ m * t.sz := Nat.mul_le_mul_right _ (by omega)
      rw [Nat.add_mul] at hmul
      have hst := run_storeCells_at c.P bl (off + a * t.sz) t' (flat t.enc (dh.take (min dh.length (b - a)))) 0 _ w hh' (by simp only [List.size_toArray]; omega) (flat_leaf _)
      simp only [Nat.add_zero] at hst
      have hcells : cs.take (off + a * t.sz) ++ flat t.enc (dh.take (min dh.length (b - a))) ++ cs.drop (off + a * t.sz + (flat t.enc (dh.take (min dh.length (b - a)))).length)
          = cs.take off ++ (flat t.enc (cpyL ch a b dh) ++ cs.drop (off + m * t.sz)) := by
        rw [flat_cpy hab (by omega), hfd]
        conv => lhs; rw [e1]
        have g1 : (cs.take off ++ (flat t.enc ch ++ cs.drop (off + m * t.sz))).take (off + a * t.sz) = cs.take off ++ (flat t.enc ch).take (a * t.sz) := by
          rw [List.take_append, hof, List.take_of_length_le (by omega), Nat.add_sub_cancel_left, List.take_append_of_le_length (by omega)]
        have g2 : (cs.take off ++ (flat t.enc ch ++ cs.drop (off + m * t.sz))).drop (off + a * t.sz + min dh.length (b - a) * t.sz) = (flat t.enc ch).drop ((a + min dh.length (b - a)) * t.sz) ++ cs.drop (off + m * t.sz) := by
          rw [List.drop_append, hof, List.drop_of_length_le (by omega), List.nil_append, show off + a * t.sz + min dh.length (b - a) * t.sz - off = a * t.sz + min dh.length (b - a) * t.sz by omega, List.drop_append_of_le_length (by omega), Nat.add_mul]
        rw [g1, g2]
        simp [List.append_assoc]
      rw [hcells] at hst
      exact ⟨_, hst, box_mk (t := t') (setRow_heap w bl _ _ t' _ hh'), ⟨rfl, rfl, rfl, by simp, fun q _ hq => setRow_other w bl q _ fun e' => hq e'⟩, by simpa using hbk⟩
  obtain ⟨w', h9, h10, h11, h12⟩ := hst
  have hr := run_copyG (ty := ty) (w' := w') (base := some (if m = a then ⟨bl, off, none⟩ else ⟨bl, off + a * t.sz, none⟩)) (dLen := b - a) (dCap := dCap) hu hs hsrc h9
  exact acts_put (w' := w') h hK hA hlk (.inl (hrun _ _ hr)) h11 h10 (fun q hq => ⟨.inl hq, by rw [show q = bl from hq]; exact h12⟩) ⟨bl, _, hbl, h7, rfl⟩ (Cmp.one rfl)

theorem xcopy_acts {R' : Type} {k : Lk} (h : At c ρ Z z X st l w) {T T' : TypeId} {x y : Operand} {K : AV → List Pc → Option R'} {r : R'} (hx : xcopy c.P k T T' (opd c.G st.fr x) (opd c.G st.fr y) st.mem K = some r)
    {o : Oper} (ho : o.op = .call { callee := .builtin .copy, args := #[x, y], argTypes := #[T, T'] }) : Acts c k ρ Z z X st l w (execOp (Fr l).eval o) K r := by
  have hxv := opd_at h.fr h.gz x
  have hyv := opd_at h.fr h.gz y
  have hrun : ∀ u, (Fr l).eval x = u → ∀ v w', (Builtin.copy_ #[T, T'] o.type #[u, (Fr l).eval y]).run c.P w = .ok v w' → (execOp (Fr l).eval o).run c.P w = .ok (.value v) w' := by
    intro u e v w' hr
    subst e
    unfold execOp
    simp [ho, resolve, invoke, builtin, hr]
  unfold xcopy at hx
  split at hx
  · rename_i E hh off t m a b hu hlf
    split at hx
    · rename_i ls hlk hp
      split at hx
      · rename_i m' u xs0 hcut
        obtain ⟨e, hx⟩ := Ty.as_some hx
        cases e
        split at hx
        · rename_i ys hs hys
          split at hx
          · rename_i ls' hput
            obtain ⟨dh, hey, hsy⟩ := rowOf_src h hys hyv
            obtain ⟨_, hab, hbm, bl, hbl, e⟩ := asLeaf_at hlf hxv
            injection e with e
            exact copy_box (dCap := m - a) (bl := bl) h hp hlk hcut hput hu hs hey hsy hab hbm hbl hx (hrun _ e)
          · cases hx
        · cases hx
      · cases hx
    · cases hx
  · rename_i E hh hu hlf
    split at hx
    · rename_i t xs hlk hp
      split at hx
      · rename_i ys hs hys
        obtain ⟨dh, hey, hsy⟩ := rowOf_src h hys hyv
        obtain ⟨_, e⟩ := asLeaf_at hlf hxv
        injection e with e
        obtain ⟨A, hA, hc, _⟩ := h.mem.get hp
        rw [hc.2] at e
        refine copy_row (a := 0) (b := xs.length) (base := (ρ hh).A) (dCap := (ρ hh).cap) h hp hlk hu hs hey hsy (Nat.zero_le _) (Nat.le_refl _) (.inl ?_) hx (hrun _ (by rw [e]; rfl))
        cases (ρ hh).A with
        | none => rfl
        | some ad => simp [addr_add0]
      · cases hx
    · cases hx
  · rename_i E hh a b hu hlf
    split at hx
    · rename_i t xs hlk hp
      split at hx
      · rename_i ys hs hys
        obtain ⟨dh, hey, hsy⟩ := rowOf_src h hys hyv
        obtain ⟨_, hab, hbl, pp, hpp, e⟩ := asLeaf_at hlf hxv
        injection e with e
        obtain ⟨A, hA, hc, ch, he, rfl⟩ := h.mem.get hp
        rw [hc.2] at hbl
        have hcap := (row_facts (h.own.xok _ (List.mem_of_getElem? hA))).1
        have hlx : xs.length = ch.length := he.1
        rw [hc.1] at hpp
        refine copy_row (a := a) (b := b) (dCap := (ρ hh).cap - a) h hp hlk hu hs hey hsy hab hbl ?_ hx (hrun _ e)
        rcases hpp with rfl | ⟨h0, _⟩
        · unfold cutAddr
          split
          · rename_i h0
            exact .inr (by omega)
          · exact .inl rfl
        · exact .inr (by omega)
      · cases hx
    · cases hx
  · cases hx
end
end Go.Lift

/- Memory by numbered pieces: some of it is handed over and taken back; rows are put into the zone. -/
namespace Go.Lift
open Go
set_option linter.unusedVariables false

structure OwnI (w0 : World) (D R : Nat → Prop) (w : World) (X : List Atom) (Z : Nat → Prop) (z : Zn) : Prop where
  keep : Keeps D w0 w
  ok : ∀ (i : Nat) (A : Atom), X[i]? = some A → A.at w
  zok : cut Z (look w) = z.hp
  dom : ∀ (i : Nat) (A : Atom), X[i]? = some A → ∀ b, A.dom b → (D b ∨ w0.heap.size ≤ b) ∧ b < w.heap.size
  zdom : ∀ b, Z b → (R b ∨ w0.heap.size ≤ b) ∧ b < w.heap.size
  xx : ∀ (i j : Nat) (A B : Atom), i ≠ j → X[i]? = some A → X[j]? = some B → ∀ b, A.dom b → ¬ B.dom b
  xz : ∀ (i : Nat) (A : Atom), X[i]? = some A → ∀ b, A.dom b → ¬ Z b

section
variable {w0 w w' : World} {D R : Nat → Prop} {X : List Atom} {Z : Nat → Prop} {z : Zn}

theorem Own.toI (h : Own w0 D R w X [zA Z z]) : OwnI w0 D R w X Z z where
  keep := h.keep
  ok i A hi := h.xok A (List.mem_of_getElem? hi)
  zok := h.sok (zA Z z) (List.mem_singleton.2 rfl)
  dom i A hi := h.xdom A (List.mem_of_getElem? hi)
  zdom := h.sdom (zA Z z) (List.mem_singleton.2 rfl)
  xx := by
    have key : ∀ (i j : Nat) (A B : Atom), i < j → X[i]? = some A → X[j]? = some B → ∀ b, A.dom b → ¬ B.dom b := by
      intro i j A B hij hi hj
      obtain ⟨h1, rfl⟩ := List.getElem?_eq_some_iff.1 hi
      obtain ⟨h2, rfl⟩ := List.getElem?_eq_some_iff.1 hj
      exact List.pairwise_iff_getElem.1 h.xx i j h1 h2 hij
    intro i j A B hij hi hj b ha hb
    rcases Nat.lt_or_gt_of_ne hij with h1 | h1
    · exact key i j A B h1 hi hj b ha hb
    · exact key j i B A h1 hj hi b hb ha
  xz i A hi := h.xs A (List.mem_of_getElem? hi) (zA Z z) (List.mem_singleton.2 rfl)

theorem OwnI.own (h : OwnI w0 D R w X Z z) : Own w0 D R w X [zA Z z] where
  keep := h.keep
  xok A hA := by obtain ⟨i, hi⟩ := List.getElem?_of_mem hA; exact h.ok i A hi
  sok A hA := by rw [List.mem_singleton.1 hA]; exact h.zok
  xdom A hA := by obtain ⟨i, hi⟩ := List.getElem?_of_mem hA; exact h.dom i A hi
  sdom A hA := by rw [List.mem_singleton.1 hA]; exact h.zdom
  xx := List.pairwise_iff_getElem.2 fun i j hi hj hij => h.xx i j _ _ (Nat.ne_of_lt hij) (List.getElem?_eq_getElem hi) (List.getElem?_eq_getElem hj)
  xs A hA B hB := by
    obtain ⟨i, hi⟩ := List.getElem?_of_mem hA
    rw [List.mem_singleton.1 hB]
    exact h.xz i A hi

/-! ### Some pieces are picked -/

/-- Different numbers, all of pieces that there are. -/
def okPi (n : Nat) : List Nat → Bool
  | [] => true
  | i :: π => Nat.blt i n && !(π.contains i) && okPi n π

theorem okPi_lt {n : Nat} : ∀ {π : List Nat}, okPi n π = true → ∀ i ∈ π, i < n
  | [], _, i, h => by cases h
  | j :: π, h, i, hi => by
    simp only [okPi, Bool.and_eq_true] at h
    rcases List.mem_cons.1 hi with rfl | hi
    · exact Eq.mp Nat.blt_eq h.1.1
    · exact okPi_lt h.2 i hi
theorem okPi_nodup {n : Nat} : ∀ {π : List Nat}, okPi n π = true → π.Nodup
  | [], _ => List.nodup_nil
  | j :: π, h => by
    simp only [okPi, Bool.and_eq_true, Bool.not_eq_true'] at h
    refine List.nodup_cons.2 ⟨fun hj => ?_, okPi_nodup h.2⟩
    have := h.1.2
    rw [List.contains_iff_mem.2 hj] at this; cases this

def pick {α : Type} (d : α) (X : List α) (π : List Nat) : List α := π.map fun i => X.getD i d

/-- Where does a number stand? -/
def posOf (i : Nat) : List Nat → Option Nat
  | [] => none
  | j :: π => match Nat.beq j i with
    | true => some 0
    | false => (posOf i π).map (· + 1)

theorem posOf_some {i : Nat} : ∀ {π : List Nat} {j : Nat}, posOf i π = some j → π[j]? = some i
  | [], j, h => by cases h
  | k :: π, j, h => by
    unfold posOf at h
    split at h
    · rename_i hb; injection h with h; subst h
      simp [Nat.eq_of_beq_eq_true hb]
    · obtain ⟨j', h1, rfl⟩ := Option.map_eq_some_iff.1 h
      simpa using posOf_some h1
theorem posOf_none {i : Nat} : ∀ {π : List Nat}, posOf i π = none → i ∉ π
  | [], _ => by simp
  | k :: π, h => by
    unfold posOf at h
    split at h
    · cases h
    · rename_i hb
      have h1 : posOf i π = none := by simpa using h
      have h2 := posOf_none h1
      intro hm
      rcases List.mem_cons.1 hm with rfl | hm
      · rw [Nat.beq_refl] at hb; cases hb
      · exact h2 hm
theorem nodup_inj {x : Nat} : ∀ {π : List Nat}, π.Nodup → ∀ {i j : Nat}, π[i]? = some x → π[j]? = some x → i = j
  | [], _, i, j, h, _ => by simp at h
  | y :: π, hn, 0, 0, _, _ => rfl
  | y :: π, hn, 0, j + 1, h, h' => by
    simp at h h'; subst h
    exact absurd (List.mem_of_getElem? h') (List.nodup_cons.1 hn).1
  | y :: π, hn, i + 1, 0, h, h' => by
    simp at h h'; subst h'
    exact absurd (List.mem_of_getElem? h) (List.nodup_cons.1 hn).1
  | y :: π, hn, i + 1, j + 1, h, h' => by
    rw [nodup_inj (List.nodup_cons.1 hn).2 (i := i) (j := j) (by simpa using h) (by simpa using h')]

theorem posOf_mem {i : Nat} {π : List Nat} {j : Nat} (hn : π.Nodup) (h : π[j]? = some i) : posOf i π = some j := by
  cases hp : posOf i π with
  | none => exact absurd (List.mem_of_getElem? h) (posOf_none hp)
  | some k =>
    rw [nodup_inj hn (posOf_some hp) h]

/-- The picked ones are put back (the first ones of Y), and what is new comes behind. -/
def back {α : Type} (d : α) (X : List α) (π : List Nat) (Y : List α) : List α :=
  ((List.range X.length).map fun i => match posOf i π with
    | some j => Y.getD j d
    | none => X.getD i d) ++ Y.drop π.length

theorem back_get {α : Type} {d : α} {X Y : List α} {π : List Nat} {i : Nat} {A : α} (h : (back d X π Y)[i]? = some A) (hl : π.length ≤ Y.length) :
    (∃ j : Nat, π[j]? = some i ∧ Y[j]? = some A) ∨ (i ∉ π ∧ X[i]? = some A) ∨ (X.length ≤ i ∧ Y[π.length + (i - X.length)]? = some A) := by
  unfold back at h
  rw [List.getElem?_append] at h
  simp only [List.length_map, List.length_range] at h
  split at h
  · rename_i hi
    rw [List.getElem?_map, List.getElem?_range hi] at h
    simp only [Option.map_some, Option.some.injEq] at h
    split at h
    · rename_i j hj
      refine .inl ⟨j, posOf_some hj, ?_⟩
      have hjl : j < Y.length := Nat.lt_of_lt_of_le (List.getElem?_eq_some_iff.1 (posOf_some hj)).1 hl
      rw [← h, List.getElem?_eq_getElem hjl]
      simp [List.getD, hjl]
    · rename_i hj
      refine .inr (.inl ⟨posOf_none hj, ?_⟩)
      rw [← h, List.getElem?_eq_getElem hi]
      simp [List.getD, hi]
  · rename_i hi
    refine .inr (.inr ⟨Nat.le_of_not_lt hi, ?_⟩)
    rwa [List.getElem?_drop] at h

theorem back_len {α : Type} {d : α} {X Y : List α} {π : List Nat} : (back d X π Y).length = X.length + (Y.length - π.length) := by simp [back]

theorem pick_get {X : List Atom} {π : List Nat} (ho : okPi X.length π = true) {j : Nat} {A : Atom} (h : (pick deadA X π)[j]? = some A) : ∃ i, π[j]? = some i ∧ X[i]? = some A := by
  unfold pick at h
  rw [List.getElem?_map] at h
  obtain ⟨i, hi, e⟩ := Option.map_eq_some_iff.1 h
  have hlt := okPi_lt ho i (List.mem_of_getElem? hi)
  refine ⟨i, hi, ?_⟩
  rw [← e, List.getElem?_eq_getElem hlt]
  simp [List.getD, hlt]

theorem OwnI.pre (h : OwnI w0 D R w X Z z) {π : List Nat} (ho : okPi X.length π = true) {Z1 : Nat → Prop} (hZ : ∀ b, Z1 b → Z b ∨ ∃ i A, i ∉ π ∧ X[i]? = some A ∧ A.dom b) :
    OwnI w (doms (pick deadA X π)) (fun b => Z1 b ∨ doms (pick deadA X π) b) w (pick deadA X π) Z1 (z.up (cut Z1 (look w))) where
  keep := Keeps.refl _ _
  ok j A hj := by obtain ⟨i, _, hi⟩ := pick_get ho hj; exact h.ok i A hi
  zok := rfl
  dom j A hj b hb := ⟨.inl ⟨A, List.mem_of_getElem? hj, hb⟩, by obtain ⟨i, _, hi⟩ := pick_get ho hj; exact (h.dom i A hi b hb).2⟩
  zdom b hb := ⟨.inl (.inl hb), by
    rcases hZ b hb with h1 | ⟨i, A, _, hi, hA⟩
    · exact (h.zdom b h1).2
    · exact (h.dom i A hi b hA).2⟩
  xx j k A B hjk hj hk b ha hb := by
    obtain ⟨i, h1, h2⟩ := pick_get ho hj
    obtain ⟨i', h3, h4⟩ := pick_get ho hk
    refine h.xx i i' A B (fun e => hjk ?_) h2 h4 b ha hb
    subst e
    exact nodup_inj (okPi_nodup ho) h1 h3
  xz j A hj b hb hz := by
    obtain ⟨i, h1, h2⟩ := pick_get ho hj
    rcases hZ b hz with h3 | ⟨i', B, h3, h4, h5⟩
    · exact h.xz i A h2 b hb h3
    · exact h.xx i i' A B (fun e => h3 (e ▸ List.mem_of_getElem? h1)) h2 h4 b hb h5

variable {Xo : List Atom} {Z1 Z2 : Nat → Prop} {z2 : Zn}

theorem OwnI.keepsX (h : OwnI w0 D R w X Z z) {π : List Nat} (ho : okPi X.length π = true) (hk : Keeps (doms (pick deadA X π)) w w') : Keeps D w0 w' := by
  refine ⟨hk.os.trans h.keep.os, hk.tape.trans h.keep.tape, hk.output.trans h.keep.output, Nat.le_trans h.keep.size hk.size, fun b hb hn => ?_⟩
  rw [hk.block b (Nat.lt_of_lt_of_le hb h.keep.size) (fun ⟨A, hA, hd⟩ => ?_)]
  · exact h.keep.block b hb hn
  · obtain ⟨j, hj⟩ := List.getElem?_of_mem hA
    obtain ⟨i, _, hi⟩ := pick_get ho hj
    rcases (h.dom i A hi b hd).1 with h1 | h1
    · exact hn h1
    · omega

theorem OwnI.rest (h : OwnI w0 D R w X Z z) {π : List Nat} (ho : okPi X.length π = true) (hk : Keeps (doms (pick deadA X π)) w w') {i : Nat} {A : Atom} (hi : i ∉ π) (hA : X[i]? = some A) : A.at w' ∧ ∀ b, A.dom b → ¬ doms (pick deadA X π) b := by
  have hne : ∀ b, A.dom b → ¬ doms (pick deadA X π) b := by
    rintro b hb ⟨B, hB, hd⟩
    obtain ⟨j, hj⟩ := List.getElem?_of_mem hB
    obtain ⟨i', h1, h2⟩ := pick_get ho hj
    exact h.xx i i' A B (fun e => hi (e ▸ List.mem_of_getElem? h1)) hA h2 b hb hd
  exact ⟨at_keep (h.ok i A hA) fun b hb => hk.block b (h.dom i A hA b hb).2 (hne b hb), hne⟩

/-- Behind a callee that was lent nothing: its zone is the caller's from now on. -/
theorem OwnI.post (h : OwnI w0 D R w X Z z) (dr : ∀ b, D b → R b) {π : List Nat} (ho : okPi X.length π = true) (hl : π.length ≤ Xo.length)
    (h' : OwnI w (doms (pick deadA X π)) (fun b => Z1 b ∨ doms (pick deadA X π) b) w' Xo Z2 z2) (hZ : ∀ b, Z1 b → Z b) : OwnI w0 D R w' (back deadA X π Xo) Z2 z2 := by
  have hpi : ∀ b, doms (pick deadA X π) b → (D b ∨ w0.heap.size ≤ b) ∧ b < w.heap.size ∧ ∀ i A, i ∉ π → X[i]? = some A → ¬ A.dom b := by
    rintro b ⟨B, hB, hd⟩
    obtain ⟨j, hj⟩ := List.getElem?_of_mem hB
    obtain ⟨i, h1, h2⟩ := pick_get ho hj
    refine ⟨(h.dom i B h2 b hd).1, (h.dom i B h2 b hd).2, fun i' A hi' hA ha => ?_⟩
    exact h.xx i' i A B (fun e => hi' (e ▸ List.mem_of_getElem? h1)) hA h2 b ha hd
  have hxo : ∀ {j : Nat} {A : Atom}, Xo[j]? = some A → ∀ b, A.dom b → doms (pick deadA X π) b ∨ w.heap.size ≤ b := fun hj b hb => (h'.dom _ _ hj b hb).1
  have hzz : ∀ b, Z2 b → (Z b ∨ doms (pick deadA X π) b) ∨ w.heap.size ≤ b := fun b hb => (h'.zdom b hb).1.imp (·.imp (hZ b) id) id
  refine ⟨h.keepsX ho h'.keep, ?_, h'.zok, ?_, ?_, ?_, ?_⟩
  · intro i A hi
    rcases back_get hi hl with ⟨j, _, hj⟩ | ⟨h1, h2⟩ | ⟨_, h2⟩
    · exact h'.ok j A hj
    · exact (h.rest ho h'.keep h1 h2).1
    · exact h'.ok _ A h2
  · intro i A hi b hb
    have hout : ∀ j : Nat, Xo[j]? = some A → (D b ∨ w0.heap.size ≤ b) ∧ b < w'.heap.size := fun j hj => by
      refine ⟨?_, (h'.dom j A hj b hb).2⟩
      rcases hxo hj b hb with h1 | h1
      · exact (hpi b h1).1
      · exact .inr (Nat.le_trans h.keep.size h1)
    rcases back_get hi hl with ⟨j, _, hj⟩ | ⟨h1, h2⟩ | ⟨_, h2⟩
    · exact hout j hj
    · exact ⟨(h.dom i A h2 b hb).1, Nat.lt_of_lt_of_le (h.dom i A h2 b hb).2 h'.keep.size⟩
    · exact hout _ h2
  · intro b hb
    refine ⟨?_, (h'.zdom b hb).2⟩
    rcases hzz b hb with (h1 | h1) | h1
    · exact (h.zdom b h1).1
    · exact (hpi b h1).1.imp (dr b) id
    · exact .inr (Nat.le_trans h.keep.size h1)
  · intro i i' A B hne hi hi' b ha hb
    have mix : ∀ {j k : Nat} {A B : Atom}, Xo[j]? = some A → k ∉ π → X[k]? = some B → A.dom b → B.dom b → False := by
      intro j k A B hj hk hB ha hb
      rcases hxo hj b ha with h1 | h1
      · exact (hpi b h1).2.2 k B hk hB hb
      · have := (h.dom k B hB b hb).2; omega
    rcases back_get hi hl with ⟨j, p1, hj⟩ | ⟨h1, h2⟩ | ⟨h0, h2⟩ <;> rcases back_get hi' hl with ⟨k, p2, hk⟩ | ⟨h3, h4⟩ | ⟨h5, h4⟩
    · refine h'.xx j k A B (fun e => hne ?_) hj hk b ha hb
      subst e; rw [p1] at p2; injection p2
    · exact mix hj h3 h4 ha hb
    · refine h'.xx j _ A B (fun e => ?_) hj h4 b ha hb
      have := (List.getElem?_eq_some_iff.1 p1).1; omega
    · exact mix hk h1 h2 hb ha
    · exact h.xx i i' A B hne h2 h4 b ha hb
    · exact mix h4 h1 h2 hb ha
    · refine h'.xx _ k A B (fun e => ?_) h2 hk b ha hb
      have := (List.getElem?_eq_some_iff.1 p2).1; omega
    · exact mix h2 h3 h4 ha hb
    · exact h'.xx _ _ A B (fun e => hne (by omega)) h2 h4 b ha hb
  · intro i A hi b hb hz
    have hout : ∀ j : Nat, Xo[j]? = some A → False := fun j hj => h'.xz j A hj b hb hz
    rcases back_get hi hl with ⟨j, _, hj⟩ | ⟨h1, h2⟩ | ⟨_, h2⟩
    · exact hout j hj
    · rcases hzz b hz with (h3 | h3) | h3
      · exact h.xz i A h2 b hb h3
      · exact (hpi b h3).2.2 i A h1 h2 hb
      · have := (h.dom i A h2 b hb).2; omega
    · exact hout _ h2

/-- Behind a callee that was lent something: the zone is as it was. -/
theorem OwnI.postL (h : OwnI w0 D R w X Z z) {π : List Nat} (ho : okPi X.length π = true) (hl : π.length ≤ Xo.length) {R' : Nat → Prop}
    (h' : OwnI w (doms (pick deadA X π)) R' w' Xo Z2 z2) : OwnI w0 D R w' (back deadA X π Xo) Z z := by
  have hpi : ∀ b, doms (pick deadA X π) b → (D b ∨ w0.heap.size ≤ b) ∧ b < w.heap.size ∧ (¬ Z b) ∧ ∀ i A, i ∉ π → X[i]? = some A → ¬ A.dom b := by
    rintro b ⟨B, hB, hd⟩
    obtain ⟨j, hj⟩ := List.getElem?_of_mem hB
    obtain ⟨i, h1, h2⟩ := pick_get ho hj
    refine ⟨(h.dom i B h2 b hd).1, (h.dom i B h2 b hd).2, h.xz i B h2 b hd, fun i' A hi' hA ha => ?_⟩
    exact h.xx i' i A B (fun e => hi' (e ▸ List.mem_of_getElem? h1)) hA h2 b ha hd
  have hxo : ∀ {j : Nat} {A : Atom}, Xo[j]? = some A → ∀ b, A.dom b → doms (pick deadA X π) b ∨ w.heap.size ≤ b := fun hj b hb => (h'.dom _ _ hj b hb).1
  refine ⟨h.keepsX ho h'.keep, ?_, ?_, ?_, ?_, ?_, ?_⟩
  · intro i A hi
    rcases back_get hi hl with ⟨j, _, hj⟩ | ⟨h1, h2⟩ | ⟨_, h2⟩
    · exact h'.ok j A hj
    · exact (h.rest ho h'.keep h1 h2).1
    · exact h'.ok _ A h2
  · rw [← h.zok]
    refine cut_congr fun b hb => h'.keep.block b (h.zdom b hb).2 fun hd => (hpi b hd).2.2.1 hb
  · intro i A hi b hb
    have hout : ∀ j : Nat, Xo[j]? = some A → (D b ∨ w0.heap.size ≤ b) ∧ b < w'.heap.size := fun j hj => by
      refine ⟨?_, (h'.dom j A hj b hb).2⟩
      rcases hxo hj b hb with h1 | h1
      · exact (hpi b h1).1
      · exact .inr (Nat.le_trans h.keep.size h1)
    rcases back_get hi hl with ⟨j, _, hj⟩ | ⟨h1, h2⟩ | ⟨_, h2⟩
    · exact hout j hj
    · exact ⟨(h.dom i A h2 b hb).1, Nat.lt_of_lt_of_le (h.dom i A h2 b hb).2 h'.keep.size⟩
    · exact hout _ h2
  · intro b hb
    exact ⟨(h.zdom b hb).1, Nat.lt_of_lt_of_le (h.zdom b hb).2 h'.keep.size⟩
  · intro i i' A B hne hi hi' b ha hb
    have mix : ∀ {j k : Nat} {A B : Atom}, Xo[j]? = some A → k ∉ π → X[k]? = some B → A.dom b → B.dom b → False := by
      intro j k A B hj hk hB ha hb
      rcases hxo hj b ha with h1 | h1
      · exact (hpi b h1).2.2.2 k B hk hB hb
      · have := (h.dom k B hB b hb).2; omega
    rcases back_get hi hl with ⟨j, p1, hj⟩ | ⟨h1, h2⟩ | ⟨h0, h2⟩ <;> rcases back_get hi' hl with ⟨k, p2, hk⟩ | ⟨h3, h4⟩ | ⟨h5, h4⟩
    · refine h'.xx j k A B (fun e => hne ?_) hj hk b ha hb
      subst e; rw [p1] at p2; injection p2
    · exact mix hj h3 h4 ha hb
    · refine h'.xx j _ A B (fun e => ?_) hj h4 b ha hb
      have := (List.getElem?_eq_some_iff.1 p1).1; omega
    · exact mix hk h1 h2 hb ha
    · exact h.xx i i' A B hne h2 h4 b ha hb
    · exact mix h4 h1 h2 hb ha
    · refine h'.xx _ k A B (fun e => ?_) h2 hk b ha hb
      have := (List.getElem?_eq_some_iff.1 p2).1; omega
    · exact mix h2 h3 h4 ha hb
    · exact h'.xx _ _ A B (fun e => hne (by omega)) h2 h4 b ha hb
  · intro i A hi b hb hz
    have hout : ∀ j : Nat, Xo[j]? = some A → False := fun j hj => by
      rcases hxo hj b hb with h1 | h1
      · exact (hpi b h1).2.2.1 hz
      · have := (h.zdom b hz).2; omega
    rcases back_get hi hl with ⟨j, _, hj⟩ | ⟨h1, h2⟩ | ⟨_, h2⟩
    · exact hout j hj
    · exact h.xz i A h2 b hb hz
    · exact hout _ h2
end
end Go.Lift

/- States of a given form: data fill a form, a known state is matched with one. -/
namespace Go.Lift
open Go
set_option linter.unusedVariables false

abbrev Sg := (t : Ty) × t.den

inductive TL where
  | hole (t : Ty)
  | row (i : Nat)
  | ptr (i off : Nat)
  | nilp
  | nils
  | top
  | clo (f : Nat) (caps : List (Nat × Nat))
  | fn (f : Nat)
  | mpl (i : Nat)
  | nilm
  | part (i : Nat)

inductive TP where
  | dead
  | box (ls : List TL)
  | row (t : Ty)
  | mp (k v : Ty)
  | ar (T U : Ty)

structure Tm where
  fr : List (Nat × Bool × List TL)
  n : Nat
  mem : List TP

/-! ### A form is filled -/

def fillTL : TL → List Sg → Option (Leaf × List Sg)
  | .hole t, d => match d with
    | ⟨u, x⟩ :: d => match u.beq t with
      | true => some (.dat u x, d)
      | false => none
    | [] => none
  | .row i, d => some (.row i, d)
  | .ptr i off, d => some (.ptr i off, d)
  | .nilp, d => some (.nilp, d)
  | .nils, d => some (.nils, d)
  | .top, d => some (.top, d)
  | .clo f caps, d => some (.clo f caps, d)
  | .fn f, d => some (.fn f, d)
  | .mpl i, d => some (.mpl i, d)
  | .nilm, d => some (.nilm, d)
  | .part i, d => match d with
    | ⟨.int .i64, a⟩ :: ⟨.int .i64, b⟩ :: d => some (.part i (Int.toNat a) (Int.toNat b), d)
    | _ => none

def fillTLs : List TL → List Sg → Option (List Leaf × List Sg)
  | [], d => some ([], d)
  | t :: ts, d => match fillTL t d with
    | some (l, d) => match fillTLs ts d with
      | some (ls, d) => some (l :: ls, d)
      | none => none
    | none => none

def fillFr : List (Nat × Bool × List TL) → List AV → List Sg → Option (List AV × List Sg)
  | [], fr, d => some (fr, d)
  | (s, a, ts) :: rest, fr, d => match fillTLs ts d with
    | some (ls, d) => fillFr rest (fr.set s (.vl a ls)) d
    | none => none

def fillTP : TP → List Sg → Option (Pc × List Sg)
  | .dead, d => some (.dead, d)
  | .box ts, d => match fillTLs ts d with
    | some (ls, d) => some (.box ls, d)
    | none => none
  | .row t, d => match d with
    | ⟨.slc u, x⟩ :: d => match u.beq t with
      | true => some (.row u x, d)
      | false => none
    | _ => none
  | .mp k v, d => match d with
    | ⟨.slc (.pair a b), x⟩ :: d => match a.beq k && b.beq v with
      | true => some (.mp a b x, d)
      | false => none
    | _ => none
  | .ar T U, d => match d with
    | ⟨.slc (.pair a (.slc b)), x⟩ :: d => match a.beq T && b.beq U with
      | true => some (.ar a b x, d)
      | false => none
    | _ => none

def fillMem : List TP → List Sg → Option (List Pc × List Sg)
  | [], d => some ([], d)
  | t :: ts, d => match fillTP t d with
    | some (p, d) => match fillMem ts d with
      | some (ps, d) => some (p :: ps, d)
      | none => none
    | none => none

def Tm.fill (T : Tm) (d : List Sg) : Option St :=
  match fillFr T.fr (List.replicate T.n .top) d with
  | some (fr, d) => match fillMem T.mem d with
    | some (mem, []) => some ⟨fr, mem⟩
    | _ => none
  | none => none

/-! ### A state is matched -/

abbrev Bd := List (Nat × Nat)
def lk (i : Nat) : Bd → Option Nat
  | [] => none
  | (j, h) :: π => match Nat.beq j i with
    | true => some h
    | false => lk i π

/-- The piece number i of the form is the piece h. -/
def bindH (i h : Nat) (π : Bd) : Option Bd :=
  match lk i π with
  | some h' => match Nat.beq h' h with
    | true => some π
    | false => none
  | none => some ((i, h) :: π)

def bindAll : List (Nat × Nat) → List (Nat × Nat) → Bd → Option Bd
  | [], [], π => some π
  | c :: cs, c' :: cs', π => match Nat.beq c.2 c'.2 with
    | true => match bindH c.1 c'.1 π with
      | some π => bindAll cs cs' π
      | none => none
    | false => none
  | _, _, _ => none

def matchTL : TL → Leaf → Bd → Option (Leaf × List Sg × Bd)
  | .hole t, .dat u x, π => match u.beq t with
    | true => some (.dat u x, [⟨u, x⟩], π)
    | false => none
  | .hole (.slc t), .nils, π => some (.dat (.slc t) ([] : List t.den), [⟨.slc t, ([] : List t.den)⟩], π)
  | .hole .nd, .nilp, π => some (.dat .nd (none : Option Nat), [⟨.nd, (none : Option Nat)⟩], π)
  | .hole .nd, .npt i off, π => match Nat.beq off 0 with
    | true => some (.dat .nd (some i : Option Nat), [⟨.nd, (some i : Option Nat)⟩], π)
    | false => none
  | .hole (.pt t), .nilp, π => some (.dat (.pt t) (none : Option t.den), [⟨.pt t, (none : Option t.den)⟩], π)
  | .row i, .row h, π => (bindH i h π).map fun π => (.row i, [], π)
  | .ptr i off, .ptr h off', π => match Nat.beq off off' with
    | true => (bindH i h π).map fun π => (.ptr i off, [], π)
    | false => none
  | .nilp, .nilp, π => some (.nilp, [], π)
  | .nils, .nils, π => some (.nils, [], π)
  | .top, l, π => match Nat.beq l.sz 1 with
    | true => some (.top, [], π)
    | false => none
  | .clo f caps, .clo f' caps', π => match Nat.beq f f' with
    | true => (bindAll caps caps' π).map fun π => (.clo f caps, [], π)
    | false => none
  | .fn f, .fn f', π => match Nat.beq f f' with
    | true => some (.fn f, [], π)
    | false => none
  | .mpl i, .mpl h, π => (bindH i h π).map fun π => (.mpl i, [], π)
  | .nilm, .nilm, π => some (.nilm, [], π)
  | .part i, .part h a b, π => (bindH i h π).map fun π => (.part i a b, [⟨.int .i64, ((a : Nat) : Int)⟩, ⟨.int .i64, ((b : Nat) : Int)⟩], π)
  | _, _, _ => none

def matchTLs : List TL → List Leaf → Bd → Option (List Leaf × List Sg × Bd)
  | [], [], π => some ([], [], π)
  | t :: ts, l :: ls, π => match matchTL t l π with
    | some (l', d, π) => match matchTLs ts ls π with
      | some (ls', e, π) => some (l' :: ls', d ++ e, π)
      | none => none
    | none => none
  | _, _, _ => none

def matchFr : List (Nat × Bool × List TL) → List AV → List AV → Bd → Option (List AV × List Sg × Bd)
  | [], _, out, π => some (out, [], π)
  | (s, a, ts) :: rest, fr, out, π => match fr[s]? with
    | some (.vl b ls) => match a == b with
      | true => match matchTLs ts ls π with
        | some (ls', d, π) => match matchFr rest fr (out.set s (.vl a ls')) π with
          | some (o, e, π) => some (o, d ++ e, π)
          | none => none
        | none => none
      | false => none
    | _ => none

/-- The pieces, in their order: the next one is number i. -/
def matchMem : List TP → Nat → List Pc → Bd → Option (List Pc × List Sg × Bd)
  | [], _, _, π => some ([], [], π)
  | t :: ts, i, mem, π => match t, lk i π with
    | .dead, some _ => match matchMem ts (i + 1) mem π with
      | some (ps, e, π) => some (.dead :: ps, e, π)
      | none => none
    | .box tls, some h => match mem[h]? with
      | some (.box ls) => match matchTLs tls ls π with
        | some (ls', d, π) => match matchMem ts (i + 1) mem π with
          | some (ps, e, π) => some (.box ls' :: ps, d ++ e, π)
          | none => none
        | none => none
      | _ => none
    | .row t, some h => match mem[h]? with
      | some (.row u x) => match u.beq t with
        | true => match matchMem ts (i + 1) mem π with
          | some (ps, e, π) => some (.row u x :: ps, ⟨.slc u, x⟩ :: e, π)
          | none => none
        | false => none
      | _ => none
    | .mp k v, some h => match mem[h]? with
      | some (.mp a b x) => match a.beq k && b.beq v with
        | true => match matchMem ts (i + 1) mem π with
          | some (ps, e, π) => some (.mp a b x :: ps, ⟨.slc (.pair a b), x⟩ :: e, π)
          | none => none
        | false => none
      | _ => none
    | .ar T U, o => match bindH i (o.getD (arNum mem)) π with
      | some π1 => match mem[o.getD (arNum mem)]? with
        | some (.ar a b x) => match a.beq T && b.beq U with
          | true => match matchMem ts (i + 1) mem π1 with
            | some (ps, e, π) => some (.ar a b x :: ps, ⟨.slc (.pair a (.slc b)), x⟩ :: e, π)
            | none => none
          | false => none
        | _ => none
      | none => none
    | _, none => none

/-- The pieces, in the form's order. -/
def bdL (π : Bd) : Nat → List Nat
  | 0 => []
  | n + 1 => bdL π n ++ [(lk n π).getD 0]

/-- The data of a state that has the form; the state in the form's own numbers; which pieces these are. -/
def Tm.match (T : Tm) (π0 : Bd) (st : St) : Option (St × List Sg × Bd) :=
  match matchFr T.fr st.fr (List.replicate T.n .top) π0 with
  | some (fr, d, π) => match matchMem T.mem 0 st.mem π with
    | some (mem, e, π) => match (π.all fun x => Nat.blt x.1 T.mem.length) && Nat.beq st.fr.length T.n with
      | true => some (⟨fr, mem⟩, d ++ e, π)
      | false => none
    | none => none
  | none => none

/-! ### What is matched fills the form -/

theorem matchTL_fill : ∀ {t : TL} {l l' : Leaf} {π π' : Bd} {d : List Sg}, matchTL t l π = some (l', d, π') → ∀ rest, fillTL t (d ++ rest) = some (l', rest) := by
  intro t l l' π π' d h rest
  unfold matchTL at h
  split at h
  · split at h
    · rename_i hb
      injection h with h; injection h with h1 h2; injection h2 with h2 h3; subst h1; subst h2
      simp only [List.singleton_append, fillTL, hb]
    · cases h
  · injection h with h; injection h with h1 h2; injection h2 with h2 h3; subst h1; subst h2
    simp only [List.singleton_append, fillTL, Ty.beq_refl]
  · injection h with h; injection h with h1 h2; injection h2 with h2 h3; subst h1; subst h2
    simp only [List.singleton_append, fillTL, Ty.beq_refl]
  · split at h
    · injection h with h; injection h with h1 h2; injection h2 with h2 h3; subst h1; subst h2
      simp only [List.singleton_append, fillTL, Ty.beq_refl]
    · cases h
  · injection h with h; injection h with h1 h2; injection h2 with h2 h3; subst h1; subst h2
    simp only [List.singleton_append, fillTL, Ty.beq_refl]
  · obtain ⟨π'', _, e⟩ := Option.map_eq_some_iff.1 h
    injection e with h1 h2; injection h2 with h2 h3; subst h1; subst h2
    rfl
  · split at h
    · obtain ⟨π'', _, e⟩ := Option.map_eq_some_iff.1 h
      injection e with h1 h2; injection h2 with h2 h3; subst h1; subst h2
      rfl
    · cases h
  · injection h with h; injection h with h1 h2; injection h2 with h2 h3; subst h1; subst h2; rfl
  · injection h with h; injection h with h1 h2; injection h2 with h2 h3; subst h1; subst h2; rfl
  · split at h
    · injection h with h; injection h with h1 h2; injection h2 with h2 h3; subst h1; subst h2; rfl
    · cases h
  · split at h
    · obtain ⟨π'', _, e⟩ := Option.map_eq_some_iff.1 h
      injection e with h1 h2; injection h2 with h2 h3; subst h1; subst h2
      rfl
    · cases h
  · split at h
    · injection h with h; injection h with h1 h2; injection h2 with h2 h3; subst h1; subst h2; rfl
    · cases h
  · obtain ⟨π'', _, e⟩ := Option.map_eq_some_iff.1 h
    injection e with h1 h2; injection h2 with h2 h3; subst h1; subst h2
    rfl
  · injection h with h; injection h with h1 h2; injection h2 with h2 h3; subst h1; subst h2; rfl
  · obtain ⟨π'', _, e⟩ := Option.map_eq_some_iff.1 h
    injection e with h1 h2; injection h2 with h2 h3; subst h1; subst h2
    rfl
  · cases h

theorem matchTLs_fill : ∀ {ts : List TL} {ls ls' : List Leaf} {π π' : Bd} {d : List Sg}, matchTLs ts ls π = some (ls', d, π') → ∀ rest, fillTLs ts (d ++ rest) = some (ls', rest)
  | [], [], ls', π, π', d, h, rest => by injection h with h; injection h with h1 h2; injection h2 with h2 h3; subst h1; subst h2; rfl
  | t :: ts, l :: ls, ls', π, π', d, h, rest => by
    unfold matchTLs at h
    split at h
    · rename_i l1 d1 π1 h1
      split at h
      · rename_i ls1 e1 π2 h2
        injection h with h; injection h with h3 h4; injection h4 with h4 h5; subst h3; subst h4
        rw [List.append_assoc]
        unfold fillTLs
        rw [matchTL_fill h1]
        simp only
        rw [matchTLs_fill h2]
      · cases h
    · cases h
  | [], _ :: _, _, _, _, _, h, _ => by cases h
  | _ :: _, [], _, _, _, _, h, _ => by cases h

theorem matchFr_fill : ∀ {ts : List (Nat × Bool × List TL)} {fr out o : List AV} {π π' : Bd} {d : List Sg}, matchFr ts fr out π = some (o, d, π') → ∀ rest, fillFr ts out (d ++ rest) = some (o, rest)
  | [], fr, out, o, π, π', d, h, rest => by injection h with h; injection h with h1 h2; injection h2 with h2 h3; subst h1; subst h2; rfl
  | (s, a, tl) :: ts, fr, out, o, π, π', d, h, rest => by
    unfold matchFr at h
    split at h
    · rename_i b ls hs
      split at h
      · split at h
        · rename_i ls' d1 π1 h1
          split at h
          · rename_i o1 e1 π2 h2
            injection h with h; injection h with h3 h4; injection h4 with h4 h5; subst h3; subst h4
            rw [List.append_assoc]
            unfold fillFr
            rw [matchTLs_fill h1]
            simp only
            rw [matchFr_fill h2]
          · cases h
        · cases h
      · cases h
    · cases h

theorem matchMem_fill : ∀ {ts : List TP} {i : Nat} {mem ps : List Pc} {π π' : Bd} {d : List Sg}, matchMem ts i mem π = some (ps, d, π') → ∀ rest, fillMem ts (d ++ rest) = some (ps, rest)
  | [], i, mem, ps, π, π', d, h, rest => by injection h with h; injection h with h1 h2; injection h2 with h2 h3; subst h1; subst h2; rfl
  | t :: ts, i, mem, ps, π, π', d, h, rest => by
    unfold matchMem at h
    split at h
    · split at h
      · rename_i ps1 e1 π1 h1
        injection h with h; injection h with h3 h4; injection h4 with h4 h5; subst h3; subst h4
        unfold fillMem
        simp only [fillTP]
        rw [matchMem_fill h1]
      · cases h
    · split at h
      · split at h
        · rename_i ls' d1 π1 h1
          split at h
          · rename_i ps1 e1 π2 h2
            injection h with h; injection h with h3 h4; injection h4 with h4 h5; subst h3; subst h4
            rw [List.append_assoc]
            unfold fillMem
            simp only [fillTP]
            rw [matchTLs_fill h1]
            simp only
            rw [matchMem_fill h2]
          · cases h
        · cases h
      · cases h
    · split at h
      · split at h
        · rename_i hb
          split at h
          · rename_i ps1 e1 π1 h1
            injection h with h; injection h with h3 h4; injection h4 with h4 h5; subst h3; subst h4
            unfold fillMem
            simp only [List.cons_append, fillTP, hb]
            rw [matchMem_fill h1]
          · cases h
        · cases h
      · cases h
    · split at h
      · split at h
        · rename_i hb
          split at h
          · rename_i ps1 e1 π1 h1
            injection h with h; injection h with h3 h4; injection h4 with h4 h5; subst h3; subst h4
            unfold fillMem
            simp only [List.cons_append, fillTP, hb]
            rw [matchMem_fill h1]
          · cases h
        · cases h
      · cases h
    · split at h
      · split at h
        · split at h
          · rename_i hb
            split at h
            · rename_i ps1 e1 π2 h2
              injection h with h; injection h with h3 h4; injection h4 with h4 h5; subst h3; subst h4
              unfold fillMem
              simp only [List.cons_append, fillTP, hb]
              rw [matchMem_fill h2]
            · cases h
          · cases h
        · cases h
      · cases h
    · cases h

theorem match_fill {T : Tm} {π0 π : Bd} {st st' : St} {d : List Sg} (h : T.match π0 st = some (st', d, π)) : T.fill d = some st' := by
  unfold Tm.match at h
  split at h
  · rename_i fr d1 π1 h1
    split at h
    · rename_i mem e1 π2 h2
      split at h
      · injection h with h; injection h with h3 h4; injection h4 with h4 h5; subst h3; subst h4
        unfold Tm.fill
        rw [matchFr_fill h1]
        simp only
        have := matchMem_fill h2 []
        rw [List.append_nil] at this
        rw [this]
      · cases h
    · cases h
  · cases h

/-! ### What is matched holds in the form's own numbers -/

def Pre (π π' : Bd) : Prop := ∀ i h, lk i π = some h → lk i π' = some h
theorem Pre.refl (π : Bd) : Pre π π := fun _ _ h => h
theorem Pre.trans {a b c : Bd} (h : Pre a b) (h' : Pre b c) : Pre a c := fun i x hx => h' i x (h i x hx)
theorem Pre.get {a b : Bd} (h : Pre a b) {i x : Nat} (hi : lk i a = some x) : lk i b = some x := h i x hi

theorem bindH_spec {i h : Nat} {π π' : Bd} (hb : bindH i h π = some π') : Pre π π' ∧ lk i π' = some h := by
  unfold bindH at hb
  split at hb
  · rename_i h' hi
    split at hb
    · rename_i e; injection hb with hb; subst hb
      rw [Nat.eq_of_beq_eq_true e] at hi
      exact ⟨Pre.refl _, hi⟩
    · cases hb
  · rename_i hn
    injection hb with hb; subst hb
    refine ⟨fun j x hj => ?_, by simp [lk]⟩
    unfold lk
    split
    · rename_i e
      rw [← Nat.eq_of_beq_eq_true e, hn] at hj; cases hj
    · exact hj

theorem bindAll_pre : ∀ {cs cs' : List (Nat × Nat)} {π π' : Bd}, bindAll cs cs' π = some π' → Pre π π'
  | [], [], π, π', h => by injection h with h; subst h; exact Pre.refl _
  | c :: cs, c' :: cs', π, π', h => by
    unfold bindAll at h
    split at h
    · split at h
      · rename_i π1 h1
        exact (bindH_spec h1).1.trans (bindAll_pre h)
      · cases h
    · cases h
  | [], _ :: _, _, _, h => by cases h
  | _ :: _, [], _, _, h => by cases h

theorem matchTL_pre {t : TL} {l l' : Leaf} {π π' : Bd} {d : List Sg} (h : matchTL t l π = some (l', d, π')) : Pre π π' := by
  unfold matchTL at h
  split at h
  · split at h
    · injection h with h; injection h with h1 h2; injection h2 with h2 h3; subst h3; exact Pre.refl _
    · cases h
  · injection h with h; injection h with h1 h2; injection h2 with h2 h3; subst h3; exact Pre.refl _
  · injection h with h; injection h with h1 h2; injection h2 with h2 h3; subst h3; exact Pre.refl _
  · split at h
    · injection h with h; injection h with h1 h2; injection h2 with h2 h3; subst h3; exact Pre.refl _
    · cases h
  · injection h with h; injection h with h1 h2; injection h2 with h2 h3; subst h3; exact Pre.refl _
  · obtain ⟨π'', hb, e⟩ := Option.map_eq_some_iff.1 h
    injection e with h1 h2; injection h2 with h2 h3; subst h3; exact (bindH_spec hb).1
  · split at h
    · obtain ⟨π'', hb, e⟩ := Option.map_eq_some_iff.1 h
      injection e with h1 h2; injection h2 with h2 h3; subst h3; exact (bindH_spec hb).1
    · cases h
  · injection h with h; injection h with h1 h2; injection h2 with h2 h3; subst h3; exact Pre.refl _
  · injection h with h; injection h with h1 h2; injection h2 with h2 h3; subst h3; exact Pre.refl _
  · split at h
    · injection h with h; injection h with h1 h2; injection h2 with h2 h3; subst h3; exact Pre.refl _
    · cases h
  · split at h
    · obtain ⟨π'', hb, e⟩ := Option.map_eq_some_iff.1 h
      injection e with h1 h2; injection h2 with h2 h3; subst h3; exact bindAll_pre hb
    · cases h
  · split at h
    · injection h with h; injection h with h1 h2; injection h2 with h2 h3; subst h3; exact Pre.refl _
    · cases h
  · obtain ⟨π'', hb, e⟩ := Option.map_eq_some_iff.1 h
    injection e with h1 h2; injection h2 with h2 h3; subst h3; exact (bindH_spec hb).1
  · injection h with h; injection h with h1 h2; injection h2 with h2 h3; subst h3; exact Pre.refl _
  · obtain ⟨π'', hb, e⟩ := Option.map_eq_some_iff.1 h
    injection e with h1 h2; injection h2 with h2 h3; subst h3; exact (bindH_spec hb).1
  · cases h
theorem matchTLs_pre : ∀ {ts : List TL} {ls ls' : List Leaf} {π π' : Bd} {d : List Sg}, matchTLs ts ls π = some (ls', d, π') → Pre π π'
  | [], [], ls', π, π', d, h => by injection h with h; injection h with h1 h2; injection h2 with h2 h3; subst h3; exact Pre.refl _
  | t :: ts, l :: ls, ls', π, π', d, h => by
    unfold matchTLs at h
    split at h
    · rename_i l1 d1 π1 h1
      split at h
      · rename_i ls1 e1 π2 h2
        injection h with h; injection h with h3 h4; injection h4 with h4 h5; subst h5
        exact (matchTL_pre h1).trans (matchTLs_pre h2)
      · cases h
    · cases h
  | [], _ :: _, _, _, _, _, h => by cases h
  | _ :: _, [], _, _, _, _, h => by cases h

section
variable {ρ : Nat → HI} {z : Zn} {n N : Nat}

/-- The form's numbers stand for the pieces πf. -/
def reN (ρ : Nat → HI) (πf : Bd) : Nat → HI := fun i => ρ ((lk i πf).getD 0)
theorem reN_get {πf : Bd} {i h : Nat} (hi : lk i πf = some h) : reN ρ πf i = ρ h := by simp [reN, hi]

/-- All numbers are below N. -/
def Bdd (πf : Bd) (N : Nat) : Prop := ∀ i h, lk i πf = some h → i < N

theorem bindAll_at : ∀ {cs cs' : List (Nat × Nat)} {π π' πf : Bd} {vs : List Value}, bindAll cs cs' π = some π' → Pre π' πf → Bdd πf N → CapsAt ρ n cs' vs → CapsAt (reN ρ πf) N cs vs
  | [], [], π, π', πf, vs, h, hp, hN, hl => hl
  | c :: cs, c' :: cs', π, π', πf, vs, h, hp, hN, ⟨b, us, h1, h2, h3, h4⟩ => by
    unfold bindAll at h
    split at h
    · rename_i ho
      split at h
      · rename_i π1 hb
        have hi := (bindAll_pre h).trans hp |>.get (bindH_spec hb).2
        refine ⟨b, us, hN _ _ hi, by rw [reN_get hi]; exact h2, by rw [h3, Nat.eq_of_beq_eq_true ho], bindAll_at h hp hN h4⟩
      · cases h
    · cases h
  | [], _ :: _, _, _, _, _, h, _, _, _ => by cases h
  | _ :: _, [], _, _, _, _, h, _, _, _ => by cases h

theorem matchTL_at {t : TL} {l l' : Leaf} {π π' πf : Bd} {d : List Sg} {cs : List Value} (h : matchTL t l π = some (l', d, π')) (hp : Pre π' πf) (hN : Bdd πf N) (hl : l.at ρ z n cs) : l'.at (reN ρ πf) z N cs := by
  have lt : ∀ {i h : Nat}, lk i πf = some h → i < N := fun hi => hN _ _ hi
  unfold matchTL at h
  split at h
  · split at h
    · injection h with h; injection h with h1 h2; subst h1; exact hl
    · cases h
  · injection h with h; injection h with h1 h2; subst h1
    exact ⟨none, 0, [], hl, Nat.le_refl _, Els.nil, .inl ⟨rfl, rfl⟩⟩
  · injection h with h; injection h with h1 h2; subst h1
    exact ⟨none, hl, rfl⟩
  · split at h
    · rename_i ho
      have ho := Nat.eq_of_beq_eq_true ho; subst ho
      injection h with h; injection h with h1 h2; subst h1
      exact ⟨_, hl.2, hl.1, rfl⟩
    · cases h
  · injection h with h; injection h with h1 h2; subst h1
    exact ⟨none, hl, .inl ⟨rfl, rfl⟩⟩
  · obtain ⟨π'', hb, e⟩ := Option.map_eq_some_iff.1 h
    injection e with h1 h2; injection h2 with h2 h3; subst h1; subst h3
    have hi := hp.get (bindH_spec hb).2
    exact ⟨lt hi, by rw [reN_get hi]; exact hl.2⟩
  · split at h
    · rename_i hof
      obtain ⟨π'', hb, e⟩ := Option.map_eq_some_iff.1 h
      injection e with h1 h2; injection h2 with h2 h3; subst h1; subst h3
      have hi := hp.get (bindH_spec hb).2
      rw [Nat.eq_of_beq_eq_true hof]
      exact ⟨lt hi, by rw [reN_get hi]; exact hl.2⟩
    · cases h
  · injection h with h; injection h with h1 h2; subst h1; exact hl
  · injection h with h; injection h with h1 h2; subst h1; exact hl
  · split at h
    · rename_i hs
      injection h with h; injection h with h1 h2; subst h1
      have h1 := Leaf.len _ _ hl
      rw [Nat.eq_of_beq_eq_true hs] at h1
      match cs, h1 with
      | [v], _ => exact ⟨v, rfl, Leaf.leaf _ _ hl v (by simp)⟩
    · cases h
  · split at h
    · rename_i hf
      obtain ⟨π'', hb, e⟩ := Option.map_eq_some_iff.1 h
      injection e with h1 h2; injection h2 with h2 h3; subst h1; subst h3
      obtain ⟨vs, h4, h5⟩ := hl
      exact ⟨vs, bindAll_at hb hp hN h4, by rw [h5, Nat.eq_of_beq_eq_true hf]⟩
    · cases h
  · split at h
    · rename_i hf
      injection h with h; injection h with h1 h2; subst h1
      rw [Nat.eq_of_beq_eq_true hf]; exact hl
    · cases h
  · obtain ⟨π'', hb, e⟩ := Option.map_eq_some_iff.1 h
    injection e with h1 h2; injection h2 with h2 h3; subst h1; subst h3
    have hi := hp.get (bindH_spec hb).2
    exact ⟨lt hi, by rw [reN_get hi]; exact hl.2⟩
  · injection h with h; injection h with h1 h2; subst h1; exact hl
  · obtain ⟨π'', hb, e⟩ := Option.map_eq_some_iff.1 h
    injection e with h1 h2; injection h2 with h2 h3; subst h1; subst h3
    have hi := hp.get (bindH_spec hb).2
    exact ⟨lt hi, by rw [reN_get hi]; exact hl.2⟩
  · cases h

theorem matchTLs_at : ∀ {ts : List TL} {ls ls' : List Leaf} {π π' πf : Bd} {d : List Sg} {cs : List Value}, matchTLs ts ls π = some (ls', d, π') → Pre π' πf → Bdd πf N → Lvs ρ z n ls cs → Lvs (reN ρ πf) z N ls' cs
  | [], [], ls', π, π', πf, d, cs, h, hp, hN, hl => by injection h with h; injection h with h1 h2; subst h1; exact hl
  | t :: ts, l :: ls, ls', π, π', πf, d, cs, h, hp, hN, hl => by
    unfold matchTLs at h
    split at h
    · rename_i l1 d1 π1 h1
      split at h
      · rename_i ls1 e1 π2 h2
        injection h with h; injection h with h3 h4; injection h4 with h4 h5; subst h3; subst h5
        obtain ⟨c, d, e, h6, h7⟩ := hl
        exact ⟨c, d, e, matchTL_at h1 ((matchTLs_pre h2).trans hp) hN h6, matchTLs_at h2 hp hN h7⟩
      · cases h
    · cases h
  | [], _ :: _, _, _, _, _, _, _, h, _, _, _ => by cases h
  | _ :: _, [], _, _, _, _, _, _, h, _, _, _ => by cases h

theorem matchFr_pre : ∀ {ts : List (Nat × Bool × List TL)} {fr out o : List AV} {π π' : Bd} {d : List Sg}, matchFr ts fr out π = some (o, d, π') → Pre π π'
  | [], fr, out, o, π, π', d, h => by injection h with h; injection h with h1 h2; injection h2 with h2 h3; subst h3; exact Pre.refl _
  | (s, a, tl) :: ts, fr, out, o, π, π', d, h => by
    unfold matchFr at h
    split at h
    · split at h
      · split at h
        · rename_i ls' d1 π1 h1
          split at h
          · rename_i o1 e1 π2 h2
            injection h with h; injection h with h3 h4; injection h4 with h4 h5; subst h5
            exact (matchTLs_pre h1).trans (matchFr_pre h2)
          · cases h
        · cases h
      · cases h
    · cases h

theorem FrAt.set {fr : List AV} {l : List Value} (h : FrAt ρ z n fr l) {s : Nat} {av : AV} (hv : ∀ v, l[s]? = some v → av.at ρ z n v) : FrAt ρ z n (fr.set s av) l := by
  refine ⟨by simp [h.1], fun i a v hi hl => ?_⟩
  rw [List.getElem?_set] at hi
  split at hi
  · rename_i e; subst e
    split at hi
    · injection hi with hi; subst hi; exact hv v hl
    · cases hi
  · exact h.2 i a v hi hl

theorem matchFr_at : ∀ {ts : List (Nat × Bool × List TL)} {fr out o : List AV} {π π' πf : Bd} {d : List Sg} {l : List Value}, matchFr ts fr out π = some (o, d, π') → Pre π' πf → Bdd πf N → FrAt ρ z n fr l → FrAt (reN ρ πf) z N out l →
    FrAt (reN ρ πf) z N o l
  | [], fr, out, o, π, π', πf, d, l, h, hp, hN, hf, ho => by injection h with h; injection h with h1 h2; subst h1; exact ho
  | (s, a, tl) :: ts, fr, out, o, π, π', πf, d, l, h, hp, hN, hf, ho => by
    unfold matchFr at h
    split at h
    · rename_i b ls hs
      split at h
      · rename_i hab
        have hab : a = b := by simpa using hab
        subst hab
        split at h
        · rename_i ls' d1 π1 h1
          split at h
          · rename_i o1 e1 π2 h2
            injection h with h; injection h with h3 h4; injection h4 with h4 h5; subst h3; subst h5
            refine matchFr_at h2 hp hN hf (ho.set fun v hv => ?_)
            obtain ⟨cs, h6, h7⟩ := hf.2 s _ v hs hv
            exact ⟨cs, matchTLs_at h1 ((matchFr_pre h2).trans hp) hN h6, h7⟩
          · cases h
        · cases h
      · cases h
    · cases h

theorem matchMem_pre : ∀ {ts : List TP} {i : Nat} {mem ps : List Pc} {π π' : Bd} {d : List Sg}, matchMem ts i mem π = some (ps, d, π') → Pre π π'
  | [], i, mem, ps, π, π', d, h => by injection h with h; injection h with h1 h2; injection h2 with h2 h3; subst h3; exact Pre.refl _
  | t :: ts, i, mem, ps, π, π', d, h => by
    unfold matchMem at h
    split at h
    · split at h
      · rename_i ps1 e1 π1 h1
        injection h with h; injection h with h3 h4; injection h4 with h4 h5; subst h5
        exact matchMem_pre h1
      · cases h
    · split at h
      · split at h
        · rename_i ls' d1 π1 h1
          split at h
          · rename_i ps1 e1 π2 h2
            injection h with h; injection h with h3 h4; injection h4 with h4 h5; subst h5
            exact (matchTLs_pre h1).trans (matchMem_pre h2)
          · cases h
        · cases h
      · cases h
    · split at h
      · split at h
        · split at h
          · rename_i ps1 e1 π1 h1
            injection h with h; injection h with h3 h4; injection h4 with h4 h5; subst h5
            exact matchMem_pre h1
          · cases h
        · cases h
      · cases h
    · split at h
      · split at h
        · split at h
          · rename_i ps1 e1 π1 h1
            injection h with h; injection h with h3 h4; injection h4 with h4 h5; subst h5
            exact matchMem_pre h1
          · cases h
        · cases h
      · cases h
    · split at h
      · rename_i π1 hb1
        split at h
        · split at h
          · split at h
            · rename_i ps1 e1 π2 h2
              injection h with h; injection h with h3 h4; injection h4 with h4 h5; subst h5
              exact ((bindH_spec hb1).1).trans (matchMem_pre h2)
            · cases h
          · cases h
        · cases h
      · cases h
    · cases h

theorem matchMem_at {mem : List Pc} {X : List Atom} (hm : MemAt ρ z n mem X) (hmn : mem.length ≤ n) : ∀ {ts : List TP} {i : Nat} {ps : List Pc} {π π' πf : Bd} {d : List Sg}, matchMem ts i mem π = some (ps, d, π') → Pre π' πf → Bdd πf N →
    ps.length = ts.length ∧ ∀ (j : Nat) (p : Pc), ps[j]? = some p → ∃ h, lk (i + j) πf = some h ∧ ∀ A, X[h]? = some A → p.is (reN ρ πf) z N (i + j) A
  | [], i, ps, π, π', πf, d, h, hp, hN => by injection h with h; injection h with h1 h2; subst h1; exact ⟨rfl, fun j p hj => by simp at hj⟩
  | t :: ts, i, ps, π, π', πf, d, h, hp, hN => by
    have step : ∀ {ps1 : List Pc} {p1 : Pc} {h0 : Nat} , ps1.length = ts.length → (∀ (j : Nat) (p : Pc), ps1[j]? = some p → ∃ h, lk (i + 1 + j) πf = some h ∧ ∀ A, X[h]? = some A → p.is (reN ρ πf) z N (i + 1 + j) A) → lk i πf = some h0 →
        (∀ A, X[h0]? = some A → p1.is (reN ρ πf) z N i A) → (p1 :: ps1).length = (t :: ts).length ∧ ∀ (j : Nat) (p : Pc), (p1 :: ps1)[j]? = some p → ∃ h, lk (i + j) πf = some h ∧ ∀ A, X[h]? = some A → p.is (reN ρ πf) z N (i + j) A := by
      intro ps1 p1 h0 hl hr h1 h2
      refine ⟨by simp [hl], fun j p hj => ?_⟩
      cases j with
      | zero => simp at hj; subst hj; exact ⟨h0, h1, h2⟩
      | succ j =>
        have := hr j p (by simpa using hj)
        rwa [show i + 1 + j = i + (j + 1) from by omega] at this
    unfold matchMem at h
    split at h
    · rename_i h0 hi
      split at h
      · rename_i ps1 e1 π1 h1
        injection h with h; injection h with h3 h4; injection h4 with h4 h5; subst h3; subst h5
        obtain ⟨h6, h7⟩ := matchMem_at hm hmn h1 hp hN
        exact step h6 h7 (((matchMem_pre h1).trans hp).get hi) fun _ _ => trivial
      · cases h
    · rename_i tls h0 hi
      split at h
      · rename_i ls hmem
        split at h
        · rename_i ls' d1 π1 h1
          split at h
          · rename_i ps1 e1 π2 h2
            injection h with h; injection h with h3 h4; injection h4 with h4 h5; subst h3; subst h5
            obtain ⟨h6, h7⟩ := matchMem_at hm hmn h2 hp hN
            have hif := ((matchTLs_pre h1).trans ((matchMem_pre h2).trans hp)).get hi
            refine step h6 h7 hif fun A hA => ?_
            obtain ⟨b, cs, h8, h9, h10⟩ := hm.2 h0 _ A hmem hA
            exact ⟨b, cs, by rw [reN_get hif]; exact h8, matchTLs_at h1 ((matchMem_pre h2).trans hp) hN h9, h10⟩
          · cases h
        · cases h
      · cases h
    · rename_i t' h0 hi
      split at h
      · rename_i u x hmem
        split at h
        · split at h
          · rename_i ps1 e1 π1 h1
            injection h with h; injection h with h3 h4; injection h4 with h4 h5; subst h3; subst h5
            obtain ⟨h6, h7⟩ := matchMem_at hm hmn h1 hp hN
            have hif := ((matchMem_pre h1).trans hp).get hi
            refine step h6 h7 hif fun A hA => ?_
            obtain ⟨h8, ch, h9, h10⟩ := hm.2 h0 _ A hmem hA
            exact ⟨by rw [reN_get hif]; exact h8, ch, h9, by rw [reN_get hif]; exact h10⟩
          · cases h
        · cases h
      · cases h
    · rename_i k' v' h0 hi
      split at h
      · rename_i a b x hmem
        split at h
        · split at h
          · rename_i ps1 e1 π1 h1
            injection h with h; injection h with h3 h4; injection h4 with h4 h5; subst h3; subst h5
            obtain ⟨h6, h7⟩ := matchMem_at hm hmn h1 hp hN
            have hif := ((matchMem_pre h1).trans hp).get hi
            refine step h6 h7 hif fun A hA => ?_
            obtain ⟨b', kvs, h8, h9, h10⟩ := hm.2 h0 _ A hmem hA
            exact ⟨b', kvs, by rw [reN_get hif]; exact h8, h9, h10⟩
          · cases h
        · cases h
      · cases h
    · rename_i T U hi0
      split at h
      · rename_i π1 hb1
        split at h
        · rename_i a b x hmem
          split at h
          · split at h
            · rename_i ps1 e1 π2 h2
              injection h with h; injection h with h3 h4; injection h4 with h4 h5; subst h3; subst h5
              obtain ⟨h6, h7⟩ := matchMem_at hm hmn h2 hp hN
              have hif := ((matchMem_pre h2).trans hp).get (bindH_spec hb1).2
              refine step h6 h7 hif fun A hA => ?_
              obtain ⟨cs, h8, h9⟩ := hm.2 _ _ A hmem hA
              exact ⟨cs, h8, h9⟩
            · cases h
          · cases h
        · cases h
      · cases h
    · cases h
theorem lk_lt {π : Bd} {N : Nat} (h : (π.all fun x => Nat.blt x.1 N) = true) : Bdd π N := by
  intro i x hx
  induction π with
  | nil => cases hx
  | cons p π ih =>
    obtain ⟨j, y⟩ := p
    simp only [List.all_cons, Bool.and_eq_true] at h
    unfold lk at hx
    split at hx
    · rename_i e
      rw [← Nat.eq_of_beq_eq_true e]
      exact Eq.mp Nat.blt_eq h.1
    · exact ih h.2 hx

theorem bdL_len (π : Bd) : ∀ n, (bdL π n).length = n
  | 0 => rfl
  | n + 1 => by simp [bdL, bdL_len π n]
theorem bdL_get (π : Bd) : ∀ (n i : Nat), i < n → (bdL π n)[i]? = some ((lk i π).getD 0)
  | 0, i, h => by omega
  | n + 1, i, h => by
    unfold bdL
    rw [List.getElem?_append]
    split
    · rename_i hi; rw [bdL_len] at hi; exact bdL_get π n i hi
    · rename_i hi
      rw [bdL_len] at hi ⊢
      have : i = n := by omega
      subst this
      simp
end
end Go.Lift

/- Contracts: what a function, or a piece of code, makes of a state of some form. -/
namespace Go.Lift
open Go
set_option linter.unusedVariables false

/-- What is made of data: a plain function, told step by step. -/
inductive Cn : Type 1 where
  | get (t : Ty) (k : t.den → Cn)
  | bind {α : Type} (x : Option α) (k : α → Cn)
  | cs {α β : Type} (x : α ⊕ β) (k : α → Cn) (k' : β → Cn)
  | out (i : Nat) (d : List Sg)
  | fail

def Cn.run {R : Type} : Cn → List Sg → (Nat → List Sg → Option R) → Option R
  | .get t k, d, K => match d with
    | ⟨u, x⟩ :: d => Ty.as Ty.den u t x fun y => (k y).run d K
    | [] => none
  | .bind x k, d, K => Option.bind x fun y => (k y).run d K
  | .cs x k k', d, K => match x with
    | .inl y => (k y).run d K
    | .inr y => (k' y).run d K
  | .out i o, d, K => match d with
    | [] => K i o
    | _ => none
  | .fail, _, _ => none

def Cn.ev (c : Cn) (d : List Sg) : Option (Nat × List Sg) := c.run d fun i o => some (i, o)

theorem Cn.nat {R : Type} (c : Cn) : ∀ {d : List Sg} {K : Nat → List Sg → Option R} {r : R}, c.run d K = some r → ∃ i o, c.ev d = some (i, o) ∧ K i o = some r := by
  induction c with
  | get t k ih =>
    intro d K r h
    unfold Cn.run at h
    split at h
    · rename_i u x d'
      obtain ⟨e, h⟩ := Ty.as_some h
      subst e
      obtain ⟨i, o, h1, h2⟩ := ih x h
      refine ⟨i, o, ?_, h2⟩
      unfold Cn.ev Cn.run
      simp only [Ty.as, Ty.beq_refl, dif_pos]
      exact h1
    · cases h
  | bind x k ih =>
    intro d K r h
    unfold Cn.run at h
    obtain ⟨y, h1, h2⟩ := bind_ex h
    obtain ⟨i, o, h3, h4⟩ := ih y h2
    refine ⟨i, o, ?_, h4⟩
    unfold Cn.ev Cn.run
    rw [h1]; exact h3
  | cs x k k' ih ih' =>
    intro d K r h
    cases x with
    | inl y => exact ih y h
    | inr y => exact ih' y h
  | out i o =>
    intro d K r h
    unfold Cn.run at h
    split at h
    · exact ⟨i, o, rfl, h⟩
    · cases h
  | fail => intro d K r h; cases h

inductive Ex where
  | normal
  | exit (id : Nat)
  | ret

def Ex.to : Ex → Exit
  | .normal => .normal
  | .exit id => .exit id
  | .ret => .ret

/-- kp: so many pieces (the first ones) are the same ones behind it. -/
structure Con where
  kp : Nat
  Tin : Tm
  outs : List (Ex × Tm)
  body : Cn
  /-- Those pieces that are only looked at. -/
  ro : List Nat

/-- The results of a call, as one value. -/
def resV : List Value → Value
  | [v] => v
  | vs => .tuple vs.toArray

/-- A function keeps its contract. -/
def FnOk (P : Program) (G : Globs) (f : FuncId) (C : Con) : Prop :=
  ∀ (w : World) (ρ : Nat → HI) (Z : Nat → Prop) (z : Zn) (X : List Atom) (R : Nat → Prop) (vs : List Value) (d : List Sg) (st : St) (i : Nat) (o : List Sg),
    C.Tin.fill d = some st → At ⟨P, G, w, doms X, R, z⟩ ρ Z z X st vs w → C.body.ev d = some (i, o) →
    Calls P f vs.toArray w fun e w' => ∃ ex To st' ρ' Z' z' X' us, e = .returned (resV us) ∧ C.outs[i]? = some (ex, To) ∧ To.fill o = some st' ∧ At ⟨P, G, w, doms X, R, z⟩ ρ' Z' z' X' st' us w' ∧ Later ρ ρ' z z' C.kp st'.mem.length ∧ Ro C.ro X X'

/-- A piece of code keeps its contract. -/
def FragOk (P : Program) (G : Globs) (code : Code) (C : Con) : Prop :=
  ∀ (w : World) (ρ : Nat → HI) (Z : Nat → Prop) (z : Zn) (X : List Atom) (R : Nat → Prop) (l : List Value) (d : List Sg) (st : St) (i : Nat) (o : List Sg),
    C.Tin.fill d = some st → At ⟨P, G, w, doms X, R, z⟩ ρ Z z X st l w → C.body.ev d = some (i, o) →
    code.wp P (fun e a w' => ∃ ex To st' ρ' Z' z' X' l', e = ex.to ∧ a = Fr l' ∧ C.outs[i]? = some (ex, To) ∧ To.fill o = some st' ∧ At ⟨P, G, w, doms X, R, z⟩ ρ' Z' z' X' st' l' w' ∧ Later ρ ρ' z z' C.kp st'.mem.length ∧ Ro C.ro X X') (Fr l) w

/-! ### Other numbers -/

def Leaf.ren (f : Nat → Nat) : Leaf → Leaf
  | .row h => .row (f h)
  | .part h a b => .part (f h) a b
  | .ptr h off => .ptr (f h) off
  | .pta h off t n i => .pta (f h) off t n i
  | .elr h i off => .elr (f h) i off
  | .bpart h off t n a b => .bpart (f h) off t n a b
  | .rwa h n => .rwa (f h) n
  | .bsl h n => .bsl (f h) n
  | .mpl h => .mpl (f h)
  | .clo g caps => .clo g (caps.map fun c => (f c.1, c.2))
  | l => l

def AV.ren (f : Nat → Nat) : AV → AV
  | .vl a ls => .vl a (ls.map (Leaf.ren f))
  | .tup cs => .tup (cs.map fun c => (c.1, c.2.map (Leaf.ren f)))
  | av => av

def Pc.ren (f : Nat → Nat) : Pc → Pc
  | .box ls => .box (ls.map (Leaf.ren f))
  | p => p

structure Ren (f : Nat → Nat) (ρ ρ' : Nat → HI) (n n' : Nat) : Prop where
  r : ∀ i, i < n → ρ' (f i) = ρ i
  lt : ∀ i, i < n → f i < n'

def Leaf.flat : Leaf → Bool
  | .dat t _ => t.flat
  | .eld .. => false
  | .npt .. => false
  | .nrw .. => false
  | .nel .. => false
  | _ => true
/-- No node is pointed to. -/
def Leaf.nond : Leaf → Bool
  | .dat t _ => t.nond
  | .eld t _ _ => t.nond
  | .npt .. => false
  | .nrw .. => false
  | .nel .. => false
  | _ => true
def AV.nond : AV → Bool
  | .vl _ ls => ls.all Leaf.nond
  | .tup cs => cs.all fun c => c.2.all Leaf.nond
  | _ => true
def Pc.nond : Pc → Bool
  | .box ls => ls.all Leaf.nond
  | .row t _ => t.nond
  | .mp k v _ => k.nond && v.nond
  | .ar .. => false
  | .dead => true

/-- What was known in a zone is known in another one: it is more, or what is known is flat, or it is more memory and no node is spoken of. -/
def Fit (z z' : Zn) (a b : Bool) : Prop := Ext z z' ∨ a = true ∨ (ExtH z.hp z'.hp ∧ b = true)
theorem Fit.and {z z' : Zn} {a b c d : Bool} (h : Fit z z' (a && c) (b && d)) : Fit z z' a b ∧ Fit z z' c d := by
  rcases h with h | h | ⟨h, h'⟩
  · exact ⟨.inl h, .inl h⟩
  · rw [Bool.and_eq_true] at h; exact ⟨.inr (.inl h.1), .inr (.inl h.2)⟩
  · rw [Bool.and_eq_true] at h'; exact ⟨.inr (.inr ⟨h, h'.1⟩), .inr (.inr ⟨h, h'.2⟩)⟩
theorem Fit.hold {z z' : Zn} {t : Ty} (h : Fit z z' t.flat t.nond) {x : t.den} {cs : List Value} (e : t.holds z x cs) : t.holds z' x cs := by
  rcases h with h | h | ⟨h, h'⟩
  · exact Ty.holds_ext h t _ _ e
  · exact t.holds_flat h _ _ e
  · exact t.holds_nond h h' _ _ e

def AV.flat : AV → Bool
  | .vl _ ls => ls.all Leaf.flat
  | .tup cs => cs.all fun c => c.2.all Leaf.flat
  | _ => true
def Pc.flat : Pc → Bool
  | .box ls => ls.all Leaf.flat
  | .row t _ => t.flat
  | .mp k v _ => k.flat && v.flat
  | .ar .. => false
  | .dead => true

section
variable {ρ ρ' : Nat → HI} {z z' : Zn} {n n' : Nat} {f : Nat → Nat}

theorem Leaf.ren_at (F : Ren f ρ ρ' n n') : ∀ (l : Leaf) (cs : List Value), Fit z z' l.flat l.nond → l.at ρ z n cs → (l.ren f).at ρ' z' n' cs
  | .top, _, _, h => h
  | .dat t _, _, e, h => Fit.hold e h
  | .row h, _, _, ⟨hn, e⟩ => ⟨F.lt h hn, by rw [F.r h hn]; exact e⟩
  | .part h a b, _, _, ⟨hn, e⟩ => ⟨F.lt h hn, by rw [F.r h hn]; exact e⟩
  | .nils, _, _, h => h
  | .nilp, _, _, h => h
  | .ptr h off, _, _, ⟨hn, e⟩ => ⟨F.lt h hn, by rw [F.r h hn]; exact e⟩
  | .pta h off t m i, _, _, ⟨hn, e⟩ => ⟨F.lt h hn, by rw [F.r h hn]; exact e⟩
  | .elr h i off, _, _, ⟨hn, e⟩ => ⟨F.lt h hn, by rw [F.r h hn]; exact e⟩
  | .eld t _ _, _, e, ⟨p, c, h1, h2, h3⟩ => by
    rcases e with e | e | ⟨e, e'⟩
    · exact ⟨p, c, Ty.holds_ext e t _ _ h1, h2.ext e, h3⟩
    · cases e
    · exact ⟨p, c, t.holds_nond e e' _ _ h1, fun j u hj => cellAt_extH e (h2 j u hj), h3⟩
  | .bpart h off t m a b, _, _, ⟨hn, e⟩ => ⟨F.lt h hn, by rw [F.r h hn]; exact e⟩
  | .rwa h m, _, _, ⟨hn, e⟩ => ⟨F.lt h hn, by rw [F.r h hn]; exact e⟩
  | .bsl h m, _, _, ⟨hn, e⟩ => ⟨F.lt h hn, by rw [F.r h hn]; exact e⟩
  | .nilf, _, _, h => h
  | .clo g caps, _, _, ⟨vs, h, e⟩ => ⟨vs, CapsAt.map (fun i hi => ⟨F.lt i hi, F.r i hi⟩) caps vs h, e⟩
  | .fn f, _, _, h => h
  | .mpl h, _, _, ⟨hn, e⟩ => ⟨F.lt h hn, by rw [F.r h hn]; exact e⟩
  | .nilm, _, _, h => h
  | .npt i off, _, e, ⟨hi, h⟩ => by
    rcases e with e | e | ⟨_, e⟩
    · exact ⟨Nat.lt_of_lt_of_le hi e.nn, by rw [e.tb i hi]; exact h⟩
    · cases e
    · cases e
  | .nrw i, _, e, ⟨hi, h⟩ => by
    rcases e with e | e | ⟨_, e⟩
    · exact ⟨Nat.lt_of_lt_of_le hi e.nn, by rw [e.tb i hi]; exact h⟩
    · cases e
    · cases e
  | .nel s i j off, _, e, ⟨hi, h⟩ => by
    rcases e with e | e | ⟨_, e⟩
    · exact ⟨Nat.lt_of_lt_of_le hi e.nn, by rw [e.tb i hi]; exact h⟩
    · cases e
    · cases e

theorem Lvs.ren_at (F : Ren f ρ ρ' n n') : ∀ (ls : List Leaf) (cs : List Value), Fit z z' (ls.all Leaf.flat) (ls.all Leaf.nond) → Lvs ρ z n ls cs → Lvs ρ' z' n' (ls.map (Leaf.ren f)) cs
  | [], _, _, h => h
  | l :: ls, _, e, ⟨c, d, e1, h1, h2⟩ => by
    have e2 : Fit z z' l.flat l.nond ∧ Fit z z' (ls.all Leaf.flat) (ls.all Leaf.nond) := by
      simp only [List.all_cons] at e; exact e.and
    exact ⟨c, d, e1, l.ren_at F _ e2.1 h1, Lvs.ren_at F ls _ e2.2 h2⟩

theorem Cmps.ren_at (F : Ren f ρ ρ' n n') : ∀ (cs : List (Bool × List Leaf)) (vs : List Value), Fit z z' (cs.all fun c => c.2.all Leaf.flat) (cs.all fun c => c.2.all Leaf.nond) → Cmps ρ z n cs vs → Cmps ρ' z' n' (cs.map fun c => (c.1, c.2.map (Leaf.ren f))) vs
  | [], _, _, h => h
  | c :: cs, _, e, ⟨v, w, e1, h1, h2⟩ => by
    have e2 : Fit z z' (c.2.all Leaf.flat) (c.2.all Leaf.nond) ∧ Fit z z' (cs.all fun c => c.2.all Leaf.flat) (cs.all fun c => c.2.all Leaf.nond) := by
      simp only [List.all_cons] at e; exact e.and
    obtain ⟨xs, h3, h4⟩ := h1
    exact ⟨v, w, e1, ⟨xs, Lvs.ren_at F _ _ e2.1 h3, h4⟩, Cmps.ren_at F cs _ e2.2 h2⟩

theorem AV.ren_at (F : Ren f ρ ρ' n n') : ∀ (av : AV) (v : Value), Fit z z' av.flat av.nond → av.at ρ z n v → (av.ren f).at ρ' z' n' v
  | .top, _, _, h => h
  | .und, _, _, h => h
  | .vl a ls, _, e, ⟨cs, h1, h2⟩ => ⟨cs, Lvs.ren_at F _ _ e h1, h2⟩
  | .tup cs, _, e, ⟨vs, h1, h2⟩ => ⟨vs, Cmps.ren_at F _ _ e h1, h2⟩

theorem Pc.ren_at (F : Ren f ρ ρ' n n') {i : Nat} (hi : i < n) : ∀ (p : Pc) (A : Atom), Fit z z' p.flat p.nond → (z'.nn = z.nn ∨ p.isAr = false) → p.is ρ z n i A → (p.ren f).is ρ' z' n' (f i) A
  | .dead, _, _, _, _ => trivial
  | .box ls, _, e, _, ⟨b, cs, e1, e2, e3⟩ => ⟨b, cs, by rw [F.r i hi]; exact e1, Lvs.ren_at F _ _ e e2, e3⟩
  | .row t xs, _, e, _, ⟨e1, ch, e2, e3⟩ => ⟨by rw [F.r i hi]; exact e1, ch, e2.mono fun _ _ => Fit.hold e, by rw [F.r i hi]; exact e3⟩
  | .mp k v xs, _, e, _, ⟨b, kvs, e1, e2, e3⟩ => ⟨b, kvs, by rw [F.r i hi]; exact e1, Ents.mono (fun _ _ => Fit.hold (Fit.and e).1) (fun _ _ ⟨cs, h1, h2⟩ => ⟨cs, Fit.hold (Fit.and e).2 h1, h2⟩) _ _ e2, e3⟩
  | .ar T U xs, _, e, ha, ⟨cs, e1, e2⟩ => by
    rcases e with e | e | ⟨_, e⟩
    · have hn : z'.nn = z.nn := ha.elim id fun h => by cases h
      refine ⟨cs, e1.ext e hn, e2.trans (arA_congr fun i hi => e.tb i ?_).symm⟩
      rw [e1.nn, ← e1.len]; exact hi
    · cases e
    · cases e

/-- A callee's number, in the caller's numbers. -/
def renF (π : List Nat) (n : Nat) : Nat → Nat := fun j => match π[j]? with
  | some h => h
  | none => n + (j - π.length)

/-- What the caller's numbers stand for, behind the call. -/
def glueR (ρ ρ2 : Nat → HI) (n m : Nat) : Nat → HI := fun i => match Nat.blt i n with
  | true => ρ i
  | false => ρ2 (m + (i - n))

theorem glueR_lt {ρ2 : Nat → HI} {m i : Nat} (h : i < n) : glueR ρ ρ2 n m i = ρ i := by
  unfold glueR
  have : Nat.blt i n = true := Eq.mpr Nat.blt_eq h
  rw [this]
theorem glueR_ge {ρ2 : Nat → HI} {m i : Nat} (h : n ≤ i) : glueR ρ ρ2 n m i = ρ2 (m + (i - n)) := by
  unfold glueR
  have : Nat.blt i n = false := by
    cases hb : Nat.blt i n with
    | false => rfl
    | true => have := Eq.mp Nat.blt_eq hb; omega
  rw [this]

theorem ren_glue {ρ2 : Nat → HI} {z2 : Zn} {z1 : Zn} {π : List Nat} {m : Nat} {ρπ : Nat → HI} (hρ : ∀ i h, π[i]? = some h → ρπ i = ρ h) (ho : okPi n π = true) (L : Later ρπ ρ2 z1 z2 π.length m) : Ren (renF π n) ρ2 (glueR ρ ρ2 n π.length) m (n + (m - π.length)) where
  r i hi := by
    unfold renF
    cases hp : π[i]? with
    | some h =>
      have hlt := okPi_lt ho h (List.mem_of_getElem? hp)
      simp only
      rw [glueR_lt hlt, L.r i (List.getElem?_eq_some_iff.1 hp).1, hρ i h hp]
    | none =>
      have hge : π.length ≤ i := by
        rcases Nat.lt_or_ge i π.length with h | h
        · rw [List.getElem?_eq_getElem h] at hp; cases hp
        · exact h
      simp only
      rw [glueR_ge (by omega)]
      congr 1; omega
  lt i hi := by
    unfold renF
    cases hp : π[i]? with
    | some h =>
      have hlt := okPi_lt ho h (List.mem_of_getElem? hp)
      simp only; omega
    | none =>
      have hge : π.length ≤ i := by
        rcases Nat.lt_or_ge i π.length with h | h
        · rw [List.getElem?_eq_getElem h] at hp; cases hp
        · exact h
      simp only; omega
end

/-! ### Taking back -/

section
variable {c : Cx} {ρ ρ2 ρπ : Nat → HI} {Z Z1 Z2 : Nat → Prop} {z z1 z2 : Zn} {X Xo : List Atom} {st st' : St} {l l' : List Value} {w w' : World} {π : List Nat} {R1 : Nat → Prop}

def backM (mem : List Pc) (π : List Nat) (out : List Pc) : List Pc := back .dead mem π (out.map (Pc.ren (renF π mem.length)))

theorem backM_len : (backM st.mem π st'.mem).length = st.mem.length + (st'.mem.length - π.length) := by
  unfold backM; rw [back_len]; simp

theorem glue_mem (h : At c ρ Z z X st l w) (ho : okPi st.mem.length π = true) (hl : π.length ≤ st'.mem.length) (hm : MemAt ρ2 z2 st'.mem.length st'.mem Xo) (hρ : ∀ i h, π[i]? = some h → ρπ i = ρ h) (L : Later ρπ ρ2 z1 z2 π.length st'.mem.length)
    {z3 : Zn} (e1 : Ext z z3) (e2 : Fit z2 z3 (st'.mem.all Pc.flat) (st'.mem.all Pc.nond)) (ha : z3.nn = z.nn ∨ ∀ (i : Nat) (p : Pc), st.mem[i]? = some p → i ∉ π → p.isAr = false) (hb : z3.nn = z2.nn ∨ ∀ (i : Nat) (p : Pc), st'.mem[i]? = some p → p.isAr = false) :
    MemAt (glueR ρ ρ2 st.mem.length π.length) z3 (backM st.mem π st'.mem).length (backM st.mem π st'.mem) (back deadA X π Xo) := by
  have F := ren_glue (n := st.mem.length) hρ ho L
  rw [backM_len]
  have hmap : ∀ {j : Nat} {p : Pc}, (st'.mem.map (Pc.ren (renF π st.mem.length)))[j]? = some p → ∃ q, st'.mem[j]? = some q ∧ p = q.ren (renF π st.mem.length) := by
    intro j p hj
    rw [List.getElem?_map] at hj
    obtain ⟨q, h1, h2⟩ := Option.map_eq_some_iff.1 hj
    exact ⟨q, h1, h2.symm⟩
  have hfl : ∀ {j : Nat} {q : Pc}, st'.mem[j]? = some q → Fit z2 z3 q.flat q.nond := fun hj => by
    rcases e2 with e | e | ⟨e, e'⟩
    · exact .inl e
    · exact .inr (.inl (List.all_eq_true.1 e _ (List.mem_of_getElem? hj)))
    · exact .inr (.inr ⟨e, List.all_eq_true.1 e' _ (List.mem_of_getElem? hj)⟩)
  refine ⟨by unfold backM; rw [back_len, back_len]; simp [h.mem.1, hm.1], fun i p A hp hA => ?_⟩
  unfold backM at hp
  have hlX : π.length ≤ Xo.length := by rw [← hm.1]; exact hl
  rcases back_get hp (by simpa using hl) with ⟨j, p1, hj⟩ | ⟨h1, h2⟩ | ⟨h0, h2⟩ <;> rcases back_get hA hlX with ⟨k, p2, hk⟩ | ⟨h3, h4⟩ | ⟨h5, h4⟩
  · have hjk := nodup_inj (okPi_nodup ho) p1 p2
    subst hjk
    obtain ⟨q, h6, rfl⟩ := hmap hj
    have hjl : j < st'.mem.length := (List.getElem?_eq_some_iff.1 h6).1
    have := Pc.ren_at F hjl q A (hfl h6) (hb.imp id fun h => h _ _ h6) (hm.2 j q A h6 hk)
    have e : renF π st.mem.length j = i := by unfold renF; rw [p1]
    rwa [e] at this
  · exact absurd (List.mem_of_getElem? p1) h3
  · have := okPi_lt ho i (List.mem_of_getElem? p1)
    rw [h.mem.1] at this; omega
  · exact absurd (List.mem_of_getElem? p2) h1
  · have hil : i < st.mem.length := (List.getElem?_eq_some_iff.1 h2).1
    have L2 : Later ρ (glueR ρ ρ2 st.mem.length π.length) z z3 st.mem.length (st.mem.length + (st'.mem.length - π.length)) := ⟨fun j hj => glueR_lt hj, e1, by omega⟩
    exact p.later L2 hil _ (ha.imp id fun hh => hh i p h2 h1) (h.mem.2 i p A h2 h4)
  · have := (List.getElem?_eq_some_iff.1 h2).1
    rw [h.mem.1] at this; omega
  · have := okPi_lt ho i (List.mem_of_getElem? p2); omega
  · have := (List.getElem?_eq_some_iff.1 h4).1
    rw [← h.mem.1] at this; omega
  · obtain ⟨q, h6, rfl⟩ := hmap h2
    rw [← h.mem.1] at h4
    have hjl := (List.getElem?_eq_some_iff.1 h6).1
    have := Pc.ren_at F hjl q A (hfl h6) (hb.imp id fun h => h _ _ h6) (hm.2 _ q A h6 h4)
    have e : renF π st.mem.length (π.length + (i - st.mem.length)) = i := by
      unfold renF
      rw [List.getElem?_eq_none (by omega)]
      simp only; omega
    rwa [e] at this

theorem flat_noAr {mem : List Pc} (h : mem.all Pc.flat = true) (i : Nat) (p : Pc) (hp : mem[i]? = some p) : p.isAr = false := by
  have := List.all_eq_true.1 h p (List.mem_of_getElem? hp)
  cases p <;> first | rfl | cases this
theorem nond_noAr {mem : List Pc} (h : mem.all Pc.nond = true) (i : Nat) (p : Pc) (hp : mem[i]? = some p) : p.isAr = false := by
  have := List.all_eq_true.1 h p (List.mem_of_getElem? hp)
  cases p <;> first | rfl | cases this
theorem Own.hp {w0 : World} {D R : Nat → Prop} {z' : Zn} (h : Own w0 D R w X [zA Z z]) (e : z'.hp = z.hp) : Own w0 D R w X [zA Z z'] := by
  have h := h.toI
  exact (show OwnI w0 D R w X Z z' from ⟨h.keep, h.ok, by rw [e]; exact h.zok, h.dom, h.zdom, h.xx, h.xz⟩).own
/-- What a caller knows behind a callee that was lent nothing. -/
theorem glue (h : At c ρ Z z X st l w) (ho : okPi st.mem.length π = true) (hl : π.length ≤ st'.mem.length)
    (h' : At ⟨c.P, c.G, w, doms (pick deadA X π), fun b => Z b ∨ doms (pick deadA X π) b, z⟩ ρ2 Z2 z2 Xo st' l' w') (hρ : ∀ i h, π[i]? = some h → ρπ i = ρ h) (L : Later ρπ ρ2 z z2 π.length st'.mem.length) (k : Lk) (hk : ∀ i, k.lk i = true → i ∉ π ∨ ∃ j : Nat, π[j]? = some i ∧ Xo[j]? = X[i]?) (hs : k.sz = true → st'.mem.all Pc.flat = true) (b : Bool) (hb0 : b = false → ∀ (i : Nat) (p : Pc), st.mem[i]? = some p → i ∉ π → p.isAr = false) (hb1 : b = true → st'.mem.all Pc.nond = true) :
    ∃ z3 Z3, At c (glueR ρ ρ2 st.mem.length π.length) Z3 z3 (back deadA X π Xo) ⟨st.fr, backM st.mem π st'.mem⟩ l w' ∧ Later ρ (glueR ρ ρ2 st.mem.length π.length) z z3 st.mem.length (backM st.mem π st'.mem).length ∧ Held k X (back deadA X π Xo) Z Z3 z z3 ∧
      ∀ (av : AV) (v : Value), (k.sz = true → av.flat = true) → (b = true → av.nond = true) → av.at ρ2 z2 st'.mem.length v → (av.ren (renF π st.mem.length)).at (glueR ρ ρ2 st.mem.length π.length) z3 (backM st.mem π st'.mem).length v := by
  have hoX : okPi X.length π = true := by rw [← h.mem.1]; exact ho
  have hlX : π.length ≤ Xo.length := by rw [← h'.mem.1]; exact hl
  have F := ren_glue (n := st.mem.length) hρ ho L
  have hn : (backM st.mem π st'.mem).length = st.mem.length + (st'.mem.length - π.length) := backM_len
  have hheld : ∀ i, k.lk i = true → i < X.length → (back deadA X π Xo)[i]? = X[i]? := by
    intro i hi hil
    unfold back
    rw [List.getElem?_append, if_pos (by simpa using hil), List.getElem?_map, List.getElem?_range hil]
    simp only [Option.map_some]
    rw [List.getElem?_eq_getElem hil]
    rcases hk i hi with hni | ⟨j, hj, hXo⟩
    · have hpos : posOf i π = none := by
        cases hp : posOf i π with
        | none => rfl
        | some j => exact absurd (List.mem_of_getElem? (posOf_some hp)) hni
      rw [hpos]
      simp [List.getD, hil]
    · rw [posOf_mem (okPi_nodup hoX) hj]
      rw [List.getElem?_eq_getElem hil] at hXo
      simp [List.getD, hXo]
  cases hsz : k.sz with
  | false =>
    have ow := (h.own.toI.post h.dr hoX hlX h'.own.toI (fun _ hb => hb)).own
    cases b with
    | false =>
      have e1 : Ext z z2 := L.z
      have L2 : Later ρ (glueR ρ ρ2 st.mem.length π.length) z z2 st.mem.length (backM st.mem π st'.mem).length := ⟨fun j hj => glueR_lt hj, e1, by rw [hn]; omega⟩
      refine ⟨z2, Z2, ⟨h.fr.later L2, glue_mem h ho hl h'.mem hρ L e1 (.inl (Ext.refl _)) (.inr (hb0 rfl)) (.inl rfl), ow, h.ext.trans e1, h.gl, h.dr⟩, L2, ⟨hheld, fun e => by rw [hsz] at e; cases e⟩, fun av v _ _ hv => ?_⟩
      rw [hn]; exact av.ren_at F v (.inl (Ext.refl _)) hv
    | true =>
      have e1 : Ext z (z.up z2.hp) := Ext.up L.z.hp
      have ef : ExtH z2.hp (z.up z2.hp).hp := fun _ _ h => h
      have L2 : Later ρ (glueR ρ ρ2 st.mem.length π.length) z (z.up z2.hp) st.mem.length (backM st.mem π st'.mem).length := ⟨fun j hj => glueR_lt hj, e1, by rw [hn]; omega⟩
      refine ⟨z.up z2.hp, Z2, ⟨h.fr.later L2, glue_mem h ho hl h'.mem hρ L e1 (.inr (.inr ⟨ef, hb1 rfl⟩)) (.inl rfl) (.inr (nond_noAr (hb1 rfl))), ow.hp rfl, h.ext.trans e1, h.gl, h.dr⟩, L2, ⟨hheld, fun e => by rw [hsz] at e; cases e⟩, fun av v _ hf hv => ?_⟩
      rw [hn]; exact av.ren_at F v (.inr (.inr ⟨ef, hf rfl⟩)) hv
  | true =>
    have ow := (h.own.toI.postL hoX hlX h'.own.toI).own
    have L2 : Later ρ (glueR ρ ρ2 st.mem.length π.length) z z st.mem.length (backM st.mem π st'.mem).length := ⟨fun j hj => glueR_lt hj, Ext.refl z, by rw [hn]; omega⟩
    refine ⟨z, Z, ⟨h.fr.later L2, glue_mem h ho hl h'.mem hρ L (Ext.refl _) (.inr (.inl (hs hsz))) (.inl rfl) (.inr (flat_noAr (hs hsz))), ow, h.ext, h.gl, h.dr⟩, L2, ⟨hheld, fun _ => ⟨rfl, rfl⟩⟩, fun av v hf _ hv => ?_⟩
    rw [hn]; exact av.ren_at F v (.inr (.inl (hf rfl))) hv

/-- The same, where something was lent: all that comes back is flat. -/
theorem glueL (h : At c ρ Z z X st l w) (ho : okPi st.mem.length π = true) (hl : π.length ≤ st'.mem.length)
    (h' : At ⟨c.P, c.G, w, doms (pick deadA X π), R1, z1⟩ ρ2 Z2 z2 Xo st' l' w') (hρ : ∀ i h, π[i]? = some h → ρπ i = ρ h) (L : Later ρπ ρ2 z1 z2 π.length st'.mem.length) (k : Lk) (hk : ∀ i, k.lk i = true → i ∉ π ∨ ∃ j : Nat, π[j]? = some i ∧ Xo[j]? = X[i]?) (hs : st'.mem.all Pc.flat = true) :
    At c (glueR ρ ρ2 st.mem.length π.length) Z z (back deadA X π Xo) ⟨st.fr, backM st.mem π st'.mem⟩ l w' ∧ Later ρ (glueR ρ ρ2 st.mem.length π.length) z z st.mem.length (backM st.mem π st'.mem).length ∧ Held k X (back deadA X π Xo) Z Z z z ∧
      ∀ (av : AV) (v : Value), av.flat = true → av.at ρ2 z2 st'.mem.length v → (av.ren (renF π st.mem.length)).at (glueR ρ ρ2 st.mem.length π.length) z (backM st.mem π st'.mem).length v := by
  have hoX : okPi X.length π = true := by rw [← h.mem.1]; exact ho
  have hlX : π.length ≤ Xo.length := by rw [← h'.mem.1]; exact hl
  have F := ren_glue (n := st.mem.length) hρ ho L
  have hn : (backM st.mem π st'.mem).length = st.mem.length + (st'.mem.length - π.length) := backM_len
  have hheld : ∀ i, k.lk i = true → i < X.length → (back deadA X π Xo)[i]? = X[i]? := by
    intro i hi hil
    unfold back
    rw [List.getElem?_append, if_pos (by simpa using hil), List.getElem?_map, List.getElem?_range hil]
    simp only [Option.map_some]
    rw [List.getElem?_eq_getElem hil]
    rcases hk i hi with hni | ⟨j, hj, hXo⟩
    · have hpos : posOf i π = none := by
        cases hp : posOf i π with
        | none => rfl
        | some j => exact absurd (List.mem_of_getElem? (posOf_some hp)) hni
      rw [hpos]
      simp [List.getD, hil]
    · rw [posOf_mem (okPi_nodup hoX) hj]
      rw [List.getElem?_eq_getElem hil] at hXo
      simp [List.getD, hXo]
  have ow := (h.own.toI.postL hoX hlX h'.own.toI).own
  have L2 : Later ρ (glueR ρ ρ2 st.mem.length π.length) z z st.mem.length (backM st.mem π st'.mem).length := ⟨fun j hj => glueR_lt hj, Ext.refl z, by rw [hn]; omega⟩
  refine ⟨⟨h.fr.later L2, glue_mem h ho hl h'.mem hρ L (Ext.refl _) (.inr (.inl hs)) (.inl rfl) (.inr (flat_noAr hs)), ow, h.ext, h.gl, h.dr⟩, L2, ⟨hheld, fun _ => ⟨rfl, rfl⟩⟩, fun av v hf hv => ?_⟩
  rw [hn]; exact av.ren_at F v (.inr (.inl hf)) hv

/-! ### Pieces that are gone leave their places -/

def wide {α : Type} (d : α) (κ m : Nat) (Y : List α) : List α := Y.take κ ++ (List.replicate (m - κ) d ++ Y.drop κ)
def wideF (κ m : Nat) : Nat → Nat := fun j => match Nat.blt j κ with
  | true => j
  | false => j + (m - κ)

theorem blt_true {a b : Nat} (h : a < b) : Nat.blt a b = true := Eq.mpr Nat.blt_eq h
theorem blt_false {a b : Nat} (h : b ≤ a) : Nat.blt a b = false := by
  cases hb : Nat.blt a b with
  | false => rfl
  | true => have := Eq.mp Nat.blt_eq hb; omega

theorem wide_get {α : Type} {d : α} {κ m : Nat} {Y : List α} {i : Nat} {A : α} (hk : κ ≤ Y.length) (hm : κ ≤ m) (h : (wide d κ m Y)[i]? = some A) :
    (i < κ ∧ Y[i]? = some A) ∨ (κ ≤ i ∧ i < m ∧ A = d) ∨ (m ≤ i ∧ Y[i - (m - κ)]? = some A) := by
  unfold wide at h
  rw [List.getElem?_append] at h
  split at h
  · rename_i hi
    rw [List.length_take] at hi
    rw [List.getElem?_take, if_pos (by omega)] at h
    exact .inl ⟨by omega, h⟩
  · rename_i hi
    rw [List.length_take, Nat.min_eq_left hk] at hi h
    rw [List.getElem?_append] at h
    split at h
    · rename_i hj
      rw [List.length_replicate] at hj
      rw [List.getElem?_replicate, if_pos hj] at h
      injection h with h
      exact .inr (.inl ⟨by omega, by omega, h.symm⟩)
    · rename_i hj
      rw [List.length_replicate] at hj h
      rw [List.getElem?_drop] at h
      refine .inr (.inr ⟨by omega, ?_⟩)
      rwa [show κ + (i - κ - (m - κ)) = i - (m - κ) from by omega] at h

theorem wide_len {α : Type} {d : α} {κ m : Nat} {Y : List α} (hk : κ ≤ Y.length) : (wide d κ m Y).length = Y.length + (m - κ) := by
  simp [wide]; omega

theorem OwnI.wide {w0 : World} {D R : Nat → Prop} {κ m : Nat} (h : OwnI w0 D R w X Z z) (hk : κ ≤ X.length) (hm : κ ≤ m) : OwnI w0 D R w (Go.Lift.wide deadA κ m X) Z z where
  keep := h.keep
  ok i A hi := by
    rcases wide_get hk hm hi with ⟨_, h1⟩ | ⟨_, _, rfl⟩ | ⟨_, h1⟩
    · exact h.ok _ A h1
    · trivial
    · exact h.ok _ A h1
  zok := h.zok
  dom i A hi b hb := by
    rcases wide_get hk hm hi with ⟨_, h1⟩ | ⟨_, _, rfl⟩ | ⟨_, h1⟩
    · exact h.dom _ A h1 b hb
    · exact hb.elim
    · exact h.dom _ A h1 b hb
  zdom := h.zdom
  xx i j A B hij hi hj b ha hb := by
    rcases wide_get hk hm hi with ⟨h0, h1⟩ | ⟨_, _, rfl⟩ | ⟨h0, h1⟩ <;> rcases wide_get hk hm hj with ⟨h2, h3⟩ | ⟨_, _, rfl⟩ | ⟨h2, h3⟩ <;>
      first | exact ha.elim | exact hb.elim | exact h.xx _ _ A B (by omega) h1 h3 b ha hb
  xz i A hi b hb := by
    rcases wide_get hk hm hi with ⟨_, h1⟩ | ⟨_, _, rfl⟩ | ⟨_, h1⟩
    · exact h.xz _ A h1 b hb
    · exact hb.elim
    · exact h.xz _ A h1 b hb

def wideR (ρπ ρ2 : Nat → HI) (κ m : Nat) : Nat → HI := fun i => match Nat.blt i κ with
  | true => ρ2 i
  | false => match Nat.blt i m with
    | true => ρπ i
    | false => ρ2 (i - (m - κ))

def St.wide (κ m : Nat) (st : St) : St := ⟨st.fr.map (AV.ren (wideF κ m)), Go.Lift.wide .dead κ m (st.mem.map (Pc.ren (wideF κ m)))⟩

theorem wide_ren {κ m n' : Nat} (hm : κ ≤ m) : Ren (wideF κ m) ρ2 (wideR ρπ ρ2 κ m) n' (n' + (m - κ)) where
  r i hi := by
    unfold wideF wideR
    rcases Nat.lt_or_ge i κ with h | h
    · rw [blt_true h]; simp only; rw [blt_true h]
    · rw [blt_false h]; simp only
      rw [blt_false (by omega), blt_false (show m ≤ i + (m - κ) by omega)]
      simp only
      congr 1; omega
  lt i hi := by
    unfold wideF
    split <;> omega

theorem At.wide {κ m : Nat} (h : At c ρ2 Z z X st l w) (hk : κ ≤ st.mem.length) (hm : κ ≤ m) : At c (wideR ρπ ρ2 κ m) Z z (Go.Lift.wide deadA κ m X) (st.wide κ m) l w := by
  have F := wide_ren (ρ2 := ρ2) (ρπ := ρπ) (n' := st.mem.length) hm
  have hlen : (st.wide κ m).mem.length = st.mem.length + (m - κ) := by
    show (Go.Lift.wide .dead κ m (st.mem.map (Pc.ren (wideF κ m)))).length = _
    rw [wide_len (by simpa using hk)]; simp
  refine ⟨?_, ?_, (h.own.toI.wide (by rw [← h.mem.1]; exact hk) hm).own, h.ext, h.gl, h.dr⟩
  · rw [hlen]
    refine ⟨by show (st.fr.map _).length = _; rw [List.length_map]; exact h.fr.1, fun i av v hi hv => ?_⟩
    have hi : (st.fr.map (AV.ren (wideF κ m)))[i]? = some av := hi
    rw [List.getElem?_map] at hi
    obtain ⟨a, h1, rfl⟩ := Option.map_eq_some_iff.1 hi
    exact a.ren_at F v (.inl (Ext.refl _)) (h.fr.2 i a v h1 hv)
  · rw [hlen]
    refine ⟨by show (Go.Lift.wide .dead κ m (st.mem.map (Pc.ren (wideF κ m)))).length = _; rw [wide_len (by simpa using hk), wide_len (by rw [← h.mem.1]; exact hk)]; simp [h.mem.1], fun i p A hp hA => ?_⟩
    have hp : (Go.Lift.wide .dead κ m (st.mem.map (Pc.ren (wideF κ m))))[i]? = some p := hp
    have hmap : ∀ {j : Nat} {p : Pc}, (st.mem.map (Pc.ren (wideF κ m)))[j]? = some p → ∃ q, st.mem[j]? = some q ∧ p = q.ren (wideF κ m) := by
      intro j p hj
      rw [List.getElem?_map] at hj
      obtain ⟨q, h1, h2⟩ := Option.map_eq_some_iff.1 hj
      exact ⟨q, h1, h2.symm⟩
    have hkX : κ ≤ X.length := by rw [← h.mem.1]; exact hk
    rcases wide_get (by simpa using hk) hm hp with ⟨h0, h1⟩ | ⟨_, _, rfl⟩ | ⟨h0, h1⟩
    · rcases wide_get hkX hm hA with ⟨_, h2⟩ | ⟨h3, _, _⟩ | ⟨h3, _⟩
      · obtain ⟨q, h4, rfl⟩ := hmap h1
        have := Pc.ren_at F (List.getElem?_eq_some_iff.1 h4).1 q A (.inl (Ext.refl _)) (.inl rfl) (h.mem.2 i q A h4 h2)
        rwa [show wideF κ m i = i from by unfold wideF; rw [blt_true h0]] at this
      · omega
      · omega
    · trivial
    · rcases wide_get hkX hm hA with ⟨h3, _⟩ | ⟨_, h3, _⟩ | ⟨_, h2⟩
      · omega
      · omega
      · obtain ⟨q, h4, rfl⟩ := hmap h1
        have := Pc.ren_at F (List.getElem?_eq_some_iff.1 h4).1 q A (.inl (Ext.refl _)) (.inl rfl) (h.mem.2 _ q A h4 h2)
        rwa [show wideF κ m (i - (m - κ)) = i from by unfold wideF; rw [blt_false (by omega)]; simp only; omega] at this

theorem wide_later {κ m n' : Nat} (L : Later ρπ ρ2 z z2 κ n') (hm : κ ≤ m) : Later ρπ (wideR ρπ ρ2 κ m) z z2 m (n' + (m - κ)) := by
  refine ⟨fun i hi => ?_, L.z, by have := L.n; omega⟩
  unfold wideR
  rcases Nat.lt_or_ge i κ with h | h
  · rw [blt_true h]; exact L.r i h
  · rw [blt_false h]; simp only; rw [blt_true hi]

theorem St.wide_len {κ m : Nat} {st : St} (hk : κ ≤ st.mem.length) : (st.wide κ m).mem.length = st.mem.length + (m - κ) := by
  show (Go.Lift.wide .dead κ m (st.mem.map (Pc.ren (wideF κ m)))).length = _
  rw [Go.Lift.wide_len (by simpa using hk)]; simp
end
end Go.Lift

/- Calls of functions by their contracts; all operations under one name. -/
namespace Go.Lift
open Go
set_option linter.unusedVariables false

/-! ### Rows that are lent -/

/-- Rows inside a structure. -/
def lendLs (mem : List Pc) : List TL → List Leaf → List Leaf × List Nat
  | .hole (.slc t) :: ts, .row h :: ls => match mem[h]? with
    | some (.row u xs) => match lendLs mem ts ls with
      | (a, l) => (.dat (.slc u) xs :: a, h :: l)
    | _ => match lendLs mem ts ls with
      | (a, l) => (.row h :: a, l)
  | _ :: ts, x :: ls => match lendLs mem ts ls with
    | (a, l) => (x :: a, l)
  | _, ls => (ls, [])

def lendArgs (mem : List Pc) : List (Nat × Bool × List TL) → List AV → List AV × List Nat
  | [], args => (args, [])
  | (s, _, ts) :: rest, args => match ts, args[s]? with
    | [.hole (.slc _)], some (.vl false [.row h]) => match mem[h]? with
      | some (.row u xs) => match lendArgs mem rest (args.set s (.vl false [.dat (.slc u) xs])) with
        | (a, l) => (a, h :: l)
      | _ => lendArgs mem rest args
    | [.hole (.slc _)], some (.vl false [.part h a b]) => match mem[h]? with
      | some (.row u xs) => match lendArgs mem rest (args.set s (.vl false [.dat (.slc u) ((xs.take b).drop a)])) with
        | (a, l) => (a, h :: l)
      | _ => lendArgs mem rest args
    | [.hole (.slc _)], some (.vl false [.bpart h off t m a b]) => match mem[h]? with
      | some (.box ls) => match cutL ls off (m * t.sz) with
        | some [.dat (.arr m' u) xs] => match Nat.beq m m' && t.beq u with
          | true => match lendArgs mem rest (args.set s (.vl false [.dat (.slc u) ((xs.1.take b).drop a)])) with
            | (a, l) => (a, h :: l)
          | false => lendArgs mem rest args
        | _ => lendArgs mem rest args
      | _ => lendArgs mem rest args
    | ts, some (.vl true ls) => match lendLs mem ts ls with
      | (ls', h :: hs) => match lendArgs mem rest (args.set s (.vl true ls')) with
        | (a, l) => (a, (h :: hs) ++ l)
      | _ => lendArgs mem rest args
    | _, _ => lendArgs mem rest args

section
variable {c : Cx} {ρ ρ' : Nat → HI} {Z Z' Z1 : Nat → Prop} {z z' z1 : Zn} {X : List Atom} {st : St} {l : List Value} {w w' : World} {n : Nat} {mem : List Pc}

theorem ext_cut {D D' : Nat → Prop} {h : Hp} (hd : ∀ b, D b → D' b) : ExtH (cut D h) (cut D' h) := fun b o e => by
  obtain ⟨h1, h2⟩ := cut_some e
  rw [cut_pos (hd b h1)]; exact h2

/-- A row whose block lies in the zone is a slice that is read alone. -/
theorem row_zone (hm : MemAt ρ z n mem X) (hx : ∀ (i : Nat) (A : Atom), X[i]? = some A → A.at w) (hz : Ext z (z.up (cut Z1 (look w)))) {h : Nat} {u : Ty} {xs : List u.den} (hp : mem[h]? = some (.row u xs)) (hZ : ∀ A, X[h]? = some A → ∀ b, A.dom b → Z1 b) :
    ∃ ch : List (Chunk u.sz), (ρ h).ty = u ∧ (ρ h).len = xs.length ∧ xs.length ≤ (ρ h).cap ∧ Els (u.holds (z.up (cut Z1 (look w)))) xs ch ∧ ((ρ h).A = none ∧ ch = [] ∨ ∃ a, (ρ h).A = some a ∧ InZ (z.up (cut Z1 (look w))) a (flat u.enc ch)) := by
  obtain ⟨A, hA, hc, ch, he, rfl⟩ := hm.get hp
  have hr := hx h _ hA
  refine ⟨ch, hc.1, hc.2, by rw [he.1]; exact (row_facts hr).1, he.mono fun _ _ => Ty.holds_ext hz u _ _, ?_⟩
  obtain ⟨_, h2⟩ := sl_of_row hr
  rcases h2 with ⟨h3, h4⟩ | ⟨a, h3, h4⟩
  · exact .inl ⟨h3, h4⟩
  · refine .inr ⟨a, h3, fun j v hj => cellAt_extH ?_ (h4 j v hj)⟩
    exact ext_cut fun b hb => hZ _ hA b hb

/-- An array variable whose block lies in the zone. -/
theorem box_zone (hm : MemAt ρ z n mem X) (hx : ∀ (i : Nat) (A : Atom), X[i]? = some A → A.at w) (hz : Ext z (z.up (cut Z1 (look w)))) {h off m : Nat} {t : Ty} {ls : List Leaf} {xs : Arr m t.den} (hp : mem[h]? = some (.box ls))
    (hcut : cutL ls off (m * t.sz) = some [.dat (.arr m t) xs]) (hZ : ∀ A, X[h]? = some A → ∀ b, A.dom b → Z1 b) :
    ∃ bl, ∃ ch : List (Chunk t.sz), (ρ h).A = some ⟨bl, 0, none⟩ ∧ Els (t.holds (z.up (cut Z1 (look w)))) xs.1 ch ∧ InZ (z.up (cut Z1 (look w))) ⟨bl, off, none⟩ (flat t.enc ch) := by
  obtain ⟨A, hA, bl, cs, h3, h4, rfl⟩ := hm.get hp
  obtain ⟨h5, h6⟩ := cutL_at _ _ _ _ _ hcut h4
  obtain ⟨ch, he, hfl⟩ := holds_arr (Lvs.of_one h5)
  obtain ⟨t', hh⟩ := box_heap (hx h _ hA)
  refine ⟨bl, ch, h3, he.mono fun _ _ => Ty.holds_ext hz t _ _, fun j u hj => ?_⟩
  rw [← hfl, List.getElem?_take] at hj
  split at hj
  · rw [List.getElem?_drop] at hj
    unfold cellAt
    have hd : Z1 bl := hZ _ hA bl rfl
    rw [show (⟨bl, off, none⟩ : Addr).add j = ⟨bl, off + j, none⟩ from Addr.add_lit .., show (z.up (cut Z1 (look w))).hp = cut Z1 (look w) from rfl, cut_pos (show Z1 (⟨bl, off + j, none⟩ : Addr).block from hd)]
    show (match look w bl with | some (.cells c _ _) => if (none : Option Nat).isSome then none else c[off + j]? | _ => none) = some u
    rw [show look w bl = some (.cells cs.toArray t' (0, 0)) from hh]
    simpa using hj
  · cases hj

/-- A part of such a variable, as data. -/
theorem bpart_holds {z : Zn} {t : Ty} {m a b bl off : Nat} {xs : Arr m t.den} {ch : List (Chunk t.sz)} (hab : a ≤ b) (hb : b ≤ m) (he : Els (t.holds z) xs.1 ch) (hz : InZ z ⟨bl, off, none⟩ (flat t.enc ch)) :
    (Ty.slc t).holds z ((xs.1.take b).drop a) [.slice (some (if m = a then ⟨bl, off, none⟩ else ⟨bl, off + a * t.sz, none⟩)) (b - a) (m - a)] := by
  have := cut_holds (z := z) (v := undef) hab (by rw [xs.2]; exact hb) (A := some ⟨bl, off, none⟩) (cap := m) (Nat.le_of_eq xs.2) he (.inr ⟨_, rfl, hz⟩)
  have hlen : ((xs.1.take b).drop a).length = b - a := by rw [List.length_drop, List.length_take, xs.2]; omega
  rw [hlen] at this
  have e : cutAddr (some ⟨bl, off, none⟩) m a t.sz = some (if m = a then ⟨bl, off, none⟩ else ⟨bl, off + a * t.sz, none⟩) := by
    unfold cutAddr
    split <;> simp_all [addr_lit]
  rw [e] at this
  exact this

theorem lendLs_at (hm : MemAt ρ z n mem X) (hx : ∀ (i : Nat) (A : Atom), X[i]? = some A → A.at w) (hz : Ext z (z.up (cut Z1 (look w)))) : ∀ (ts : List TL) (ls : List Leaf) {ls' : List Leaf} {lent : List Nat} {cs : List Value},
    lendLs mem ts ls = (ls', lent) → (∀ h ∈ lent, ∀ A, X[h]? = some A → ∀ b, A.dom b → Z1 b) → Lvs ρ (z.up (cut Z1 (look w))) n ls cs → Lvs ρ (z.up (cut Z1 (look w))) n ls' cs := by
  intro ts ls
  induction ls generalizing ts with
  | nil =>
    intro ls' lent cs h hl hf
    have : ls' = [] := by
      unfold lendLs at h
      split at h
      · rename_i e; cases e
      · rename_i e; cases e
      · injection h with h1 h2; exact h1.symm
    rw [this]; exact hf
  | cons x ls ih =>
    intro ls' lent cs h hl hf
    unfold lendLs at h
    split at h
    · rename_i t ts' hh ls0 e
      injection e with e1 e2; subst e1; subst e2
      obtain ⟨c1, d1, e, h1, h2⟩ := hf
      split at h
      · rename_i u xs hp
        split at h
        rename_i a1 l1 heq
        injection h with h3 h4; subst h3; subst h4
        obtain ⟨ch, h3, h4, h5, h6, h7⟩ := row_zone hm hx hz hp (hl hh (List.mem_cons_self ..))
        refine ⟨c1, d1, e, ?_, ih _ heq (fun q hq => hl q (List.mem_cons_of_mem _ hq)) h2⟩
        obtain ⟨_, e'⟩ := h1
        subst e'
        refine ⟨_, _, ch, ?_, h5, h6, h7⟩
        rw [h4]
      · split at h
        rename_i a1 l1 heq
        injection h with h3 h4; subst h3; subst h4
        exact ⟨c1, d1, e, h1, ih _ heq hl h2⟩
    · rename_i e
      injection e with e1 e2; subst e1; subst e2
      obtain ⟨c1, d1, e, h1, h2⟩ := hf
      split at h
      rename_i a1 l1 heq
      injection h with h3 h4; subst h3; subst h4
      exact ⟨c1, d1, e, h1, ih _ heq hl h2⟩
    · injection h with h3 h4; subst h3; exact hf

theorem lendArgs_at (hm : MemAt ρ z n mem X) (hx : ∀ (i : Nat) (A : Atom), X[i]? = some A → A.at w) (hz : Ext z (z.up (cut Z1 (look w)))) : ∀ (ts : List (Nat × Bool × List TL)) (args : List AV) {args' : List AV} {lent : List Nat} {vs : List Value},
    lendArgs mem ts args = (args', lent) → (∀ h ∈ lent, ∀ A, X[h]? = some A → ∀ b, A.dom b → Z1 b) → FrAt ρ (z.up (cut Z1 (look w))) n args vs → FrAt ρ (z.up (cut Z1 (look w))) n args' vs ∧ args'.length = args.length
  | [], args, args', lent, vs, h, hl, hf => by injection h with h1 h2; subst h1; exact ⟨hf, rfl⟩
  | (s, bb, ts) :: rest, args, args', lent, vs, h, hl, hf => by
    unfold lendArgs at h
    split at h
    · rename_i t' hh ha
      split at h
      · rename_i u xs hp
        split at h
        rename_i a1 l1 heq
        injection h with h1 h2; subst h1; subst h2
        obtain ⟨ch, h3, h4, h5, h6, h7⟩ := row_zone hm hx hz hp (hl hh (List.mem_cons_self ..))
        obtain ⟨h8, h9⟩ := lendArgs_at hm hx hz rest _ heq (fun q hq => hl q (List.mem_cons_of_mem _ hq)) (hf.set (av := .vl false [.dat (.slc u) xs]) fun v hv => by
          obtain ⟨_, e⟩ := Cmp.of_one (hf.2 s _ v ha hv)
          injection e with e; subst e
          refine Cmp.one ⟨_, _, ch, ?_, h5, h6, h7⟩
          rw [h4])
        exact ⟨h8, by rw [h9]; simp⟩
      · exact lendArgs_at hm hx hz rest _ h hl hf
    · rename_i t' hh a b ha
      split at h
      · rename_i u xs hp
        split at h
        rename_i a1 l1 heq
        injection h with h1 h2; subst h1; subst h2
        obtain ⟨ch, h3, h4, h5, h6, h7⟩ := row_zone hm hx hz hp (hl hh (List.mem_cons_self ..))
        obtain ⟨h8, h9⟩ := lendArgs_at hm hx hz rest _ heq (fun q hq => hl q (List.mem_cons_of_mem _ hq)) (hf.set (av := .vl false [.dat (.slc u) ((xs.take b).drop a)]) fun v hv => by
          obtain ⟨_, hab, hbl, pp, hpp, e⟩ := Cmp.of_one (hf.2 s _ v ha hv)
          injection e with e; subst e
          rw [h4] at hbl
          rw [h3] at hpp
          have := cutAt_holds (z := z.up (cut Z1 (look w))) hab hbl h5 h6 h7 hpp
          refine Cmp.one ?_
          have hlen : ((xs.take b).drop a).length = b - a := by rw [List.length_drop, List.length_take]; omega
          rw [hlen] at this
          exact this)
        exact ⟨h8, by rw [h9]; simp⟩
      · exact lendArgs_at hm hx hz rest _ h hl hf
    · rename_i t' hh off t m a b ha
      split at h
      · rename_i ls hp
        split at h
        · rename_i m' u xs hcut
          split at h
          · rename_i hb
            simp only [Bool.and_eq_true] at hb
            have e1 := Nat.eq_of_beq_eq_true hb.1
            have e2 := Ty.of_beq hb.2
            subst e1; subst e2
            split at h
            rename_i a1 l1 heq
            injection h with h1 h2; subst h1; subst h2
            obtain ⟨bl, ch, h3, h6, h7⟩ := box_zone hm hx hz hp hcut (hl hh (List.mem_cons_self ..))
            obtain ⟨h8, h9⟩ := lendArgs_at hm hx hz rest _ heq (fun q hq => hl q (List.mem_cons_of_mem _ hq)) (hf.set (av := .vl false [.dat (.slc t) ((xs.1.take b).drop a)]) fun v hv => by
              obtain ⟨_, hab, hbm, bl', hbl, e⟩ := Cmp.of_one (hf.2 s _ v ha hv)
              injection e with e; subst e
              rw [h3] at hbl; injection hbl with hbl; injection hbl with hbl; subst hbl
              exact Cmp.one (bpart_holds hab hbm h6 h7))
            exact ⟨h8, by rw [h9]; simp⟩
          · exact lendArgs_at hm hx hz rest _ h hl hf
        · exact lendArgs_at hm hx hz rest _ h hl hf
      · exact lendArgs_at hm hx hz rest _ h hl hf
    · rename_i ls ha
      split at h
      · rename_i ls' hh hs hls
        split at h
        rename_i a1 l1 heq
        injection h with h1 h2; subst h1; subst h2
        obtain ⟨h8, h9⟩ := lendArgs_at hm hx hz rest _ heq (fun q hq => hl q (List.mem_append_right _ hq)) (hf.set (av := .vl true ls') fun v hv => by
          obtain ⟨cs, h3, h4⟩ := hf.2 s _ v ha hv
          exact ⟨cs, lendLs_at hm hx hz _ _ hls (fun q hq => hl q (List.mem_append_left _ hq)) h3, h4⟩)
        exact ⟨h8, by rw [h9]; simp⟩
      · exact lendArgs_at hm hx hz rest _ h hl hf
    · exact lendArgs_at hm hx hz rest _ h hl hf
end

/-! ### Calls -/

def resA : List AV → Option AV
  | [av] => some av
  | avs => match comps avs with
    | some cs => some (.tup cs)
    | none => none
where comps : List AV → Option (List (Bool × List Leaf))
  | [] => some []
  | .vl a ls :: rest => match comps rest with
    | some cs => some ((a, ls) :: cs)
    | none => none
  | _ => none

theorem comps_at {ρ : Nat → HI} {z : Zn} {n : Nat} : ∀ {avs : List AV} {cs : List (Bool × List Leaf)} {vs : List Value}, resA.comps avs = some cs → FrAt ρ z n avs vs → Cmps ρ z n cs vs
  | [], cs, vs, h, hf => by
    injection h with h; subst h
    exact List.eq_nil_of_length_eq_zero hf.1.symm
  | .vl a ls :: rest, cs, vs, h, hf => by
    unfold resA.comps at h
    split at h
    · rename_i cs' hc
      injection h with h; subst h
      match vs, hf with
      | [], hf => exact absurd hf.1 (by simp)
      | v :: vs, hf =>
        exact ⟨v, vs, rfl, hf.2 0 _ v rfl rfl, comps_at hc ⟨Nat.succ.inj hf.1, fun i a v hi hv => hf.2 (i + 1) a v hi hv⟩⟩
    · cases h
  | .top :: _, _, _, h, _ => by cases h
  | .und :: _, _, _, h, _ => by cases h
  | .tup _ :: _, _, _, h, _ => by cases h

theorem resA_at {ρ : Nat → HI} {z : Zn} {n : Nat} {avs : List AV} {av : AV} {vs : List Value} (h : resA avs = some av) (hf : FrAt ρ z n avs vs) : av.at ρ z n (resV vs) := by
  unfold resA at h
  split at h
  · injection h with h; subst h
    match vs, hf with
    | [v], hf => exact hf.2 0 _ v rfl rfl
    | [], hf => exact absurd hf.1 (by simp)
    | _ :: _ :: _, hf => exact absurd hf.1 (by simp)
  · rename_i hne
    split at h
    · rename_i cs hc
      injection h with h; subst h
      have hv : resV vs = .tuple vs.toArray := by
        match vs, hf with
        | [], _ => rfl
        | [v], hf =>
          match avs, hf.1, hne with
          | [a], _, hne => exact absurd rfl (hne a)
        | _ :: _ :: _, _ => rfl
      exact ⟨vs, comps_at hc hf, hv⟩
    · cases h

theorem resA_flat {avs : List AV} {av : AV} (h : resA avs = some av) (hf : avs.all AV.flat = true) : av.flat = true := by
  unfold resA at h
  split at h
  · injection h with h; subst h; simpa using hf
  · split at h
    · rename_i cs hc
      injection h with h; subst h
      have key : ∀ {avs : List AV} {cs : List (Bool × List Leaf)}, resA.comps avs = some cs → avs.all AV.flat = true → (cs.all fun c => c.2.all Leaf.flat) = true := by
        intro avs
        induction avs with
        | nil => intro cs h _; injection h with h; subst h; rfl
        | cons a rest ih =>
          intro cs h hf
          unfold resA.comps at h
          split at h
          · rename_i e; cases e
          · rename_i a' ls' rest' e
            injection e with e1 e2; subst e1; subst e2
            split at h
            · rename_i cs' hc
              injection h with h; subst h
              simp only [List.all_cons, Bool.and_eq_true] at hf ⊢
              exact ⟨hf.1, ih hc hf.2⟩
            · cases h
          · cases h
      exact key hc hf
    · cases h

theorem resA_nond {avs : List AV} {av : AV} (h : resA avs = some av) (hf : avs.all AV.nond = true) : av.nond = true := by
  unfold resA at h
  split at h
  · injection h with h; subst h; simpa using hf
  · split at h
    · rename_i cs hc
      injection h with h; subst h
      have key : ∀ {avs : List AV} {cs : List (Bool × List Leaf)}, resA.comps avs = some cs → avs.all AV.nond = true → (cs.all fun c => c.2.all Leaf.nond) = true := by
        intro avs
        induction avs with
        | nil => intro cs h _; injection h with h; subst h; rfl
        | cons a rest ih =>
          intro cs h hf
          unfold resA.comps at h
          split at h
          · rename_i e; cases e
          · rename_i a' ls' rest' e
            injection e with e1 e2; subst e1; subst e2
            split at h
            · rename_i cs' hc
              injection h with h; subst h
              simp only [List.all_cons, Bool.and_eq_true] at hf ⊢
              exact ⟨hf.1, ih hc hf.2⟩
            · cases h
          · cases h
      exact key hc hf
    · cases h

/-- Pieces that are handed over: none that stands still, but where it is looked at alone; none that is lent. -/
def okLk (k : Lk) (ro : List Nat) (kp : Nat) (lent : List Nat) : List Nat → Nat → Bool
  | [], _ => true
  | h :: π, j => (!(k.lk h) || (ro.contains j && Nat.blt j kp)) && !(lent.contains h) && okLk k ro kp lent π (j + 1)
theorem okLk_get {k : Lk} {ro : List Nat} {kp : Nat} {lent : List Nat} : ∀ {π : List Nat} {j0 : Nat}, okLk k ro kp lent π j0 = true → ∀ (j h : Nat), π[j]? = some h → (k.lk h = false ∨ (ro.contains (j0 + j) = true ∧ j0 + j < kp)) ∧ lent.contains h = false
  | [], _, _, j, h, e => by simp at e
  | x :: π, j0, hok, j, h, e => by
    simp only [okLk, Bool.and_eq_true, Bool.or_eq_true, Bool.not_eq_true'] at hok
    cases j with
    | zero =>
      simp at e; subst e
      exact ⟨hok.1.1.imp id fun h => ⟨h.1, Eq.mp Nat.blt_eq h.2⟩, hok.1.2⟩
    | succ j =>
      have := okLk_get hok.2 j h (by simpa using e)
      rwa [show j0 + 1 + j = j0 + (j + 1) from by omega] at this
theorem okLk_held {k : Lk} {ro : List Nat} {kp : Nat} {lent : List Nat} {π : List Nat} {X Xo : List Atom} (hok : okLk k ro kp lent π 0 = true) (ho : okPi X.length π = true) (hkp : kp ≤ π.length) (hXo : kp ≤ Xo.length) (hr : Ro ro (pick deadA X π) Xo) :
    ∀ i, k.lk i = true → i ∉ π ∨ ∃ j : Nat, π[j]? = some i ∧ (wide deadA kp π.length Xo)[j]? = X[i]? := by
  intro i hi
  by_cases hm : i ∈ π
  · right
    obtain ⟨j, hj⟩ := List.getElem?_of_mem hm
    refine ⟨j, hj, ?_⟩
    obtain ⟨h1, h2⟩ := (okLk_get hok j i hj).1.resolve_left (by rw [hi]; decide)
    rw [Nat.zero_add] at h1 h2
    have hjl := (List.getElem?_eq_some_iff.1 hj).1
    have hil := okPi_lt ho i hm
    have e1 : (pick deadA X π)[j]? = X[i]? := by
      unfold pick
      rw [List.getElem?_map, hj, List.getElem?_eq_getElem hil]
      simp [List.getD, hil]
    rw [← e1, ← hr j h1 (by unfold pick; simpa using hjl)]
    unfold wide
    rw [List.getElem?_append_left (by simp; omega), List.getElem?_take, if_pos h2]
  · exact .inl hm

/-- All tables of nodes are handed over. -/
def arIn (π : List Nat) : List Pc → Nat → Bool
  | [], _ => true
  | p :: ps, i => (!p.isAr || π.contains i) && arIn π ps (i + 1)
theorem arIn_get {π : List Nat} : ∀ {ps : List Pc} {i0 : Nat}, arIn π ps i0 = true → ∀ (i : Nat) (p : Pc), ps[i]? = some p → i0 + i ∉ π → p.isAr = false
  | [], _, _, i, p, e, _ => by simp at e
  | q :: ps, i0, h, i, p, e, hn => by
    simp only [arIn, Bool.and_eq_true, Bool.or_eq_true, Bool.not_eq_true'] at h
    cases i with
    | zero =>
      simp at e; subst e
      exact h.1.resolve_right fun hc => hn (by simpa using hc)
    | succ i => exact arIn_get h.2 i p (by simpa using e) (by rwa [show i0 + 1 + i = i0 + (i + 1) from by omega])
/-- No node is spoken of. -/
def noNd (st : St) : Bool := st.fr.all AV.nond && st.mem.all Pc.nond

theorem arIn_or {π : List Nat} {mem : List Pc} {st : St} (h : arIn π mem 0 = true ∨ noNd st = true) : ∃ b : Bool, (b = false → ∀ (i : Nat) (p : Pc), mem[i]? = some p → i ∉ π → p.isAr = false) ∧ (b = true → noNd st = true) := by
  rcases h with h | h
  · exact ⟨false, fun _ i p hp hn => arIn_get h i p hp (by rwa [Nat.zero_add]), fun e => by cases e⟩
  · exact ⟨true, fun e => (by cases e), fun _ => h⟩
theorem noNd_mem {st : St} (h : noNd st = true) : st.mem.all Pc.nond = true := by
  unfold noNd at h; rw [Bool.and_eq_true] at h; exact h.2
theorem noNd_fr {st : St} (h : noNd st = true) : st.fr.all AV.nond = true := by
  unfold noNd at h; rw [Bool.and_eq_true] at h; exact h.1

def xcall {R' : Type} (C : Con) (k : Lk) (args : List AV) (mem : List Pc) (K : AV → List Pc → Option R') : Option R' :=
  match lendArgs mem C.Tin.fr args with
  | (args', lent) => match C.Tin.match [] ⟨args', mem⟩ with
    | some (_, d, π) => match bdL π C.Tin.mem.length with
      | πl => match okPi mem.length πl && okLk k C.ro C.kp lent πl 0 && Nat.ble C.kp πl.length with
        | true => C.body.run d fun i o => match C.outs[i]? with
          | some (_, To) => match To.fill o with
            | some st1 => match Nat.ble C.kp st1.mem.length with
              | true => match st1.wide C.kp πl.length with
                | st' => match (lent.isEmpty && !k.sz && (arIn πl mem 0 || noNd st')) || (st'.fr.all AV.flat && st'.mem.all Pc.flat), resA st'.fr with
                  | true, some av => K (av.ren (renF πl mem.length)) (backM mem πl st'.mem)
                  | _, _ => none
              | false => none
            | none => none
          | none => none
        | false => none
    | none => none

section
variable {c : Cx} {ρ ρ' : Nat → HI} {Z Z' Z1 : Nat → Prop} {z z' z1 : Zn} {X : List Atom} {st : St} {l : List Value} {w w' : World}

/-- What an operation leaves, whatever comes behind it. -/
def Does {R' : Type} (c : Cx) (k : Lk) (ρ : Nat → HI) (Z : Nat → Prop) (z : Zn) (X : List Atom) (st : St) (l : List Value) (w : World) (o : Oper) (K : AV → List Pc → Option R') (r : R') : Prop :=
  ∀ (ops : Array Oper) (os : List Oper) (Q : Exit → Act → World → Prop), Region.wanted o (yielded ops l.toArray) = true →
    (∀ av mem v w' ρ' Z' z' X', K av mem = some r → av.at ρ' z' mem.length v → At c ρ' Z' z' X' ⟨st.fr, mem⟩ l w' → Later ρ ρ' z z' st.mem.length mem.length → Held k X X' Z Z' z z' → WL c.P ops Q os (Fr (dstSet o.dst l v)) w') →
    WL c.P ops Q (o :: os) (Fr l) w

theorem Acts.does {R' : Type} {k : Lk} {o : Oper} {K : AV → List Pc → Option R'} {r : R'} (h : Acts c k ρ Z z X st l w (execOp (Fr l).eval o) K r) : Does c k ρ Z z X st l w o K r := by
  intro ops os Q hw hK
  obtain ⟨av, mem, v, w', ρ', Z', z', X', h1, h2, h3, h4, h5, h6⟩ := h
  have K1 := hK av mem v w' ρ' Z' z' X' h1 h2 h3 h5 h6
  rcases h4 with h4 | ⟨h4, rfl⟩
  · exact step_val hw h4 K1
  · exact step_unit hw h4 K1

theorem FrAt.map_opd {G : Globs} (hf : FrAt ρ z st.mem.length st.fr l) (hg : GlAt G z) (xs : List Operand) : FrAt ρ z st.mem.length (xs.map (opd G st.fr)) (xs.map (Fr l).eval) := by
  refine ⟨by simp, fun i a v hi hv => ?_⟩
  rw [List.getElem?_map] at hi hv
  obtain ⟨x, h1, rfl⟩ := Option.map_eq_some_iff.1 hi
  obtain ⟨y, h2, rfl⟩ := Option.map_eq_some_iff.1 hv
  rw [h1] at h2; injection h2 with h2; subst h2
  exact opd_at hf hg x

theorem frAt_rep (ρ : Nat → HI) (z : Zn) (n : Nat) (l : List Value) : FrAt ρ z n (List.replicate l.length .top) l := by
  refine ⟨by simp, fun i a v hi hv => ?_⟩
  rw [List.getElem?_replicate] at hi
  split at hi
  · injection hi with hi; subst hi; trivial
  · cases hi

/-- A state that has the form, handed over: what the callee knows. -/
theorem match_at (h : At c ρ Z z X st l w) {T : Tm} {args : List AV} {vs : List Value} {st' : St} {d : List Sg} {π : Bd} (hmt : T.match [] ⟨args, st.mem⟩ = some (st', d, π)) (ho : okPi st.mem.length (bdL π T.mem.length) = true)
    (hZ : ∀ b, Z1 b → Z b ∨ ∃ i A, i ∉ bdL π T.mem.length ∧ X[i]? = some A ∧ A.dom b) (hZ' : ∀ b, Z b → Z1 b) (hf : FrAt ρ (z.up (cut Z1 (look w))) st.mem.length args vs) :
    At ⟨c.P, c.G, w, doms (pick deadA X (bdL π T.mem.length)), fun b => Z1 b ∨ doms (pick deadA X (bdL π T.mem.length)) b, z.up (cut Z1 (look w))⟩ (reN ρ π) Z1 (z.up (cut Z1 (look w))) (pick deadA X (bdL π T.mem.length)) st' vs w ∧ st'.mem.length = T.mem.length ∧
      ∀ i h, (bdL π T.mem.length)[i]? = some h → reN ρ π i = ρ h := by
  have hoX : okPi X.length (bdL π T.mem.length) = true := by rw [← h.mem.1]; exact ho
  have hzz : Ext z (z.up (cut Z1 (look w))) := Ext.up (by
    rw [← h.own.toI.zok]
    exact ext_cut hZ')
  have hre : ∀ i h, (bdL π T.mem.length)[i]? = some h → reN ρ π i = ρ h := by
    intro i h hi
    have hlt : i < T.mem.length := by have := (List.getElem?_eq_some_iff.1 hi).1; rwa [bdL_len] at this
    rw [bdL_get π _ i hlt] at hi
    injection hi with hi; subst hi
    rfl
  unfold Tm.match at hmt
  split at hmt
  · rename_i fr d1 π1 h1
    split at hmt
    · rename_i mem e1 π2 h2
      split at hmt
      · rename_i hb
        simp only [Bool.and_eq_true] at hb
        have hN := lk_lt hb.1
        have hb2 := Nat.eq_of_beq_eq_true hb.2
        injection hmt with hmt; injection hmt with h3 h4; injection h4 with h4 h5; subst h3; subst h5
        have hmz : MemAt ρ (z.up (cut Z1 (look w))) st.mem.length st.mem X := h.mem.later ⟨fun _ _ => rfl, hzz, Nat.le_refl _⟩ (Nat.le_refl _) rfl
        obtain ⟨h6, h7⟩ := matchMem_at hmz (Nat.le_refl _) h2 (Pre.refl _) hN
        have hml : mem.length = T.mem.length := h6
        have hfr : FrAt (reN ρ π2) (z.up (cut Z1 (look w))) T.mem.length fr vs := by
          refine matchFr_at h1 (matchMem_pre h2) hN hf ?_
          have := frAt_rep (reN ρ π2) (z.up (cut Z1 (look w))) T.mem.length vs
          rw [show T.n = vs.length from by rw [← hb2]; exact hf.1]
          exact this
        refine ⟨⟨by rw [hml]; exact hfr, ?_, ?_, Ext.refl _, h.gl.ext (h.ext.trans hzz), fun b hb => .inr hb⟩, hml, hre⟩
        · rw [hml]
          refine ⟨by rw [hml]; simp [pick, bdL_len], fun i p A hp hA => ?_⟩
          obtain ⟨q, hq, hX⟩ := pick_get hoX hA
          obtain ⟨hh, h8, h9⟩ := h7 i p hp
          rw [Nat.zero_add] at h8 h9
          have hlt : i < T.mem.length := by rw [← hml]; exact (List.getElem?_eq_some_iff.1 hp).1
          rw [bdL_get π2 _ i hlt, h8] at hq
          injection hq with hq
          have hq : hh = q := hq
          subst hq
          exact h9 A hX
        · exact (h.own.toI.pre hoX hZ).own
      · cases hmt
    · cases hmt
  · cases hmt

theorem xcall_does' {R' : Type} {k : Lk} (h : At c ρ Z z X st l w) {f : FuncId} {C : Con} (hC : FnOk c.P c.G f C) {avs : List AV} {vs : List Value} (hav : FrAt ρ z st.mem.length avs vs) {o : Oper} {K : AV → List Pc → Option R'} {r : R'}
    (hx : xcall C k avs st.mem K = some r) (hp : pev c.P (execOp (Fr l).eval o) = some (.enter f vs.toArray)) : Does c k ρ Z z X st l w o K r := by
  unfold xcall at hx
  split at hx
  rename_i args' lent hlend
  split at hx
  · rename_i st0 d π hmt
    simp only at hx
    generalize hπl : bdL π C.Tin.mem.length = πl at hx
    split at hx
    · rename_i hb
      simp only [Bool.and_eq_true] at hb
      have ho := hb.1.1
      have hkp := Nat.le_of_ble_eq_true hb.2
      have hπ : ∀ i ∈ πl, lent.contains i = false := fun i hi => by
        obtain ⟨j, hj⟩ := List.getElem?_of_mem hi
        exact (okLk_get hb.1.2 j i hj).2
      obtain ⟨i, out, hev, hK⟩ := Cn.nat _ hx
      split at hK
      · rename_i ex To hTo
        split at hK
        · rename_i st1 hfill
          split at hK
          · rename_i hkp1
            have hkp1 := Nat.le_of_ble_eq_true hkp1
            split at hK
            · rename_i av hbb hres
              intro ops os Q hw hk
              obtain ⟨Z1, hZ1⟩ : ∃ Z1 : Nat → Prop, ∀ b, Z1 b ↔ (Z b ∨ ∃ h0 ∈ lent, ∃ A, X[h0]? = some A ∧ A.dom b) := ⟨_, fun _ => Iff.rfl⟩
              have hlt : ∀ h0 ∈ lent, ∀ A, X[h0]? = some A → ∀ b, A.dom b → Z1 b := fun h0 hh A hA b hd => (hZ1 b).2 (.inr ⟨h0, hh, A, hA, hd⟩)
              have hzz : Ext z (z.up (cut Z1 (look w))) := Ext.up (by
                rw [← h.own.toI.zok]
                exact ext_cut fun b hb => (hZ1 b).2 (.inl hb))
              have hfa : FrAt ρ (z.up (cut Z1 (look w))) st.mem.length avs vs :=
                hav.later ⟨fun _ _ => rfl, hzz, Nat.le_refl _⟩
              obtain ⟨hfa', _⟩ := lendArgs_at h.mem h.own.toI.ok hzz _ _ hlend hlt hfa
              have hnl : ∀ h0 ∈ lent, h0 ∉ πl := fun h0 hh hm => by
                have h9 := hπ h0 hm
                rw [List.contains_iff_mem.2 hh] at h9
                cases h9
              obtain ⟨h1, h2, hre⟩ := match_at (Z1 := Z1) h hmt (by rw [hπl]; exact ho) (fun b hb => ((hZ1 b).1 hb).imp id fun ⟨h0, hh, A, hA, hd⟩ => ⟨h0, A, by rw [hπl]; exact hnl h0 hh, hA, hd⟩) (fun b hb => (hZ1 b).2 (.inl hb)) hfa'
              have hlen : πl.length = C.Tin.mem.length := by rw [← hπl, bdL_len]
              have hcall := hC w _ _ _ _ _ _ d st0 i out (match_fill hmt) h1 hev
              refine s_call f _ hw hp (hcall.mono fun e w' he => ?_)
              obtain ⟨ex', To', st2, ρ2, Z2, z2, Xo, us, rfl, h3, h4, h5, h6, hro⟩ := he
              rw [hTo] at h3; injection h3 with h3; injection h3 with _ h3; subst h3
              rw [hfill] at h4; injection h4 with h4; subst h4
              rw [hπl] at h5 hre hro
              have h5' := h5.wide (ρπ := reN ρ π) hkp1 hkp
              have h6' := wide_later h6 hkp
              rw [← St.wide_len hkp1] at h6'
              refine ⟨_, rfl, ?_⟩
              have hlk := okLk_held hb.1.2 (by rw [← h.mem.1]; exact ho) hkp (by rw [← h5.mem.1]; exact hkp1) hro
              have hva := resA_at hres h5'.fr
              have hle : πl.length ≤ (st1.wide C.kp πl.length).mem.length := by rw [St.wide_len hkp1]; omega
              simp only [Bool.or_eq_true, Bool.and_eq_true] at hbb
              rcases hbb with hno | hfl
              · have hsz : k.sz = false := by simpa using hno.1.2
                have hle0 : lent = [] := by simpa using hno.1.1
                subst hle0
                have hZe : Z1 = Z := by
                  funext b; apply propext
                  rw [hZ1 b]
                  exact ⟨fun hb => hb.elim id fun ⟨_, hh, _⟩ => (by cases hh), .inl⟩
                rw [hZe, h.own.toI.zok, Zn.up_self] at h5' h6'
                obtain ⟨b, hb0, hb1⟩ := arIn_or hno.2
                obtain ⟨z3, Z3, g1, g2, g3, g4⟩ := glue h ho hle h5' hre h6' k hlk (fun e => by rw [hsz] at e; cases e) b hb0 fun e => (noNd_mem (hb1 e))
                exact hk _ _ _ w' _ Z3 z3 _ hK (g4 _ _ (fun e => by rw [hsz] at e; cases e) (fun e => resA_nond hres (noNd_fr (hb1 e))) hva) g1 g2 g3
              · obtain ⟨g1, g2, g3, g4⟩ := glueL h ho hle h5' hre h6' k hlk hfl.2
                exact hk _ _ _ w' _ Z z _ hK (g4 _ _ (resA_flat hres hfl.1) hva) g1 g2 g3
            · cases hK
          · cases hK
        · cases hK
      · cases hK
    · cases hx
  · cases hx

theorem xcall_does {R' : Type} {k : Lk} (h : At c ρ Z z X st l w) {f : FuncId} {C : Con} (hC : FnOk c.P c.G f C) {xs : List Operand} {o : Oper} {K : AV → List Pc → Option R'} {r : R'}
    (hx : xcall C k (xs.map (opd c.G st.fr)) st.mem K = some r) (hp : pev c.P (execOp (Fr l).eval o) = some (.enter f (xs.map (Fr l).eval).toArray)) : Does c k ρ Z z X st l w o K r :=
  xcall_does' h hC (FrAt.map_opd h.fr h.gz xs) hx hp

/-- What a function value has captured, as arguments. -/
def capAVs (caps : List (Nat × Nat)) : List AV := caps.map fun c => .vl false [.ptr c.1 c.2]
theorem capAVs_at {n : Nat} : ∀ (cs : List (Nat × Nat)) (vs : List Value), CapsAt ρ n cs vs → FrAt ρ z n (capAVs cs) vs
  | [], vs, h => by rw [show vs = [] from h]; exact ⟨rfl, fun i a v hi => by simp [capAVs] at hi⟩
  | c :: cs, vs, ⟨b, us, h1, h2, h3, h4⟩ => by
    subst h3
    have := capAVs_at cs us h4
    refine ⟨congrArg (· + 1) this.1, fun i a v hi hv => ?_⟩
    cases i with
    | zero =>
      simp [capAVs] at hi hv
      subst hi; subst hv
      exact Cmp.one ⟨h1, b, h2, rfl⟩
    | succ i => exact this.2 i a v (by simpa [capAVs] using hi) (by simpa using hv)
theorem FrAt.app {n : Nat} {avs avs' : List AV} {vs vs' : List Value} (h : FrAt ρ z n avs vs) (h' : FrAt ρ z n avs' vs') : FrAt ρ z n (avs ++ avs') (vs ++ vs') := by
  refine ⟨by simp [h.1, h'.1], fun i a v hi hv => ?_⟩
  rw [List.getElem?_append] at hi hv
  rw [← h.1] at hv
  split at hi
  · rw [if_pos (by assumption)] at hv; exact h.2 i a v hi hv
  · rw [if_neg (by assumption)] at hv; exact h'.2 _ a v hi hv
end
end Go.Lift

/- A slice that is converted to its own type: its row is marked, and is read alone from now on. -/
namespace Go.Lift
open Go
set_option linter.unusedVariables false

def xmark {R' : Type} (P : Program) (k : Lk) (s d : TypeId) (x : AV) (mem : List Pc) (K : AV → List Pc → Option R') : Option R' :=
  match Nat.beq s d, P.underlying s, x.asLeaf with
  | true, some (.slice E), some (.row h) => match P.underlying E, k.lk h, k.sz with
    | some (.int .u8), false, false => match mem[h]? with
      | some (.row t xs) => match xs.isEmpty with
        | false => K (.vl false [.dat (.slc t) xs]) (mem.set h .dead)
        | true => none
      | _ => none
    | _, _, _ => none
  | _, _, _ => none

section
variable {c : Cx} {ρ ρ' : Nat → HI} {Z Z' : Nat → Prop} {z z' : Zn} {X : List Atom} {st : St} {l : List Value} {w w' : World}

/-- More of the old or new blocks are read alone. -/
theorem OwnI.zoneAdd {w0 : World} {D R : Nat → Prop} {S : Nat → Prop} (h : OwnI w0 D R w X Z z) (hS : ∀ b, S b → (R b ∨ w0.heap.size ≤ b) ∧ b < w.heap.size) (hX : ∀ (i : Nat) (A : Atom), X[i]? = some A → ∀ b, A.dom b → ¬ S b) :
    OwnI w0 D R w X (fun b => Z b ∨ S b) (z.up (cut (fun b => Z b ∨ S b) (look w))) where
  keep := h.keep
  ok := h.ok
  zok := rfl
  dom := h.dom
  zdom b hb := hb.elim (h.zdom b) (hS b)
  xx := h.xx
  xz i A hi b hb hz := hz.elim (h.xz i A hi b hb) (hX i A hi b hb)

theorem xmark_acts {R' : Type} {k : Lk} (h : At c ρ Z z X st l w) {s d : TypeId} {x : Operand} {K : AV → List Pc → Option R'} {r : R'} (hx : xmark c.P k s d (opd c.G st.fr x) st.mem K = some r) {o : Oper} (ho : o.op = .convert s d x) :
    Acts c k ρ Z z X st l w (execOp (Fr l).eval o) K r := by
  unfold xmark at hx
  split at hx
  · rename_i E hh hb hu hlf
    have hsd := Nat.eq_of_beq_eq_true hb
    subst hsd
    split at hx
    · rename_i hE hlk hsz
      split at hx
      · rename_i t xs hp
        split at hx
        · rename_i hemp
          obtain ⟨A, hA, hc, ch, he, rfl⟩ := h.mem.get hp
          obtain ⟨_, e⟩ := asLeaf_at hlf (opd_at h.fr h.gz x)
          injection e with e
          have hrow := h.own.xok _ (List.mem_of_getElem? hA)
          obtain ⟨hle, h'⟩ := row_facts hrow
          rcases h' with ⟨h1, h2⟩ | ⟨b, o', t', pre, sp, post, h1, h2, h3, mk, h4, hz'⟩
          · have : ch.length = 0 := by omega
            rw [← he.1] at this
            have := List.eq_nil_of_length_eq_zero this
            rw [this] at hemp; cases hemp
          · have hsh : w.shape? b = some (t', (pre ++ (flat t.enc ch ++ (sp ++ post))).toArray.size) := by
              unfold World.shape?; rw [h4]
            generalize hw' : w.freeze ⟨b, (pre ++ (flat t.enc ch ++ (sp ++ post))).toArray.size, none⟩ 1 = w'
            have hrun : (execOp (Fr l).eval o).run c.P w = .ok (.value (.slice (ρ hh).A (ρ hh).len (ρ hh).cap)) w' := by
              rw [← hw']
              unfold execOp
              simp only [ho, e, h1]
              unfold convert
              simp only [Sem.run_bind, run_underlying hu, run_underlying hE, Result.andThen_ok, beq_self_eq_true, markStringish, run_shape, hsh, run_freeze, Sem.run_pure]
            have hk : Keeps (rowA t.enc (ρ hh).A (ρ hh).cap ch).dom w w' := by
              rw [← hw']
              refine ⟨rfl, rfl, rfl, by simp [World.freeze], fun k _ hk => ?_⟩
              simp only [World.freeze]
              rw [if_neg (by decide)]
              simp only [Array.getElem?_modify]
              rw [if_neg (fun h => hk ⟨_, h1, h⟩)]
            have hsz' : w'.heap.size = w.heap.size := by rw [← hw']; simp [World.freeze]
            have hI := h.own.toI
            have h5 := (h.own.setAt (B := deadA) hh hA hk (deadA_at _) (fun b hb => hb.elim)).toI
            have hdom := hI.dom hh _ hA
            have h6 := h5.zoneAdd (S := (rowA t.enc (ρ hh).A (ρ hh).cap ch).dom) (fun b hb => ⟨(hdom b hb).1.imp (h.dr b) id, by rw [hsz']; exact (hdom b hb).2⟩) (fun i B hi b hb hS => by
              rw [List.getElem?_set] at hi
              split at hi
              · split at hi
                · injection hi with hi; subst hi; exact hb
                · cases hi
              · rename_i hne
                exact hI.xx i hh B _ (fun e => hne e.symm) hi hA b hb hS)
            have hzz : Ext z (z.up (cut (fun b => Z b ∨ (rowA t.enc (ρ hh).A (ρ hh).cap ch).dom b) (look w'))) := Ext.up (by
              have e0 := h5.zok
              rw [← e0]
              exact ext_cut fun b hb => .inl hb)
            have L : Later ρ ρ z (z.up (cut (fun b => Z b ∨ (rowA t.enc (ρ hh).A (ρ hh).cap ch).dom b) (look w'))) st.mem.length st.mem.length := ⟨fun _ _ => rfl, hzz, Nat.le_refl _⟩
            have el : (st.mem.set hh .dead).length = st.mem.length := by simp
            have hdead : (Pc.dead).is ρ (z.up (cut (fun b => Z b ∨ (rowA t.enc (ρ hh).A (ρ hh).cap ch).dom b) (look w'))) st.mem.length hh deadA := trivial
            refine ⟨_, _, _, w', ρ, _, _, _, hx, ?_, ⟨?_, ?_, h6.own, h.ext.trans hzz, h.gl, h.dr⟩, .inl hrun, by rw [el]; exact L, ⟨fun i hi hil => ?_, fun e => by rw [hsz] at e; cases e⟩⟩
            · rw [el]
              refine Cmp.one ⟨(ρ hh).A, (ρ hh).cap, ch, by rw [hc.2], by rw [he.1]; exact hle, he.mono fun _ _ => Ty.holds_ext hzz t _ _, .inr ⟨_, h1, fun j u hj => ?_⟩⟩
              have h7 := cell_row h2 h4 j u hj
              have h8 : (rowA t.enc (ρ hh).A (ρ hh).cap ch).dom ((⟨b, o', none⟩ : Addr).add j).block := ⟨_, h1, by rw [Addr.add_lit]⟩
              show cellAt (cut (fun b => Z b ∨ (rowA t.enc (ρ hh).A (ρ hh).cap ch).dom b) (look w')) _ = some u
              unfold cellAt
              rw [cut_pos (.inr h8)]
              show w'.cell? _ = some u
              rw [← hw', cellAt_freeze]
              exact h7
            · show FrAt _ _ (st.mem.set hh .dead).length _ _
              rw [el]; exact h.fr.later L
            · show MemAt _ _ (st.mem.set hh .dead).length _ _
              rw [el]; exact (h.mem.later L (Nat.le_refl _) rfl).put hdead
            · rw [List.getElem?_set, if_neg]
              rintro rfl
              rw [hlk] at hi; cases hi
        · cases hx
      · cases hx
    · cases hx
  · cases hx
end
end Go.Lift

/- Maps: made, written to. -/
namespace Go.Lift
open Go
set_option linter.unusedVariables false

section
variable {c : Cx} {ρ ρ' : Nat → HI} {Z Z' : Nat → Prop} {z z' : Zn} {X : List Atom} {st : St} {l : List Value} {w w' : World} {R' : Type}

/-- The kind of a map's values: what they point to is not changed any more. -/
def tyM (P : Program) : Nat → TypeId → Option Ty
  | 0, _ => none
  | d + 1, t => match P.underlying t with
    | some (.int k) => some (.int k)
    | some .bool => some .bool
    | some .string => some .str
    | some (.slice e) => (tyM P d e).map .slc
    | some (.map ..) => some .any
    | some (.pointer e) => match nodeB P e with
      | true => some .nd
      | false => (tyM P d e).map .pt
    | some (.struct fs) => fs.toList.foldr (fun f acc => match tyM P d f.type, acc with
      | some a, some b => some (.pair a b)
      | _, _ => none) (some .unit)
    | _ => none
def tyE (P : Program) (t : TypeId) : Option Ty := match tyOf P 8 t with
  | some v => some v
  | none => tyM P 8 t
def xmkmap (P : Program) (T : TypeId) (n : Option AV) (mem : List Pc) (K : AV → List Pc → Option R') : Option R' :=
  match P.underlying T, n with
  | some (.map kT eT), none => match tyOf P 8 kT, tyE P eT with
    | some k, some v => K (.vl false [.mpl mem.length]) (mem ++ [.mp k v []])
    | _, _ => none
  | _, _ => none

theorem xmkmap_acts {k : Lk} (h : At c ρ Z z X st l w) {T : TypeId} {n : Option Operand} {K : AV → List Pc → Option R'} {r : R'} (hx : xmkmap c.P T (n.map (opd c.G st.fr)) st.mem K = some r) {o : Oper} (ho : o.op = .makeMap T n) :
    Acts c k ρ Z z X st l w (execOp (Fr l).eval o) K r := by
  unfold xmkmap at hx
  split at hx
  · rename_i kT eT hu hn
    have hn : n = none := by cases n with | none => rfl | some x => cases hn
    subst hn
    split at hx
    · rename_i kt vt _ _
      have e1 := ext1_eq ρ st.mem.length ⟨some ⟨w.heap.size, 0, none⟩, 0, .unit, 0⟩
      refine acts_new (hi := ⟨some ⟨w.heap.size, 0, none⟩, 0, .unit, 0⟩) (B := mapA w.heap.size []) (v := .map (some w.heap.size)) (w' := w.alloc (.map #[] 0)) h hx ?_ (keeps_alloc' _ _ _) (map_mk (es := #[]) (clock := 0) (heap_alloc_new w _) rfl) (by rintro b rfl; exact ⟨Nat.le_refl _, by simp⟩)
        ⟨w.heap.size, [], by rw [e1], rfl, rfl⟩ (Cmp.one ⟨Nat.lt_succ_self _, w.heap.size, by rw [e1], rfl⟩)
      simp [execOp, ho, Instr.makeMap, newObj, Sem.run]
    · cases hx
  · cases hx

theorem setObj_heap (w : World) (b : Nat) (o o' : Obj) (h : w.heap[b]? = some o) : ({ w with heap := w.heap.setIfInBounds b o' } : World).heap[b]? = some o' := by
  show (w.heap.setIfInBounds b o')[b]? = _
  have hlt : b < w.heap.size := (Array.getElem?_eq_some_iff.1 h).1
  rw [Array.getElem?_setIfInBounds, if_pos rfl, if_pos hlt]
theorem setObj_keeps (w : World) (b : Nat) (o' : Obj) : Keeps (fun x => x = b) w { w with heap := w.heap.setIfInBounds b o' } :=
  ⟨rfl, rfl, rfl, by simp, fun i _ hi => by
    show (w.heap.setIfInBounds b o')[i]? = _
    rw [Array.getElem?_setIfInBounds, if_neg (fun e => hi e.symm)]⟩

theorem run_setMap {P : Program} {w : World} {b : Nat} {es : Array MapEntry} {clock : Nat} (o : Obj) (h : w.heap[b]? = some (.map es clock)) : (setObj b o).run P w = .ok () { w with heap := w.heap.setIfInBounds b o } := by
  simp [setObj, Sem.run, h]
theorem map_erase {α β : Type} (f : α → β) : ∀ (l : List α) (j : Nat), (l.eraseIdx j).map f = (l.map f).eraseIdx j
  | [], _ => rfl
  | _ :: _, 0 => rfl
  | a :: l, j + 1 => by simp [map_erase f l j]

/-- What is written by a key, and what is left without one. -/
def xupd (P : Program) (kT : TypeId) (i : AV) (k v : Ty) (xs : List (k.den × v.den)) (put : (BEq k.den) → k.den → Option R') : Option R' :=
  match k, xs, put with
  | .str, xs, put => match P.underlying kT, i.asStr with
    | some .string, some a => put (inferInstanceAs (BEq (List UInt8))) a
    | _, _ => none
  | .int q, xs, put => match P.underlying kT, i.asInt with
    | some (.int q1), some (q2, a) => match kindB q q1 && kindB q q2 with
      | true => put (inferInstanceAs (BEq Int)) a
      | false => none
    | _, _ => none
  | _, _, _ => none

theorem xupd_spec {P : Program} {kT : TypeId} {i : AV} {k v : Ty} {xs : List (k.den × v.den)} {put : (BEq k.den) → k.den → Option R'} {r : R'} {n : Nat} {vi : Value} (h : xupd P kT i k v xs put = some r) (hi : i.at ρ z n vi) :
    ∃ (B : BEq k.den) (a : k.den) (desc : TypeDesc), put B a = some r ∧ k.holds z a [vi] ∧ P.underlying kT = some desc ∧ (∀ e w, (Instr.checkKey e 10000 kT vi).run P w = .ok () w) ∧ @KeyS k.den B desc (fun a u => k.holds z a [u]) := by
  unfold xupd at h
  split at h
  · split at h
    · rename_i a hkT ha
      have hka := asStr_at ha hi
      subst hka
      exact ⟨_, a, _, h, rfl, hkT, fun e w => checkKey_str hkT, keyS_str⟩
    · cases h
  · split at h
    · rename_i q1 q2 a hkT ha
      have hka := asInt_at ha hi
      subst hka
      split at h
      · rename_i hb
        simp only [Bool.and_eq_true] at hb
        have h1 := kind_of_beq hb.1; have h2 := kind_of_beq hb.2
        subst h1; subst h2
        exact ⟨_, a, _, h, rfl, hkT, fun e w => checkKey_int hkT, keyS_int⟩
      · cases h
    · cases h
  · cases h

def xmapupd (P : Program) (lk : Lk) (T : TypeId) (m i x : AV) (mem : List Pc) (K : AV → List Pc → Option R') : Option R' :=
  match P.underlying T, m.asLeaf with
  | some (.map kT eT), some (.mpl h) => match lk.lk h, mem[h]? with
    | false, some (.mp k v xs) => match v.agg with
      | false => match x.asLeaf with
        | some (.dat u y) => Ty.as Ty.den u v y fun y => xupd P kT i k v xs fun B a => K .und (mem.set h (.mp k v (@mput _ _ B xs a y)))
        | _ => none
      | true => match x.asAgg with
        | some ls => mkL v ls fun y rest => match rest with
          | [] => xupd P kT i k v xs fun B a => K .und (mem.set h (.mp k v (@mput _ _ B xs a y)))
          | _ => none
        | none => none
    | _, _ => none
  | _, _ => none

theorem map_upd {P : Program} {T kT eT : TypeId} {α β : Type} [BEq α] {desc : TypeDesc} {K : α → Value → Prop} {V : β → Value → Prop} (hs : KeyS desc K) {key : α} {ku : Value} (hk : K key ku)
    (hT : P.underlying T = some (.map kT eT)) (hd : P.underlying kT = some desc) (hc : ∀ e w, (Instr.checkKey e 10000 kT ku).run P w = .ok () w) {y : β} {vu : Value} (hv : V y vu)
    {xs : List (α × β)} {b : Nat} {kvs : List (Value × Value)} (he : Ents K V xs kvs) {w : World} (hw : (mapA b kvs).at w) :
    ∃ es' clock' kvs', (Instr.mapUpdate T (.map (some b)) ku vu).run P w = .ok () { w with heap := w.heap.setIfInBounds b (.map es' clock') } ∧ es'.toList.map kv = kvs' ∧ Ents K V (mput xs key y) kvs' := by
  obtain ⟨es, clock, h1, h2⟩ := map_heap hw
  have hg := run_getObj_map (P := P) w b es clock h1
  have hset : ∀ o, (setObj b o).run P w = .ok () { w with heap := w.heap.setIfInBounds b o } := fun o => run_setMap o h1
  rcases findP_get hs hk xs kvs 0 he with ⟨g1, g2, g3, g4⟩ | ⟨j, y0, u, k0, g1, g2, g3, g4, g5, g6, g7⟩
  · have hf : Instr.findNow desc ku es.toList 0 = some none := by rw [findP_now, h2, g2]
    refine ⟨es.push ⟨ku, vu, clock⟩, clock + 1, kvs ++ [(ku, vu)], ?_, ?_, g4 _ _ hv⟩
    · unfold Instr.mapUpdate
      simp [run_underlying (h := hT), hg, hc, Instr.findKey, run_underlying (h := hd), hf, hset]
    · rw [Array.toList_push, List.map_append, h2]; rfl
  · have hf : Instr.findNow desc ku es.toList 0 = some (some (0 + j, u)) := by rw [findP_now, h2, g2]
    rw [Nat.zero_add] at hf
    obtain ⟨e, hej, hek⟩ : ∃ e, es[j]? = some e ∧ e.key = k0 := by
      rw [← h2, List.getElem?_map] at g4
      obtain ⟨e, he1, he2⟩ := Option.map_eq_some_iff.1 g4
      refine ⟨e, by rw [← Array.getElem?_toList]; exact he1, congrArg Prod.fst he2⟩
    have hst : (Instr.keyThatStays k0 ku).run P w = .ok ku w := by
      unfold Instr.keyThatStays
      rw [if_pos g5]; rfl
    refine ⟨es.modify j fun e => { e with key := ku, val := vu }, clock, kvs.set j (ku, vu), ?_, ?_, g6 _ _ hv⟩
    · unfold Instr.mapUpdate
      simp [run_underlying (h := hT), hg, hc, Instr.findKey, run_underlying (h := hd), hf, hset, hej, hek, hst]
    · rw [Array.toList_modify, ← h2]
      apply List.ext_getElem?
      intro i
      rw [List.getElem?_map, List.getElem?_modify, List.getElem?_set, List.length_map, List.getElem?_map]
      by_cases hij : j = i
      · subst hij
        have hlt : j < es.toList.length := by
          have := (Array.getElem?_eq_some_iff.1 hej).1
          simpa using this
        rw [if_pos rfl, if_pos hlt]
        rw [List.getElem?_eq_getElem hlt]
        simp [kv]
      · rw [if_neg hij]
        cases es.toList[i]? <;> simp [hij]

theorem xmapupd_acts {k : Lk} (h : At c ρ Z z X st l w) {T : TypeId} {m i x : Operand} {K : AV → List Pc → Option R'} {r : R'} (hx : xmapupd c.P k T (opd c.G st.fr m) (opd c.G st.fr i) (opd c.G st.fr x) st.mem K = some r) {o : Oper} (ho : o.op = .mapUpdate T m i x) :
    Acts c k ρ Z z X st l w (execOp (Fr l).eval o) K r := by
  unfold xmapupd at hx
  split at hx
  · rename_i kT eT hh hT hlf
    obtain ⟨_, b', e3, e⟩ := asLeaf_at hlf (opd_at h.fr h.gz m)
    injection e with e
    split at hx
    · rename_i kt vt xs hlk hp
      obtain ⟨A, hA, b, kvs, e1, e2, rfl⟩ := h.mem.get hp
      rw [e1] at e3; injection e3 with e3; injection e3 with e3; subst e3
      have fin : ∀ y : vt.den, (xupd c.P kT (opd c.G st.fr i) kt vt xs fun B a => K .und (st.mem.set hh (.mp kt vt (@mput _ _ B xs a y)))) = some r → vt.val z y ((Fr l).eval x) → Acts c k ρ Z z X st l w (execOp (Fr l).eval o) K r := by
        intro y hx' hv
        obtain ⟨B, a, desc, g1, g2, g3, g4, g5⟩ := xupd_spec hx' (opd_at h.fr h.gz i)
        obtain ⟨es', clock', kvs', g6, g7, g8⟩ := @map_upd c.P T kT eT kt.den vt.den B desc _ (fun y q => vt.val z y q) g5 a _ g2 hT g3 g4 _ _ hv xs b kvs e2 w (h.own.xok _ (List.mem_of_getElem? hA))
        obtain ⟨es, clock, h1, h2⟩ := map_heap (h.own.xok _ (List.mem_of_getElem? hA))
        have hlt : b < w.heap.size := (Array.getElem?_eq_some_iff.1 h1).1
        refine acts_put (v := undef) (w' := { w with heap := w.heap.setIfInBounds b (.map es' clock') }) h g1 hA hlk (.inr ⟨?_, rfl⟩) (setObj_keeps w b _) (map_mk (setObj_heap w b _ _ h1) g7) (fun q hq => ⟨.inl hq, by rw [show q = b from hq]; simpa using hlt⟩) ⟨b, kvs', e1, g8, rfl⟩ rfl
        simp [execOp, ho, e, g6]
      split at hx
      · rename_i hag
        split at hx
        · rename_i u y hxl
          obtain ⟨eq, hx'⟩ := Ty.as_some hx
          clear hx
          cases eq
          exact fin _ hx' ⟨_, asLeaf_at hxl (opd_at h.fr h.gz x), by rw [hag]⟩
        · cases hx
      · rename_i hag
        split at hx
        · rename_i ls hxl
          obtain ⟨cs, h1, h2⟩ := asAgg_at hxl (opd_at h.fr h.gz x)
          obtain ⟨y, rest, c1, d1, hK, e3, h3, h4⟩ := mkL_at vt hx h1
          split at hK
          · have h4 : d1 = [] := h4
            subst h4
            rw [List.append_nil] at e3; subst e3
            exact fin _ hK ⟨_, h3, by rw [hag]; exact h2⟩
          · cases hK
        · cases hx
    · cases hx
  · cases hx

def xmapdel (P : Program) (lk : Lk) (T : TypeId) (m i : AV) (mem : List Pc) (K : AV → List Pc → Option R') : Option R' :=
  match P.underlying T, m.asLeaf with
  | some (.map kT eT), some (.mpl h) => match lk.lk h, mem[h]? with
    | false, some (.mp k v xs) => xupd P kT i k v xs fun B a => K (.tup []) (mem.set h (.mp k v (@mdel _ _ B xs a)))
    | _, _ => none
  | _, _ => none

theorem map_del {P : Program} {T ty kT eT : TypeId} {Ts : Array TypeId} {α β : Type} [BEq α] {desc : TypeDesc} {K : α → Value → Prop} {V : β → Value → Prop} (hs : KeyS desc K) {key : α} {ku : Value} (hk : K key ku) (hTs : Ts[0]? = some T)
    (hT : P.underlying T = some (.map kT eT)) (hd : P.underlying kT = some desc) (hc : ∀ e w, (Instr.checkKey e 10000 kT ku).run P w = .ok () w)
    {xs : List (α × β)} {b : Nat} {kvs : List (Value × Value)} (he : Ents K V xs kvs) {w : World} (hw : (mapA b kvs).at w) :
    ∃ es' clock' kvs', (Builtin.delete_ Ts ty #[.map (some b), ku]).run P w = .ok (.tuple #[]) { w with heap := w.heap.setIfInBounds b (.map es' clock') } ∧ es'.toList.map kv = kvs' ∧ Ents K V (mdel xs key) kvs' := by
  obtain ⟨es, clock, h1, h2⟩ := map_heap hw
  have hg := run_getObj_map (P := P) w b es clock h1
  have hset : ∀ o, (setObj b o).run P w = .ok () { w with heap := w.heap.setIfInBounds b o } := fun o => run_setMap o h1
  rcases findP_get hs hk xs kvs 0 he with ⟨g1, g2, g3, g4⟩ | ⟨j, y0, u, k0, g1, g2, g3, g4, g5, g6, g7⟩
  · have hf : Instr.findNow desc ku es.toList 0 = some none := by rw [findP_now, h2, g2]
    refine ⟨es, clock, kvs, ?_, h2, by rw [g3]; exact he⟩
    unfold Builtin.delete_
    simp [hTs, run_underlying (h := hT), hg, hc, Instr.findKey, run_underlying (h := hd), hf, hset]
  · have hf : Instr.findNow desc ku es.toList 0 = some (some (0 + j, u)) := by rw [findP_now, h2, g2]
    rw [Nat.zero_add] at hf
    refine ⟨es.eraseIdxIfInBounds j, clock, kvs.eraseIdx j, ?_, ?_, g7⟩
    · unfold Builtin.delete_
      simp [hTs, run_underlying (h := hT), hg, hc, Instr.findKey, run_underlying (h := hd), hf, hset]
    · rw [← h2, ← map_erase]
      simp

theorem xmapdel_acts {k : Lk} (h : At c ρ Z z X st l w) {T T' : TypeId} {m i : Operand} {K : AV → List Pc → Option R'} {r : R'} (hx : xmapdel c.P k T (opd c.G st.fr m) (opd c.G st.fr i) st.mem K = some r) {o : Oper}
    (ho : o.op = .call { callee := .builtin .delete, args := #[m, i], argTypes := #[T, T'] }) :
    Acts c k ρ Z z X st l w (execOp (Fr l).eval o) K r := by
  unfold xmapdel at hx
  split at hx
  · rename_i kT eT hh hT hlf
    obtain ⟨_, b', e3, e⟩ := asLeaf_at hlf (opd_at h.fr h.gz m)
    injection e with e
    split at hx
    · rename_i kt vt xs hlk hp
      obtain ⟨A, hA, b, kvs, e1, e2, rfl⟩ := h.mem.get hp
      rw [e1] at e3; injection e3 with e3; injection e3 with e3; subst e3
      obtain ⟨B, a, desc, g1, g2, g3, g4, g5⟩ := xupd_spec hx (opd_at h.fr h.gz i)
      obtain ⟨es', clock', kvs', g6, g7, g8⟩ := @map_del c.P T o.type kT eT #[T, T'] kt.den vt.den B desc _ (fun y q => vt.val z y q) g5 a _ g2 rfl hT g3 g4 xs b kvs e2 w (h.own.xok _ (List.mem_of_getElem? hA))
      obtain ⟨es, clock, h1, h2⟩ := map_heap (h.own.xok _ (List.mem_of_getElem? hA))
      have hlt : b < w.heap.size := (Array.getElem?_eq_some_iff.1 h1).1
      refine acts_put (v := .tuple #[]) (w' := { w with heap := w.heap.setIfInBounds b (.map es' clock') }) h g1 hA hlk (.inl ?_) (setObj_keeps w b _) (map_mk (setObj_heap w b _ _ h1) g7) (fun q hq => ⟨.inl hq, by rw [show q = b from hq]; simpa using hlt⟩) ⟨b, kvs', e1, g8, rfl⟩ ⟨[], rfl, rfl⟩
      simp [execOp, ho, e, resolve, invoke, builtin, g6]
    · cases hx
  · cases hx
end
end Go.Lift

/- Rows that are read alone from some step on; slices of slices written out; slices of pointers; contracts chosen by what is handed over. -/
namespace Go.Lift
open Go
set_option linter.unusedVariables false

def frzL (h : Nat) (t : Ty) (xs : List t.den) : Leaf → Leaf
  | .row i => match Nat.beq i h with
    | true => .dat (.slc t) xs
    | false => .row i
  | .part i a b => match Nat.beq i h with
    | true => .dat (.slc t) ((xs.take b).drop a)
    | false => .part i a b
  | .elr i j off => match Nat.beq i h with
    | true => match xs[j]? with
      | some x => .eld t x off
      | none => .top
    | false => .elr i j off
  | l => l

def frzA (h : Nat) (t : Ty) (xs : List t.den) : AV → AV
  | .vl a ls => .vl a (ls.map (frzL h t xs))
  | .tup cs => .tup (cs.map fun c => (c.1, c.2.map (frzL h t xs)))
  | av => av

def frzP (h : Nat) (t : Ty) (xs : List t.den) : Pc → Pc
  | .box ls => .box (ls.map (frzL h t xs))
  | p => p

def AV.mapL (f : Leaf → Leaf) : AV → AV
  | .vl a ls => .vl a (ls.map f)
  | .tup cs => .tup (cs.map fun c => (c.1, c.2.map f))
  | av => av
def Pc.mapL (f : Leaf → Leaf) : Pc → Pc
  | .box ls => .box (ls.map f)
  | p => p

section
variable {c : Cx} {ρ ρ' : Nat → HI} {Z Z' : Nat → Prop} {z z' : Zn} {X X' : List Atom} {st : St} {l : List Value} {w w' : World} {n : Nat}

theorem inZ_at {t : Ty} {a : Addr} {ch : List (Chunk t.sz)} {j : Nat} {cc : Chunk t.sz} (h : InZ z a (flat t.enc ch)) (hc : ch[j]? = some cc) : InZ z (a.add (j * t.sz)) cc.1 := by
  intro i u hi
  obtain ⟨hj, rfl⟩ := List.getElem?_eq_some_iff.1 hc
  have hil : i < t.sz := by have := (List.getElem?_eq_some_iff.1 hi).1; rwa [(ch[j]).2.1] at this
  rw [add_add]
  refine h _ u ?_
  have := flat_get (e := t.enc) ch j i hj hil
  exact this.trans hi

/-- What is known of a row that lies in the zone. -/
structure Frz (ρ : Nat → HI) (z : Zn) (h : Nat) (t : Ty) (xs : List t.den) (ch : List (Chunk t.sz)) : Prop where
  ty : (ρ h).ty = t
  len : (ρ h).len = xs.length
  cap : xs.length ≤ (ρ h).cap
  els : Els (t.holds z) xs ch
  zone : (ρ h).A = none ∧ ch = [] ∨ ∃ a, (ρ h).A = some a ∧ InZ z a (flat t.enc ch)

theorem frzL_at {h : Nat} {t : Ty} {xs : List t.den} {ch : List (Chunk t.sz)} (F : Frz ρ z h t xs ch) : ∀ (lf : Leaf) (cs : List Value), lf.at ρ z n cs → (frzL h t xs lf).at ρ z n cs := by
  intro lf cs hl
  unfold frzL
  split
  · rename_i i
    split
    · rename_i hb
      have hb := Nat.eq_of_beq_eq_true hb; subst hb
      refine ⟨_, _, ch, ?_, F.cap, F.els, F.zone⟩
      rw [hl.2, F.len]
    · exact hl
  · rename_i i a b
    split
    · rename_i hb
      have hb := Nat.eq_of_beq_eq_true hb; subst hb
      obtain ⟨_, hab, hbl, pp, hpp, e⟩ := hl
      rw [F.len] at hbl
      rw [F.ty] at hpp
      have := cutAt_holds (z := z) hab hbl F.cap F.els F.zone hpp
      have hlen : ((xs.take b).drop a).length = b - a := by rw [List.length_drop, List.length_take]; omega
      rw [hlen] at this
      rw [e]
      exact this
    · exact hl
  · rename_i i j off
    split
    · rename_i hb
      have hb := Nat.eq_of_beq_eq_true hb; subst hb
      obtain ⟨_, hj, a, ha, e⟩ := hl
      split
      · rename_i x hx
        obtain ⟨cc, hc, hh⟩ := F.els.get hx
        rcases F.zone with ⟨h1, _⟩ | ⟨a', h1, h2⟩
        · rw [ha] at h1; cases h1
        · rw [ha] at h1; injection h1 with h1; subst h1
          exact ⟨a.add (j * t.sz), cc.1, hh, inZ_at h2 hc, by rw [e, F.ty]⟩
      · exact ⟨_, e, rfl⟩
    · exact hl
  · exact hl

theorem frzLs_at {h : Nat} {t : Ty} {xs : List t.den} {ch : List (Chunk t.sz)} (F : Frz ρ z h t xs ch) : ∀ (ls : List Leaf) (cs : List Value), Lvs ρ z n ls cs → Lvs ρ z n (ls.map (frzL h t xs)) cs
  | [], _, hl => hl
  | l :: ls, _, ⟨c, d, e, h1, h2⟩ => ⟨c, d, e, frzL_at F l _ h1, frzLs_at F ls _ h2⟩

theorem frzC_at {h : Nat} {t : Ty} {xs : List t.den} {ch : List (Chunk t.sz)} (F : Frz ρ z h t xs ch) : ∀ (cs : List (Bool × List Leaf)) (vs : List Value), Cmps ρ z n cs vs → Cmps ρ z n (cs.map fun c => (c.1, c.2.map (frzL h t xs))) vs
  | [], _, hl => hl
  | c :: cs, _, ⟨v, w, e, ⟨ys, h1, h2⟩, h3⟩ => ⟨v, w, e, ⟨ys, frzLs_at F _ _ h1, h2⟩, frzC_at F cs _ h3⟩

theorem frzA_at {h : Nat} {t : Ty} {xs : List t.den} {ch : List (Chunk t.sz)} (F : Frz ρ z h t xs ch) : ∀ (av : AV) (v : Value), av.at ρ z n v → (frzA h t xs av).at ρ z n v
  | .top, _, h => h
  | .und, _, h => h
  | .vl a ls, _, ⟨cs, h1, h2⟩ => ⟨cs, frzLs_at F _ _ h1, h2⟩
  | .tup cs, _, ⟨vs, h1, h2⟩ => ⟨vs, frzC_at F _ _ h1, h2⟩

theorem frzP_is {h : Nat} {t : Ty} {xs : List t.den} {ch : List (Chunk t.sz)} (F : Frz ρ z h t xs ch) {i : Nat} : ∀ (p : Pc) (A : Atom), p.is ρ z n i A → (frzP h t xs p).is ρ z n i A
  | .dead, _, _ => trivial
  | .box ls, _, ⟨b, cs, e1, e2, e3⟩ => ⟨b, cs, e1, frzLs_at F _ _ e2, e3⟩
  | .row u ys, _, e => e
  | .mp .., _, e => e
  | .ar .., _, e => e

theorem OwnI.freeze {w0 : World} {D R : Nat → Prop} {h : Nat} {A : Atom} (ho : OwnI w0 D R w X Z z) (dr : ∀ b, D b → R b) (hA : X[h]? = some A) :
    OwnI w0 D R w (X.set h deadA) (fun b => Z b ∨ A.dom b) (z.up (cut (fun b => Z b ∨ A.dom b) (look w))) := by
  have key : ∀ {i : Nat} {B : Atom}, (X.set h deadA)[i]? = some B → (i = h ∧ B = deadA) ∨ (i ≠ h ∧ X[i]? = some B) := by
    intro i B hi
    rw [List.getElem?_set] at hi
    split at hi
    · rename_i e
      split at hi
      · injection hi with hi; exact .inl ⟨e.symm, hi.symm⟩
      · cases hi
    · rename_i e; exact .inr ⟨fun e' => e e'.symm, hi⟩
  refine ⟨ho.keep, ?_, rfl, ?_, ?_, ?_, ?_⟩
  · intro i B hi
    rcases key hi with ⟨_, rfl⟩ | ⟨_, h1⟩
    · trivial
    · exact ho.ok i B h1
  · intro i B hi b hb
    rcases key hi with ⟨_, rfl⟩ | ⟨_, h1⟩
    · exact hb.elim
    · exact ho.dom i B h1 b hb
  · rintro b (hb | hb)
    · exact ho.zdom b hb
    · have := ho.dom h A hA b hb
      exact ⟨this.1.imp (dr b) id, this.2⟩
  · intro i j B B' hij hi hj b hb hb'
    rcases key hi with ⟨_, rfl⟩ | ⟨_, h1⟩
    · exact hb.elim
    · rcases key hj with ⟨_, rfl⟩ | ⟨_, h2⟩
      · exact hb'.elim
      · exact ho.xx i j B B' hij h1 h2 b hb hb'
  · rintro i B hi b hb hz
    rcases key hi with ⟨_, rfl⟩ | ⟨hne, h1⟩
    · exact hb.elim
    · rcases hz with hz | hz
      · exact ho.xz i B h1 b hb hz
      · exact ho.xx i h B A hne h1 hA b hb hz

theorem FrAt.map {f : AV → AV} (hf : ∀ av v, av.at ρ z n v → (f av).at ρ z n v) {fr : List AV} (h : FrAt ρ z n fr l) : FrAt ρ z n (fr.map f) l := by
  refine ⟨by simp [h.1], fun i a v hi hv => ?_⟩
  rw [List.getElem?_map] at hi
  obtain ⟨a', h1, rfl⟩ := Option.map_eq_some_iff.1 hi
  exact hf _ _ (h.2 i a' v h1 hv)

theorem MemAt.map {f : Pc → Pc} {mem : List Pc} (hf : ∀ i p A, p.is ρ z n i A → (f p).is ρ z n i A) (h : MemAt ρ z n mem X) : MemAt ρ z n (mem.map f) X := by
  refine ⟨by simp [h.1], fun i a v hi hv => ?_⟩
  rw [List.getElem?_map] at hi
  obtain ⟨a', h1, rfl⟩ := Option.map_eq_some_iff.1 hi
  exact hf _ _ _ (h.2 i a' v h1 hv)


theorem mapLs_at {f : Leaf → Leaf} (hf : ∀ lf cs, lf.at ρ z n cs → (f lf).at ρ z n cs) : ∀ (ls : List Leaf) (cs : List Value), Lvs ρ z n ls cs → Lvs ρ z n (ls.map f) cs
  | [], _, hl => hl
  | l :: ls, _, ⟨c, d, e, h1, h2⟩ => ⟨c, d, e, hf l _ h1, mapLs_at hf ls _ h2⟩
theorem mapC_at {f : Leaf → Leaf} (hf : ∀ lf cs, lf.at ρ z n cs → (f lf).at ρ z n cs) : ∀ (cs : List (Bool × List Leaf)) (vs : List Value), Cmps ρ z n cs vs → Cmps ρ z n (cs.map fun c => (c.1, c.2.map f)) vs
  | [], _, hl => hl
  | c :: cs, _, ⟨v, w, e, ⟨ys, h1, h2⟩, h3⟩ => ⟨v, w, e, ⟨ys, mapLs_at hf _ _ h1, h2⟩, mapC_at hf cs _ h3⟩
theorem mapA_at {f : Leaf → Leaf} (hf : ∀ lf cs, lf.at ρ z n cs → (f lf).at ρ z n cs) : ∀ (av : AV) (v : Value), av.at ρ z n v → (av.mapL f).at ρ z n v
  | .top, _, h => h
  | .und, _, h => h
  | .vl a ls, _, ⟨cs, h1, h2⟩ => ⟨cs, mapLs_at hf _ _ h1, h2⟩
  | .tup cs, _, ⟨vs, h1, h2⟩ => ⟨vs, mapC_at hf _ _ h1, h2⟩
theorem mapP_is {f : Leaf → Leaf} (hf : ∀ lf cs, lf.at ρ z n cs → (f lf).at ρ z n cs) {i : Nat} : ∀ (p : Pc) (A : Atom), p.is ρ z n i A → (p.mapL f).is ρ z n i A
  | .dead, _, _ => trivial
  | .box ls, _, ⟨b, cs, e1, e2, e3⟩ => ⟨b, cs, e1, mapLs_at hf _ _ e2, e3⟩
  | .row u ys, _, e => e
  | .mp .., _, e => e
  | .ar .., _, e => e

/-! ### Rows that are frozen by a step -/

/-- An array variable that is read alone from here on: what slices it. -/
def fbL (h : Nat) (ls : List Leaf) : Leaf → Leaf
  | .bpart i off t m a b => match Nat.beq i h with
    | true => match cutL ls off (m * t.sz) with
      | some [.dat (.arr m' u) xs] => match Nat.beq m m' && t.beq u with
        | true => .dat (.slc u) ((xs.1.take b).drop a)
        | false => .bpart i off t m a b
      | _ => .bpart i off t m a b
    | false => .bpart i off t m a b
  | l => l

theorem fbL_at {mem : List Pc} {Z1 : Nat → Prop} (hm : MemAt ρ z n mem X) (hx : ∀ (i : Nat) (A : Atom), X[i]? = some A → A.at w) (hz : Ext z (z.up (cut Z1 (look w)))) {h : Nat} {ls : List Leaf} (hp : mem[h]? = some (.box ls)) (hZ : ∀ A, X[h]? = some A → ∀ b, A.dom b → Z1 b) :
    ∀ (lf : Leaf) (cs : List Value), lf.at ρ (z.up (cut Z1 (look w))) n cs → (fbL h ls lf).at ρ (z.up (cut Z1 (look w))) n cs := by
  intro lf cs hl
  unfold fbL
  split
  · rename_i i off t m a b
    split
    · rename_i hi
      have hi := Nat.eq_of_beq_eq_true hi; subst hi
      split
      · rename_i m' u xs hcut
        split
        · rename_i hb
          simp only [Bool.and_eq_true] at hb
          have e1 := Nat.eq_of_beq_eq_true hb.1
          have e2 := Ty.of_beq hb.2
          subst e1; subst e2
          obtain ⟨bl, ch, h3, h6, h7⟩ := box_zone hm hx hz hp hcut hZ
          obtain ⟨_, hab, hbm, bl', hbl, e⟩ := hl
          rw [h3] at hbl; injection hbl with hbl; injection hbl with hbl; subst hbl
          rw [e]
          exact bpart_holds hab hbm h6 h7
        · exact hl
      · exact hl
    · exact hl
  · exact hl

def frzAll (k : Lk) : List Nat → St → Option St
  | [], st => some st
  | h :: hs, st => match k.lk h || k.sz with
    | true => none
    | false => match st.mem[h]? with
      | some (.row t xs) => frzAll k hs ⟨st.fr.map (frzA h t xs), (st.mem.map (frzP h t xs)).set h .dead⟩
      | some (.box ls) => frzAll k hs ⟨st.fr.map (AV.mapL (fbL h ls)), (st.mem.map (Pc.mapL (fbL h ls))).set h .dead⟩
      | _ => frzAll k hs st

theorem frz_one (h : At c ρ Z z X st l w) {hh : Nat} {t : Ty} {xs : List t.den} (hp : st.mem[hh]? = some (.row t xs)) :
    ∃ Z' z', At c ρ Z' z' (X.set hh deadA) ⟨st.fr.map (frzA hh t xs), (st.mem.map (frzP hh t xs)).set hh .dead⟩ l w ∧ Ext z z' := by
  obtain ⟨A, hA, _⟩ := h.mem.get hp
  have hI := h.own.toI
  have hzz : Ext z (z.up (cut (fun b => Z b ∨ A.dom b) (look w))) := Ext.up (by
    have e0 := hI.zok
    rw [← e0]
    exact ext_cut fun b hb => .inl hb)
  have L : Later ρ ρ z (z.up (cut (fun b => Z b ∨ A.dom b) (look w))) st.mem.length st.mem.length := ⟨fun _ _ => rfl, hzz, Nat.le_refl _⟩
  obtain ⟨ch, h3, h4, h5, h6, h7⟩ := row_zone (Z1 := fun b => Z b ∨ A.dom b) h.mem hI.ok hzz hp (fun B hB b hb => by rw [hA] at hB; injection hB with hB; subst hB; exact .inr hb)
  have F : Frz ρ (z.up (cut (fun b => Z b ∨ A.dom b) (look w))) hh t xs ch := ⟨h3, h4, h5, h6, h7⟩
  have e : ((st.mem.map (frzP hh t xs)).set hh .dead).length = st.mem.length := by simp
  refine ⟨_, _, ⟨?_, ?_, (hI.freeze h.dr hA).own, h.ext.trans hzz, h.gl, h.dr⟩, hzz⟩
  · show FrAt _ _ ((st.mem.map (frzP hh t xs)).set hh .dead).length _ _
    rw [e]; exact (h.fr.later L).map (frzA_at F)
  · show MemAt _ _ ((st.mem.map (frzP hh t xs)).set hh .dead).length _ _
    rw [e]
    exact ((h.mem.later L (Nat.le_refl _) rfl).map (fun i p A => frzP_is F p A)).put trivial

theorem frzb_one (h : At c ρ Z z X st l w) {hh : Nat} {ls : List Leaf} (hp : st.mem[hh]? = some (.box ls)) :
    ∃ Z' z', At c ρ Z' z' (X.set hh deadA) ⟨st.fr.map (AV.mapL (fbL hh ls)), (st.mem.map (Pc.mapL (fbL hh ls))).set hh .dead⟩ l w ∧ Ext z z' := by
  obtain ⟨A, hA, _⟩ := h.mem.get hp
  have hI := h.own.toI
  have hzz : Ext z (z.up (cut (fun b => Z b ∨ A.dom b) (look w))) := Ext.up (by
    have e0 := hI.zok
    rw [← e0]
    exact ext_cut fun b hb => .inl hb)
  have L : Later ρ ρ z (z.up (cut (fun b => Z b ∨ A.dom b) (look w))) st.mem.length st.mem.length := ⟨fun _ _ => rfl, hzz, Nat.le_refl _⟩
  have F := fbL_at (n := st.mem.length) (Z1 := fun b => Z b ∨ A.dom b) h.mem hI.ok hzz hp (fun B hB b hb => by rw [hA] at hB; injection hB with hB; subst hB; exact .inr hb)
  have e : ((st.mem.map (Pc.mapL (fbL hh ls))).set hh .dead).length = st.mem.length := by simp
  refine ⟨_, _, ⟨?_, ?_, (hI.freeze h.dr hA).own, h.ext.trans hzz, h.gl, h.dr⟩, hzz⟩
  · show FrAt _ _ ((st.mem.map (Pc.mapL (fbL hh ls))).set hh .dead).length _ _
    rw [e]; exact (h.fr.later L).map (mapA_at F)
  · show MemAt _ _ ((st.mem.map (Pc.mapL (fbL hh ls))).set hh .dead).length _ _
    rw [e]
    exact ((h.mem.later L (Nat.le_refl _) rfl).map (fun i p A => mapP_is F p A)).put trivial

theorem frzAll_at {k : Lk} : ∀ {hs : List Nat} {st st' : St} {Z : Nat → Prop} {z : Zn} {X : List Atom}, frzAll k hs st = some st' → At c ρ Z z X st l w →
    ∃ Z' z' X', At c ρ Z' z' X' st' l w ∧ Later ρ ρ z z' st.mem.length st'.mem.length ∧ st'.mem.length = st.mem.length ∧ X'.length = X.length ∧ Held k X X' Z Z' z z'
  | [], st, st', Z, z, X, h, ha => by
    injection h with h; subst h
    exact ⟨Z, z, X, ha, Later.refl .., rfl, rfl, fun _ _ _ => rfl, fun _ => ⟨rfl, rfl⟩⟩
  | hh :: hs, st, st', Z, z, X, h, ha => by
    unfold frzAll at h
    split at h
    · cases h
    · rename_i hk
      rw [Bool.or_eq_false_iff] at hk
      split at h
      · rename_i t xs hp
        obtain ⟨Z1, z1, h1, h2⟩ := frz_one ha hp
        obtain ⟨Z2, z2, X2, h3, h4, h5, h6, h7⟩ := frzAll_at h h1
        have e : ((st.mem.map (frzP hh t xs)).set hh .dead).length = st.mem.length := by simp
        rw [show (⟨st.fr.map (frzA hh t xs), (st.mem.map (frzP hh t xs)).set hh .dead⟩ : St).mem.length = st.mem.length from e] at h4 h5
        refine ⟨Z2, z2, X2, h3, ⟨fun _ _ => rfl, h2.trans h4.z, h4.n⟩, h5, by rw [h6]; simp, fun i hi hx => ?_, fun e => by rw [hk.2] at e; cases e⟩
        rw [h7.x i hi (by simpa using hx), List.getElem?_set]
        split
        · rename_i e'; subst e'; rw [hk.1] at hi; cases hi
        · rfl
      · rename_i ls hp
        obtain ⟨Z1, z1, h1, h2⟩ := frzb_one ha hp
        obtain ⟨Z2, z2, X2, h3, h4, h5, h6, h7⟩ := frzAll_at h h1
        have e : ((st.mem.map (Pc.mapL (fbL hh ls))).set hh .dead).length = st.mem.length := by simp
        rw [show (⟨st.fr.map (AV.mapL (fbL hh ls)), (st.mem.map (Pc.mapL (fbL hh ls))).set hh .dead⟩ : St).mem.length = st.mem.length from e] at h4 h5
        refine ⟨Z2, z2, X2, h3, ⟨fun _ _ => rfl, h2.trans h4.z, h4.n⟩, h5, by rw [h6]; simp, fun i hi hx => ?_, fun e => by rw [hk.2] at e; cases e⟩
        rw [h7.x i hi (by simpa using hx), List.getElem?_set]
        split
        · rename_i e'; subst e'; rw [hk.1] at hi; cases hi
        · rfl
      · exact frzAll_at h ha

/-- First rows are frozen, then something is done. -/
theorem acts_frz {R' : Type} {k : Lk} {s : Sem Next} {K : AV → List Pc → Option R'} {r : R'} {st' : St} (h : At c ρ Z z X st l w) (L : Later ρ ρ z z' st.mem.length st'.mem.length) (hl : X'.length = X.length) (H : Held k X X' Z Z' z z')
    (ha : Acts c k ρ Z' z' X' st' l w s K r) : Acts c k ρ Z z X st l w s K r := by
  obtain ⟨av, mem, v, w1, ρ1, Z1, z1, X1, hK, hv, hA, hr, L1, H1⟩ := ha
  refine ⟨av, mem, v, w1, ρ1, Z1, z1, X1, hK, hv, ⟨h.fr.later (L.trans L1), hA.mem, hA.own, hA.ext, hA.gl, hA.dr⟩, hr, L.trans L1, fun i hi hx => ?_, fun e => ?_⟩
  · rw [H1.x i hi (by rw [hl]; exact hx), H.x i hi hx]
  · obtain ⟨e1, e2⟩ := H1.z e
    obtain ⟨e3, e4⟩ := H.z e
    exact ⟨e1.trans e3, e2.trans e4⟩

def rowsLf : List Leaf → List Nat
  | [] => []
  | .row h :: r => h :: rowsLf r
  | .part h _ _ :: r => h :: rowsLf r
  | .bpart h .. :: r => h :: rowsLf r
  | _ :: r => rowsLf r
def rowsIn : List AV → List Nat
  | [] => []
  | .vl _ ls :: r => rowsLf ls ++ rowsIn r
  | _ :: r => rowsIn r

/-- A slice of pointers written out: its cells are a variable of their own. -/
def xlitP {R' : Type} (P : Program) (T : TypeId) (m : Nat) (ps : List (Nat × AV)) (mem : List Pc) (K : AV → List Pc → Option R') : Option R' :=
  match P.underlying T with
  | some (.slice E) => match zeroL P E, P.info? E with
    | some zs, some i => match Nat.beq (szs zs) 1 && Nat.beq i.size 1 && Nat.ble m 16777216 with
      | true => match fillL (fun i => some (i, 1)) (List.replicate m zs).flatten ps with
        | some ls => K (.vl false [.bsl mem.length m]) (mem ++ [.box ls])
        | none => none
      | false => none
    | _, _ => none
  | _ => none

theorem xlitP_acts {R' : Type} {k : Lk} (h : At c ρ Z z X st l w) {T : TypeId} {m : Nat} {ps : Array (Nat × Operand)} {K : AV → List Pc → Option R'} {r : R'}
    (hx : xlitP c.P T m (ps.toList.map fun p => (p.1, opd c.G st.fr p.2)) st.mem K = some r) {o : Oper} (ho : o.op = .buildSlice T m ps) : Acts c k ρ Z z X st l w (execOp (Fr l).eval o) K r := by
  unfold xlitP at hx
  split at hx
  · rename_i E hu
    split at hx
    · rename_i zs i hz hi
      split at hx
      · rename_i hb
        simp only [Bool.and_eq_true] at hb
        have hb1 := Nat.eq_of_beq_eq_true hb.1.1
        have hb2 := Nat.eq_of_beq_eq_true hb.1.2
        have hb3 := Nat.le_of_ble_eq_true hb.2
        split at hx
        · rename_i ls hf
          obtain ⟨i', v, cs, h1, h2, h3, h4⟩ := zeroL_spec hz
          rw [hi] at h1; injection h1 with h1; subst h1
          have h5 := h4 ρ z st.mem.length
          have hcl : cs.length = 1 := by rw [Lvs.len _ _ h5, hb1]
          obtain ⟨cs', h6, h7⟩ := fillL_at hf (h5.replicate m) (parts_at h.fr h.gz ps.toList)
          have hvc : v.cells.size = i.size := by rw [h3, hb2]; simpa using hcl
          have hcells : (Array.range (m * i.size)).map ((if m * i.size = 0 then #[] else v.cells)[· % (if m * i.size = 0 then #[] else v.cells).size]!) = ((List.replicate m cs).flatten).toArray := by
            by_cases h0 : m * i.size = 0
            · have : (List.replicate m cs).flatten = [] := by
                rcases Nat.mul_eq_zero.1 h0 with h0 | h0
                · subst h0; rfl
                · omega
              rw [this, h0]; simp
            · rw [if_neg h0, h3, ← made_cells, hcl, hb2]
          have hr := run_buildSlice (P := c.P) (w := w) (T := T) (E := E) (n := m) (bytes := i.bytes) (parts := ps.map fun (i, x) => (i, (Fr l).eval x)) (cs := cs'.toArray) hu hi h2 (by rw [hb2, Nat.mul_one]; exact hb3) (by
            rw [hcells, hb2]
            have : (ps.map fun (i, x) => (i, (Fr l).eval x)).toList = ps.toList.map fun p => (p.1, (Fr l).eval p.2) := by simp
            rw [this]
            simpa using h6)
          have L := later1 ρ z st.mem.length ⟨some ⟨w.heap.size, 0, none⟩, 0, .unit, 0⟩
          have he := congrArg HI.A (ext1_eq ρ st.mem.length ⟨some ⟨w.heap.size, 0, none⟩, 0, .unit, 0⟩)
          refine acts_new (hi := ⟨some ⟨w.heap.size, 0, none⟩, 0, .unit, 0⟩) h hx ?_ (keeps_alloc' _ _ _) (box_at_new (E := E) w) (by rintro b rfl; exact ⟨Nat.le_refl _, by simp⟩)
            ⟨w.heap.size, cs', he, Lvs.later L _ _ h7, rfl⟩ (Cmp.one ⟨Nat.lt_succ_self _, w.heap.size, he, rfl⟩)
          unfold execOp
          simp only [ho, Sem.run_bind, Sem.run_pure, Result.andThen_ok, hr]
        · cases hx
      · cases hx
    · cases hx
  · cases hx

def ptrEl (P : Program) (T : TypeId) : Bool := match P.underlying T with
  | some (.slice E) => match P.underlying E with
    | some (.pointer _) => true
    | _ => false
  | _ => false

/-- A slice written out: of plain things, of slices (rows among them are frozen), of pointers. -/
def xlits {R' : Type} (P : Program) (G : Globs) (k : Lk) (T : TypeId) (m : Nat) (ps : List (Nat × Operand)) (st : St) (K : AV → List Pc → Option R') : Option R' :=
  match ptrEl P T with
  | true => xlitP P T m (ps.map fun p => (p.1, opd G st.fr p.2)) st.mem K
  | false => match rowsIn (ps.map fun p => opd G st.fr p.2) with
    | [] => xlit P T m (ps.map fun p => (p.1, opd G st.fr p.2)) st.mem K
    | hs => match frzAll k hs st with
      | some st' => xlit P T m (ps.map fun p => (p.1, opd G st'.fr p.2)) st'.mem K
      | none => none

theorem xlits_acts {R' : Type} {k : Lk} (h : At c ρ Z z X st l w) {T : TypeId} {m : Nat} {ps : Array (Nat × Operand)} {K : AV → List Pc → Option R'} {r : R'}
    (hx : xlits c.P c.G k T m ps.toList st K = some r) {o : Oper} (ho : o.op = .buildSlice T m ps) : Acts c k ρ Z z X st l w (execOp (Fr l).eval o) K r := by
  unfold xlits at hx
  split at hx
  · exact xlitP_acts h hx ho
  · split at hx
    · exact xlit_acts h hx ho
    · split at hx
      · rename_i st' hf
        obtain ⟨Z', z', X', h1, h2, _, h3, h4⟩ := frzAll_at hf h
        exact acts_frz h h2 h3 h4 (xlit_acts h1 hx ho)
      · cases hx

/-! ### Contracts: the first one that fits -/

def fitsB (C : Con) (args : List AV) (mem : List Pc) : Bool := match lendArgs mem C.Tin.fr args with
  | (args', _) => match C.Tin.match [] ⟨args', mem⟩ with
    | some _ => true
    | none => false
end
end Go.Lift
