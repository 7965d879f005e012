/- Code, its plain model, functions, the way from a contract to a row. -/
import Derived.Test.YtogbjlmmedfhbaaEc
import Derived.LoopN
import Derived.Test.YtogbjlmmedfhbaaEb
import Derived.Test.YtogbjlmmedfhbaaEa
import Derived.Lib.LaidTab
import Derived.Deep.Strs
import Derived.SizedLaws
/- Lists of operations, regions, and code, run on what is known. -/
namespace Go.Lift
open Go
set_option linter.unusedVariables false

abbrev Ctr := List (Nat × Con)
def moreB (f : Nat) : Ctr → Bool
  | [] => false
  | e :: Γ => Nat.beq e.1 f || moreB f Γ

/-- The contract of a function; where it has more than one, the first that fits. -/
def ctrOf (f : Nat) (args : List AV) (mem : List Pc) : Ctr → Option Con
  | [] => none
  | e :: Γ => match Nat.beq e.1 f with
    | true => match moreB f Γ with
      | false => some e.2
      | true => match fitsB e.2 args mem with
        | true => some e.2
        | false => ctrOf f args mem Γ
    | false => ctrOf f args mem Γ

theorem ctrOf_ok {P : Program} {G : Globs} {f : Nat} {args : List AV} {mem : List Pc} {C : Con} : ∀ {Γ : Ctr}, (∀ e ∈ Γ, FnOk P G e.1 e.2) → ctrOf f args mem Γ = some C → FnOk P G f C
  | [], _, h => by cases h
  | e :: Γ, hΓ, h => by
    have rest : ctrOf f args mem Γ = some C → FnOk P G f C := fun h => ctrOf_ok (args := args) (mem := mem) (fun e he => hΓ e (List.mem_cons_of_mem _ he)) h
    unfold ctrOf at h
    split at h
    · rename_i hb
      have key : some e.2 = some C → FnOk P G f C := fun h => by
        injection h with h; subst h
        rw [← Nat.eq_of_beq_eq_true hb]
        exact hΓ e (List.mem_cons_self ..)
      split at h
      · exact key h
      · split at h
        · exact key h
        · exact rest h
    · exact rest h

/-- A function that has a body. -/
def callB (P : Program) (f : Nat) : Bool := match P.funcs[f]? with
  | some fn => !(fn.name == "runtime.NumGoroutine") && !fn.body.isNone
  | none => false

theorem callB_spec {P : Program} {f : Nat} (h : callB P f = true) (args : Array Value) : pev P (callFunc f args) = some (.enter f args) := by
  unfold callB at h
  split at h
  · rename_i fn hf
    simp only [Bool.and_eq_true, Bool.not_eq_true'] at h
    show pev P (program.bind fun p => _) = _
    simp only [program, Sem.bind, pev, hf, h.1, h.2]
    rfl
  · cases h

/-- How a function that is run on the spot is run. -/
abbrev Hd (R : Type) := Lk → Nat → List AV → List Pc → (AV → List Pc → Option R) → Option R
structure Gam (R : Type) where
  cs : Ctr
  h : Hd R

section
variable {R : Type}

/-- What may be looked at: the pieces that are not turned meanwhile. -/
def onlyP (f : Nat → Bool) : List Pc → Nat → List Pc
  | [], _ => []
  | p :: ps, i => (match f i with | true => p | false => .dead) :: onlyP f ps (i + 1)
def onlyX (f : Nat → Bool) : List Atom → Nat → List Atom
  | [], _ => []
  | p :: ps, i => (match f i with | true => p | false => deadA) :: onlyX f ps (i + 1)

/-- One operation. -/
noncomputable def xdo (P : Program) (G : Globs) (Γ : Gam R) (k : Lk) (o : Oper) (st : St) (K : AV → List Pc → Option R) : Option R :=
  match o.op with
  | .alloc E => xalloc P E st.mem K
  | .convert s d x => match Nat.beq s d, P.underlying s with
    | true, some (.slice _) => xmark P k s d (opd G st.fr x) st.mem K
    | false, some .string => match P.underlying d with
      | some (.slice _) => xsbytes P s d (opd G st.fr x) st.mem K
      | _ => xlook P G o st fun av => K av st.mem
    | _, _ => xlook P G o st fun av => K av st.mem
  | .makeSlice T n cp => xmake P T (opd G st.fr n) (opd G st.fr cp) st.mem K
  | .box _ x => xbox (opd G st.fr x) st.mem K
  | .makeMap T n => xmkmap P T (n.map (opd G st.fr)) st.mem K
  | .mapUpdate T m i x => xmapupd P k T (opd G st.fr m) (opd G st.fr i) (opd G st.fr x) st.mem K
  | .store T a x => match (opd G st.fr a).asLeaf with
    | some lf => xstore P k T lf (opd G st.fr x) st.mem K
    | none => none
  | .buildSlice T m ps => xlits P G k T m ps.toList st K
  | .call c => match c.callee with
    | .builtin .append => match c.args.toList, c.argTypes.toList with
      | [x, y], [T, T'] => match P.underlying T' with
        | some (.int _) => xappendZ P k T T' (opd G st.fr x) (opd G st.fr y) st.mem K
        | _ => xappend P k T T' (opd G st.fr x) (opd G st.fr y) st.mem K
      | _, _ => none
    | .builtin .copy => match c.args.toList, c.argTypes.toList with
      | [x, y], [T, T'] => xcopy P k T T' (opd G st.fr x) (opd G st.fr y) st.mem K
      | _, _ => none
    | .builtin .delete => match c.args.toList, c.argTypes.toList with
      | [x, y], [T, T'] => xmapdel P k T (opd G st.fr x) (opd G st.fr y) st.mem K
      | _, _ => none
    | .value f => match (opd G st.fr f).asLeaf with
      | some (.fn g) => match callB P g with
        | true => match ctrOf g (c.args.toList.map (opd G st.fr)) st.mem Γ.cs with
          | some C => xcall C k (c.args.toList.map (opd G st.fr)) st.mem K
          | none => Γ.h k g (c.args.toList.map (opd G st.fr)) st.mem K
        | false => none
      | some (.clo g caps) => match callB P g with
        | true => match ctrOf g (c.args.toList.map (opd G st.fr) ++ capAVs caps) st.mem Γ.cs with
          | some C => xcall C k (c.args.toList.map (opd G st.fr) ++ capAVs caps) st.mem K
          | none => Γ.h k g (c.args.toList.map (opd G st.fr) ++ capAVs caps) st.mem K
        | false => none
      | _ => none
    | _ => xlook P G o st fun av => K av st.mem
  | _ => xlook P G o st fun av => K av st.mem

def St.put (st : St) (d : Option Tmp) (av : AV) : St := match d with
  | some d => ⟨st.fr.set d av, st.mem⟩
  | none => st

/-- From now on it is known. -/
def St.know (st : St) (d : Tmp) (b : Bool) : St := ⟨st.fr.set d (avB b), st.mem⟩

def St.knowO (st : St) (c : Operand) (b : Bool) : St := match c with
  | .tmp d => st.know d b
  | _ => st
theorem St.knowO_mem (st : St) (c : Operand) (b : Bool) : (st.knowO c b).mem = st.mem := by
  unfold St.knowO; split <;> rfl

/-- Is the operation wanted? -/
def xguard (ops : List Oper) (o : Oper) (st : St) (run skip : St → Option R) : Option R :=
  match o.guard with
  | none => run st
  | some (j, want) => match (ops[j]?).bind (·.dst) with
    | some d => match st.fr.getD d .und with
      | .und => skip st
      | av => match av.asBool with
        | some b => if b = true then (match want with | true => run (st.know d true) | false => skip (st.know d true)) else (match want with | true => skip (st.know d false) | false => run (st.know d false))
        | none => none
    | none => none

def lk0 : Lk := ⟨fun _ => false, false⟩
/-- More pieces stand still. -/
def Lk.more (k : Lk) (f : Nat → Bool) : Lk := ⟨fun i => k.lk i || f i, k.sz⟩

noncomputable def xops (P : Program) (G : Globs) (Γ : Gam R) (k : Lk) (ops : List Oper) : List Oper → St → (St → Option R) → Option R
  | [], st, K => K st
  | o :: os, st, K => xguard ops o st (fun st => xdo P G Γ k o st fun av mem => xops P G Γ k ops os (St.put ⟨st.fr, mem⟩ o.dst av) K) (fun st => xops P G Γ k ops os (st.put o.dst .und) K)

/-! ### Regions that draw their order -/

def floatB (P : Program) (o : Oper) : Bool := match o.op with
  | .move _ | .pick .. | .unOp .. | .binOp .. | .extract .. | .nilCheck _ | .fieldAddr .. | .field .. | .build .. | .load .. | .indexAddr .. | .index .. | .slice .. => true
  | .convert s d _ => match P.underlying s, P.underlying d with
    | some (.int _), some (.int _) => true
    | _, _ => false
  | .call c => match c.callee with
    | .builtin .len | .builtin .max | .builtin .min => true
    | _ => false
  | _ => false

/-- Each operation's group: it waits for so many links. -/
def groups (P : Program) : List Oper → Nat → List (Bool × Nat) → List (Bool × Nat)
  | [], _, acc => acc
  | o :: os, links, acc =>
    let g := o.after.toList.foldl (fun m e => if Region.binds .any e = true then Nat.max m (acc.getD e.on (true, 0)).2 else m) 0
    if floatB P o = true then groups P os links (acc ++ [(true, g)]) else groups P os (links + 1) (acc ++ [(false, links + 1)])

def idxOf (f : Bool × Nat → Bool) : List (Bool × Nat) → Nat → List Nat
  | [], _ => []
  | x :: xs, i => if f x = true then i :: idxOf f xs (i + 1) else idxOf f xs (i + 1)

def order (P : Program) (ops : List Oper) : List (Bool × Nat) :=
  let gs := groups P ops 0 []
  let n := (gs.filter fun x => !x.1).length
  (List.range (n + 1)).flatMap fun g => ((idxOf (fun x => !x.1 && Nat.beq x.2 g) gs 0).map fun i => (false, i)) ++ ((idxOf (fun x => x.1 && Nat.beq x.2 g) gs 0).map fun i => (true, i))

/-- The pieces that stand still till the next link that waits for all. -/
def lkF (ms : List Nat) (n0 : Nat) : Nat → Bool := fun i => Nat.blt i n0 && !(ms.contains i)

/-- It looks at nothing. -/
def quietB (o : Oper) : Bool := match o.op with
  | .move _ => true
  | _ => false
def nextFl (o : Oper) (i : Nat) (fl : List Nat) : List Nat := match quietB o with
  | true => fl
  | false => i :: fl

noncomputable def xwalk (P : Program) (G : Globs) (Γ : Gam R) (k : Lk) (ms : List Nat) (ops : List Oper) : List (Bool × Nat) → Nat → List Nat → St → (St → Option R) → Option R
  | [], n0, fl, st, K => K st
  | (b, i) :: π, n0, fl, st, K => match ops[i]? with
    | some o => match b with
      | true => match ownB ops o with
        | true => xguard ops o st (fun st => xlook P G o ⟨st.fr, onlyP (lkF ms n0) st.mem 0⟩ fun av => xwalk P G Γ k ms ops π n0 (nextFl o i fl) (st.put o.dst av) K) (fun st => xwalk P G Γ k ms ops π n0 fl (st.put o.dst .und) K)
        | false => none
      | false => match barB ops o fl with
        | true => xguard ops o st (fun st => xdo P G Γ k o st fun av mem => xwalk P G Γ k ms ops π mem.length [] (St.put ⟨st.fr, mem⟩ o.dst av) K) (fun st => xwalk P G Γ k ms ops π st.mem.length [] (st.put o.dst .und) K)
        | false => xguard ops o st (fun st => xdo P G Γ (k.more (lkF ms n0)) o st fun av mem => xwalk P G Γ k ms ops π mem.length fl (St.put ⟨st.fr, mem⟩ o.dst av) K) (fun st => xwalk P G Γ k ms ops π n0 fl (st.put o.dst .und) K)
    | none => none

def Pl.isStop : Pl → Bool
  | .stop => true
  | _ => false

/-- The same, by a plan. -/
noncomputable def xplan (P : Program) (G : Globs) (Γ : Gam R) (k : Lk) (ms : List Nat) (ops : List Oper) : Pl → Nat → List Nat → St → (St → Option R) → Option R
  | .done, n0, fl, st, K => K st
  | .stop, n0, fl, st, K => none
  | .fl i t, n0, fl, st, K => match ops[i]? with
    | some o => match ownB ops o with
      | true => xguard ops o st (fun st => xlook P G o ⟨st.fr, onlyP (lkF ms n0) st.mem 0⟩ fun av => xplan P G Γ k ms ops t n0 (nextFl o i fl) (st.put o.dst av) K) (fun st => xplan P G Γ k ms ops t n0 fl (st.put o.dst .und) K)
      | false => none
    | none => none
  | .lk i t more, n0, fl, st, K => match ops[i]? with
    | some o => match more.isStop, barB ops o fl with
      | true, true => xguard ops o st (fun st => xdo P G Γ k o st fun av mem => xplan P G Γ k ms ops t mem.length [] (St.put ⟨st.fr, mem⟩ o.dst av) K) (fun st => xplan P G Γ k ms ops t st.mem.length [] (st.put o.dst .und) K)
      | true, false => xguard ops o st (fun st => xdo P G Γ (k.more (lkF ms n0)) o st fun av mem => xplan P G Γ k ms ops t mem.length fl (St.put ⟨st.fr, mem⟩ o.dst av) K) (fun st => xplan P G Γ k ms ops t n0 fl (st.put o.dst .und) K)
      | false, true => agree (xguard ops o st (fun st => xdo P G Γ k o st fun av mem => xplan P G Γ k ms ops t mem.length [] (St.put ⟨st.fr, mem⟩ o.dst av) K) (fun st => xplan P G Γ k ms ops t st.mem.length [] (st.put o.dst .und) K)) (xplan P G Γ k ms ops more n0 fl st K)
      | false, false => agree (xguard ops o st (fun st => xdo P G Γ (k.more (lkF ms n0)) o st fun av mem => xplan P G Γ k ms ops t mem.length fl (St.put ⟨st.fr, mem⟩ o.dst av) K) (fun st => xplan P G Γ k ms ops t n0 fl (st.put o.dst .und) K)) (xplan P G Γ k ms ops more n0 fl st K)
    | none => none
end

section
variable {c : Cx} {ρ ρ' : Nat → HI} {Z Z' : Nat → Prop} {z z' : Zn} {X X' : List Atom} {st : St} {l : List Value} {w w' : World} {R' : Type} {Γ : Gam R'}

theorem Held.less {k : Lk} {f : Nat → Bool} (h : Held (k.more f) X X' Z Z' z z') : Held k X X' Z Z' z z' :=
  h.mono (fun i hi => by show (k.lk i || f i) = true; rw [hi]; rfl) fun e => e

theorem acts_same {k : Lk} (h : At c ρ Z z X st l w) {s : Sem Next} {K : AV → List Pc → Option R'} {r : R'} (hl : Looks c.P X Z ρ z st.mem.length s (fun av => K av st.mem) r) : Acts c k ρ Z z X st l w s K r := by
  obtain ⟨av, v, h1, h2, h3⟩ := hl
  exact ⟨av, st.mem, v, w, ρ, Z, z, X, h1, h2, ⟨h.fr, h.mem, h.own, h.ext, h.gl, h.dr⟩, .inl (h3 w h.fx), Later.refl .., ⟨fun _ _ _ => rfl, fun _ => ⟨rfl, rfl⟩⟩⟩

theorem xlook_acts {k : Lk} (h : At c ρ Z z X st l w) {o : Oper} {K : AV → List Pc → Option R'} {r : R'} (hx : xlook c.P c.G o st (fun av => K av st.mem) = some r) : Acts c k ρ Z z X st l w (execOp (Fr l).eval o) K r :=
  acts_same h (xlook_sound hx h.fr h.mem h.gz h.fx)

/-- What is run on the spot goes as it was said. -/
def HdOk (c : Cx) (H : Hd R') : Prop := ∀ (k : Lk) (g : Nat) (avs : List AV) (mem : List Pc) (K : AV → List Pc → Option R') (r : R') (ρ : Nat → HI) (Z : Nat → Prop) (z : Zn) (X : List Atom) (vs : List Value) (w : World),
  H k g avs mem K = some r → At c ρ Z z X ⟨avs, mem⟩ vs w →
    Calls c.P g vs.toArray w fun e w' => ∃ av mem' v ρ' Z' z' X', e = .returned v ∧ K av mem' = some r ∧ av.at ρ' z' mem'.length v ∧ At c ρ' Z' z' X' ⟨[], mem'⟩ [] w' ∧ LatK k ρ ρ' z z' mem.length mem'.length X X' Z Z'

def GamOk (c : Cx) (Γ : Gam R') : Prop := (∀ e ∈ Γ.cs, FnOk c.P c.G e.1 e.2) ∧ HdOk c Γ.h


theorem hd_does {k : Lk} (h : At c ρ Z z X st l w) {H : Hd R'} (hH : HdOk c H) {g : Nat} {avs : List AV} {vs : List Value} (hav : FrAt ρ z st.mem.length avs vs) {o : Oper} {K : AV → List Pc → Option R'} {r : R'}
    (hx : H k g avs st.mem K = some r) (hp : pev c.P (execOp (Fr l).eval o) = some (.enter g vs.toArray)) : Does c k ρ Z z X st l w o K r := by
  intro ops os Q hw hK
  refine s_call g _ hw hp ((hH k g avs st.mem K r ρ Z z X vs w hx ⟨hav, h.mem, h.own, h.ext, h.gl, h.dr⟩).mono fun e w' he => ?_)
  obtain ⟨av, mem', v, ρ', Z', z', X', rfl, h1, h2, h3, h4⟩ := he
  exact ⟨v, rfl, hK av mem' v w' ρ' Z' z' X' h1 h2 ⟨h.fr.later h4.lat, h3.mem, h3.own, h3.ext, h3.gl, h3.dr⟩ h4.lat h4.held⟩

theorem onlyX_get {f : Nat → Bool} : ∀ {X : List Atom} {s i : Nat} {A : Atom}, (onlyX f X s)[i]? = some A → ∃ B, X[i]? = some B ∧ (A = B ∧ f (s + i) = true ∨ A = deadA ∧ f (s + i) = false)
  | [], s, i, A, h => by simp [onlyX] at h
  | B :: X, s, 0, A, h => by
    simp only [onlyX, List.getElem?_cons_zero, Option.some.injEq] at h
    refine ⟨B, rfl, ?_⟩
    split at h
    · rename_i hf; exact .inl ⟨h.symm, hf⟩
    · rename_i hf; exact .inr ⟨h.symm, hf⟩
  | B :: X, s, i + 1, A, h => by
    simp only [onlyX, List.getElem?_cons_succ] at h
    obtain ⟨C, h1, h2⟩ := onlyX_get h
    exact ⟨C, by simpa using h1, by rwa [show s + 1 + i = s + (i + 1) from by omega] at h2⟩
theorem onlyP_get {f : Nat → Bool} : ∀ {X : List Pc} {s i : Nat} {A : Pc}, (onlyP f X s)[i]? = some A → ∃ B, X[i]? = some B ∧ (A = B ∧ f (s + i) = true ∨ A = .dead ∧ f (s + i) = false)
  | [], s, i, A, h => by simp [onlyP] at h
  | B :: X, s, 0, A, h => by
    simp only [onlyP, List.getElem?_cons_zero, Option.some.injEq] at h
    refine ⟨B, rfl, ?_⟩
    split at h
    · rename_i hf; exact .inl ⟨h.symm, hf⟩
    · rename_i hf; exact .inr ⟨h.symm, hf⟩
  | B :: X, s, i + 1, A, h => by
    simp only [onlyP, List.getElem?_cons_succ] at h
    obtain ⟨C, h1, h2⟩ := onlyP_get h
    exact ⟨C, by simpa using h1, by rwa [show s + 1 + i = s + (i + 1) from by omega] at h2⟩
theorem onlyX_len {f : Nat → Bool} : ∀ (X : List Atom) (s : Nat), (onlyX f X s).length = X.length
  | [], _ => rfl
  | _ :: X, s => by simp [onlyX, onlyX_len X (s + 1)]
theorem onlyP_len {f : Nat → Bool} : ∀ (X : List Pc) (s : Nat), (onlyP f X s).length = X.length
  | [], _ => rfl
  | _ :: X, s => by simp [onlyP, onlyP_len X (s + 1)]

theorem MemAt.only {n : Nat} {mem : List Pc} (hm : MemAt ρ z n mem X) (f : Nat → Bool) : MemAt ρ z n (onlyP f mem 0) (onlyX f X 0) := by
  refine ⟨by rw [onlyP_len, onlyX_len]; exact hm.1, fun i p A hp hA => ?_⟩
  obtain ⟨q, h1, h2⟩ := onlyP_get hp
  obtain ⟨B, h3, h4⟩ := onlyX_get hA
  rcases h2 with ⟨rfl, h2⟩ | ⟨rfl, h2⟩
  · rcases h4 with ⟨rfl, _⟩ | ⟨_, h4⟩
    · exact hm.2 i _ _ h1 h3
    · rw [h2] at h4; cases h4
  · trivial


theorem xdo_does {k : Lk} (h : At c ρ Z z X st l w) (hΓ : GamOk c Γ) {o : Oper} {K : AV → List Pc → Option R'} {r : R'} (hx : xdo c.P c.G Γ k o st K = some r) : Does c k ρ Z z X st l w o K r := by
  unfold xdo at hx
  split at hx
  · rename_i E ho
    exact (xalloc_acts h hx ho).does
  · rename_i s d x ho
    split at hx
    · exact (xmark_acts h hx ho).does
    · split at hx
      · exact (xsbytes_acts h hx ho).does
      · exact (xlook_acts h hx).does
    · exact (xlook_acts h hx).does
  · rename_i T n cp ho
    exact (xmake_acts h hx ho).does
  · rename_i E x ho
    exact (xbox_acts h hx ho).does
  · rename_i T n ho
    exact (xmkmap_acts h hx ho).does
  · rename_i T m i x ho
    exact (xmapupd_acts h hx ho).does
  · rename_i T a x ho
    split at hx
    · rename_i lf hlf
      exact (xstore_acts h hlf hx ho).does
    · cases hx
  · rename_i T m ps ho
    exact (xlits_acts h hx ho).does
  · rename_i cl ho
    split at hx
    · rename_i hcal
      split at hx
      · rename_i x y T T' ha ht
        have hop : o.op = .call { callee := .builtin .append, args := #[x, y], argTypes := #[T, T'] } := by
          rw [ho]
          obtain ⟨cal, args, tys⟩ := cl
          simp only at hcal ha ht
          subst hcal
          congr 2
          · exact Array.toList_inj.1 ha
          · exact Array.toList_inj.1 ht
        split at hx
        · exact (xappendZ_acts h hx hop).does
        · exact (xappend_acts h hx hop).does
      · cases hx
    · rename_i hcal
      split at hx
      · rename_i x y T T' ha ht
        have hop : o.op = .call { callee := .builtin .copy, args := #[x, y], argTypes := #[T, T'] } := by
          rw [ho]
          obtain ⟨cal, args, tys⟩ := cl
          simp only at hcal ha ht
          subst hcal
          congr 2
          · exact Array.toList_inj.1 ha
          · exact Array.toList_inj.1 ht
        exact (xcopy_acts h hx hop).does
      · cases hx
    · rename_i hcal
      split at hx
      · rename_i x y T T' ha ht
        have hop : o.op = .call { callee := .builtin .delete, args := #[x, y], argTypes := #[T, T'] } := by
          rw [ho]
          obtain ⟨cal, args, tys⟩ := cl
          simp only at hcal ha ht
          subst hcal
          congr 2
          · exact Array.toList_inj.1 ha
          · exact Array.toList_inj.1 ht
        exact (xmapdel_acts h hx hop).does
      · cases hx
    · rename_i f hcal
      split at hx
      · rename_i g hg
        split at hx
        · rename_i hcb
          have hf := asLeaf_at hg (opd_at h.fr h.gz f)
          have hf : [(Fr l).eval f] = [Value.func (.func g) #[] #[]] := hf
          injection hf with hf
          have hp : pev c.P (execOp (Fr l).eval o) = some (.enter g (cl.args.toList.map (Fr l).eval).toArray) := by
            have e2 : (#[] ++ cl.args.map (Fr l).eval) ++ #[] = (cl.args.toList.map (Fr l).eval).toArray := by
              apply Array.toList_inj.1; simp
            unfold execOp
            simp only [ho, resolve, hcal, hf, Deferred.ofValue, invoke]
            show pev c.P (callFunc g _) = _
            rw [e2]
            exact callB_spec hcb _
          split at hx
          · rename_i C hct
            exact xcall_does h (ctrOf_ok hΓ.1 hct) hx hp
          · exact hd_does h hΓ.2 (FrAt.map_opd h.fr h.gz _) hx hp
        · cases hx
      · rename_i g caps hg
        split at hx
        · rename_i hcb
          obtain ⟨us, h1, hf⟩ := asLeaf_at hg (opd_at h.fr h.gz f)
          injection hf with hf
          have hp : pev c.P (execOp (Fr l).eval o) = some (.enter g (cl.args.toList.map (Fr l).eval ++ us).toArray) := by
            have e2 : (#[] ++ cl.args.map (Fr l).eval) ++ us.toArray = (cl.args.toList.map (Fr l).eval ++ us).toArray := by
              apply Array.toList_inj.1; simp
            unfold execOp
            simp only [ho, resolve, hcal, hf, Deferred.ofValue, invoke]
            show pev c.P (callFunc g _) = _
            rw [e2]
            exact callB_spec hcb _
          split at hx
          · rename_i C hct
            exact xcall_does' h (ctrOf_ok hΓ.1 hct) ((FrAt.map_opd h.fr h.gz _).app (capAVs_at caps us h1)) hx hp
          · exact hd_does h hΓ.2 ((FrAt.map_opd h.fr h.gz _).app (capAVs_at caps us h1)) hx hp
        · cases hx
      · cases hx
    · exact (xlook_acts h hx).does
  · exact (xlook_acts h hx).does

theorem put_at {fr : List AV} {mem : List Pc} {d : Option Tmp} {av : AV} {v : Value} (h : At c ρ Z z X ⟨fr, mem⟩ l w) (hv : av.at ρ z mem.length v) : At c ρ Z z X (St.put ⟨fr, mem⟩ d av) (dstSet d l v) w := by
  cases d with
  | none => exact h
  | some d =>
    refine ⟨?_, h.mem, h.own, h.ext, h.gl, h.dr⟩
    refine ⟨by show (fr.set d av).length = (l.set d v).length; simp [h.fr.1], fun i a u hi hu => ?_⟩
    have hi2 : (fr.set d av)[i]? = some a := hi
    have hu2 : (l.set d v)[i]? = some u := hu
    clear hi hu
    rw [List.getElem?_set] at hi2 hu2
    split at hi2
    · rename_i e; subst e
      rw [if_pos rfl] at hu2
      split at hi2
      · injection hi2 with hi2; subst hi2
        split at hu2
        · injection hu2 with hu2; subst hu2; exact hv
        · cases hu2
      · cases hi2
    · rename_i e; rw [if_neg e] at hu2; exact h.fr.2 i a u hi2 hu2

theorem know_at {d : Tmp} {b : Bool} (h : At c ρ Z z X st l w) (hb : l.getD d undef = .bool b) : At c ρ Z z X (st.know d b) l w := by
  refine ⟨?_, h.mem, h.own, h.ext, h.gl, h.dr⟩
  refine FrAt.set h.fr fun v hv => ?_
  have : v = .bool b := by
    rw [← hb]; simp [List.getD, hv]
  rw [this]
  exact bool_at

theorem knowO_at {d : Operand} {b : Bool} (h : At c ρ Z z X st l w) (hb : (Fr l).eval d = .bool b) : At c ρ Z z X (st.knowO d b) l w := by
  unfold St.knowO
  split
  · exact know_at h (by simpa [Act.eval, List.getD] using hb)
  · exact h

theorem xguard_spec {ops : List Oper} {o : Oper} {run skip : St → Option R'} {r : R'} (h : At c ρ Z z X st l w) (hx : xguard ops o st run skip = some r) :
    ∃ st', st'.mem = st.mem ∧ At c ρ Z z X st' l w ∧ ((Region.wanted o (yielded ops.toArray l.toArray) = true ∧ run st' = some r) ∨ (Region.wanted o (yielded ops.toArray l.toArray) = false ∧ skip st' = some r)) := by
  unfold xguard at hx
  unfold Region.wanted
  split at hx
  · rename_i hg
    rw [hg]; exact ⟨st, rfl, h, .inl ⟨rfl, hx⟩⟩
  · rename_i j want hg
    rw [hg]
    simp only
    split at hx
    · rename_i d hd
      have hy : yielded ops.toArray l.toArray j = match l[d]? with | some (.bool b) => some b | _ => none := by
        unfold yielded
        have : (ops.toArray[j]?).bind (·.dst) = some d := by simpa using hd
        rw [this]
        show (match l.toArray[d]? with | some (.bool b) => some b | _ => none) = _
        rw [List.getElem?_toArray]
      have hv := fr_get h.fr d
      split at hx
      · rename_i hu
        rw [hu] at hv
        have hv : l.getD d undef = undef := hv
        refine ⟨st, rfl, h, .inr ⟨?_, hx⟩⟩
        rw [hy]
        cases hl : l[d]? with
        | none => simp
        | some u =>
          have : u = undef := by simpa [List.getD, hl] using hv
          subst this
          rfl
      · split at hx
        rotate_left
        · cases hx
        rename_i b hu
        have hb : l.getD d undef = .bool b := asBool_at hu hv
        have hl : l[d]? = some (.bool b) := by
          cases hl : l[d]? with
          | none => simp [List.getD, hl] at hb; cases hb
          | some u => simp [List.getD, hl] at hb; rw [hb]
        rw [hy, hl]
        simp only
        split at hx
        · rename_i hbt
          subst hbt
          refine ⟨st.know d true, rfl, know_at h hb, ?_⟩
          split at hx
          · exact .inl ⟨rfl, hx⟩
          · exact .inr ⟨rfl, hx⟩
        · rename_i hbf
          have hbf : b = false := by simpa using hbf
          subst hbf
          refine ⟨st.know d false, rfl, know_at h hb, ?_⟩
          split at hx
          · exact .inr ⟨rfl, hx⟩
          · exact .inl ⟨rfl, hx⟩
    · cases hx

theorem skip_step {P : Program} {ops : Array Oper} {o : Oper} {os : List Oper} {Q : Exit → Act → World → Prop} (hw : Region.wanted o (yielded ops l.toArray) = false) (K : WL P ops Q os (Fr (dstSet o.dst l undef)) w) : WL P ops Q (o :: os) (Fr l) w := by
  refine ⟨?_⟩
  unfold wpList
  rw [if_neg (by rw [hw]; decide), Fr.put_dst]
  exact K.out

theorem und_at {n : Nat} : (AV.und).at ρ z n undef := rfl

/-- A state, and what is behind it. -/
theorem xops_sound {k : Lk} (hΓ : GamOk c Γ) {ops : List Oper} : ∀ {os : List Oper} {ρ : Nat → HI} {Z : Nat → Prop} {z : Zn} {X : List Atom} {st : St} {l : List Value} {w : World} {K : St → Option R'} {r : R'} {Q : Exit → Act → World → Prop}, xops c.P c.G Γ k ops os st K = some r → At c ρ Z z X st l w →
    (∀ st' ρ' Z' z' X' l' w', K st' = some r → At c ρ' Z' z' X' st' l' w' → LatK k ρ ρ' z z' st.mem.length st'.mem.length X X' Z Z' → Q .normal (Fr l') w') → WL c.P ops.toArray Q os (Fr l) w
  | [], ρ, Z, z, X, st, l, w, K, r, Q, hx, h, hK => wl_nil (hK st ρ Z z X l w hx h (LatK.refl ..))
  | o :: os, ρ, Z, z, X, st, l, w, K, r, Q, hx, h, hK => by
    unfold xops at hx
    obtain ⟨st1, hm1, h, hx⟩ := xguard_spec h hx
    rw [← hm1] at hK
    rcases hx with ⟨hw, hx⟩ | ⟨hw, hx⟩
    · refine xdo_does h hΓ hx ops.toArray os Q hw fun av mem v w' ρ' Z' z' X' h1 h2 h3 h4 h5' => ?_
      have e : (St.put ⟨st1.fr, mem⟩ o.dst av).mem = mem := by cases o.dst <;> rfl
      refine xops_sound hΓ h1 (put_at h3 h2) fun st' ρ2 Z2 z2 X2 l2 w2 h5 h6 h7 => hK st' ρ2 Z2 z2 X2 l2 w2 h5 h6 ?_
      rw [e] at h7
      exact (LatK.mk h4 h5').trans h7
    · refine skip_step hw ?_
      have e : (st1.put o.dst .und).mem = st1.mem := by cases o.dst <;> rfl
      refine xops_sound hΓ hx (put_at (fr := st1.fr) (mem := st1.mem) h und_at) fun st' ρ2 Z2 z2 X2 l2 w2 h5 h6 h7 => hK st' ρ2 Z2 z2 X2 l2 w2 h5 h6 ?_
      rw [show (St.put ⟨st1.fr, st1.mem⟩ o.dst .und).mem = st1.mem from e] at h7
      exact h7

/-! ### Drawn orders -/

theorem fx_only (h : Fx X Z z w) (f : Nat → Bool) : Fx (onlyX f X 0) Z z w := by
  refine ⟨h.1, fun A hA => ?_⟩
  obtain ⟨i, hi⟩ := List.getElem?_of_mem hA
  obtain ⟨B, h1, h2 | h2⟩ := onlyX_get hi
  · rw [h2.1]; exact h.2 B (List.mem_of_getElem? h1)
  · rw [h2.1]; trivial

/-- What the floaters may look at stays. -/
def Stays (f : Nat → Bool) (X0 X : List Atom) : Prop := ∀ i, f i = true → i < X0.length → X[i]? = X0[i]?

theorem fx_stays {f : Nat → Bool} {X0 : List Atom} (h : Fx X Z z w) (hs : Stays f X0 X) : Fx (onlyX f X0 0) Z z w := by
  refine ⟨h.1, fun A hA => ?_⟩
  obtain ⟨i, hi⟩ := List.getElem?_of_mem hA
  obtain ⟨B, h1, h2 | h2⟩ := onlyX_get hi
  · rw [h2.1]
    rw [Nat.zero_add] at h2
    have := hs i h2.2 (List.getElem?_eq_some_iff.1 h1).1
    rw [h1] at this
    exact h.2 B (List.mem_of_getElem? this)
  · rw [h2.1]; trivial

theorem put_mem (st : St) (d : Option Tmp) (av : AV) : (st.put d av).mem = st.mem := by cases d <;> rfl

theorem fill1_dst (o : Oper) (m : List Value) (v : Value) : dstSet o.dst m v = fill1 (dstSet o.dst m v) m o := by
  unfold fill1 dstSet
  cases o.dst with
  | none => rfl
  | some d =>
    simp only
    by_cases hlt : d < m.length
    · simp [hlt]
    · rw [List.set_eq_of_length_le (Nat.le_of_not_lt hlt), List.set_eq_of_length_le (Nat.le_of_not_lt hlt)]

theorem quiet_all {P : Program} {o : Oper} {l : List Value} {v : Value} {w : World} (hm : quietB o = true) (h : (execOp (Fr l).eval o).run P w = .ok (.value v) w) (w' : World) : (execOp (Fr l).eval o).run P w' = .ok (.value v) w' := by
  unfold quietB at hm
  split at hm
  · rename_i x ho
    unfold execOp at h ⊢
    simp only [ho, Sem.run_pure] at h ⊢
    injection h with h1 _
    rw [h1]
  · cases hm
theorem quiet_or {o : Oper} {i : Nat} {fl : List Nat} {C A : World → Prop} (hq : quietB o = true → ∀ w, A w) (hn : ∀ w, C w → A w) : (nextFl o i fl = i :: fl ∧ ∀ w, C w → A w) ∨ (nextFl o i fl = fl ∧ ∀ w, A w) := by
  unfold nextFl
  cases h : quietB o with
  | true => exact .inr ⟨rfl, hq h⟩
  | false => exact .inl ⟨rfl, hn⟩

theorem again {ops : Array Oper} {o : Oper} {m : List Value} {v : Value} (hsel : ∀ cs b, o.op ≠ .select cs b) (hown : ∀ t, o.dst = some t → t ∉ o.looksAt ops) :
    execOp (Fr (dstSet o.dst m v)).eval o = execOp (Fr m).eval o ∧ Region.wanted o (yielded ops (dstSet o.dst m v).toArray) = Region.wanted o (yielded ops m.toArray) ∧ dstSet o.dst (dstSet o.dst m v) v = dstSet o.dst m v := by
  have hag : ∀ t ∈ o.looksAt ops, (Fr (dstSet o.dst m v)).tmps[t]? = m[t]? := fun t ht => by
    simp only [List.getElem?_toArray]
    cases hd : o.dst with
    | none => rfl
    | some d =>
      simp only [dstSet]
      rw [List.getElem?_set_ne]
      intro e; subst e; exact hown _ hd ht
  refine ⟨execOp_congr o hsel fun x hx => eval_of_tmps fun t ht => hag t (looks_tmp (by subst ht; exact hx)), wanted_of_tmps (ls := m) hag, ?_⟩
  cases o.dst <;> simp [dstSet]

theorem own_of_ownB {ops : List Oper} {o : Oper} (h : ownB ops o = true) : ∀ t, o.dst = some t → t ∉ o.looksAt ops.toArray := by
  intro t ht
  unfold ownB at h
  rw [ht] at h
  simpa using h

theorem lkF_lt {ms : List Nat} {n0 i : Nat} (h : lkF ms n0 i = true) : i < n0 := by
  simp only [lkF, Bool.and_eq_true] at h
  exact Eq.mp Nat.blt_eq h.1

theorem fx_grow {X0 X X' : List Atom} {ms : List Nat} {w2 : World} (h : At c ρ Z z X st l w) (hs : Stays (lkF ms X0.length) X0 X') (hle : X0.length ≤ X'.length) (hz : Ext z z') (hw : Fx (onlyX (lkF ms X'.length) X' 0) Z' z' w2) : Fx (onlyX (lkF ms X0.length) X0 0) Z z w2 := by
  refine ⟨?_, fun A hA => ?_⟩
  · show cut Z (look w2) = z.hp
    have h1 : cut Z' (look w2) = z'.hp := hw.1
    have h2 : cut Z (look w) = z.hp := h.own.toI.zok
    funext b
    by_cases hb : Z b
    · have hlt := (h.own.toI.zdom b hb).2
      have h3 : look w b = some w.heap[b] := Array.getElem?_eq_getElem hlt
      have h4 : z.hp b = some w.heap[b] := by rw [← h2, cut_pos hb]; exact h3
      have h5 := hz.hp b _ h4
      rw [← h1] at h5
      rw [cut_pos hb, h4]
      exact (cut_some h5).2
    · have h4 : z.hp b = none := by rw [← h2]; unfold cut; rw [if_neg hb]
      rw [h4]; unfold cut; rw [if_neg hb]
  · obtain ⟨j, hj⟩ := List.getElem?_of_mem hA
    obtain ⟨B, h8, h9 | h9⟩ := onlyX_get hj
    · rw [Nat.zero_add] at h9
      have hj0 := lkF_lt h9.2
      have hB0 := hs j h9.2 hj0
      rw [h8] at hB0
      have hl0 : j < (onlyX (lkF ms X'.length) X' 0).length := by rw [onlyX_len]; omega
      have hlk : lkF ms X'.length j = true := by
        have h2 := h9.2
        simp only [lkF, Bool.and_eq_true] at h2 ⊢
        exact ⟨Eq.mpr Nat.blt_eq (by omega), h2.2⟩
      have : (onlyX (lkF ms X'.length) X' 0)[j]? = some B := by
        obtain ⟨B', h10, h11 | h11⟩ := onlyX_get (List.getElem?_eq_getElem hl0)
        · rw [List.getElem?_eq_getElem hl0, h11.1]
          rw [h10] at hB0; injection hB0 with hB0; rw [hB0]
        · rw [Nat.zero_add, hlk] at h11; cases h11.2
      rw [h9.1]
      exact hw.2 B (List.mem_of_getElem? this)
    · rw [h9.1]; trivial

theorem Walk2.link {P : Program} {Q : Exit → Act → World → Prop} {C : World → Prop} {ops : List Oper} {π : List (Bool × Nat)} {i : Nat} {fl : List Nat} {o : Oper} (hC : C w) (ho : ops[i]? = some o)
    (h : WL P ops.toArray (fun e a w' => e = .normal ∧ ∃ m' C' fl', (((∀ w, C' w → C w) ∧ fl' = fl) ∨ barB ops o fl = true) ∧ a = Fr m' ∧ Walk2 P Q ops π C' fl' m' w') [o] (Fr l) w) : Walk2 P Q ops ((false, i) :: π) C fl l w := ⟨hC, o, ho, h⟩

theorem xwalk_sound {k : Lk} (hΓ : GamOk c Γ) {ops : List Oper} (hsel : Region.noSelect ops.toArray = true) {ms : List Nat} :
    ∀ {π : List (Bool × Nat)} {fl : List Nat} {X0 : List Atom} {Z : Nat → Prop} {z : Zn} {ρ : Nat → HI} {X : List Atom} {st : St} {l : List Value} {w : World} {K : St → Option R'} {r : R'} {Q : Exit → Act → World → Prop}, xwalk c.P c.G Γ k ms ops π X0.length fl st K = some r → At c ρ Z z X st l w → Stays (lkF ms X0.length) X0 X → X0.length ≤ X.length →
    (∀ st' ρ' Z' z' X' l' w', K st' = some r → At c ρ' Z' z' X' st' l' w' → LatK k ρ ρ' z z' st.mem.length st'.mem.length X X' Z Z' → Q .normal (Fr l') w') → Walk2 c.P Q ops π (Fx (onlyX (lkF ms X0.length) X0 0) Z z) fl l w
  | [], fl, X0, Z, z, ρ, X, st, l, w, K, r, Q, hx, h, hs, hle, hK => ⟨fx_stays h.fx hs, hK st ρ Z z X l w hx h (LatK.refl ..)⟩
  | (b, i) :: π, fl, X0, Z, z, ρ, X, st, l, w, K, r, Q, hx, h, hs, hle, hK => by
    unfold xwalk at hx
    split at hx
    · rename_i o ho
      have hselo : ∀ cs b, o.op ≠ .select cs b := fun cs b => Region.noSelect_spec hsel i o cs b (by simpa using ho)
      split at hx
      · split at hx
        · rename_i hob
          have hown := own_of_ownB hob
          obtain ⟨st1, hm1, h, hx⟩ := xguard_spec h hx
          rw [← hm1] at hK
          rcases hx with ⟨hw, hx⟩ | ⟨hw, hx⟩
          · obtain ⟨av, v, h1, h2, h3⟩ := xlook_sound (Z := Z) (X := onlyX (lkF ms X0.length) X 0) (st := ⟨st1.fr, onlyP (lkF ms X0.length) st1.mem 0⟩) (ρ := ρ) (l := l) hx (by show FrAt ρ z (onlyP (lkF ms X0.length) st1.mem 0).length st1.fr l; rw [onlyP_len]; exact h.fr) (by show MemAt ρ z (onlyP (lkF ms X0.length) st1.mem 0).length (onlyP (lkF ms X0.length) st1.mem 0) _; rw [onlyP_len]; exact h.mem.only (lkF ms X0.length)) h.gz (fx_only h.fx (lkF ms X0.length))
            obtain ⟨e1, e2, e3⟩ := again (m := l) (v := v) hselo hown
            have hput : At c ρ Z z X (st1.put o.dst av) (dstSet o.dst l v) w := put_at (fr := st1.fr) (mem := st1.mem) h (by have h2 : av.at ρ z (onlyP (lkF ms X0.length) st1.mem 0).length v := h2; rw [onlyP_len] at h2; exact h2)
            refine ⟨o, dstSet o.dst l v, nextFl o i fl, ho, fill1_dst o l v, quiet_or (fun hm w' => ?_) (fun w' hw' => ?_), xwalk_sound hΓ hsel h1 hput hs hle fun st' ρ2 Z2 z2 X2 l2 w2 h5 h6 h7 => hK st' ρ2 Z2 z2 X2 l2 w2 h5 h6 (by rw [put_mem] at h7; exact h7)⟩
            · refine step_val (v := v) (w' := w') (by rw [e2]; exact hw) ?_ (wl_nil ⟨rfl, by rw [e3], rfl⟩)
              rw [e1]
              exact quiet_all hm (h3 w (fx_only h.fx (lkF ms X0.length))) w'
            refine step_val (v := v) (w' := w') (by rw [e2]; exact hw) ?_ (wl_nil ⟨rfl, by rw [e3], rfl⟩)
            rw [e1]
            refine h3 w' ?_
            refine ⟨hw'.1, fun A hA => ?_⟩
            obtain ⟨j, hj⟩ := List.getElem?_of_mem hA
            obtain ⟨B, h8, h9 | h9⟩ := onlyX_get hj
            · rw [Nat.zero_add] at h9
              have hj0 := lkF_lt h9.2
              have hB0 := hs j h9.2 hj0
              rw [h8] at hB0
              have : (onlyX (lkF ms X0.length) X0 0)[j]? = some B := by
                have hl0 : j < (onlyX (lkF ms X0.length) X0 0).length := by rw [onlyX_len]; exact hj0
                obtain ⟨B', h10, h11 | h11⟩ := onlyX_get (List.getElem?_eq_getElem hl0)
                · rw [List.getElem?_eq_getElem hl0, h11.1]
                  rw [h10] at hB0; injection hB0 with hB0; rw [hB0]
                · rw [Nat.zero_add, h9.2] at h11; cases h11.2
              rw [h9.1]
              exact hw'.2 B (List.mem_of_getElem? this)
            · rw [h9.1]; trivial
          · obtain ⟨e1, e2, e3⟩ := again (m := l) (v := undef) hselo hown
            have hput : At c ρ Z z X (st1.put o.dst .und) (dstSet o.dst l undef) w := put_at (fr := st1.fr) (mem := st1.mem) h und_at
            refine ⟨o, dstSet o.dst l undef, fl, ho, fill1_dst o l undef, .inr ⟨rfl, fun w' => ?_⟩, xwalk_sound hΓ hsel hx hput hs hle fun st' ρ2 Z2 z2 X2 l2 w2 h5 h6 h7 => hK st' ρ2 Z2 z2 X2 l2 w2 h5 h6 (by rw [put_mem] at h7; exact h7)⟩
            exact skip_step (by rw [e2]; exact hw) (wl_nil ⟨rfl, by rw [e3], rfl⟩)
        · cases hx
      · split at hx
        · rename_i hbar
          obtain ⟨st1, hm1, h, hx⟩ := xguard_spec h hx
          rw [← hm1] at hK
          refine Walk2.link (fx_stays h.fx hs) ho ?_
          rcases hx with ⟨hw, hx⟩ | ⟨hw, hx⟩
          · refine xdo_does h hΓ hx ops.toArray [] _ hw fun av mem v w' ρ' Z' z' X' h1 h2 h3 h4 h5 => wl_nil ⟨rfl, _, Fx (onlyX (lkF ms X'.length) X' 0) Z' z', [], .inr hbar, rfl, ?_⟩
            have hl : mem.length = X'.length := h3.mem.1
            rw [hl] at h1
            refine xwalk_sound (X0 := X') hΓ hsel h1 (put_at h3 h2) (fun _ _ _ => rfl) (Nat.le_refl _) fun st' ρ2 Z2 z2 X2 l2 w2 h8 h9 h10 => hK st' ρ2 Z2 z2 X2 l2 w2 h8 h9 ?_
            rw [put_mem] at h10
            exact (LatK.mk h4 h5).trans h10
          · refine skip_step hw (wl_nil ⟨rfl, _, Fx (onlyX (lkF ms X.length) X 0) Z z, [], .inr hbar, rfl, ?_⟩)
            have hl : st1.mem.length = X.length := h.mem.1
            rw [hl] at hx
            have hput : At c ρ Z z X (st1.put o.dst .und) (dstSet o.dst l undef) w := put_at (fr := st1.fr) (mem := st1.mem) h und_at
            exact xwalk_sound (X0 := X) hΓ hsel hx hput (fun _ _ _ => rfl) (Nat.le_refl _) fun st' ρ2 Z2 z2 X2 l2 w2 h5 h6 h7 => hK st' ρ2 Z2 z2 X2 l2 w2 h5 h6 (by rw [put_mem] at h7; exact h7)
        · obtain ⟨st1, hm1, h, hx⟩ := xguard_spec h hx
          rw [← hm1] at hK
          refine Walk2.link (fx_stays h.fx hs) ho ?_
          rcases hx with ⟨hw, hx⟩ | ⟨hw, hx⟩
          · refine xdo_does h hΓ hx ops.toArray [] _ hw fun av mem v w' ρ' Z' z' X' h1 h2 h3 h4 h5 => ?_
            have hs' : Stays (lkF ms X0.length) X0 X' := fun j hj hjl => by rw [h5.x j (by simp [Lk.more, hj]) (Nat.lt_of_lt_of_le hjl hle)]; exact hs j hj hjl
            have hl : mem.length = X'.length := h3.mem.1
            have hle' : X0.length ≤ X'.length := by
              have h6 := h4.n
              have h7 := h.mem.1
              omega
            rw [hl] at h1
            refine wl_nil ⟨rfl, _, Fx (onlyX (lkF ms X'.length) X' 0) Z' z', fl, .inl ⟨fun w2 hw2 => fx_grow h hs' hle' h4.z hw2, rfl⟩, rfl, ?_⟩
            refine xwalk_sound hΓ hsel h1 (put_at h3 h2) (fun _ _ _ => rfl) (Nat.le_refl _) fun st' ρ2 Z2 z2 X2 l2 w2 h8 h9 h10 => hK st' ρ2 Z2 z2 X2 l2 w2 h8 h9 ?_
            rw [put_mem] at h10
            exact (LatK.mk h4 h5.less).trans h10
          · have hput : At c ρ Z z X (st1.put o.dst .und) (dstSet o.dst l undef) w := put_at (fr := st1.fr) (mem := st1.mem) h und_at
            exact skip_step hw (wl_nil ⟨rfl, _, Fx (onlyX (lkF ms X0.length) X0 0) Z z, fl, .inl ⟨fun _ h => h, rfl⟩, rfl, xwalk_sound hΓ hsel hx hput hs hle fun st' ρ2 Z2 z2 X2 l2 w2 h5 h6 h7 => hK st' ρ2 Z2 z2 X2 l2 w2 h5 h6 (by rw [put_mem] at h7; exact h7)⟩)
    · cases hx

theorem xplan_sound {k : Lk} (hΓ : GamOk c Γ) {ops : List Oper} (hsel : Region.noSelect ops.toArray = true) {ms : List Nat} :
    ∀ {π : Pl} {fl : List Nat} {X0 : List Atom} {Z : Nat → Prop} {z : Zn} {ρ : Nat → HI} {X : List Atom} {st : St} {l : List Value} {w : World} {K : St → Option R'} {r : R'} {Q : Exit → Act → World → Prop}, xplan c.P c.G Γ k ms ops π X0.length fl st K = some r → At c ρ Z z X st l w → Stays (lkF ms X0.length) X0 X → X0.length ≤ X.length →
    (∀ st' ρ' Z' z' X' l' w', K st' = some r → At c ρ' Z' z' X' st' l' w' → LatK k ρ ρ' z z' st.mem.length st'.mem.length X X' Z Z' → Q .normal (Fr l') w') → WalkT c.P Q ops π (Fx (onlyX (lkF ms X0.length) X0 0) Z z) fl l w
  | .done, fl, X0, Z, z, ρ, X, st, l, w, K, r, Q, hx, h, hs, hle, hK => ⟨fx_stays h.fx hs, hK st ρ Z z X l w hx h (LatK.refl ..)⟩
  | .stop, fl, X0, Z, z, ρ, X, st, l, w, K, r, Q, hx, h, hs, hle, hK => by cases hx
  | .fl i π, fl, X0, Z, z, ρ, X, st, l, w, K, r, Q, hx, h, hs, hle, hK => by
    unfold xplan at hx
    split at hx
    · rename_i o ho
      have hselo : ∀ cs b, o.op ≠ .select cs b := fun cs b => Region.noSelect_spec hsel i o cs b (by simpa using ho)
      split at hx
      · rename_i hob
        have hown := own_of_ownB hob
        obtain ⟨st1, hm1, h, hx⟩ := xguard_spec h hx
        rw [← hm1] at hK
        rcases hx with ⟨hw, hx⟩ | ⟨hw, hx⟩
        · obtain ⟨av, v, h1, h2, h3⟩ := xlook_sound (Z := Z) (X := onlyX (lkF ms X0.length) X 0) (st := ⟨st1.fr, onlyP (lkF ms X0.length) st1.mem 0⟩) (ρ := ρ) (l := l) hx (by show FrAt ρ z (onlyP (lkF ms X0.length) st1.mem 0).length st1.fr l; rw [onlyP_len]; exact h.fr) (by show MemAt ρ z (onlyP (lkF ms X0.length) st1.mem 0).length (onlyP (lkF ms X0.length) st1.mem 0) _; rw [onlyP_len]; exact h.mem.only (lkF ms X0.length)) h.gz (fx_only h.fx (lkF ms X0.length))
          obtain ⟨e1, e2, e3⟩ := again (m := l) (v := v) hselo hown
          have hput : At c ρ Z z X (st1.put o.dst av) (dstSet o.dst l v) w := put_at (fr := st1.fr) (mem := st1.mem) h (by have h2 : av.at ρ z (onlyP (lkF ms X0.length) st1.mem 0).length v := h2; rw [onlyP_len] at h2; exact h2)
          refine ⟨o, dstSet o.dst l v, nextFl o i fl, ho, fill1_dst o l v, quiet_or (fun hm w' => ?_) (fun w' hw' => ?_), xplan_sound hΓ hsel h1 hput hs hle fun st' ρ2 Z2 z2 X2 l2 w2 h5 h6 h7 => hK st' ρ2 Z2 z2 X2 l2 w2 h5 h6 (by rw [put_mem] at h7; exact h7)⟩
          · refine step_val (v := v) (w' := w') (by rw [e2]; exact hw) ?_ (wl_nil ⟨rfl, by rw [e3], rfl⟩)
            rw [e1]
            exact quiet_all hm (h3 w (fx_only h.fx (lkF ms X0.length))) w'
          refine step_val (v := v) (w' := w') (by rw [e2]; exact hw) ?_ (wl_nil ⟨rfl, by rw [e3], rfl⟩)
          rw [e1]
          refine h3 w' ?_
          refine ⟨hw'.1, fun A hA => ?_⟩
          obtain ⟨j, hj⟩ := List.getElem?_of_mem hA
          obtain ⟨B, h8, h9 | h9⟩ := onlyX_get hj
          · rw [Nat.zero_add] at h9
            have hj0 := lkF_lt h9.2
            have hB0 := hs j h9.2 hj0
            rw [h8] at hB0
            have : (onlyX (lkF ms X0.length) X0 0)[j]? = some B := by
              have hl0 : j < (onlyX (lkF ms X0.length) X0 0).length := by rw [onlyX_len]; exact hj0
              obtain ⟨B', h10, h11 | h11⟩ := onlyX_get (List.getElem?_eq_getElem hl0)
              · rw [List.getElem?_eq_getElem hl0, h11.1]
                rw [h10] at hB0; injection hB0 with hB0; rw [hB0]
              · rw [Nat.zero_add, h9.2] at h11; cases h11.2
            rw [h9.1]
            exact hw'.2 B (List.mem_of_getElem? this)
          · rw [h9.1]; trivial
        · obtain ⟨e1, e2, e3⟩ := again (m := l) (v := undef) hselo hown
          have hput : At c ρ Z z X (st1.put o.dst .und) (dstSet o.dst l undef) w := put_at (fr := st1.fr) (mem := st1.mem) h und_at
          refine ⟨o, dstSet o.dst l undef, fl, ho, fill1_dst o l undef, .inr ⟨rfl, fun w' => ?_⟩, xplan_sound hΓ hsel hx hput hs hle fun st' ρ2 Z2 z2 X2 l2 w2 h5 h6 h7 => hK st' ρ2 Z2 z2 X2 l2 w2 h5 h6 (by rw [put_mem] at h7; exact h7)⟩
          exact skip_step (by rw [e2]; exact hw) (wl_nil ⟨rfl, by rw [e3], rfl⟩)
      · cases hx
    · cases hx
  | .lk i π more, fl, X0, Z, z, ρ, X, st, l, w, K, r, Q, hx, h, hs, hle, hK => by
    unfold xplan at hx
    split at hx
    · rename_i o ho
      have hC := fx_stays h.fx hs
      have bar : ∀ (hbar : barB ops o fl = true), xguard ops o st (fun st => xdo c.P c.G Γ k o st fun av mem => xplan c.P c.G Γ k ms ops π mem.length [] (St.put ⟨st.fr, mem⟩ o.dst av) K) (fun st => xplan c.P c.G Γ k ms ops π st.mem.length [] (st.put o.dst .und) K) = some r →
          ∃ o, ops[i]? = some o ∧ WL c.P ops.toArray (fun e a w' => e = .normal ∧ ∃ m' C' fl', (((∀ w, C' w → Fx (onlyX (lkF ms X0.length) X0 0) Z z w) ∧ fl' = fl) ∨ barB ops o fl = true) ∧ a = Fr m' ∧ WalkT c.P Q ops π C' fl' m' w') [o] (Fr l) w := by
        intro hbar hx
        obtain ⟨st1, hm1, h, hx⟩ := xguard_spec h hx
        rw [← hm1] at hK
        refine ⟨o, ho, ?_⟩
        rcases hx with ⟨hw, hx⟩ | ⟨hw, hx⟩
        · refine xdo_does h hΓ hx ops.toArray [] _ hw fun av mem v w' ρ' Z' z' X' h1 h2 h3 h4 h5 => wl_nil ⟨rfl, _, Fx (onlyX (lkF ms X'.length) X' 0) Z' z', [], .inr hbar, rfl, ?_⟩
          have hl : mem.length = X'.length := h3.mem.1
          rw [hl] at h1
          refine xplan_sound (X0 := X') hΓ hsel h1 (put_at h3 h2) (fun _ _ _ => rfl) (Nat.le_refl _) fun st' ρ2 Z2 z2 X2 l2 w2 h8 h9 h10 => hK st' ρ2 Z2 z2 X2 l2 w2 h8 h9 ?_
          rw [put_mem] at h10
          exact (LatK.mk h4 h5).trans h10
        · refine skip_step hw (wl_nil ⟨rfl, _, Fx (onlyX (lkF ms X.length) X 0) Z z, [], .inr hbar, rfl, ?_⟩)
          have hl : st1.mem.length = X.length := h.mem.1
          rw [hl] at hx
          have hput : At c ρ Z z X (st1.put o.dst .und) (dstSet o.dst l undef) w := put_at (fr := st1.fr) (mem := st1.mem) h und_at
          exact xplan_sound (X0 := X) hΓ hsel hx hput (fun _ _ _ => rfl) (Nat.le_refl _) fun st' ρ2 Z2 z2 X2 l2 w2 h5 h6 h7 => hK st' ρ2 Z2 z2 X2 l2 w2 h5 h6 (by rw [put_mem] at h7; exact h7)
      have nob : xguard ops o st (fun st => xdo c.P c.G Γ (k.more (lkF ms X0.length)) o st fun av mem => xplan c.P c.G Γ k ms ops π mem.length fl (St.put ⟨st.fr, mem⟩ o.dst av) K) (fun st => xplan c.P c.G Γ k ms ops π X0.length fl (st.put o.dst .und) K) = some r →
          ∃ o, ops[i]? = some o ∧ WL c.P ops.toArray (fun e a w' => e = .normal ∧ ∃ m' C' fl', (((∀ w, C' w → Fx (onlyX (lkF ms X0.length) X0 0) Z z w) ∧ fl' = fl) ∨ barB ops o fl = true) ∧ a = Fr m' ∧ WalkT c.P Q ops π C' fl' m' w') [o] (Fr l) w := by
        intro hx
        obtain ⟨st1, hm1, h, hx⟩ := xguard_spec h hx
        rw [← hm1] at hK
        refine ⟨o, ho, ?_⟩
        rcases hx with ⟨hw, hx⟩ | ⟨hw, hx⟩
        · refine xdo_does h hΓ hx ops.toArray [] _ hw fun av mem v w' ρ' Z' z' X' h1 h2 h3 h4 h5 => ?_
          have hs' : Stays (lkF ms X0.length) X0 X' := fun j hj hjl => by rw [h5.x j (by simp [Lk.more, hj]) (Nat.lt_of_lt_of_le hjl hle)]; exact hs j hj hjl
          have hl : mem.length = X'.length := h3.mem.1
          have hle' : X0.length ≤ X'.length := by
            have h6 := h4.n
            have h7 := h.mem.1
            omega
          rw [hl] at h1
          refine wl_nil ⟨rfl, _, Fx (onlyX (lkF ms X'.length) X' 0) Z' z', fl, .inl ⟨fun w2 hw2 => fx_grow h hs' hle' h4.z hw2, rfl⟩, rfl, ?_⟩
          refine xplan_sound hΓ hsel h1 (put_at h3 h2) (fun _ _ _ => rfl) (Nat.le_refl _) fun st' ρ2 Z2 z2 X2 l2 w2 h8 h9 h10 => hK st' ρ2 Z2 z2 X2 l2 w2 h8 h9 ?_
          rw [put_mem] at h10
          exact (LatK.mk h4 h5.less).trans h10
        · have hput : At c ρ Z z X (st1.put o.dst .und) (dstSet o.dst l undef) w := put_at (fr := st1.fr) (mem := st1.mem) h und_at
          exact skip_step hw (wl_nil ⟨rfl, _, Fx (onlyX (lkF ms X0.length) X0 0) Z z, fl, .inl ⟨fun _ h => h, rfl⟩, rfl, xplan_sound hΓ hsel hx hput hs hle fun st' ρ2 Z2 z2 X2 l2 w2 h5 h6 h7 => hK st' ρ2 Z2 z2 X2 l2 w2 h5 h6 (by rw [put_mem] at h7; exact h7)⟩)
      have stop : more.isStop = true → WalkT c.P Q ops more (Fx (onlyX (lkF ms X0.length) X0 0) Z z) fl l w := fun hm => by
        cases more with
        | stop => exact hC
        | done => cases hm
        | fl i t => cases hm
        | lk i t m => cases hm
      split at hx
      · rename_i hm hbar
        exact ⟨hC, bar hbar hx, stop hm⟩
      · rename_i hm hbar
        exact ⟨hC, nob hx, stop hm⟩
      · rename_i hm hbar
        obtain ⟨h1, h2⟩ := agree_some hx
        exact ⟨hC, bar hbar h1, xplan_sound hΓ hsel h2 h hs hle hK⟩
      · rename_i hm hbar
        obtain ⟨h1, h2⟩ := agree_some hx
        exact ⟨hC, nob h1, xplan_sound hΓ hsel h2 h hs hle hK⟩
    · cases hx
end
end Go.Lift

/- Steps of the proof alone: a row becomes something that is read alone; a slice of nothing becomes a row. -/
namespace Go.Lift
open Go
set_option linter.unusedVariables false

inductive Gh where
  | freeze (h : Nat)
  | mkrow (s : Nat) (t : Ty)
  | mkrowB (h i : Nat) (t : Ty)
  | rebase (s : Nat)
  | rebaseB (h i : Nat)
  | unbox (h : Nat)
  | whole (s : Nat)
  | wholeB (h i : Nat)
  | adopt (h : Nat)
  | freezeB (h : Nat) (T : Ty)

/-- A variable that nobody changes any more: what points to it. -/
def fpL (h : Nat) (T : Ty) (x : T.den) : Leaf → Leaf
  | .ptr i off => match Nat.beq i h with
    | true => match Nat.beq off 0 with
      | true => .dat (.pt T) (some x : Option T.den)
      | false => .eld T x off
    | false => .ptr i off
  | l => l
def xfreezeB (h : Nat) (T : Ty) (st : St) : Option St :=
  match st.mem[h]? with
  | some (.box ls) => mkL T ls fun x rest => match rest with
    | [] => some ⟨st.fr.map (AV.mapL (fpL h T x)), (st.mem.map (Pc.mapL (fpL h T x))).set h .dead⟩
    | _ => none
  | _ => none
/-- An array variable that becomes a row of its own: what points to parts of it. -/
def ubL (h new n : Nat) (t : Ty) : Leaf → Leaf
  | .bpart i off u m a b => match Nat.beq i h with
    | true => match Nat.beq off 0 && u.beq t && Nat.beq m n with
      | true => match Nat.beq a 0 && Nat.beq b n with
        | true => .row new
        | false => .part new a b
      | false => .top
    | false => .bpart i off u m a b
  | l => l

/-- A variable and its row that become a node of the arena: what points to them. -/
def adL (b r i s : Nat) : Leaf → Leaf
  | .ptr h off => match Nat.beq h b with
    | true => match Nat.beq off 0 with
      | true => .dat .nd (some i)
      | false => .npt i off
    | false => .ptr h off
  | .row h => match Nat.beq h r with
    | true => .nrw i
    | false => .row h
  | .elr h j off => match Nat.beq h r with
    | true => .nel s i j off
    | false => .elr h j off
  | l => l
def noAr : List Pc → Bool
  | [] => true
  | p :: ps => !p.isAr && noAr ps
/-- A variable becomes a node of the arena a. -/
def xadopt (a b : Nat) (st : St) : Option St :=
  match st.mem[b]?, st.mem[a]? with
  | some (.box ls), some (.ar T U xs) => mkL T ls fun x rest => match rest with
    | [.row r] => match st.mem[r]? with
      | some (.row U' ys) => Ty.as Ty.den (.slc U') (.slc U) ys fun (ys : List U.den) => match noAr (st.mem.set a .dead) with
        | true => some ⟨st.fr.map (AV.mapL (adL b r xs.length U.sz)), ((((st.mem.set a .dead).set b .dead).set r .dead).set a (.ar T U (xs ++ [(x, ys)]))).map (Pc.mapL (adL b r xs.length U.sz))⟩
        | false => none
      | _ => none
    | _ => none
  | _, _ => none
/-- Is anything locked? -/
def noLk (k : Lk) : Nat → Bool
  | 0 => true
  | n + 1 => !(k.lk n) && noLk k n
def xgh : Gh → St → Option St
  | .adopt h, st => match xadopt (arNum st.mem) h st with
    | some st' => some st'
    | none => some st
  | .freezeB h T, st => match xfreezeB h T st with
    | some st' => some st'
    | none => some st
  | .freeze h, st => match st.mem[h]? with
    | some (.row t xs) => some ⟨st.fr.map (frzA h t xs), (st.mem.map (frzP h t xs)).set h .dead⟩
    | _ => some st
  | .mkrow s t, st => match st.fr[s]? with
    | some (.vl false [.nils]) => some ⟨st.fr.set s (.vl false [.row st.mem.length]), st.mem ++ [.row t []]⟩
    | _ => some st
  | .mkrowB h i t, st => match st.mem[h]? with
    | some (.box ls) => match ls[i]? with
      | some .nils => some ⟨st.fr, st.mem.set h (.box (ls.set i (.row st.mem.length))) ++ [.row t []]⟩
      | _ => some st
    | _ => some st
  | .rebase s, st => match st.fr[s]? with
    | some (.vl false [.part h a b]) => match st.mem[h]? with
      | some (.row t xs) => some ⟨st.fr.set s (.vl false [.row st.mem.length]), st.mem.set h .dead ++ [.row t ((xs.take b).drop a)]⟩
      | _ => some st
    | _ => some st
  | .rebaseB hh i, st => match st.mem[hh]? with
    | some (.box ls) => match ls[i]? with
      | some (.part h a b) => match st.mem[h]? with
        | some (.row t xs) => some ⟨st.fr, (st.mem.set h .dead ++ [Pc.row t ((xs.take b).drop a)]).set hh (.box (ls.set i (.row st.mem.length)))⟩
        | _ => some st
      | _ => some st
    | _ => some st
  | .unbox h, st => match st.mem[h]? with
    | some (.box [.dat (.arr n t) x]) => some ⟨st.fr.map (AV.mapL (ubL h st.mem.length n t)), (st.mem.set h .dead ++ [Pc.row t x.1]).map (Pc.mapL (ubL h st.mem.length n t))⟩
    | _ => some st
  | .whole s, st => match st.fr[s]? with
    | some (.vl false [.row h]) => match st.mem[h]? with
      | some (.row _ xs) => some ⟨st.fr.set s (.vl false [.part h 0 xs.length]), st.mem⟩
      | _ => some st
    | _ => some st
  | .wholeB hh i, st => match st.mem[hh]? with
    | some (.box ls) => match ls[i]? with
      | some (.row h) => match st.mem[h]? with
        | some (.row _ xs) => some ⟨st.fr, st.mem.set hh (.box (ls.set i (.part h 0 xs.length)))⟩
        | _ => some st
      | _ => some st
    | _ => some st

section
variable {c : Cx} {ρ ρ' : Nat → HI} {Z Z' : Nat → Prop} {z z' : Zn} {X X' : List Atom} {st : St} {l : List Value} {w w' : World} {n : Nat}

/-- Nothing that stands still is turned. -/
def ghB (k : Lk) : Gh → St → Bool
  | .adopt _, st => noLk k st.mem.length && !k.sz
  | .freeze h, _ => !(k.lk h) && !k.sz
  | .freezeB h _, _ => !(k.lk h) && !k.sz
  | .mkrow _ _, _ => true
  | .mkrowB _ _ _, _ => true
  | .rebase s, st => match st.fr[s]? with
    | some (.vl false [.part h _ _]) => !(k.lk h)
    | _ => true
  | .rebaseB hh i, st => match st.mem[hh]? with
    | some (.box ls) => match ls[i]? with
      | some (.part h _ _) => !(k.lk h)
      | _ => true
    | _ => true
  | .unbox h, _ => !(k.lk h)
  | .whole _, _ => true
  | .wholeB _ _, _ => true

theorem Lvs.setNil : ∀ {ls : List Leaf} {i : Nat} {cs : List Value} {lf : Leaf}, ls[i]? = some .nils → Lvs ρ z n ls cs → lf.at ρ z n [.slice none 0 0] → Lvs ρ z n (ls.set i lf) cs
  | [], i, cs, lf, hi, _, _ => by simp at hi
  | l :: ls, 0, cs, lf, hi, ⟨c, d, e, h1, h2⟩, hl => by
    simp only [List.getElem?_cons_zero, Option.some.injEq] at hi
    subst hi
    have h1 : c = [.slice none 0 0] := h1
    subst h1
    exact ⟨_, d, e, hl, h2⟩
  | l :: ls, i + 1, cs, lf, hi, ⟨c, d, e, h1, h2⟩, hl => ⟨c, d, e, h1, Lvs.setNil (by simpa using hi) h2 hl⟩

theorem Lvs.pick : ∀ {ls : List Leaf} {i : Nat} {cs : List Value} {lo : Leaf}, ls[i]? = some lo → Lvs ρ z n ls cs →
    ∃ c, lo.at ρ z n c ∧ ∀ {ρ' : Nat → HI} {n' : Nat} {lf : Leaf}, Lvs ρ' z n' ls cs → lf.at ρ' z n' c → Lvs ρ' z n' (ls.set i lf) cs
  | [], i, cs, lo, hi, _ => by simp at hi
  | l :: ls, 0, cs, lo, hi, ⟨c, d, e, h1, h2⟩ => by
    simp only [List.getElem?_cons_zero, Option.some.injEq] at hi
    subst hi
    refine ⟨c, h1, fun ⟨c', d', e', h1', h2'⟩ hl => ?_⟩
    have hc : c.length = c'.length := (Leaf.len _ _ h1).trans (Leaf.len _ _ h1').symm
    obtain ⟨rfl, rfl⟩ := List.append_inj (e.symm.trans e') hc
    exact ⟨c, d, e, hl, h2'⟩
  | l :: ls, i + 1, cs, lo, hi, ⟨c, d, e, h1, h2⟩ => by
    obtain ⟨c0, h3, h4⟩ := Lvs.pick (by simpa using hi) h2
    refine ⟨c0, h3, fun ⟨c', d', e', h1', h2'⟩ hl => ?_⟩
    have hc : c.length = c'.length := (Leaf.len _ _ h1).trans (Leaf.len _ _ h1').symm
    obtain ⟨rfl, rfl⟩ := List.append_inj (e.symm.trans e') hc
    exact ⟨c, d, e, h1', h4 h2' hl⟩
theorem cutAddr_0 (A : Option Addr) (c sz : Nat) : cutAddr A c 0 sz = A := by
  unfold cutAddr
  split
  · rfl
  · cases A with
    | none => rfl
    | some a => simp only [Option.map_some, Nat.zero_mul, Addr.add_zero']
theorem whole_at {hh m : Nat} {cs : List Value} (hm : (ρ hh).len = m) (h : (Leaf.row hh).at ρ z n cs) : (Leaf.part hh 0 m).at ρ z n cs := by
  obtain ⟨h1, h2⟩ := h
  exact ⟨h1, Nat.zero_le _, by omega, _, .inl rfl, by rw [h2, cutAddr_0, hm]; rfl⟩
theorem nilrow_at (t : Ty) (w : World) : (rowA t.enc none 0 []).at w := row_nil _ _

/-- Another piece that has no block. -/
theorem At.addNil (h : At c ρ Z z X st l w) (t : Ty) : At c (ext1 ρ st.mem.length ⟨none, 0, t, 0⟩) Z z (X ++ [rowA t.enc none 0 []]) ⟨st.fr, st.mem ++ [.row t []]⟩ l w := by
  have L := later1 ρ z st.mem.length ⟨none, 0, t, 0⟩
  have e : (st.mem ++ [Pc.row t []]).length = st.mem.length + 1 := by simp
  refine ⟨?_, ?_, h.own.push (Keeps.refl _ _) (nilrow_at t w) (fun b hb => ?_), h.ext, h.gl, h.dr⟩
  · show FrAt _ _ (st.mem ++ [Pc.row t []]).length _ _
    rw [e]; exact h.fr.later L
  · show MemAt _ _ (st.mem ++ [Pc.row t []]).length _ _
    rw [e]
    refine h.mem.push rfl L ⟨by rw [ext1_eq]; exact ⟨rfl, rfl⟩, [], Els.nil, by rw [ext1_eq]⟩
  · obtain ⟨a, ha, _⟩ := hb; cases ha

theorem moved_ne (X : List Atom) (hh : Nat) (B : Atom) : ∀ i, i ≠ hh → i < X.length → (X.set hh deadA ++ [B])[i]? = X[i]? := fun i hi hl => by
  rw [List.getElem?_append_left (by simpa using hl), List.getElem?_set_ne (Ne.symm hi)]

/-- A part of a row is a row of its own; the rest is left alone from now on. -/
theorem At.rebase (h : At c ρ Z z X st l w) {hh : Nat} {t : Ty} {xs : List t.den} {a b : Nat} (hp : st.mem[hh]? = some (.row t xs)) (hab : a ≤ b) (hb : b ≤ (ρ hh).len) {pp : Option Addr} (hpp : CutAt (ρ hh).A (ρ hh).cap a (ρ hh).ty.sz pp) :
    ∃ X', (∀ i, i ≠ hh → i < X.length → X'[i]? = X[i]?) ∧ At c (ext1 ρ st.mem.length ⟨pp, (ρ hh).cap - a, t, b - a⟩) Z z X' ⟨st.fr, st.mem.set hh .dead ++ [.row t ((xs.take b).drop a)]⟩ l w := by
  obtain ⟨A, hA, hc, ch, he, rfl⟩ := h.mem.get hp
  have hbx : b ≤ xs.length := by rw [← hc.2]; exact hb
  have hbl : b ≤ ch.length := by rw [← he.1]; exact hbx
  have hrow := h.own.xok _ (List.mem_of_getElem? hA)
  have hpart : (rowA t.enc pp ((ρ hh).cap - a) ((ch.take b).drop a)).at w := row_cut (e := t.enc) hab hbl hrow (by rw [← hc.1]; exact hpp)
  have L := later1 ρ z st.mem.length ⟨pp, (ρ hh).cap - a, t, b - a⟩
  have e1 := ext1_eq ρ st.mem.length ⟨pp, (ρ hh).cap - a, t, b - a⟩
  have e : (st.mem.set hh .dead ++ [Pc.row t ((xs.take b).drop a)]).length = st.mem.length + 1 := by simp
  refine ⟨_, moved_ne X _ _, ⟨?_, ?_, h.own.move (B := rowA t.enc pp ((ρ hh).cap - a) ((ch.take b).drop a)) hh hA (Keeps.refl _ _) hpart (fun q hq => ⟨.inl (hpp.blk hq), (h.own.xdom _ (List.mem_of_getElem? hA) q (hpp.blk hq)).2⟩), h.ext, h.gl, h.dr⟩⟩
  · show FrAt _ _ (st.mem.set hh .dead ++ [Pc.row t ((xs.take b).drop a)]).length _ _
    rw [e]; exact h.fr.later L
  · show MemAt _ _ (st.mem.set hh .dead ++ [Pc.row t ((xs.take b).drop a)]).length _ _
    rw [e]
    have hdead : (Pc.dead).is ρ z st.mem.length hh deadA := trivial
    have hlen : b - a = ((xs.take b).drop a).length := by rw [List.length_drop, List.length_take]; omega
    exact (h.mem.put hdead).push (by simp) L ⟨by rw [e1]; exact ⟨rfl, hlen⟩, (ch.take b).drop a, (he.take b).drop a, by rw [e1]⟩

/-- An array variable is a row of its own. -/
theorem At.unbox (h : At c ρ Z z X st l w) {hh m : Nat} {t : Ty} {x : Arr m t.den} (hp : st.mem[hh]? = some (.box [.dat (.arr m t) x])) :
    ∃ b X', (ρ hh).A = some ⟨b, 0, none⟩ ∧ (∀ i, i ≠ hh → i < X.length → X'[i]? = X[i]?) ∧ At c (ext1 ρ st.mem.length ⟨some ⟨b, 0, none⟩, m, t, m⟩) Z z X' ⟨st.fr, st.mem.set hh .dead ++ [.row t x.1]⟩ l w := by
  obtain ⟨A, hA, b, cs, h3, h4, rfl⟩ := h.mem.get hp
  obtain ⟨ch, he, hfl⟩ := holds_arr (Lvs.of_one h4)
  have hbox := h.own.xok _ (List.mem_of_getElem? hA)
  obtain ⟨t', hh'⟩ := box_heap hbox
  have hbk := (Array.getElem?_eq_some_iff.1 hh').1
  have hcl : ch.length = m := by rw [← he.1]; exact x.2
  have hrow : (rowA t.enc (some ⟨b, 0, none⟩) m ch).at w := by
    refine row_mk (pre := []) (sp := []) (post := []) (t := t') (Nat.le_of_eq hcl) rfl ?_ ?_
    · rw [flat_len, hcl]; rfl
    · simpa [hfl] using hh'
  have L := later1 ρ z st.mem.length ⟨some ⟨b, 0, none⟩, m, t, m⟩
  have e1 := ext1_eq ρ st.mem.length ⟨some ⟨b, 0, none⟩, m, t, m⟩
  have e : (st.mem.set hh .dead ++ [Pc.row t x.1]).length = st.mem.length + 1 := by simp
  refine ⟨b, _, h3, moved_ne X _ _, ⟨?_, ?_, h.own.move (B := rowA t.enc (some ⟨b, 0, none⟩) m ch) hh hA (Keeps.refl _ _) hrow (fun q hq => ?_), h.ext, h.gl, h.dr⟩⟩
  · show FrAt _ _ (st.mem.set hh .dead ++ [Pc.row t x.1]).length _ _
    rw [e]; exact h.fr.later L
  · show MemAt _ _ (st.mem.set hh .dead ++ [Pc.row t x.1]).length _ _
    rw [e]
    have hdead : (Pc.dead).is ρ z st.mem.length hh deadA := trivial
    exact (h.mem.put hdead).push (by simp) L ⟨by rw [e1]; exact ⟨rfl, x.2.symm⟩, ch, he, by rw [e1]⟩
  · obtain ⟨a, ha, rfl⟩ := hq
    injection ha with ha; subst ha
    exact ⟨.inl rfl, hbk⟩

theorem ubL_at {hh m b N N1 : Nat} {t : Ty} (hb : (ρ hh).A = some ⟨b, 0, none⟩) (hlt : hh < N) (hN : N < N1) : ∀ (lf : Leaf) (cs : List Value), lf.at (ext1 ρ N ⟨some ⟨b, 0, none⟩, m, t, m⟩) z N1 cs → (ubL hh N m t lf).at (ext1 ρ N ⟨some ⟨b, 0, none⟩, m, t, m⟩) z N1 cs := by
  intro lf cs hl
  unfold ubL
  split
  · rename_i i off u k a b'
    split
    · rename_i hi
      have hi := Nat.eq_of_beq_eq_true hi; subst hi
      obtain ⟨_, hab, hbm, bl, hbl, e⟩ := hl
      rw [ext1_lt ρ _ hlt, hb] at hbl
      injection hbl with hbl; injection hbl with hbl; subst hbl
      split
      · rename_i hc
        simp only [Bool.and_eq_true] at hc
        have e0 := Nat.eq_of_beq_eq_true hc.1.1
        have eu := Ty.of_beq hc.1.2
        have em := Nat.eq_of_beq_eq_true hc.2
        subst e0; subst eu; subst em
        split
        · rename_i hf
          simp only [Bool.and_eq_true] at hf
          have ea := Nat.eq_of_beq_eq_true hf.1
          have eb := Nat.eq_of_beq_eq_true hf.2
          subst ea; subst eb
          refine ⟨hN, ?_⟩
          rw [ext1_eq, e]
          split <;> simp
        · refine ⟨hN, hab, by rw [ext1_eq]; exact hbm, _, .inl rfl, ?_⟩
          rw [ext1_eq, e]
          unfold cutAddr
          split <;> simp_all [addr_lit]
      · exact ⟨_, e, rfl⟩
    · exact hl
  · exact hl

theorem Lvs.setAt : ∀ {ls : List Leaf} {i : Nat} {cs : List Value} {lo lf : Leaf}, ls[i]? = some lo → Lvs ρ z n ls cs → (∀ c, lo.at ρ z n c → lf.at ρ z n c) → Lvs ρ z n (ls.set i lf) cs
  | [], i, cs, lo, lf, hi, _, _ => by simp at hi
  | l :: ls, 0, cs, lo, lf, hi, ⟨c, d, e, h1, h2⟩, hl => by
    simp only [List.getElem?_cons_zero, Option.some.injEq] at hi
    subst hi
    exact ⟨_, d, e, hl c h1, h2⟩
  | l :: ls, i + 1, cs, lo, lf, hi, ⟨c, d, e, h1, h2⟩, hl => ⟨c, d, e, h1, Lvs.setAt (by simpa using hi) h2 hl⟩

theorem set_same' {X : List Atom} {i : Nat} {A : Atom} (h : X[i]? = some A) : X.set i A = X := by
  apply List.ext_getElem?
  intro j
  rw [List.getElem?_set]
  split
  · rename_i e; subst e
    rw [h, if_pos (List.getElem?_eq_some_iff.1 h).1]
  · rfl

theorem noAr_get : ∀ {ps : List Pc}, noAr ps = true → ∀ (i : Nat) (p : Pc), ps[i]? = some p → p.isAr = false
  | [], _, i, p, e => by simp at e
  | q :: ps, h, i, p, e => by
    simp only [noAr, Bool.and_eq_true, Bool.not_eq_true'] at h
    cases i with
    | zero => simp at e; subst e; exact h.1
    | succ i => exact noAr_get h.2 i p (by simpa using e)
theorem noLk_get {k : Lk} : ∀ {n : Nat}, noLk k n = true → ∀ i, i < n → k.lk i = false
  | 0, _, i, hi => absurd hi (Nat.not_lt_zero _)
  | n + 1, h, i, hi => by
    simp only [noLk, Bool.and_eq_true, Bool.not_eq_true'] at h
    rcases Nat.lt_or_ge i n with h1 | h1
    · exact noLk_get h.2 i h1
    · rw [show i = n from by omega]; exact h.1

/-- Three pieces become one. -/
theorem OwnI.merge {w0 : World} {D R : Nat → Prop} {a b r : Nat} {A B C N : Atom} {z' : Zn} (ho : OwnI w0 D R w X Z z) (hA : X[a]? = some A) (hB : X[b]? = some B) (hC : X[r]? = some C)
    (hN : N.at w) (hd : ∀ q, N.dom q → A.dom q ∨ B.dom q ∨ C.dom q) (e : z'.hp = z.hp) : OwnI w0 D R w ((((X.set a deadA).set b deadA).set r deadA).set a N) Z z' := by
  have key : ∀ {i : Nat} {M : Atom}, ((((X.set a deadA).set b deadA).set r deadA).set a N)[i]? = some M → (i = a ∧ M = N) ∨ M = deadA ∨ (i ≠ a ∧ i ≠ b ∧ i ≠ r ∧ X[i]? = some M) := by
    intro i M hi
    by_cases e1 : i = a
    · subst e1
      rw [List.getElem?_set, if_pos rfl] at hi
      split at hi
      · injection hi with hi; exact .inl ⟨rfl, hi.symm⟩
      · cases hi
    · rw [List.getElem?_set_ne (Ne.symm e1)] at hi
      by_cases e2 : i = r
      · subst e2
        rw [List.getElem?_set, if_pos rfl] at hi
        split at hi
        · injection hi with hi; exact .inr (.inl hi.symm)
        · cases hi
      · rw [List.getElem?_set_ne (Ne.symm e2)] at hi
        by_cases e3 : i = b
        · subst e3
          rw [List.getElem?_set, if_pos rfl] at hi
          split at hi
          · injection hi with hi; exact .inr (.inl hi.symm)
          · cases hi
        · rw [List.getElem?_set_ne (Ne.symm e3), List.getElem?_set_ne (Ne.symm e1)] at hi
          exact .inr (.inr ⟨e1, e3, e2, hi⟩)
  have dN : ∀ q, N.dom q → ∃ j M, (j = a ∨ j = b ∨ j = r) ∧ X[j]? = some M ∧ M.dom q := fun q hq => by
    rcases hd q hq with h | h | h
    · exact ⟨a, A, .inl rfl, hA, h⟩
    · exact ⟨b, B, .inr (.inl rfl), hB, h⟩
    · exact ⟨r, C, .inr (.inr rfl), hC, h⟩
  refine ⟨ho.keep, ?_, by rw [e]; exact ho.zok, ?_, ho.zdom, ?_, ?_⟩
  · intro i M hi
    rcases key hi with ⟨_, rfl⟩ | rfl | ⟨_, _, _, h1⟩
    · exact hN
    · trivial
    · exact ho.ok i M h1
  · intro i M hi q hq
    rcases key hi with ⟨_, rfl⟩ | rfl | ⟨_, _, _, h1⟩
    · obtain ⟨j, M', _, h2, h3⟩ := dN q hq
      exact ho.dom j M' h2 q h3
    · exact hq.elim
    · exact ho.dom i M h1 q hq
  · intro i j M M' hij hi hj q hq hq'
    rcases key hi with ⟨e1, rfl⟩ | rfl | ⟨n1, n2, n3, h1⟩
    · rcases key hj with ⟨e2, rfl⟩ | rfl | ⟨m1, m2, m3, h2⟩
      · exact hij (e1.trans e2.symm)
      · exact hq'.elim
      · obtain ⟨j', M2, h3, h4, h5⟩ := dN q hq
        refine ho.xx j' j M2 M' ?_ h4 h2 q h5 hq'
        rcases h3 with rfl | rfl | rfl <;> exact Ne.symm (by assumption)
    · exact hq.elim
    · rcases key hj with ⟨e2, rfl⟩ | rfl | ⟨m1, m2, m3, h2⟩
      · obtain ⟨j', M2, h3, h4, h5⟩ := dN q hq'
        refine ho.xx i j' M M2 ?_ h1 h4 q hq h5
        rcases h3 with rfl | rfl | rfl <;> assumption
      · exact hq'.elim
      · exact ho.xx i j M M' hij h1 h2 q hq hq'
  · intro i M hi q hq
    rcases key hi with ⟨_, rfl⟩ | rfl | ⟨_, _, _, h1⟩
    · obtain ⟨j, M', _, h2, h3⟩ := dN q hq
      exact ho.xz j M' h2 q h3
    · exact hq.elim
    · exact ho.xz i M h1 q hq

/-- The table, with another node. -/
def Zn.push (z : Zn) (m : NI) : Zn := ⟨z.hp, fun j => match Nat.beq j z.nn with | true => m | false => z.tb j, z.nn + 1⟩
theorem push_eq (z : Zn) (m : NI) : (z.push m).tb z.nn = m := by
  unfold Zn.push; simp only [Nat.beq_refl]
theorem push_lt (z : Zn) (m : NI) {i : Nat} (h : i < z.nn) : (z.push m).tb i = z.tb i := by
  unfold Zn.push
  have : Nat.beq i z.nn = false := by
    cases hb : Nat.beq i z.nn with
    | false => rfl
    | true => have := Nat.eq_of_beq_eq_true hb; omega
  simp only [this]
theorem push_ext (z : Zn) (m : NI) : Ext z (z.push m) := ⟨fun _ _ h => h, Nat.le_succ _, fun i hi => push_lt z m hi⟩

theorem adL_at {b r s i : Nat} {z : Zn} {bl : Nat} (hb : (ρ b).A = some ⟨bl, 0, none⟩) (hi : i < z.nn) (e1 : (z.tb i).blk = bl) (e2 : (z.tb i).A = (ρ r).A) (e3 : (z.tb i).cap = (ρ r).cap) (e4 : (z.tb i).len = (ρ r).len) (e5 : (ρ r).ty.sz = s) :
    ∀ (lf : Leaf) (cs : List Value), lf.at ρ z n cs → (adL b r i s lf).at ρ z n cs := by
  intro lf cs hl
  unfold adL
  split
  · rename_i h off
    split
    · rename_i hc
      have hc := Nat.eq_of_beq_eq_true hc; subst hc
      obtain ⟨_, bl', h1, e⟩ := hl
      rw [hb] at h1; injection h1 with h1; injection h1 with h1; subst h1
      split
      · rename_i ho
        have ho := Nat.eq_of_beq_eq_true ho; subst ho
        exact ⟨_, e, hi, by rw [e1]⟩
      · exact ⟨hi, by rw [e1]; exact e⟩
    · exact hl
  · rename_i h
    split
    · rename_i hc
      have hc := Nat.eq_of_beq_eq_true hc; subst hc
      exact ⟨hi, by rw [e2, e3, e4]; exact hl.2⟩
    · exact hl
  · rename_i h j off
    split
    · rename_i hc
      have hc := Nat.eq_of_beq_eq_true hc; subst hc
      obtain ⟨_, hj, q, hq, e⟩ := hl
      exact ⟨hi, by rw [e4]; exact hj, q, by rw [e2]; exact hq, by rw [← e5]; exact e⟩
    · exact hl
  · exact hl

theorem xadopt_sound {a b : Nat} {st' : St} (hx : xadopt a b st = some st') (h : At c ρ Z z X st l w) : ∃ z' X', At c ρ Z z' X' st' l w ∧ Later ρ ρ z z' st.mem.length st'.mem.length ∧ X'.length = X.length := by
  unfold xadopt at hx
  split at hx
  rotate_left
  · cases hx
  rename_i ls T U xs hb ha
  obtain ⟨B, hB, bl, cs, hb1, hb2, rfl⟩ := h.mem.get hb
  obtain ⟨A, hA, cs0, hok, rfl⟩ := h.mem.get ha
  obtain ⟨x, rest, c1, d1, hx, rfl, hT, hrest⟩ := mkL_at T hx hb2
  split at hx
  rotate_left
  · cases hx
  rename_i r
  split at hx
  rotate_left
  · cases hx
  rename_i U' ys hr
  obtain ⟨e, hx⟩ := Ty.as_some hx
  have e' := Ty.slc.inj e
  have e' := e'.symm
  subst e'
  split at hx
  rotate_left
  · cases hx
  rename_i hna
  injection hx with hx; subst hx
  obtain ⟨C, hC, ⟨ht, hlen⟩, ch, hch, rfl⟩ := h.mem.get hr
  have hd1 : d1 = [.slice (ρ r).A (ρ r).len (ρ r).cap] := (Lvs.of_one hrest).2
  have hI := h.own.toI
  have hne1 : b ≠ a := fun e => by subst e; rw [ha] at hb; cases hb
  have hne2 : r ≠ a := fun e => by subst e; rw [ha] at hr; cases hr
  have hne3 : r ≠ b := fun e => by subst e; rw [hb] at hr; cases hr
  have hcl : cs0.length = z.nn := by rw [hok.len, hok.nn]
  let m : NI := ⟨bl, (ρ r).A, (ρ r).cap, (ρ r).len⟩
  have hzz := push_ext z m
  have domA : ∀ j, j < z.nn → ∀ q, (q = (z.tb j).blk ∨ blkOf (z.tb j).A q) → (arA z.tb U cs0).dom q := fun j hj q hq => ⟨j, by rw [hcl]; exact hj, hq⟩
  have hat := arA_at.1 (hI.ok a _ hA)
  have hboxw := hI.ok b _ hB
  have hroww := hI.ok r _ hC
  have hok' : ArOk (z.push m) T U (xs ++ [(x, ys)]) (cs0 ++ [(c1, ch)]) := by
    refine ⟨by show z.nn + 1 = _; rw [List.length_append, hok.nn]; rfl, by simp [hok.len], ?_, ?_, ?_, ?_⟩
    · intro i y d hy hd
      rcases Nat.lt_or_ge i z.nn with hi | hi
      · rw [List.getElem?_append_left (by rw [← hok.nn]; exact hi)] at hy
        rw [List.getElem?_append_left (by rw [hcl]; exact hi)] at hd
        obtain ⟨h1, h2, h3⟩ := hok.ok i y d hy hd
        exact ⟨T.holds_ext hzz _ _ h1, h2.mono fun _ _ => U.holds_ext hzz _ _, by rw [push_lt z m hi]; exact h3⟩
      · rw [List.getElem?_append_right (by rw [← hok.nn]; exact hi)] at hy
        rw [List.getElem?_append_right (by rw [hcl]; exact hi)] at hd
        rw [← hok.nn] at hy
        rw [hcl] at hd
        have hi0 : i - z.nn = 0 := by
          rcases Nat.eq_zero_or_pos (i - z.nn) with h0 | h0
          · exact h0
          · rw [List.getElem?_eq_none (by simp; omega)] at hy; cases hy
        rw [hi0] at hy hd
        injection hy with hy; injection hd with hd; subst hy; subst hd
        have : i = z.nn := by omega
        subst this
        refine ⟨T.holds_ext hzz _ _ hT, hch.mono fun _ _ => U.holds_ext hzz _ _, by rw [push_eq]; exact hlen⟩
    · intro i j hi hj hij
      have hi : i < z.nn + 1 := hi
      have hj : j < z.nn + 1 := hj
      rcases Nat.lt_or_ge i z.nn with h1 | h1 <;> rcases Nat.lt_or_ge j z.nn with h2 | h2
      · rw [push_lt z m h1, push_lt z m h2]; exact hok.bb i j h1 h2 hij
      · have : j = z.nn := by omega
        subst this
        rw [push_lt z m h1, push_eq]
        intro e
        exact hI.xx a b _ _ (Ne.symm hne1) hA hB bl (domA i h1 bl (.inl e.symm)) rfl
      · have : i = z.nn := by omega
        subst this
        rw [push_lt z m h2, push_eq]
        intro e
        exact hI.xx a b _ _ (Ne.symm hne1) hA hB bl (domA j h2 bl (.inl e)) rfl
      · omega
    · intro i j hi hj hq
      have hi : i < z.nn + 1 := hi
      have hj : j < z.nn + 1 := hj
      rcases Nat.lt_or_ge i z.nn with h1 | h1 <;> rcases Nat.lt_or_ge j z.nn with h2 | h2
      · rw [push_lt z m h1, push_lt z m h2] at hq; exact hok.br i j h1 h2 hq
      · have : j = z.nn := by omega
        subst this
        rw [push_lt z m h1, push_eq] at hq
        exact hI.xx a r _ _ (Ne.symm hne2) hA hC _ (domA i h1 _ (.inl rfl)) hq
      · have : i = z.nn := by omega
        subst this
        rw [push_lt z m h2, push_eq] at hq
        exact hI.xx a b _ _ (Ne.symm hne1) hA hB bl (domA j h2 bl (.inr hq)) rfl
      · have : i = z.nn := by omega
        subst this
        have : j = z.nn := by omega
        subst this
        rw [push_eq] at hq
        exact hI.xx r b _ _ hne3 hC hB bl hq rfl
    · intro i j hi hj hij q hq hq'
      have hi : i < z.nn + 1 := hi
      have hj : j < z.nn + 1 := hj
      rcases Nat.lt_or_ge i z.nn with h1 | h1 <;> rcases Nat.lt_or_ge j z.nn with h2 | h2
      · rw [push_lt z m h1] at hq; rw [push_lt z m h2] at hq'; exact hok.rr i j h1 h2 hij q hq hq'
      · have : j = z.nn := by omega
        subst this
        rw [push_lt z m h1] at hq; rw [push_eq] at hq'
        exact hI.xx a r _ _ (Ne.symm hne2) hA hC q (domA i h1 q (.inr hq)) hq'
      · have : i = z.nn := by omega
        subst this
        rw [push_eq] at hq; rw [push_lt z m h2] at hq'
        exact hI.xx a r _ _ (Ne.symm hne2) hA hC q (domA j h2 q (.inr hq')) hq
      · omega
  have hN : (arA (z.push m).tb U (cs0 ++ [(c1, ch)])).at w := by
    refine arA_at.2 fun i d hd => ?_
    rcases Nat.lt_or_ge i z.nn with hi | hi
    · rw [List.getElem?_append_left (by rw [hcl]; exact hi)] at hd
      rw [push_lt z m hi]; exact hat i d hd
    · rw [List.getElem?_append_right (by rw [hcl]; exact hi), hcl] at hd
      have hi0 : i - z.nn = 0 := by
        rcases Nat.eq_zero_or_pos (i - z.nn) with h0 | h0
        · exact h0
        · rw [List.getElem?_eq_none (by simp; omega)] at hd; cases hd
      rw [hi0] at hd
      injection hd with hd; subst hd
      have : i = z.nn := by omega
      subst this
      rw [push_eq]
      refine ⟨?_, hroww⟩
      show (boxA bl (c1 ++ [.slice (ρ r).A (ρ r).len (ρ r).cap])).at w
      rw [← hd1]; exact hboxw
  have hD : ∀ q, (arA (z.push m).tb U (cs0 ++ [(c1, ch)])).dom q → (arA z.tb U cs0).dom q ∨ (boxA bl (c1 ++ d1)).dom q ∨ (rowA U.enc (ρ r).A (ρ r).cap ch).dom q := by
    rintro q ⟨i, hi, hq⟩
    rw [List.length_append, hcl] at hi
    have hi : i < z.nn + 1 := hi
    rcases Nat.lt_or_ge i z.nn with h1 | h1
    · rw [push_lt z m h1] at hq; exact .inl (domA i h1 q hq)
    · have : i = z.nn := by omega
      subst this
      rw [push_eq] at hq
      exact .inr (hq.imp id id)
  have hown := (hI.merge hA hB hC hN hD (z' := z.push m) rfl).own
  have L : Later ρ ρ z (z.push m) st.mem.length st.mem.length := ⟨fun _ _ => rfl, hzz, Nat.le_refl _⟩
  have hm1 : MemAt ρ z st.mem.length (st.mem.set a .dead) (X.set a deadA) := h.mem.put (p := .dead) (A := deadA) trivial
  have hm2 : MemAt ρ (z.push m) st.mem.length (st.mem.set a .dead) (X.set a deadA) :=
    ⟨hm1.1, fun i p A' h1 h2 => p.later L (by have := (List.getElem?_eq_some_iff.1 h1).1; simpa using this) _ (.inr (noAr_get hna i p h1)) (hm1.2 i p A' h1 h2)⟩
  have hm3 := ((hm2.put (h := b) (p := .dead) (A := deadA) trivial).put (h := r) (p := .dead) (A := deadA) trivial).put (h := a) (p := .ar T U (xs ++ [(x, ys)])) ⟨_, hok', rfl⟩
  have hf : ∀ (lf : Leaf) (cs : List Value), lf.at ρ (z.push m) st.mem.length cs → (adL b r xs.length U.sz lf).at ρ (z.push m) st.mem.length cs := by
    rw [← hok.nn]
    refine adL_at hb1 (Nat.lt_succ_self _) ?_ ?_ ?_ ?_ (by rw [ht]) <;> rw [push_eq]
  have hm4 := hm3.map (fun i p A => mapP_is hf (i := i) p A)
  have el : (((((st.mem.set a .dead).set b .dead).set r .dead).set a (.ar T U (xs ++ [(x, ys)]))).map (Pc.mapL (adL b r xs.length U.sz))).length = st.mem.length := by simp
  refine ⟨z.push m, _, ⟨?_, ?_, hown, h.ext.trans hzz, h.gl, h.dr⟩, ?_, by simp⟩
  · show FrAt ρ (z.push m) (List.length _) _ l
    rw [el]; exact (h.fr.later L).map (mapA_at hf)
  · show MemAt ρ (z.push m) (List.length _) _ _
    rw [el]; exact hm4
  · show Later ρ ρ z (z.push m) _ (List.length _)
    rw [el]; exact L

theorem xfreezeB_sound {hh : Nat} {T : Ty} {st' : St} (hx : xfreezeB hh T st = some st') (h : At c ρ Z z X st l w) :
    ∃ Z' z' X', At c ρ Z' z' X' st' l w ∧ Later ρ ρ z z' st.mem.length st'.mem.length ∧ ∀ i, i ≠ hh → X'[i]? = X[i]? := by
  unfold xfreezeB at hx
  split at hx
  · rename_i ls hp
    obtain ⟨A, hA, b, cs, e1, e2, rfl⟩ := h.mem.get hp
    obtain ⟨x, rest, c1, d1, hK, e3, hh1, hh2⟩ := mkL_at T hx e2
    split at hK
    · injection hK with hK; subst hK
      have hd : d1 = [] := hh2
      subst hd
      rw [List.append_nil] at e3
      subst e3
      have hI := h.own.toI
      obtain ⟨t', hbk⟩ := box_heap (hI.ok hh _ hA)
      have hzz : Ext z (z.up (cut (fun q => Z q ∨ (boxA b cs).dom q) (look w))) := Ext.up (by
        have e0 := hI.zok
        rw [← e0]
        exact ext_cut fun b hb => .inl hb)
      generalize hz' : z.up (cut (fun q => Z q ∨ (boxA b cs).dom q) (look w)) = z' at hzz
      have hin : InZ z' ⟨b, 0, none⟩ cs := fun j u hj => by
        rw [← hz']
        unfold cellAt
        rw [show (⟨b, 0, none⟩ : Addr).add j = ⟨b, 0 + j, none⟩ from Addr.add_lit .., show (z.up (cut (fun q => Z q ∨ (boxA b cs).dom q) (look w))).hp = cut (fun q => Z q ∨ (boxA b cs).dom q) (look w) from rfl, cut_pos (show Z (⟨b, 0 + j, none⟩ : Addr).block ∨ _ from .inr rfl)]
        show (match look w b with | some (.cells c _ _) => if (none : Option Nat).isSome then none else c[0 + j]? | _ => none) = some u
        rw [show look w b = some (.cells cs.toArray t' (0, 0)) from hbk]
        simpa using hj
      have hT : T.holds z' x cs := T.holds_ext hzz _ _ hh1
      have L : Later ρ ρ z z' st.mem.length st.mem.length := ⟨fun _ _ => rfl, hzz, Nat.le_refl _⟩
      have hf : ∀ (lf : Leaf) (cs : List Value), lf.at ρ z' st.mem.length cs → (fpL hh T x lf).at ρ z' st.mem.length cs := by
        intro lf cs2 hl
        unfold fpL
        split
        · rename_i i off
          split
          · rename_i hi
            have hi := Nat.eq_of_beq_eq_true hi; subst hi
            obtain ⟨_, b', hb', e⟩ := hl
            rw [e1] at hb'; injection hb' with hb'; injection hb' with hb'; subst hb'
            split
            · rename_i ho
              have ho := Nat.eq_of_beq_eq_true ho; subst ho
              exact ⟨_, e, .inr ⟨x, _, cs, rfl, rfl, hT, hin⟩⟩
            · exact ⟨⟨b, 0, none⟩, cs, hT, hin, by rw [e, Addr.add_lit, Nat.zero_add]⟩
          · exact hl
        · exact hl
      have e : ((st.mem.map (Pc.mapL (fpL hh T x))).set hh .dead).length = st.mem.length := by simp
      refine ⟨_, z', _, ⟨?_, ?_, (by rw [← hz']; exact (hI.freeze h.dr hA).own), h.ext.trans hzz, h.gl, h.dr⟩, by show Later ρ ρ z z' st.mem.length (List.length _); rw [e]; exact L, fun i hi => List.getElem?_set_ne (Ne.symm hi)⟩
      · show FrAt _ _ (List.length _) _ _
        rw [e]; exact (h.fr.later L).map (mapA_at hf)
      · show MemAt _ _ (List.length _) _ _
        rw [e]
        exact ((h.mem.later L (Nat.le_refl _) (by rw [← hz']; rfl)).map (fun i p A => mapP_is hf p A)).put trivial
    · cases hK
  · cases hx

theorem xgh_sound {k : Lk} {g : Gh} {st' : St} (hk : ghB k g st = true) (hx : xgh g st = some st') (h : At c ρ Z z X st l w) : ∃ ρ' Z' z' X', At c ρ' Z' z' X' st' l w ∧ LatK k ρ ρ' z z' st.mem.length st'.mem.length X X' Z Z' := by
  cases g with
  | adopt hh =>
    simp only [xgh] at hx
    split at hx
    · rename_i st1 h1
      injection hx with hx; subst hx
      obtain ⟨z', X', h2, h3, h4⟩ := xadopt_sound h1 h
      simp only [ghB, Bool.and_eq_true, Bool.not_eq_true'] at hk
      exact ⟨ρ, Z, z', X', h2, h3, ⟨fun i hi hl => (by rw [noLk_get hk.1 i (by rw [h.mem.1]; exact hl)] at hi; cases hi), fun hs => (by rw [hk.2] at hs; cases hs)⟩⟩
    · injection hx with hx; subst hx
      exact ⟨ρ, Z, z, X, h, LatK.refl ..⟩
  | freezeB hh T =>
    simp only [xgh] at hx
    split at hx
    · rename_i st1 h1
      injection hx with hx; subst hx
      obtain ⟨Z', z', X', h2, h3, h4⟩ := xfreezeB_sound h1 h
      simp only [ghB, Bool.and_eq_true, Bool.not_eq_true'] at hk
      exact ⟨ρ, Z', z', X', h2, h3, ⟨fun i hi hl => h4 i (fun e => by subst e; rw [hk.1] at hi; cases hi), fun hs => (by rw [hk.2] at hs; cases hs)⟩⟩
    · injection hx with hx; subst hx
      exact ⟨ρ, Z, z, X, h, LatK.refl ..⟩
  | freeze hh =>
    simp only [xgh] at hx
    split at hx
    · rename_i t xs hp
      injection hx with hx; subst hx
      obtain ⟨A, hA, _⟩ := h.mem.get hp
      have hI := h.own.toI
      have hzz : Ext z (z.up (cut (fun b => Z b ∨ A.dom b) (look w))) := Ext.up (by
        have e0 := hI.zok
        rw [← e0]
        exact ext_cut fun b hb => .inl hb)
      have L : Later ρ ρ z (z.up (cut (fun b => Z b ∨ A.dom b) (look w))) st.mem.length st.mem.length := ⟨fun _ _ => rfl, hzz, Nat.le_refl _⟩
      obtain ⟨ch, h3, h4, h5, h6, h7⟩ := row_zone (Z1 := fun b => Z b ∨ A.dom b) h.mem hI.ok hzz hp (fun B hB b hb => by rw [hA] at hB; injection hB with hB; subst hB; exact .inr hb)
      have F : Frz ρ (z.up (cut (fun b => Z b ∨ A.dom b) (look w))) hh t xs ch := ⟨h3, h4, h5, h6, h7⟩
      have e : ((st.mem.map (frzP hh t xs)).set hh .dead).length = st.mem.length := by simp
      refine ⟨ρ, _, _, _, ⟨?_, ?_, (hI.freeze h.dr hA).own, h.ext.trans hzz, h.gl, h.dr⟩, by show Later ρ ρ z _ st.mem.length ((st.mem.map (frzP hh t xs)).set hh .dead).length; rw [e]; exact L, ⟨fun i hi hil => ?_, fun hs => ?_⟩⟩
      · show FrAt _ _ ((st.mem.map (frzP hh t xs)).set hh .dead).length _ _
        rw [e]; exact (h.fr.later L).map (frzA_at F)
      · show MemAt _ _ ((st.mem.map (frzP hh t xs)).set hh .dead).length _ _
        rw [e]
        exact ((h.mem.later L (Nat.le_refl _) rfl).map (fun i p A => frzP_is F p A)).put trivial
      · simp only [ghB, Bool.and_eq_true, Bool.not_eq_true'] at hk
        rw [List.getElem?_set_ne (fun e => by subst e; rw [hk.1] at hi; cases hi)]
      · simp only [ghB, Bool.and_eq_true, Bool.not_eq_true'] at hk
        rw [hk.2] at hs; cases hs
    · injection hx with hx; subst hx
      exact ⟨ρ, Z, z, X, h, LatK.refl ..⟩
  | mkrow s t =>
    simp only [xgh] at hx
    split at hx
    · rename_i hs
      injection hx with hx; subst hx
      have h1 := h.addNil t
      refine ⟨_, Z, z, _, ⟨?_, h1.mem, h1.own, h1.ext, h1.gl, h1.dr⟩, by show Later _ _ _ _ _ (st.mem ++ [Pc.row t []]).length; simpa using later1 ρ z st.mem.length ⟨none, 0, t, 0⟩, ⟨fun i _ hil => List.getElem?_append_left hil, fun _ => ⟨rfl, rfl⟩⟩⟩
      refine FrAt.set h1.fr (s := s) (av := .vl false [.row st.mem.length]) fun v hv => ?_
      have h2 := Cmp.of_one (h.fr.2 s _ v hs hv)
      have h2 : [v] = [Value.slice none 0 0] := h2
      refine Cmp.one ⟨by simp, ?_⟩
      rw [ext1_eq]
      exact h2
    · injection hx with hx; subst hx
      exact ⟨ρ, Z, z, X, h, LatK.refl ..⟩
  | mkrowB hh i t =>
    simp only [xgh] at hx
    split at hx
    · rename_i ls hp
      split at hx
      · rename_i hi
        injection hx with hx; subst hx
        have h1 := h.addNil t
        have hlt : hh < st.mem.length := (List.getElem?_eq_some_iff.1 hp).1
        have hmem : (st.mem ++ [Pc.row t []]).set hh (.box (ls.set i (.row st.mem.length))) = st.mem.set hh (.box (ls.set i (.row st.mem.length))) ++ [.row t []] := by
          rw [List.set_append_left _ _ hlt]
        obtain ⟨A, hA, b, cs, e1, e2, e3⟩ := h1.mem.get (show (st.mem ++ [Pc.row t []])[hh]? = some (.box ls) by rw [List.getElem?_append_left hlt]; exact hp)
        have hlv : Lvs (ext1 ρ st.mem.length ⟨none, 0, t, 0⟩) z (st.mem ++ [Pc.row t []]).length (ls.set i (.row st.mem.length)) cs := by
          refine Lvs.setNil hi e2 ⟨by simp, ?_⟩
          rw [ext1_eq]
        have h2 : MemAt (ext1 ρ st.mem.length ⟨none, 0, t, 0⟩) z (st.mem ++ [Pc.row t []]).length ((st.mem ++ [Pc.row t []]).set hh (.box (ls.set i (.row st.mem.length)))) ((X ++ [rowA t.enc none 0 []]).set hh A) := h1.mem.put ⟨b, cs, e1, hlv, e3⟩
        rw [show (X ++ [rowA t.enc none 0 []]).set hh A = X ++ [rowA t.enc none 0 []] from by
          apply List.ext_getElem?
          intro j
          rw [List.getElem?_set]
          split
          · rename_i e; subst e
            rw [hA, if_pos]
            exact (List.getElem?_eq_some_iff.1 hA).1
          · rfl, hmem] at h2
        have e : (st.mem.set hh (.box (ls.set i (.row st.mem.length))) ++ [Pc.row t []]).length = (st.mem ++ [Pc.row t []]).length := by simp
        refine ⟨ext1 ρ st.mem.length ⟨none, 0, t, 0⟩, Z, z, X ++ [rowA t.enc none 0 []], ⟨?_, ?_, h1.own, h1.ext, h1.gl, h1.dr⟩, ?_, ⟨fun i _ hil => List.getElem?_append_left hil, fun _ => ⟨rfl, rfl⟩⟩⟩
        · show FrAt _ _ (st.mem.set hh _ ++ [Pc.row t []]).length _ _
          rw [e]; exact h1.fr
        · show MemAt _ _ (st.mem.set hh _ ++ [Pc.row t []]).length _ _
          rw [e]; exact h2
        · show Later _ _ _ _ _ (st.mem.set hh _ ++ [Pc.row t []]).length
          rw [e]; simpa using later1 ρ z st.mem.length ⟨none, 0, t, 0⟩
      · injection hx with hx; subst hx
        exact ⟨ρ, Z, z, X, h, LatK.refl ..⟩
    · injection hx with hx; subst hx
      exact ⟨ρ, Z, z, X, h, LatK.refl ..⟩
  | rebase s =>
    simp only [xgh] at hx
    split at hx
    · rename_i hh a b hs
      split at hx
      · rename_i t xs hp
        injection hx with hx; subst hx
        have hlt : s < l.length := by rw [← h.fr.1]; exact (List.getElem?_eq_some_iff.1 hs).1
        obtain ⟨h0, hab, hbl, pp, hpp, e0⟩ := Cmp.of_one (h.fr.2 s _ _ hs (List.getElem?_eq_getElem hlt))
        obtain ⟨X', hX', h1⟩ := h.rebase hp hab hbl hpp
        obtain ⟨A, hA, hc, _⟩ := h.mem.get hp
        refine ⟨_, Z, z, _, ⟨?_, h1.mem, h1.own, h1.ext, h1.gl, h1.dr⟩, by show Later _ _ _ _ _ (st.mem.set hh .dead ++ [Pc.row t ((xs.take b).drop a)]).length; simpa using later1 ρ z st.mem.length ⟨pp, (ρ hh).cap - a, t, b - a⟩, ⟨fun i hi hil => hX' i (fun e => by subst e; simp only [ghB, hs, Bool.not_eq_true'] at hk; rw [hk] at hi; cases hi) hil, fun _ => ⟨rfl, rfl⟩⟩⟩
        refine FrAt.set h1.fr (s := s) (av := .vl false [.row st.mem.length]) fun v hv => ?_
        have hve : l[s] = v := Option.some.inj ((List.getElem?_eq_getElem hlt).symm.trans hv)
        have h2 : [v] = _ := hve ▸ e0
        refine Cmp.one ⟨by simp, ?_⟩
        rw [ext1_eq, h2]
      · injection hx with hx; subst hx
        exact ⟨ρ, Z, z, X, h, LatK.refl ..⟩
    · injection hx with hx; subst hx
      exact ⟨ρ, Z, z, X, h, LatK.refl ..⟩
  | rebaseB hb i =>
    simp only [xgh] at hx
    split at hx
    · rename_i ls hbx
      split at hx
      · rename_i hh a b hi
        split at hx
        · rename_i t xs hp
          injection hx with hx; subst hx
          have hlt : hb < st.mem.length := (List.getElem?_eq_some_iff.1 hbx).1
          have hne : hh ≠ hb := fun e => by subst e; rw [hbx] at hp; cases hp
          obtain ⟨A0, hA0, bl0, cs0, e10, e20, e30⟩ := h.mem.get hbx
          obtain ⟨c0, ⟨_, hab, hbl, pp, hpp, hc0⟩, hset⟩ := Lvs.pick hi e20
          obtain ⟨X', hX', h1⟩ := h.rebase hp hab hbl hpp
          have elen : (st.mem.set hh .dead ++ [Pc.row t ((xs.take b).drop a)]).length = st.mem.length + 1 := by simp
          have hlv0 : Lvs (ext1 ρ st.mem.length ⟨pp, (ρ hh).cap - a, t, b - a⟩) z (st.mem.set hh .dead ++ [Pc.row t ((xs.take b).drop a)]).length ls cs0 := by
            rw [elen]; exact Lvs.later (later1 ρ z st.mem.length ⟨pp, (ρ hh).cap - a, t, b - a⟩) _ _ e20
          have hlv : Lvs (ext1 ρ st.mem.length ⟨pp, (ρ hh).cap - a, t, b - a⟩) z (st.mem.set hh .dead ++ [Pc.row t ((xs.take b).drop a)]).length (ls.set i (.row st.mem.length)) cs0 := hset hlv0 ⟨by simp, by rw [hc0, ext1_eq]⟩
          have hA : X'[hb]? = some A0 := by rw [hX' hb (Ne.symm hne) (List.getElem?_eq_some_iff.1 hA0).1]; exact hA0
          have h2 := h1.mem.put (h := hb) (p := .box (ls.set i (.row st.mem.length))) (A := A0) ⟨bl0, cs0, by rw [ext1_lt ρ _ hlt]; exact e10, hlv, e30⟩
          rw [set_same' hA] at h2
          have e : ((st.mem.set hh .dead ++ [Pc.row t ((xs.take b).drop a)]).set hb (.box (ls.set i (.row st.mem.length)))).length = (st.mem.set hh .dead ++ [Pc.row t ((xs.take b).drop a)]).length := by simp
          refine ⟨ext1 ρ st.mem.length ⟨pp, (ρ hh).cap - a, t, b - a⟩, Z, z, X', ⟨?_, ?_, h1.own, h1.ext, h1.gl, h1.dr⟩, ?_, ⟨fun j hj hjl => hX' j (fun e => by subst e; simp only [ghB, hbx, hi, Bool.not_eq_true'] at hk; rw [hk] at hj; cases hj) hjl, fun _ => ⟨rfl, rfl⟩⟩⟩
          · show FrAt _ _ ((st.mem.set hh .dead ++ [Pc.row t ((xs.take b).drop a)]).set hb _).length _ _
            rw [e]; exact h1.fr
          · show MemAt _ _ ((st.mem.set hh .dead ++ [Pc.row t ((xs.take b).drop a)]).set hb _).length _ _
            rw [e]; exact h2
          · show Later _ _ _ _ _ ((st.mem.set hh .dead ++ [Pc.row t ((xs.take b).drop a)]).set hb _).length
            rw [e]; simpa using later1 ρ z st.mem.length ⟨pp, (ρ hh).cap - a, t, b - a⟩
        · injection hx with hx; subst hx
          exact ⟨ρ, Z, z, X, h, LatK.refl ..⟩
      · injection hx with hx; subst hx
        exact ⟨ρ, Z, z, X, h, LatK.refl ..⟩
    · injection hx with hx; subst hx
      exact ⟨ρ, Z, z, X, h, LatK.refl ..⟩
  | unbox hh =>
    simp only [xgh] at hx
    split at hx
    · rename_i m t x hp
      injection hx with hx; subst hx
      obtain ⟨b, X', hb, hX', h1⟩ := h.unbox hp
      have hlt : hh < st.mem.length := (List.getElem?_eq_some_iff.1 hp).1
      have e : ((st.mem.set hh .dead ++ [Pc.row t x.1]).map (Pc.mapL (ubL hh st.mem.length m t))).length = (st.mem.set hh .dead ++ [Pc.row t x.1]).length := by simp
      have hf := ubL_at (z := z) (N1 := (st.mem.set hh .dead ++ [Pc.row t x.1]).length) (m := m) (t := t) hb hlt (by simp)
      refine ⟨ext1 ρ st.mem.length ⟨some ⟨b, 0, none⟩, m, t, m⟩, Z, z, X', ⟨?_, ?_, h1.own, h1.ext, h1.gl, h1.dr⟩, ?_, ⟨fun i hi hil => hX' i (fun e => by subst e; simp only [ghB, Bool.not_eq_true'] at hk; rw [hk] at hi; cases hi) hil, fun _ => ⟨rfl, rfl⟩⟩⟩
      · show FrAt _ _ ((st.mem.set hh .dead ++ [Pc.row t x.1]).map (Pc.mapL (ubL hh st.mem.length m t))).length _ _
        rw [e]; exact h1.fr.map (mapA_at hf)
      · show MemAt _ _ ((st.mem.set hh .dead ++ [Pc.row t x.1]).map (Pc.mapL (ubL hh st.mem.length m t))).length _ _
        rw [e]; exact h1.mem.map (fun i p A => mapP_is hf p A)
      · show Later _ _ _ _ _ ((st.mem.set hh .dead ++ [Pc.row t x.1]).map (Pc.mapL (ubL hh st.mem.length m t))).length
        rw [e]
        simpa using later1 ρ z st.mem.length ⟨some ⟨b, 0, none⟩, m, t, m⟩
    · injection hx with hx; subst hx
      exact ⟨ρ, Z, z, X, h, LatK.refl ..⟩
  | whole s =>
    simp only [xgh] at hx
    split at hx
    · rename_i hh hs
      split at hx
      · rename_i t xs hp
        injection hx with hx; subst hx
        refine ⟨ρ, Z, z, X, ⟨?_, h.mem, h.own, h.ext, h.gl, h.dr⟩, LatK.refl ..⟩
        refine FrAt.set h.fr (s := s) (av := .vl false [.part hh 0 xs.length]) fun v hv => ?_
        have h2 := Cmp.of_one (h.fr.2 s _ v hs hv)
        obtain ⟨A, hA, hc, _⟩ := h.mem.get hp
        exact Cmp.one (whole_at hc.2 h2)
      · injection hx with hx; subst hx
        exact ⟨ρ, Z, z, X, h, LatK.refl ..⟩
    · injection hx with hx; subst hx
      exact ⟨ρ, Z, z, X, h, LatK.refl ..⟩
  | wholeB hb i =>
    simp only [xgh] at hx
    split at hx
    · rename_i ls hbx
      split at hx
      · rename_i hh hi
        split at hx
        · rename_i t xs hp
          injection hx with hx; subst hx
          obtain ⟨Ar, hAr, hc, _⟩ := h.mem.get hp
          obtain ⟨A, hA, bl, cs, e1, e2, e3⟩ := h.mem.get hbx
          have hlv : Lvs ρ z st.mem.length (ls.set i (.part hh 0 xs.length)) cs := Lvs.setAt hi e2 fun c hcc => whole_at hc.2 hcc
          have h2 := h.mem.put (h := hb) (p := .box (ls.set i (.part hh 0 xs.length))) (A := A) ⟨bl, cs, e1, hlv, e3⟩
          rw [set_same' hA] at h2
          have e : (st.mem.set hb (.box (ls.set i (.part hh 0 xs.length)))).length = st.mem.length := by simp
          refine ⟨ρ, Z, z, X, ⟨?_, ?_, h.own, h.ext, h.gl, h.dr⟩, ?_⟩
          · show FrAt _ _ (st.mem.set hb _).length _ _
            rw [e]; exact h.fr
          · show MemAt _ _ (st.mem.set hb _).length _ _
            rw [e]; exact h2
          · show LatK _ _ _ _ _ _ (st.mem.set hb _).length _ _ _ _
            rw [e]; exact LatK.refl ..
        · injection hx with hx; subst hx
          exact ⟨ρ, Z, z, X, h, LatK.refl ..⟩
      · injection hx with hx; subst hx
        exact ⟨ρ, Z, z, X, h, LatK.refl ..⟩
    · injection hx with hx; subst hx
      exact ⟨ρ, Z, z, X, h, LatK.refl ..⟩
end
end Go.Lift

/- Code, run on what is known. -/
namespace Go.Lift
open Go
set_option linter.unusedVariables false

inductive Hint : Type 1 where
  | gh (g : Gh)
  | pg (g : Gh)
  | cut (C : Con)
  | unroll (n : Nat)
  | mods (hs : List Nat)
  | plan (pl : Pl) (ms : List Nat)

abbrev Hints := List (List Nat × Hint)

def here : Hints → Option Hint
  | [] => none
  | ([], .gh _) :: hs => here hs
  | ([], .pg _) :: hs => here hs
  | ([], h) :: _ => some h
  | (_ :: _, _) :: hs => here hs

def down (i : Nat) : Hints → Hints
  | [] => []
  | ([], _) :: hs => down i hs
  | (j :: p, h) :: hs => match Nat.beq j i with
    | true => (p, h) :: down i hs
    | false => down i hs

def subC : Code → List Nat → Code
  | c, [] => c
  | .seq x y, i :: p => match i with
    | 0 => subC x p
    | _ => subC y p
  | .cond _ x y, i :: p => match i with
    | 0 => subC x p
    | _ => subC y p
  | .block _ x, _ :: p => subC x p
  | .loop x, _ :: p => subC x p
  | _, _ :: _ => .skip

def Hint.ok (P : Program) (G : Globs) (c : Code) : Hint → Prop
  | .cut C => FragOk P G c C
  | _ => True

def HsOk (P : Program) (G : Globs) (c : Code) (hs : Hints) : Prop := ∀ x ∈ hs, x.2.ok P G (subC c x.1)

theorem HsOk.nil {P : Program} {G : Globs} {c : Code} : HsOk P G c [] := fun x hx => by cases hx
theorem HsOk.cut {P : Program} {G : Globs} {c : Code} {hs : Hints} {p : List Nat} {C : Con} (h : FragOk P G (subC c p) C) (t : HsOk P G c hs) : HsOk P G c ((p, .cut C) :: hs) := List.forall_mem_cons.2 ⟨h, t⟩
theorem HsOk.gh {P : Program} {G : Globs} {c : Code} {hs : Hints} {p : List Nat} {g : Gh} (t : HsOk P G c hs) : HsOk P G c ((p, .gh g) :: hs) := List.forall_mem_cons.2 ⟨trivial, t⟩
theorem HsOk.pg {P : Program} {G : Globs} {c : Code} {hs : Hints} {p : List Nat} {g : Gh} (t : HsOk P G c hs) : HsOk P G c ((p, .pg g) :: hs) := List.forall_mem_cons.2 ⟨trivial, t⟩
theorem HsOk.plan {P : Program} {G : Globs} {c : Code} {hs : Hints} {p : List Nat} {pl : Pl} {ms : List Nat} (t : HsOk P G c hs) : HsOk P G c ((p, .plan pl ms) :: hs) := List.forall_mem_cons.2 ⟨trivial, t⟩
theorem HsOk.unroll {P : Program} {G : Globs} {c : Code} {hs : Hints} {p : List Nat} {n : Nat} (t : HsOk P G c hs) : HsOk P G c ((p, .unroll n) :: hs) := List.forall_mem_cons.2 ⟨trivial, t⟩
theorem HsOk.mods {P : Program} {G : Globs} {c : Code} {hs : Hints} {p : List Nat} {n : List Nat} (t : HsOk P G c hs) : HsOk P G c ((p, .mods n) :: hs) := List.forall_mem_cons.2 ⟨trivial, t⟩

theorem mem_down {i : Nat} : ∀ {hs : Hints} {x : List Nat × Hint}, x ∈ down i hs → (i :: x.1, x.2) ∈ hs
  | [], x, h => by cases h
  | ([], _) :: hs, x, h => List.mem_cons_of_mem _ (mem_down (hs := hs) h)
  | (j :: p, g) :: hs, x, h => by
    unfold down at h
    split at h
    · rename_i hb
      rcases List.mem_cons.1 h with rfl | h
      · rw [Nat.eq_of_beq_eq_true hb]; exact List.mem_cons_self ..
      · exact List.mem_cons_of_mem _ (mem_down h)
    · exact List.mem_cons_of_mem _ (mem_down h)

theorem mem_here : ∀ {hs : Hints} {h : Hint}, here hs = some h → ([], h) ∈ hs
  | [], h, e => by cases e
  | ([], g) :: hs, h, e => by
    cases g with
    | gh g => exact List.mem_cons_of_mem _ (mem_here (hs := hs) e)
    | pg g => exact List.mem_cons_of_mem _ (mem_here (hs := hs) e)
    | cut C => injection e with e; subst e; exact List.mem_cons_self ..
    | unroll n => injection e with e; subst e; exact List.mem_cons_self ..
    | mods n => injection e with e; subst e; exact List.mem_cons_self ..
    | plan n m => injection e with e; subst e; exact List.mem_cons_self ..
  | (_ :: _, _) :: hs, h, e => List.mem_cons_of_mem _ (mem_here (hs := hs) e)

theorem HsOk.down {P : Program} {G : Globs} {c x : Code} {hs : Hints} {i : Nat} (h : HsOk P G c hs) (e : ∀ p, subC c (i :: p) = subC x p) : HsOk P G x (Go.Lift.down i hs) := fun y hy => by
  have := h _ (mem_down hy)
  simp only at this
  rwa [e] at this

section
variable {R : Type}

/-- A piece of code by its contract. -/
def xfrag (k : Lk) (C : Con) (st : St) (K : Ex → St → Option R) : Option R :=
  match C.Tin.match [] st with
  | some (_, d, π) => match bdL π C.Tin.mem.length with
    | πl => match okPi st.mem.length πl && okLk k C.ro C.kp [] πl 0 && (Nat.ble C.kp πl.length && !k.sz) with
      | true => C.body.run d fun i o => match C.outs[i]? with
        | some (ex, To) => match To.fill o with
          | some st1 => match Nat.ble C.kp st1.mem.length with
            | true => match st1.wide C.kp πl.length with
              | st' => match arIn πl st.mem 0 || noNd st' with
                | true => K ex ⟨st'.fr.map (AV.ren (renF πl st.mem.length)), backM st.mem πl st'.mem⟩
                | false => none
            | false => none
          | none => none
        | none => none
      | false => none
  | none => none

/-- A ghost step that turns nothing that stands still. -/
def xghk (k : Lk) (g : Gh) (st : St) : Option St := match ghB k g st with
  | true => xgh g st
  | false => none

def xghs (k : Lk) : Hints → St → Option St
  | [], st => some st
  | ([], .gh g) :: hs, st => match xghk k g st with
    | some st => xghs k hs st
    | none => none
  | _ :: hs, st => xghs k hs st

def xpgs (k : Lk) : Hints → St → Option St
  | [], st => some st
  | ([], .pg g) :: hs, st => match xghk k g st with
    | some st => xpgs k hs st
    | none => none
  | _ :: hs, st => xpgs k hs st

/-- What is done behind a piece of code. -/
def xpost (k : Lk) (hs : Hints) (K : Ex → St → Option R) (e : Ex) (st : St) : Option R := match e with
  | .normal => match xpgs k hs st with
    | some st => K .normal st
    | none => none
  | e => K e st

def xpre (k : Lk) (hs : Hints) (st : St) (K : Ex → St → Option R) (go : St → Option R) : Option R :=
  match xghs k hs st with
  | some st => match here hs with
    | some (.cut C) => xfrag k C st K
    | _ => go st
  | none => none

def modsOf (hs : Hints) : List Nat := match here hs with
  | some (.mods l) => l
  | _ => []

noncomputable def xreg (P : Program) (G : Globs) (Γ : Gam R) (k : Lk) (ops : List Oper) (draw : Bool) (hs : Hints) (st : St) (K : St → Option R) : Option R :=
  match draw with
  | false => xops P G Γ k ops ops st K
  | true => match here hs with
   | some (.plan pl ms) => match planB ops pl && P.follows .mixedOrders with
    | true => xplan P G Γ k ms ops pl st.mem.length [] st K
    | false => none
   | _ => match order P ops with
    | π => match spineB ops π && P.follows .mixedOrders && Region.noSelect ops.toArray with
      | true => xwalk P G Γ k (modsOf hs) ops π st.mem.length [] st K
      | false => none

def xrounds (f : St → (Ex → St → Option R) → Option R) : Nat → St → (Ex → St → Option R) → Option R
  | 0, _, _ => none
  | n + 1, st, K => f st fun e st => match e with
    | .normal => xrounds f n st K
    | e => K e st

noncomputable def xcode (P : Program) (G : Globs) (Γ : Gam R) (k : Lk) : Code → Hints → St → (Ex → St → Option R) → Option R
  | .skip, hs, st, K => xpre k hs st (xpost k hs K) fun st => xpost k hs K .normal st
  | .region id ops draw, hs, st, K => xpre k hs st (xpost k hs K) fun st => xreg P G Γ k ops.toList draw hs st (xpost k hs K .normal)
  | .seq x y, hs, st, K => xpre k hs st (xpost k hs K) fun st => xcode P G Γ k x (down 0 hs) st fun e st => match e with
    | .normal => xcode P G Γ k y (down 1 hs) st (xpost k hs K)
    | e => xpost k hs K e st
  | .cond c x y, hs, st, K => xpre k hs st (xpost k hs K) fun st => match (opd G st.fr c).asBool with
    | some t => if t = true then xcode P G Γ k x (down 0 hs) (st.knowO c true) (xpost k hs K) else xcode P G Γ k y (down 1 hs) (st.knowO c false) (xpost k hs K)
    | none => none
  | .block id x, hs, st, K => xpre k hs st (xpost k hs K) fun st => xcode P G Γ k x (down 0 hs) st fun e st => match e with
    | .exit j => match Nat.beq j id with
      | true => xpost k hs K .normal st
      | false => xpost k hs K e st
    | e => xpost k hs K e st
  | .loop x, hs, st, K => xpre k hs st (xpost k hs K) fun st => match here hs with
    | some (.unroll n) => xrounds (fun st K => xcode P G Γ k x (down 0 hs) st K) n st (xpost k hs K)
    | _ => none
  | .exit id, hs, st, K => xpre k hs st (xpost k hs K) fun st => xpost k hs K (.exit id) st
  | .ret, hs, st, K => xpre k hs st (xpost k hs K) fun st => xpost k hs K .ret st
  | .label _, hs, st, K => xpre k hs st (xpost k hs K) fun st => xpost k hs K .normal st
  | _, hs, st, K => xpre k hs st (xpost k hs K) fun _ => none
end

section
variable {c : Cx} {ρ ρ' : Nat → HI} {Z Z' : Nat → Prop} {z z' : Zn} {X X' : List Atom} {st st' : St} {l l' : List Value} {w w' : World} {n : Nat} {R' : Type} {Γ : Gam R'}

/-- What all that is said of code comes to: behind it, the rest is asked of a later state. -/
abbrev Goes (c : Cx) (k : Lk) (ρ : Nat → HI) (z : Zn) (X : List Atom) (Z : Nat → Prop) (n : Nat) (K : Ex → St → Option R') (r : R') (Q : Exit → Act → World → Prop) : Prop :=
  ∀ e st' ρ' Z' z' X' l' w', K e st' = some r → At c ρ' Z' z' X' st' l' w' → LatK k ρ ρ' z z' n st'.mem.length X X' Z Z' → Q e.to (Fr l') w'

theorem Goes.later {k : Lk} {K : Ex → St → Option R'} {r : R'} {Q : Exit → Act → World → Prop} {n' : Nat} (h : Goes c k ρ z X Z n K r Q) (L : LatK k ρ ρ' z z' n n' X X' Z Z') : Goes c k ρ' z' X' Z' n' K r Q :=
  fun e st' ρ2 Z2 z2 X2 l2 w2 h1 h2 h3 => h e st' ρ2 Z2 z2 X2 l2 w2 h1 h2 (L.trans h3)

theorem xghk_sound {k : Lk} {g : Gh} {st' : St} (hx : xghk k g st = some st') (h : At c ρ Z z X st l w) : ∃ ρ' Z' z' X', At c ρ' Z' z' X' st' l w ∧ LatK k ρ ρ' z z' st.mem.length st'.mem.length X X' Z Z' := by
  unfold xghk at hx
  split at hx
  · rename_i hk; exact xgh_sound hk hx h
  · cases hx

theorem xghs_sound {k : Lk} : ∀ {hs : Hints} {ρ : Nat → HI} {Z : Nat → Prop} {z : Zn} {X : List Atom} {st st' : St}, xghs k hs st = some st' → At c ρ Z z X st l w → ∃ ρ' Z' z' X', At c ρ' Z' z' X' st' l w ∧ LatK k ρ ρ' z z' st.mem.length st'.mem.length X X' Z Z'
  | [], ρ, Z, z, X, st, st', hx, h => by injection hx with hx; subst hx; exact ⟨ρ, Z, z, X, h, LatK.refl ..⟩
  | (_ :: _, _) :: hs, ρ, Z, z, X, st, st', hx, h => xghs_sound (hs := hs) hx h
  | ([], g) :: hs, ρ, Z, z, X, st, st', hx, h => by
    cases g with
    | gh g =>
      unfold xghs at hx
      split at hx
      · rename_i st1 h1
        obtain ⟨ρ1, Z1, z1, X1, h2, h3⟩ := xghk_sound h1 h
        obtain ⟨ρ2, Z2, z2, X2, h4, h5⟩ := xghs_sound (hs := hs) hx h2
        exact ⟨ρ2, Z2, z2, X2, h4, h3.trans h5⟩
      · cases hx
    | cut C => exact xghs_sound (hs := hs) hx h
    | pg C => exact xghs_sound (hs := hs) hx h
    | unroll C => exact xghs_sound (hs := hs) hx h
    | mods C => exact xghs_sound (hs := hs) hx h
    | plan C D => exact xghs_sound (hs := hs) hx h

theorem xpgs_sound {k : Lk} : ∀ {hs : Hints} {ρ : Nat → HI} {Z : Nat → Prop} {z : Zn} {X : List Atom} {st st' : St} {l : List Value} {w : World}, xpgs k hs st = some st' → At c ρ Z z X st l w → ∃ ρ' Z' z' X', At c ρ' Z' z' X' st' l w ∧ LatK k ρ ρ' z z' st.mem.length st'.mem.length X X' Z Z'
  | [], ρ, Z, z, X, st, st', l, w, hx, h => by injection hx with hx; subst hx; exact ⟨ρ, Z, z, X, h, LatK.refl ..⟩
  | (_ :: _, _) :: hs, ρ, Z, z, X, st, st', l, w, hx, h => xpgs_sound (hs := hs) hx h
  | ([], g) :: hs, ρ, Z, z, X, st, st', l, w, hx, h => by
    cases g with
    | pg g =>
      unfold xpgs at hx
      split at hx
      · rename_i st1 h1
        obtain ⟨ρ1, Z1, z1, X1, h2, h3⟩ := xghk_sound h1 h
        obtain ⟨ρ2, Z2, z2, X2, h4, h5⟩ := xpgs_sound (hs := hs) hx h2
        exact ⟨ρ2, Z2, z2, X2, h4, h3.trans h5⟩
      · cases hx
    | cut C => exact xpgs_sound (hs := hs) hx h
    | gh C => exact xpgs_sound (hs := hs) hx h
    | unroll C => exact xpgs_sound (hs := hs) hx h
    | mods C => exact xpgs_sound (hs := hs) hx h
    | plan C D => exact xpgs_sound (hs := hs) hx h

theorem Goes.post {k : Lk} {K : Ex → St → Option R'} {r : R'} {Q : Exit → Act → World → Prop} (hK : Goes c k ρ z X Z n K r Q) (hs : Hints) : Goes c k ρ z X Z n (xpost k hs K) r Q := by
  intro e st' ρ' Z' z' X' l' w' hx h L
  cases e with
  | normal =>
    unfold xpost at hx
    simp only at hx
    split at hx
    · rename_i st1 h1
      obtain ⟨ρ1, Z1, z1, X1, h2, h3⟩ := xpgs_sound h1 h
      exact hK .normal _ _ _ _ _ _ _ hx h2 (L.trans h3)
    · cases hx
  | exit id => exact hK (.exit id) _ _ _ _ _ _ _ hx h L
  | ret => exact hK .ret _ _ _ _ _ _ _ hx h L

theorem xfrag_sound {k : Lk} {C : Con} {code : Code} (hC : FragOk c.P c.G code C) {K : Ex → St → Option R'} {r : R'} {Q : Exit → Act → World → Prop} (hx : xfrag k C st K = some r) (h : At c ρ Z z X st l w) (hK : Goes c k ρ z X Z st.mem.length K r Q) : code.wp c.P Q (Fr l) w := by
  unfold xfrag at hx
  split at hx
  · rename_i st0 d π hmt
    simp only at hx
    split at hx
    · rename_i hb
      simp only [Bool.and_eq_true] at hb
      have ho := hb.1.1
      have hkp := Nat.le_of_ble_eq_true hb.2.1
      have hsz : k.sz = false := by simpa using hb.2.2
      obtain ⟨i, out, hev, hK1⟩ := Cn.nat _ hx
      split at hK1
      · rename_i ex To hTo
        split at hK1
        · rename_i st1 hfill
          split at hK1
          · rename_i hkp1
            split at hK1
            rotate_left
            · cases hK1
            rename_i hnd
            rw [Bool.or_eq_true] at hnd
            obtain ⟨bb, hb0, hb1⟩ := arIn_or hnd
            have hkp1 := Nat.le_of_ble_eq_true hkp1
            have hzc : cut Z (look w) = z.hp := h.own.toI.zok
            obtain ⟨h1, h2, h3⟩ := match_at (Z1 := Z) h hmt ho (fun b hb => .inl hb) (fun b hb => hb) (by rw [hzc]; exact h.fr)
            rw [hzc] at h1
            refine wp_mono (hC _ _ _ _ _ _ _ d st0 i out (match_fill hmt) h1 hev) ?_
            rintro e a w' ⟨ex', To', st1', ρ2, Z2, z2, Xo, l', rfl, rfl, h4, h5, h6, h7, hro⟩
            rw [hTo] at h4; injection h4 with h4; injection h4 with h4 h4'; subst h4; subst h4'
            rw [hfill] at h5; injection h5 with h5; subst h5
            have h8 := At.wide (ρπ := reN ρ π) h6 hkp1 hkp
            have h9 := wide_later (ρπ := reN ρ π) h7 hkp
            rw [← St.wide_len hkp1] at h9
            have hlen : (bdL π C.Tin.mem.length).length ≤ (st1.wide C.kp (bdL π C.Tin.mem.length).length).mem.length := h9.n
            obtain ⟨z3, Z3, h10, h11, h12, h13⟩ := glue h ho hlen h8 h3 h9 ⟨k.lk, false⟩ (okLk_held (k := k) hb.1.2 (by rw [← h.mem.1]; exact ho) hkp (by rw [← h6.mem.1]; exact hkp1) hro) (fun hs => by cases hs) bb hb0 fun e => noNd_mem (hb1 e)
            refine hK _ _ _ Z3 z3 _ l' w' hK1 ⟨?_, h10.mem, h10.own, h10.ext, h10.gl, h10.dr⟩ ⟨h11, ⟨h12.x, fun hs => by rw [hsz] at hs; cases hs⟩⟩
            refine ⟨by simp only [List.length_map]; exact h8.fr.1, fun i av v hi hv => ?_⟩
            rw [List.getElem?_map] at hi
            obtain ⟨a, h14, rfl⟩ := Option.map_eq_some_iff.1 hi
            exact h13 a v (fun hs => by cases hs) (fun e => List.all_eq_true.1 (noNd_fr (hb1 e)) _ (List.mem_of_getElem? h14)) (h8.fr.2 i a v h14 hv)
          · cases hK1
        · cases hK1
      · cases hK1
    · cases hx
  · cases hx

theorem xpre_sound {k : Lk} {code : Code} {hs : Hints} (hh : HsOk c.P c.G code hs) {K : Ex → St → Option R'} {go : St → Option R'} {r : R'} {Q : Exit → Act → World → Prop} (hx : xpre k hs st K go = some r) (h : At c ρ Z z X st l w) (hK : Goes c k ρ z X Z st.mem.length K r Q)
    (hgo : ∀ st' ρ' Z' z' X', go st' = some r → At c ρ' Z' z' X' st' l w → LatK k ρ ρ' z z' st.mem.length st'.mem.length X X' Z Z' → code.wp c.P Q (Fr l) w) : code.wp c.P Q (Fr l) w := by
  unfold xpre at hx
  split at hx
  · rename_i st1 h1
    obtain ⟨ρ1, Z1, z1, X1, h2, h3⟩ := xghs_sound h1 h
    split at hx
    · rename_i C hC
      have hC := hh _ (mem_here hC)
      exact xfrag_sound (code := code) (by have : FragOk c.P c.G (subC code []) C := hC; unfold subC at this; exact this) hx h2 (hK.later h3)
    · exact hgo _ _ _ _ _ hx h2 h3
  · cases hx

theorem xreg_sound {k : Lk} (hΓ : GamOk c Γ) {id : Nat} {ops : Array Oper} {draw : Bool} {hs : Hints} {K : St → Option R'} {r : R'} {Q : Exit → Act → World → Prop} (hx : xreg c.P c.G Γ k ops.toList draw hs st K = some r) (h : At c ρ Z z X st l w)
    (hK : ∀ st' ρ' Z' z' X' l' w', K st' = some r → At c ρ' Z' z' X' st' l' w' → LatK k ρ ρ' z z' st.mem.length st'.mem.length X X' Z Z' → Q .normal (Fr l') w') : (Code.region id ops draw).wp c.P Q (Fr l) w := by
  unfold xreg at hx
  split at hx
  · have := wp_reg (id := id) (xops_sound (Q := Q) hΓ hx h hK)
    simpa using this
  · split at hx
    · rename_i pl ms hpl
      split at hx
      · rename_i hb
        simp only [Bool.and_eq_true] at hb
        have hd : At c ρ Z z X st l w.drew := ⟨h.fr, h.mem, h.own.drew, h.ext, h.gl, h.dr⟩
        rw [show st.mem.length = X.length from h.mem.1] at hx
        have hsel : Region.noSelect ops.toList.toArray = true := by
          have := hb.1
          unfold planB at this
          simp only [Bool.and_eq_true] at this
          exact this.1.1
        have := region_plan (id := id) (Q := Q) pl (Fx (onlyX (lkF ms X.length) X 0) Z z) hb.2 hb.1
          (xplan_sound (X0 := X) hΓ hsel hx hd (fun _ _ _ => rfl) (Nat.le_refl _) hK)
        simpa using this
      · cases hx
    simp only at hx
    split at hx
    · rename_i hb
      simp only [Bool.and_eq_true] at hb
      have hd : At c ρ Z z X st l w.drew := ⟨h.fr, h.mem, h.own.drew, h.ext, h.gl, h.dr⟩
      rw [show st.mem.length = X.length from h.mem.1] at hx
      have := region_spine2 (id := id) (Q := Q) (order c.P ops.toList) (Fx (onlyX (lkF (modsOf hs) X.length) X 0) Z z) hb.1.2 hb.1.1
        (xwalk_sound (X0 := X) hΓ hb.2 hx hd (fun _ _ _ => rfl) (Nat.le_refl _) hK)
      simpa using this
    · cases hx

theorem xcode_sound {k : Lk} (hΓ : GamOk c Γ) : ∀ {code : Code} {hs : Hints} {ρ : Nat → HI} {Z : Nat → Prop} {z : Zn} {X : List Atom} {st : St} {l : List Value} {w : World} {K : Ex → St → Option R'} {r : R'} {Q : Exit → Act → World → Prop},
    HsOk c.P c.G code hs → xcode c.P c.G Γ k code hs st K = some r → At c ρ Z z X st l w → Goes c k ρ z X Z st.mem.length K r Q → code.wp c.P Q (Fr l) w := by
  intro code
  induction code with
  | skip => intro hs ρ Z z X st l w K r Q hh hx h hK; replace hK := hK.post hs; exact xpre_sound hh hx h hK fun st' ρ' Z' z' X' h1 h2 h3 => wp_skip (hK _ _ _ _ _ _ _ _ h1 h2 h3)
  | label => intro hs ρ Z z X st l w K r Q hh hx h hK; replace hK := hK.post hs; exact xpre_sound hh hx h hK fun st' ρ' Z' z' X' h1 h2 h3 => wp_label (hK _ _ _ _ _ _ _ _ h1 h2 h3)
  | exit id => intro hs ρ Z z X st l w K r Q hh hx h hK; replace hK := hK.post hs; exact xpre_sound hh hx h hK fun st' ρ' Z' z' X' h1 h2 h3 => wp_exit (hK _ _ _ _ _ _ _ _ h1 h2 h3)
  | ret => intro hs ρ Z z X st l w K r Q hh hx h hK; replace hK := hK.post hs; exact xpre_sound hh hx h hK fun st' ρ' Z' z' X' h1 h2 h3 => wp_ret (hK _ _ _ _ _ _ _ _ h1 h2 h3)
  | region id ops draw =>
    intro hs ρ Z z X st l w K r Q hh hx h hK
    replace hK := hK.post hs
    exact xpre_sound hh hx h hK fun st' ρ' Z' z' X' h1 h2 h3 => xreg_sound hΓ h1 h2 fun st2 ρ2 Z2 z2 X2 l2 w2 h4 h5 h6 => hK _ _ _ _ _ _ _ _ h4 h5 (h3.trans h6)
  | seq x y ihx ihy =>
    intro hs ρ Z z X st l w K r Q hh hx h hK
    replace hK := hK.post hs
    refine xpre_sound hh hx h hK fun st' ρ' Z' z' X' h1 h2 h3 => wp_seq (ihx (hh.down fun p => rfl) h1 h2 fun e st2 ρ2 Z2 z2 X2 l2 w2 h4 h5 h6 => ?_)
    cases e with
    | normal => exact ihy (hh.down fun p => rfl) h4 h5 (hK.later (h3.trans h6))
    | exit id => exact hK _ _ _ _ _ _ _ _ h4 h5 (h3.trans h6)
    | ret => exact hK _ _ _ _ _ _ _ _ h4 h5 (h3.trans h6)
  | cond cnd x y ihx ihy =>
    intro hs ρ Z z X st l w K r Q hh hx h hK
    replace hK := hK.post hs
    refine xpre_sound hh hx h hK fun st' ρ' Z' z' X' h1 h2 h3 => ?_
    split at h1
    · rename_i t ht
      have hv := asBool_at ht (opd_at h2.fr h2.gz cnd)
      refine wp_cond (t := t) hv ?_
      split at h1
      · rename_i e; rw [if_pos e]
        exact ihx (hh.down fun p => rfl) h1 (knowO_at h2 (by rw [hv, e])) (by rw [St.knowO_mem]; exact hK.later h3)
      · rename_i e; rw [if_neg e]
        exact ihy (hh.down fun p => rfl) h1 (knowO_at h2 (by rw [hv, Bool.not_eq_true _ |>.mp e])) (by rw [St.knowO_mem]; exact hK.later h3)
    · cases h1
  | block id x ihx =>
    intro hs ρ Z z X st l w K r Q hh hx h hK
    replace hK := hK.post hs
    refine xpre_sound hh hx h hK fun st' ρ' Z' z' X' h1 h2 h3 => wp_block (ihx (hh.down (i := 0) fun p => rfl) h1 h2 fun e st2 ρ2 Z2 z2 X2 l2 w2 h4 h5 h6 => ?_)
    cases e with
    | normal => exact hK _ _ _ _ _ _ _ _ h4 h5 (h3.trans h6)
    | exit j =>
      simp only at h4
      show (if j = id then Q .normal (Fr l2) w2 else Q (.exit j) (Fr l2) w2)
      split at h4
      · rename_i e; rw [if_pos (Nat.eq_of_beq_eq_true e)]; exact hK .normal _ _ _ _ _ _ _ h4 h5 (h3.trans h6)
      · rename_i e
        rw [if_neg (fun e' => by subst e'; rw [Nat.beq_refl] at e; cases e)]
        exact hK (.exit j) _ _ _ _ _ _ _ h4 h5 (h3.trans h6)
    | ret => exact hK _ _ _ _ _ _ _ _ h4 h5 (h3.trans h6)
  | loop x ihx =>
    intro hs ρ Z z X st l w K r Q hh hx h hK
    replace hK := hK.post hs
    refine xpre_sound hh hx h hK fun st' ρ' Z' z' X' h1 h2 h3 => ?_
    split at h1
    · rename_i n hn
      refine wp_loop_rounds n ?_
      have key : ∀ (n : Nat) {ρ1 : Nat → HI} {Z1 : Nat → Prop} {z1 : Zn} {X1 : List Atom} {st1 : St} {l1 : List Value} {w1 : World}, xrounds (fun st K => xcode c.P c.G Γ k x (down 0 hs) st K) n st1 (xpost k hs K) = some r → At c ρ1 Z1 z1 X1 st1 l1 w1 → LatK k ρ ρ1 z z1 st.mem.length st1.mem.length X X1 Z Z1 → Code.rounds c.P x Q n (Fr l1) w1 := by
        intro n
        induction n with
        | zero => intro ρ1 Z1 z1 X1 st1 l1 w1 e; cases e
        | succ n ih =>
          intro ρ1 Z1 z1 X1 st1 l1 w1 e h4 h5
          refine ihx (hh.down (i := 0) fun p => rfl) e h4 fun e st2 ρ2 Z2 z2 X2 l2 w2 h6 h7 h8 => ?_
          cases e with
          | normal => exact ih h6 h7 (h5.trans h8)
          | exit id => exact hK _ _ _ _ _ _ _ _ h6 h7 (h5.trans h8)
          | ret => exact hK _ _ _ _ _ _ _ _ h6 h7 (h5.trans h8)
      exact key n h1 h2 h3
    · cases h1
  | rangeFunc f ps a b _ _ => intro hs ρ Z z X st l w K r Q hh hx h hK; replace hK := hK.post hs; exact xpre_sound hh hx h hK fun st' ρ' Z' z' X' h1 h2 h3 => by cases h1
  | scope b _ => intro hs ρ Z z X st l w K r Q hh hx h hK; replace hK := hK.post hs; exact xpre_sound hh hx h hK fun st' ρ' Z' z' X' h1 h2 h3 => by cases h1
  | goto l' => intro hs ρ Z z X st l w K r Q hh hx h hK; replace hK := hK.post hs; exact xpre_sound hh hx h hK fun st' ρ' Z' z' X' h1 h2 h3 => by cases h1
  | refuse l' => intro hs ρ Z z X st l w K r Q hh hx h hK; replace hK := hK.post hs; exact xpre_sound hh hx h hK fun st' ρ' Z' z' X' h1 h2 h3 => by cases h1
end
end Go.Lift

/- Functions that are run on the spot. -/
namespace Go.Lift
open Go
set_option linter.unusedVariables false

section
variable {c : Cx} {ρ ρ' : Nat → HI} {Z Z' : Nat → Prop} {z z' : Zn} {X X' : List Atom} {st st' : St} {l l' : List Value} {w w' : World} {n : Nat} {R' : Type} {Γ : Ctr}

theorem frAt_cons {av : AV} {v : Value} {avs : List AV} {vs : List Value} (h1 : av.at ρ z n v) (h2 : FrAt ρ z n avs vs) : FrAt ρ z n (av :: avs) (v :: vs) := by
  refine ⟨by simp [h2.1], fun i a u hi hu => ?_⟩
  cases i with
  | zero => simp at hi hu; subst hi; subst hu; exact h1
  | succ i => exact h2.2 i a u (by simpa using hi) (by simpa using hu)

def Func.code (f : Func) : Code := match f.body with
  | some c => c
  | none => .skip

/-! ### Functions -/

def xres {R : Type} (P : Program) (st : St) : List ResultVar → (List AV → Option R) → Option R
  | [], K => K []
  | .tmp t :: rs, K => xres P st rs fun avs => K (st.fr.getD t .und :: avs)
  | .cell a T :: rs, K => match (st.fr.getD a .und).asLeaf with
    | some (.ptr h off) => xload P st.mem T (.ptr h off) fun av => xres P st rs fun avs => K (av :: avs)
    | _ => none

def resM (tmps : Array Value) : ResultVar → Sem Value
  | .tmp t => pure (tmps.getD t undef)
  | .cell a t => do loadVar t (← asAddr (tmps.getD a undef))

theorem results_eq (fn : Func) (tmps : Array Value) {vs : List Value} (P : Program) (w : World) (h : (fn.results.toList.mapM (resM tmps)).run P w = .ok vs w) : (results fn tmps).run P w = .ok (resV vs) w := by
  have e2 : fn.results.mapM (resM tmps) = List.toArray <$> fn.results.toList.mapM (resM tmps) := by
    rw [← List.mapM_toArray]
  show ((fn.results.mapM (resM tmps)) >>= fun vs => (pure (if h : vs.size = 1 then vs[0] else .tuple vs) : Sem Value)).run P w = _
  rw [e2, bind_map_left]
  rw [Sem.run_bind, h]
  match vs with
  | [] => rfl
  | [v] => rfl
  | _ :: _ :: _ => rfl

theorem asAddr_load {P : Program} {T : TypeId} {v u : Value} {w : World} {a : Addr} (hv : v = .pointer (some a)) (h : (Instr.loadAt T v).run P w = .ok u w) : (do loadVar T (← asAddr v) : Sem Value).run P w = .ok u w := by
  subst hv; exact h

theorem xres_sound (h : At c ρ Z z X st l w) : ∀ {rs : List ResultVar} {K : List AV → Option R'} {r : R'}, xres c.P st rs K = some r →
    ∃ avs vs, K avs = some r ∧ FrAt ρ z st.mem.length avs vs ∧ (rs.mapM (resM l.toArray)).run c.P w = .ok vs w
  | [], K, r, hx => ⟨[], [], hx, ⟨rfl, fun i a v hi => by simp at hi⟩, rfl⟩
  | .tmp t :: rs, K, r, hx => by
    obtain ⟨avs, vs, h1, h2, h3⟩ := xres_sound h (rs := rs) hx
    refine ⟨_, l.getD t undef :: vs, h1, frAt_cons (fr_get h.fr t) h2, ?_⟩
    rw [List.mapM_cons]
    rw [Sem.run_bind, show (resM l.toArray (.tmp t)).run c.P w = .ok (l.getD t undef) w from by simp [resM], Result.andThen_ok, Sem.run_bind, h3]
    rfl
  | .cell a T :: rs, K, r, hx => by
    unfold xres at hx
    split at hx
    · rename_i hh off ha
      have hp := asLeaf_at ha (fr_get h.fr a)
      obtain ⟨av, u, h4, h5, h6⟩ := xload_look (Z := Z) (X := X) h.mem hx hp
      obtain ⟨avs, vs, h1, h2, h3⟩ := xres_sound h (rs := rs) h4
      refine ⟨_, u :: vs, h1, frAt_cons h5 h2, ?_⟩
      rw [List.mapM_cons]
      have hp' : ∃ ad, l.getD a undef = .pointer (some ad) := by
        obtain ⟨_, b, _, e⟩ := hp
        injection e with e
        exact ⟨_, e⟩
      obtain ⟨ad, hp'⟩ := hp'
      rw [Sem.run_bind, show (resM l.toArray (.cell a T)).run c.P w = .ok u w from by
        have := asAddr_load hp' (h6 w h.fx)
        simpa [resM, List.getD] using this, Result.andThen_ok, Sem.run_bind, h3]
      rfl
    · cases hx


/-- Functions that are run on the spot, with hints. -/
abbrev Inl := List (Nat × Hints)
def inlOf (g : Nat) : Inl → Option Hints
  | [] => none
  | e :: I => match Nat.beq e.1 g with
    | true => some e.2
    | false => inlOf g I
def noCut (I : Inl) : Bool := I.all fun e => e.2.all fun h => match h.2 with | .cut _ => false | _ => true

theorem noCut_ok {P : Program} {g : Nat} {G : Globs} {code : Code} {hs : Hints} : ∀ {I : Inl}, noCut I = true → inlOf g I = some hs → HsOk P G code hs
  | [], _, h => by cases h
  | e :: I, hn, h => by
    have hn := List.all_eq_true.1 hn
    unfold inlOf at h
    split at h
    · injection h with h; subst h
      have h1 := List.all_eq_true.1 (hn e (List.mem_cons_self ..))
      intro x hx
      have h2 := h1 x hx
      obtain ⟨p, g⟩ := x
      cases g with
      | cut C => cases h2
      | _ => trivial
    · exact noCut_ok (I := I) (List.all_eq_true.2 fun x hx => hn x (List.mem_cons_of_mem _ hx)) h

noncomputable def hdl {R : Type} (P : Program) (G : Globs) (Γ : Ctr) (I : Inl) : Nat → Hd R
  | 0 => fun _ _ _ _ _ => none
  | n + 1 => fun k g avs mem K => match inlOf g I with
    | some hs => match P.funcs[g]? with
      | some fn => match fn.body with
        | some code => xcode P G ⟨Γ, hdl P G Γ I n⟩ k code hs ⟨avs ++ List.replicate (fn.ntmps - avs.length) .und, mem⟩ fun e st => match e with
          | .exit _ => none
          | _ => xres P st fn.results.toList fun avs => match resA avs with
            | some av => K av st.mem
            | none => none
        | none => none
      | none => none
    | none => none

theorem hdl_ok {P : Program} {G : Globs} {I : Inl} (hΓ : ∀ e ∈ Γ, FnOk P G e.1 e.2) (hI : noCut I = true) : ∀ (n : Nat) {w0 : World} {D R : Nat → Prop} {z0 : Zn}, HdOk (R' := R') ⟨P, G, w0, D, R, z0⟩ (hdl P G Γ I n)
  | 0, _, _, _, _ => fun k g avs mem K r ρ Z z X vs w hx h => by cases hx
  | n + 1, w0, D, R, z0 => fun k g avs mem K r ρ Z z X vs w hx h => by
    unfold hdl at hx
    split at hx
    · rename_i hs hhs
      split at hx
      · rename_i fn hf
        split at hx
        · rename_i code hb
          have hal : avs.length = vs.length := h.fr.1
          refine enter (vs ++ List.replicate (fn.ntmps - avs.length) undef) hf hb (by simp [hal]) ?_
          have h0 : At ⟨P, G, w0, D, R, z0⟩ ρ Z z X ⟨avs ++ List.replicate (fn.ntmps - avs.length) .und, mem⟩ (vs ++ List.replicate (fn.ntmps - avs.length) undef) w := by
            refine ⟨⟨by simp [hal], fun j a v hj hv => ?_⟩, h.mem, h.own, h.ext, h.gl, h.dr⟩
            rw [List.getElem?_append] at hj hv
            rw [hal] at hj
            split at hj
            · rw [if_pos (by assumption)] at hv; exact h.fr.2 j a v hj hv
            · rw [if_neg (by assumption)] at hv
              rw [List.getElem?_replicate] at hj hv
              split at hj
              · injection hj with hj; subst hj
                rw [hal, if_pos (by assumption)] at hv
                injection hv with hv; subst hv; rfl
              · cases hj
          refine xcode_sound (c := ⟨P, G, w0, D, R, z0⟩) ⟨hΓ, hdl_ok hΓ hI n⟩ (noCut_ok hI hhs) hx h0 fun e st1 ρ1 Z1 z1 X1 l1 w1 h3 h4 h5 => ?_
          have key : (xres P st1 fn.results.toList fun avs => match resA avs with | some av => K av st1.mem | none => none) = some r →
              ∃ v, (results fn l1.toArray).run P w1 = .ok v w1 ∧ ∃ av mem' v2 ρ' Z' z' X', Ending.returned v = .returned v2 ∧ K av mem' = some r ∧ av.at ρ' z' mem'.length v2 ∧ At ⟨P, G, w0, D, R, z0⟩ ρ' Z' z' X' ⟨[], mem'⟩ [] w1 ∧ LatK k ρ ρ' z z' mem.length mem'.length X X' Z Z' := by
            intro h3
            obtain ⟨avs2, us, h6, h7, h8⟩ := xres_sound (c := ⟨P, G, w0, D, R, z0⟩) h4 h3
            split at h6
            · rename_i av hav
              exact ⟨_, results_eq _ _ _ _ h8, av, st1.mem, resV us, ρ1, Z1, z1, X1, rfl, h6, resA_at hav h7, ⟨⟨rfl, fun i a v hi => by simp at hi⟩, h4.mem, h4.own, h4.ext, h4.gl, h4.dr⟩, h5⟩
            · cases h6
          cases e with
          | normal => exact ⟨rfl, key h3⟩
          | exit id => cases h3
          | ret => exact ⟨rfl, key h3⟩
        · cases hx
      · cases hx
    · cases hx

/-- Contracts, and functions that are run on the spot. -/
abbrev Env := Ctr × Inl
noncomputable def Env.gam {R : Type} (P : Program) (G : Globs) (Γ : Env) : Gam R := ⟨Γ.1, hdl P G Γ.1 Γ.2 40⟩
def EnvOk (P : Program) (G : Globs) (Γ : Env) : Prop := (∀ e ∈ Γ.1, FnOk P G e.1 e.2) ∧ noCut Γ.2 = true
theorem gam_ok {P : Program} {G : Globs} {w : World} {D R : Nat → Prop} {z : Zn} {Γ : Env} (h : EnvOk P G Γ) : GamOk (R' := R') ⟨P, G, w, D, R, z⟩ (Env.gam P G Γ) := ⟨h.1, hdl_ok h.1 h.2 40⟩
end
end Go.Lift

/- Contracts from plain models: tuples of data, loops, functions. -/
namespace Go.Lift
open Go
set_option linter.unusedVariables false

/-! ### Tuples -/

def HL : List Ty → Type
  | [] => Unit
  | [t] => t.den
  | t :: u :: ts => t.den × HL (u :: ts)

def encHL : (Ts : List Ty) → HL Ts → List Sg
  | [], _ => []
  | [t], x => [⟨t, x⟩]
  | t :: u :: ts, x => ⟨t, x.1⟩ :: encHL (u :: ts) x.2

def decHL {R : Type} : (Ts : List Ty) → List Sg → (HL Ts → Option R) → Option R
  | [], d, K => match d with
    | [] => K ()
    | _ => none
  | [t], d, K => match d with
    | [⟨u, x⟩] => Ty.as Ty.den u t x K
    | _ => none
  | t :: u :: ts, d, K => match d with
    | ⟨v, x⟩ :: d => Ty.as Ty.den v t x fun y => decHL (u :: ts) d fun r => K (y, r)
    | [] => none

theorem decHL_spec {R : Type} : ∀ {Ts : List Ty} {d : List Sg} {K : HL Ts → Option R} {r : R}, decHL Ts d K = some r → ∃ x, K x = some r ∧ d = encHL Ts x
  | [], d, K, r, h => by
    unfold decHL at h
    split at h
    · exact ⟨(), h, rfl⟩
    · cases h
  | [t], d, K, r, h => by
    unfold decHL at h
    split at h
    · obtain ⟨e, h⟩ := Ty.as_some h
      subst e
      exact ⟨_, h, rfl⟩
    · cases h
  | t :: u :: ts, d, K, r, h => by
    unfold decHL at h
    split at h
    · obtain ⟨e, h⟩ := Ty.as_some h
      subst e
      obtain ⟨x, h1, rfl⟩ := decHL_spec h
      exact ⟨_, h1, rfl⟩
    · cases h

def SumL : List (List Ty) → Type
  | [] => Empty
  | [Us] => HL Us
  | Us :: Vs :: r => HL Us ⊕ SumL (Vs :: r)

def sumOut : (Uss : List (List Ty)) → Nat → SumL Uss → Nat × List Sg
  | [], i, _ => (i, [])
  | [Us], i, x => (i, encHL Us x)
  | Us :: Vs :: r, i, s => match s with
    | .inl x => (i, encHL Us x)
    | .inr y => sumOut (Vs :: r) (i + 1) y

def gets : (Ts : List Ty) → (HL Ts → Cn) → Cn
  | [], k => k ()
  | [t], k => .get t k
  | t :: u :: ts, k => .get t fun x => gets (u :: ts) fun y => k (x, y)

def sumCn : (Uss : List (List Ty)) → Nat → SumL Uss → Cn
  | [], _, _ => .fail
  | [Us], i, x => .out i (encHL Us x)
  | Us :: Vs :: r, i, s => .cs s (fun x => .out i (encHL Us x)) fun y => sumCn (Vs :: r) (i + 1) y

def stdCn (Ts : List Ty) (Uss : List (List Ty)) (M : HL Ts → Option (SumL Uss)) : Cn := gets Ts fun x => .bind (M x) fun y => sumCn Uss 0 y

theorem gets_run {R : Type} : ∀ {Ts : List Ty} {k : HL Ts → Cn} {d : List Sg} {K : Nat → List Sg → Option R} {r : R}, (gets Ts k).run d K = some r → ∃ x d', d = encHL Ts x ++ d' ∧ (k x).run d' K = some r
  | [], k, d, K, r, h => ⟨(), d, rfl, h⟩
  | [t], k, d, K, r, h => by
    unfold gets Cn.run at h
    split at h
    · obtain ⟨e, h⟩ := Ty.as_some h
      subst e
      exact ⟨_, _, rfl, h⟩
    · cases h
  | t :: u :: ts, k, d, K, r, h => by
    unfold gets Cn.run at h
    split at h
    · obtain ⟨e, h⟩ := Ty.as_some h
      subst e
      obtain ⟨x, d', rfl, h1⟩ := gets_run h
      exact ⟨(_, x), d', rfl, h1⟩
    · cases h

theorem gets_go {R : Type} : ∀ {Ts : List Ty} {k : HL Ts → Cn} {K : Nat → List Sg → Option R} (x : HL Ts) (d' : List Sg), (gets Ts k).run (encHL Ts x ++ d') K = (k x).run d' K
  | [], k, K, x, d' => rfl
  | [t], k, K, x, d' => by
    show Ty.as Ty.den t t x _ = _
    simp only [Ty.as, Ty.beq_refl, dif_pos]
    rfl
  | t :: u :: ts, k, K, x, d' => by
    show Ty.as Ty.den t t x.1 _ = _
    simp only [Ty.as, Ty.beq_refl, dif_pos]
    exact gets_go x.2 d'

theorem sumCn_run {R : Type} : ∀ {Uss : List (List Ty)} {i : Nat} {y : SumL Uss} {d : List Sg} {K : Nat → List Sg → Option R} {r : R}, (sumCn Uss i y).run d K = some r → d = [] ∧ K (sumOut Uss i y).1 (sumOut Uss i y).2 = some r
  | [], i, y, d, K, r, h => by cases h
  | [Us], i, y, d, K, r, h => by
    unfold sumCn Cn.run at h
    split at h
    · exact ⟨rfl, h⟩
    · cases h
  | Us :: Vs :: q, i, s, d, K, r, h => by
    cases s with
    | inl x =>
      have h : (Cn.out i (encHL Us x)).run d K = some r := h
      unfold Cn.run at h
      split at h
      · exact ⟨rfl, h⟩
      · cases h
    | inr y => exact sumCn_run (Uss := Vs :: q) (y := y) h

theorem sumCn_go {R : Type} : ∀ {Uss : List (List Ty)} {i : Nat} (y : SumL Uss) {K : Nat → List Sg → Option R}, Uss ≠ [] → (sumCn Uss i y).run [] K = K (sumOut Uss i y).1 (sumOut Uss i y).2
  | [], i, y, K, h => absurd rfl h
  | [Us], i, y, K, h => rfl
  | Us :: Vs :: q, i, s, K, h => by
    cases s with
    | inl x => rfl
    | inr y => exact sumCn_go (Uss := Vs :: q) y (by simp)

theorem std_ev {Ts : List Ty} {Uss : List (List Ty)} {M : HL Ts → Option (SumL Uss)} {d : List Sg} {i : Nat} {o : List Sg} (h : (stdCn Ts Uss M).ev d = some (i, o)) : ∃ x y, d = encHL Ts x ∧ M x = some y ∧ sumOut Uss 0 y = (i, o) := by
  unfold Cn.ev stdCn at h
  obtain ⟨x, d', h1, h2⟩ := gets_run h
  unfold Cn.run at h2
  obtain ⟨y, h3, h4⟩ := bind_ex h2
  obtain ⟨rfl, h5⟩ := sumCn_run h4
  injection h5 with h5
  rw [List.append_nil] at h1
  exact ⟨x, y, h1, h3, h5⟩

theorem std_go {Ts : List Ty} {Uss : List (List Ty)} {M : HL Ts → Option (SumL Uss)} {x : HL Ts} {y : SumL Uss} (hU : Uss ≠ []) (h : M x = some y) : (stdCn Ts Uss M).ev (encHL Ts x) = some (sumOut Uss 0 y) := by
  unfold Cn.ev stdCn
  have := gets_go (k := fun x => Cn.bind (M x) fun y => sumCn Uss 0 y) (K := fun i o => some (i, o)) x []
  rw [List.append_nil] at this
  rw [this]
  show Option.bind (M x) _ = _
  rw [h]
  exact sumCn_go y hU

theorem sumOut_succ : ∀ {Uss : List (List Ty)} {i : Nat} {y : SumL Uss}, sumOut Uss (i + 1) y = ((sumOut Uss i y).1 + 1, (sumOut Uss i y).2)
  | [], i, y => rfl
  | [Us], i, y => rfl
  | Us :: Vs :: q, i, s => by
    cases s with
    | inl x => rfl
    | inr y => exact sumOut_succ (Uss := Vs :: q)

/-! ### The end of a piece of code -/

def idBd : Nat → Bd
  | 0 => []
  | n + 1 => (n, n) :: idBd n

theorem lk_idBd : ∀ {n i : Nat}, i < n → lk i (idBd n) = some i
  | 0, i, h => by omega
  | n + 1, i, h => by
    unfold idBd lk
    split
    · rename_i e; rw [Nat.eq_of_beq_eq_true e]
    · rename_i e
      refine lk_idBd ?_
      have : n ≠ i := fun e' => by subst e'; rw [Nat.beq_refl] at e; cases e
      omega

def exB : Ex → Ex → Bool
  | .normal, .normal => true
  | .ret, .ret => true
  | .exit i, .exit j => Nat.beq i j
  | _, _ => false
theorem exB_eq {a b : Ex} (h : exB a b = true) : a = b := by
  cases a <;> cases b <;> first | rfl | (cases h) | (rw [Nat.eq_of_beq_eq_true h])

section
variable {R : Type}

def outK (kp : Nat) : (outs : List (Ex × Tm)) → (Uss : List (List Ty)) → Ex → St → (SumL Uss → Option R) → Option R
  | [(ex, T)], [Us], e, st, K => match exB ex e, T.match (idBd kp) st with
    | true, some (_, d, π) => match okPi st.mem.length (bdL π T.mem.length) && Nat.ble kp T.mem.length with
      | true => decHL Us d K
      | false => none
    | _, _ => none
  | (ex, T) :: o :: outs, Us :: Vs :: Uss, e, st, K => match exB ex e, T.match (idBd kp) st with
    | true, some (_, d, π) => match okPi st.mem.length (bdL π T.mem.length) && Nat.ble kp T.mem.length with
      | true => decHL Us d fun x => K (.inl x)
      | false => none
    | _, _ => outK kp (o :: outs) (Vs :: Uss) e st fun y => K (.inr y)
  | _, _, _, _, _ => none
end

section
variable {c : Cx} {ρ ρ' : Nat → HI} {Z Z' : Nat → Prop} {z z' : Zn} {X X' : List Atom} {st st' : St} {l l' : List Value} {w w' : World} {n : Nat} {R' : Type} {Γ : Env}

theorem OwnI.sel {w0 : World} {D R : Nat → Prop} (h : OwnI w0 D R w X Z z) {π : List Nat} (ho : okPi X.length π = true) : OwnI w0 D R w (pick deadA X π) Z z where
  keep := h.keep
  ok j A hj := by obtain ⟨i, _, hi⟩ := pick_get ho hj; exact h.ok i A hi
  zok := h.zok
  dom j A hj b hb := by obtain ⟨i, _, hi⟩ := pick_get ho hj; exact h.dom i A hi b hb
  zdom := h.zdom
  xx j k A B hjk hj hk b ha hb := by
    obtain ⟨i, h1, h2⟩ := pick_get ho hj
    obtain ⟨i', h3, h4⟩ := pick_get ho hk
    refine h.xx i i' A B (fun e => hjk ?_) h2 h4 b ha hb
    subst e
    exact nodup_inj (okPi_nodup ho) h1 h3
  xz j A hj := by obtain ⟨i, _, hi⟩ := pick_get ho hj; exact h.xz i A hi

theorem match_out (h : At c ρ Z z X st l w) {T : Tm} {st' : St} {d : List Sg} {π : Bd} {kp : Nat} (hmt : T.match (idBd kp) st = some (st', d, π)) (ho : okPi st.mem.length (bdL π T.mem.length) = true) (hkp : kp ≤ T.mem.length) :
    At c (reN ρ π) Z z (pick deadA X (bdL π T.mem.length)) st' l w ∧ Later ρ (reN ρ π) z z kp st'.mem.length ∧ ∀ i, i < kp → i < X.length → (pick deadA X (bdL π T.mem.length))[i]? = X[i]? := by
  have hoX : okPi X.length (bdL π T.mem.length) = true := by rw [← h.mem.1]; exact ho
  unfold Tm.match at hmt
  split at hmt
  · rename_i fr d1 π1 h1
    split at hmt
    · rename_i mem e1 π2 h2
      split at hmt
      · rename_i hb
        simp only [Bool.and_eq_true] at hb
        have hN := lk_lt hb.1
        have hb2 := Nat.eq_of_beq_eq_true hb.2
        injection hmt with hmt; injection hmt with h3 h4; injection h4 with h4 h5; subst h3; subst h5
        obtain ⟨h6, h7⟩ := matchMem_at h.mem (Nat.le_refl _) h2 (Pre.refl _) hN
        have hml : mem.length = T.mem.length := h6
        have hfr : FrAt (reN ρ π2) z T.mem.length fr l := by
          refine matchFr_at h1 (matchMem_pre h2) hN h.fr ?_
          have := frAt_rep (reN ρ π2) z T.mem.length l
          rw [show T.n = l.length from by rw [← hb2]; exact h.fr.1]
          exact this
        refine ⟨⟨by rw [hml]; exact hfr, ?_, (h.own.toI.sel hoX).own, h.ext, h.gl, h.dr⟩, ⟨fun i hi => ?_, Ext.refl _, by rw [hml]; exact hkp⟩, fun i hi hil => ?_⟩
        · rw [hml]
          refine ⟨by rw [hml]; simp [pick, bdL_len], fun i p A hp hA => ?_⟩
          obtain ⟨q, hq, hX⟩ := pick_get hoX hA
          obtain ⟨hh, h8, h9⟩ := h7 i p hp
          rw [Nat.zero_add] at h8 h9
          have hlt : i < T.mem.length := by rw [← hml]; exact (List.getElem?_eq_some_iff.1 hp).1
          rw [bdL_get π2 _ i hlt, h8] at hq
          injection hq with hq
          have hq : hh = q := hq
          subst hq
          exact h9 A hX
        · exact reN_get ((matchFr_pre h1).trans (matchMem_pre h2) _ _ (lk_idBd hi))
        · have e1 := (matchFr_pre h1).trans (matchMem_pre h2) _ _ (lk_idBd hi)
          unfold pick
          rw [List.getElem?_map, bdL_get _ _ i (Nat.lt_of_lt_of_le hi hkp), e1, List.getElem?_eq_getElem hil]
          simp [List.getD, hil]
      · cases hmt
    · cases hmt
  · cases hmt

theorem outK_sound {kp : Nat} : ∀ {outs : List (Ex × Tm)} {Uss : List (List Ty)} {e : Ex} {K : SumL Uss → Option R'} {r : R'}, outK kp outs Uss e st K = some r → At c ρ Z z X st l w →
    ∃ y To st' ρ' X', K y = some r ∧ outs[(sumOut Uss 0 y).1]? = some (e, To) ∧ To.fill (sumOut Uss 0 y).2 = some st' ∧ At c ρ' Z z X' st' l w ∧ Later ρ ρ' z z kp st'.mem.length ∧ ∀ i, i < kp → i < X.length → X'[i]? = X[i]?
  | [(ex, T)], [Us], e, K, r, hx, h => by
    unfold outK at hx
    split at hx
    · rename_i st1 d π he hmt
      split at hx
      · rename_i hb
        simp only [Bool.and_eq_true] at hb
        obtain ⟨x, h1, rfl⟩ := decHL_spec hx
        obtain ⟨h2, h3⟩ := match_out h hmt hb.1 (Nat.le_of_ble_eq_true hb.2)
        have := exB_eq he; subst this
        exact ⟨x, T, st1, _, _, h1, rfl, match_fill hmt, h2, h3⟩
      · cases hx
    · cases hx
  | (ex, T) :: o :: outs, Us :: Vs :: Uss, e, K, r, hx, h => by
    unfold outK at hx
    split at hx
    · rename_i st1 d π he hmt
      split at hx
      · rename_i hb
        simp only [Bool.and_eq_true] at hb
        obtain ⟨x, h1, rfl⟩ := decHL_spec hx
        obtain ⟨h2, h3⟩ := match_out h hmt hb.1 (Nat.le_of_ble_eq_true hb.2)
        have := exB_eq he; subst this
        exact ⟨.inl x, T, st1, _, _, h1, rfl, match_fill hmt, h2, h3⟩
      · cases hx
    · obtain ⟨y, To, st', ρ', X', h1, h2, h3, h4, h5, h6⟩ := outK_sound (outs := o :: outs) (Uss := Vs :: Uss) hx h
      refine ⟨.inr y, To, st', ρ', X', h1, ?_, ?_, h4, h5, h6⟩
      · show ((ex, T) :: o :: outs)[(sumOut (Vs :: Uss) 1 y).1]? = _
        rw [sumOut_succ]
        exact h2
      · show To.fill (sumOut (Vs :: Uss) 1 y).2 = _
        rw [sumOut_succ]
        exact h3
  | [], _, e, K, r, hx, h => by unfold outK at hx; cases hx
  | [_], [], e, K, r, hx, h => by unfold outK at hx; cases hx
  | _ :: _ :: _, [], e, K, r, hx, h => by unfold outK at hx; cases hx
  | [_], _ :: _ :: _, e, K, r, hx, h => by unfold outK at hx; cases hx
  | _ :: _ :: _, [_], e, K, r, hx, h => by unfold outK at hx; cases hx

/-! ### Pieces of code -/

/-- Those that are only looked at are kept. -/
def roB (ro : List Nat) (kp : Nat) : Bool := ro.all fun i => Nat.blt i kp

/-- What code makes of data. -/
noncomputable def xfr (P : Program) (G : Globs) (Γ : Env) (ro : List Nat) (code : Code) (hs : Hints) (kp : Nat) (T : Tm) (outs : List (Ex × Tm)) (Uss : List (List Ty)) (d : List Sg) : Option (SumL Uss) :=
  match T.fill d with
  | some st => xcode P G (Env.gam P G Γ) (kOf ro) code hs st fun e st => outK kp outs Uss e st some
  | none => none

theorem roB_lt {ro : List Nat} {kp i : Nat} (h : roB ro kp = true) (hi : ro.contains i = true) : i < kp :=
  Eq.mp Nat.blt_eq (List.all_eq_true.1 h i (List.contains_iff_mem.1 hi))
/-- What stays through code, and through its end. -/
theorem ro_out {ro : List Nat} {kp : Nat} {X1 X2 : List Atom} (hro : roB ro kp = true) (h : Held (kOf ro) X X1 Z Z' z z') (h' : ∀ i, i < kp → i < X1.length → X2[i]? = X1[i]?) : Ro ro X X2 := fun i hi hl => by
  have e := h.x i hi hl
  have hl1 : i < X1.length := by
    rw [List.getElem?_eq_getElem hl] at e
    exact (List.getElem?_eq_some_iff.1 e).1
  rw [h' i (roB_lt hro hi) hl1, e]
theorem Ro.trans {ro : List Nat} {X1 X2 : List Atom} (h : Ro ro X X1) (h' : Ro ro X1 X2) : Ro ro X X2 := fun i hi hl => by
  have e := h i hi hl
  have hl1 : i < X1.length := by
    rw [List.getElem?_eq_getElem hl] at e
    exact (List.getElem?_eq_some_iff.1 e).1
  rw [h' i hi hl1, e]

theorem fillMem_len : ∀ {ts : List TP} {d d' : List Sg} {ps : List Pc}, fillMem ts d = some (ps, d') → ps.length = ts.length
  | [], d, d', ps, h => by injection h with h; injection h with h1 h2; subst h1; rfl
  | t :: ts, d, d', ps, h => by
    unfold fillMem at h
    split at h
    · split at h
      · rename_i h2
        injection h with h; injection h with h3 h4; subst h3
        simp [fillMem_len h2]
      · cases h
    · cases h

theorem fill_len {T : Tm} {d : List Sg} (h : T.fill d = some st) : st.mem.length = T.mem.length := by
  unfold Tm.fill at h
  split at h
  · split at h
    · rename_i h2
      injection h with h; subst h
      exact fillMem_len h2
    · cases h
  · cases h

theorem fillFr_len : ∀ {ts : List (Nat × Bool × List TL)} {fr : List AV} {d d' : List Sg} {fr' : List AV}, fillFr ts fr d = some (fr', d') → fr'.length = fr.length
  | [], fr, d, d', fr', h => by injection h with h; injection h with h1 h2; subst h1; rfl
  | (s, a, ts) :: rest, fr, d, d', fr', h => by
    unfold fillFr at h
    split at h
    · rw [fillFr_len h]; simp
    · cases h

theorem fill_n {T : Tm} {d : List Sg} (h : T.fill d = some st) : st.fr.length = T.n := by
  unfold Tm.fill at h
  split at h
  · rename_i h1
    split at h
    · injection h with h; subst h
      rw [fillFr_len h1]; simp
    · cases h
  · cases h

theorem frag_of_exec {P : Program} {G : Globs} (hΓ : EnvOk P G Γ) {code : Code} {hs : Hints} (hh : HsOk P G code hs) {kp : Nat} {T : Tm} {Ts : List Ty} {outs : List (Ex × Tm)} {Uss : List (List Ty)} {M : HL Ts → Option (SumL Uss)}
    {ro : List Nat} (hkp : Nat.ble kp T.mem.length = true) (hM : ∀ x, xfr P G Γ ro code hs kp T outs Uss (encHL Ts x) = M x) (hro : roB ro kp = true) : FragOk P G code ⟨kp, T, outs, stdCn Ts Uss M, ro⟩ := by
  intro w ρ Z z X R l d st i o hfill h hev
  obtain ⟨x, y, rfl, h1, h2⟩ := std_ev hev
  have hx := hM x
  rw [h1] at hx
  unfold xfr at hx
  rw [show T.fill (encHL Ts x) = some st from hfill] at hx
  have hkl : kp ≤ st.mem.length := by
    rw [fill_len hfill]; exact Nat.le_of_ble_eq_true hkp
  refine xcode_sound (c := ⟨P, G, w, doms X, R, z⟩) (gam_ok hΓ) hh hx h fun e st1 ρ1 Z1 z1 X1 l1 w1 h3 h4 h5 => ?_
  obtain ⟨y', To, st2, ρ2, X2, h6, h7, h8, h9, h10, h11⟩ := outK_sound h3 h4
  injection h6 with h6; subst h6
  rw [h2] at h7 h8
  exact ⟨e, To, st2, ρ2, Z1, z1, X2, l1, rfl, rfl, h7, h8, h9, ⟨fun j hj => (h10.r j hj).trans (h5.lat.r j (Nat.lt_of_lt_of_le hj hkl)), h5.lat.z, h10.n⟩, ro_out hro h5.held h11⟩

theorem OwnI.again {w0 : World} {D R : Nat → Prop} (h : OwnI w0 D R w X Z z) : OwnI w (doms X) (fun b => Z b ∨ doms X b) w X Z z where
  keep := Keeps.refl _ _
  ok := h.ok
  zok := h.zok
  dom i A hi b hb := ⟨.inl ⟨A, List.mem_of_getElem? hi, hb⟩, (h.dom i A hi b hb).2⟩
  zdom b hb := ⟨.inl (.inl hb), (h.zdom b hb).2⟩
  xx := h.xx
  xz := h.xz

theorem OwnI.on {w0 : World} {D R : Nat → Prop} (h : OwnI w0 D R w X Z z) (dr : ∀ b, D b → R b) (h' : OwnI w (doms X) (fun b => Z b ∨ doms X b) w' X' Z' z') : OwnI w0 D R w' X' Z' z' := by
  have hX : ∀ b, doms X b → D b ∨ w0.heap.size ≤ b := fun b ⟨A, hA, hb⟩ => by
    obtain ⟨i, hi⟩ := List.getElem?_of_mem hA
    exact (h.dom i A hi b hb).1
  refine ⟨⟨h'.keep.os.trans h.keep.os, h'.keep.tape.trans h.keep.tape, h'.keep.output.trans h.keep.output, Nat.le_trans h.keep.size h'.keep.size, fun b hb hn => ?_⟩, h'.ok, h'.zok, fun i A hi b hb => ⟨?_, (h'.dom i A hi b hb).2⟩, fun b hb => ⟨?_, (h'.zdom b hb).2⟩, h'.xx, h'.xz⟩
  · rw [h'.keep.block b (Nat.lt_of_lt_of_le hb h.keep.size) fun hd => (hX b hd).elim hn fun h1 => by omega]
    exact h.keep.block b hb hn
  · rcases (h'.dom i A hi b hb).1 with h1 | h1
    · exact hX b h1
    · exact .inr (Nat.le_trans h.keep.size h1)
  · rcases (h'.zdom b hb).1 with (h1 | h1) | h1
    · exact (h.zdom b h1).1
    · exact (hX b h1).imp (dr b) id
    · exact .inr (Nat.le_trans h.keep.size h1)

theorem loop_frag {P : Program} {G : Globs} {ro : List Nat} {body : Code} {kp : Nat} {T : Tm} {Ts : List Ty} {outs : List (Ex × Tm)} {Us : List Ty} {Uss : List (List Ty)} {L : HL Ts → Option (HL Ts ⊕ SumL (Us :: Uss))}
    (hn : (outs.all fun o => match o.1 with | .normal => false | _ => true) = true) (hkp : Nat.ble kp T.mem.length = true)
    (hb : FragOk P G body ⟨kp, T, (.normal, T) :: outs, stdCn Ts (Ts :: Us :: Uss) L, ro⟩) (hro : roB ro kp = true) : FragOk P G (.loop body) ⟨kp, T, outs, stdCn Ts (Us :: Uss) (loop L), ro⟩ := by
  intro w ρ Z z X R l d st i o hfill h hev
  obtain ⟨x, y, rfl, h1, h2⟩ := std_ev hev
  have hkl : kp ≤ st.mem.length := by
    rw [fill_len hfill]; exact Nat.le_of_ble_eq_true hkp
  refine wp_loop_model (body := L) (fun s a w1 => ∃ st1 ρ1 Z1 z1 X1 l1, a = Fr l1 ∧ T.fill (encHL Ts s) = some st1 ∧ At ⟨P, G, w, doms X, R, z⟩ ρ1 Z1 z1 X1 st1 l1 w1 ∧ Later ρ ρ1 z z1 kp st1.mem.length ∧ Ro ro X X1) (r := y) ?_ h1 ⟨st, ρ, Z, z, X, l, rfl, hfill, h, ⟨fun _ _ => rfl, Ext.refl _, hkl⟩, fun _ _ _ => rfl⟩
  rintro s a w1 ⟨st1, ρ1, Z1, z1, X1, l1, rfl, h3, h4, h5, hro1⟩ q hq hr
  have h6 : At ⟨P, G, w1, doms X1, fun b => Z1 b ∨ doms X1 b, z1⟩ ρ1 Z1 z1 X1 st1 l1 w1 := ⟨h4.fr, h4.mem, h4.own.toI.again.own, Ext.refl _, h4.gz, fun b hb => .inr hb⟩
  have h7 := std_go (Uss := Ts :: Us :: Uss) (M := L) (x := s) (y := q) (by simp) hq
  refine wp_mono (hb w1 ρ1 Z1 z1 X1 _ l1 _ st1 _ _ h3 h6 h7) ?_
  rintro e a w2 ⟨ex, To, st2, ρ2, Z2, z2, X2, l2, rfl, rfl, h8, h9, h10, h11, hro2⟩
  have h12 : At ⟨P, G, w, doms X, R, z⟩ ρ2 Z2 z2 X2 st2 l2 w2 := ⟨h10.fr, h10.mem, (h4.own.toI.on h4.dr h10.own.toI).own, h4.ext.trans h11.z, h.gl, h.dr⟩
  have h13 : Later ρ ρ2 z z2 kp st2.mem.length := ⟨fun j hj => (h11.r j hj).trans (h5.r j hj), h5.z.trans h11.z, h11.n⟩
  cases q with
  | inl s' =>
    have h8 : some ((Ex.normal, T)) = some (ex, To) := h8
    injection h8 with h8; injection h8 with h8 h8'; subst h8; subst h8'
    exact ⟨s', rfl, st2, ρ2, Z2, z2, X2, l2, rfl, h9, h12, h13, hro1.trans hro2⟩
  | inr r' =>
    have := hr r' rfl; subst this
    have e1 : sumOut (Us :: Uss) 1 r' = (i + 1, o) := by
      rw [sumOut_succ, h2]
    have h8 : ((Ex.normal, T) :: outs)[(sumOut (Us :: Uss) 1 r').1]? = some (ex, To) := h8
    have h9 : To.fill (sumOut (Us :: Uss) 1 r').2 = some st2 := h9
    rw [e1] at h8 h9
    have h8 : outs[i]? = some (ex, To) := by simpa using h8
    have hne := List.all_eq_true.1 hn _ (List.mem_of_getElem? h8)
    have hpost : ∃ ex' To' st' ρ' Z' z' X' l', ex.to = ex'.to ∧ Fr l2 = Fr l' ∧ outs[i]? = some (ex', To') ∧ To'.fill o = some st' ∧ At ⟨P, G, w, doms X, R, z⟩ ρ' Z' z' X' st' l' w2 ∧ Later ρ ρ' z z' kp st'.mem.length ∧ Ro ro X X' := ⟨ex, To, st2, ρ2, Z2, z2, X2, l2, rfl, rfl, h8, h9, h12, h13, hro1.trans hro2⟩
    cases ex with
    | normal => cases hne
    | exit id => exact hpost
    | ret => exact hpost

theorem loop_frag' {P : Program} {G : Globs} {ro : List Nat} {code : Code} {p p' : List Nat} (e : subC code p = .loop (subC code p')) {kp : Nat} {T : Tm} {Ts : List Ty} {outs : List (Ex × Tm)} {Us : List Ty} {Uss : List (List Ty)} {L : HL Ts → Option (HL Ts ⊕ SumL (Us :: Uss))}
    (hn : (outs.all fun o => match o.1 with | .normal => false | _ => true) = true) (hkp : Nat.ble kp T.mem.length = true)
    (hb : FragOk P G (subC code p') ⟨kp, T, (.normal, T) :: outs, stdCn Ts (Ts :: Us :: Uss) L, ro⟩) (hro : roB ro kp = true) : FragOk P G (subC code p) ⟨kp, T, outs, stdCn Ts (Us :: Uss) (loop L), ro⟩ := by
  rw [e]; exact loop_frag hn hkp hb hro

theorem subC_append : ∀ (p : List Nat) (c : Code) (q : List Nat), subC (subC c p) q = subC c (p ++ q)
  | [], c, q => by
    rw [show subC c [] = c from by cases c <;> rfl]; rfl
  | i :: p, c, q => by
    have skip : ∀ q, subC .skip q = .skip := fun q => by cases q <;> rfl
    cases c with
    | seq x y =>
      cases i with
      | zero => exact subC_append p x q
      | succ i => exact subC_append p y q
    | cond cc x y =>
      cases i with
      | zero => exact subC_append p x q
      | succ i => exact subC_append p y q
    | block id x => exact subC_append p x q
    | loop x => exact subC_append p x q
    | _ => exact skip q

theorem HsOk.cut' {P : Program} {G : Globs} {c : Code} {hs : Hints} {p q r : List Nat} {C : Con} (e : p ++ q = r) (h : FragOk P G (subC c r) C) (t : HsOk P G (subC c p) hs) : HsOk P G (subC c p) ((q, .cut C) :: hs) :=
  HsOk.cut (by rw [subC_append, e]; exact h) t

theorem gam_nil {P : Program} {G : Globs} : ∀ e ∈ ([] : Ctr), FnOk P G e.1 e.2 := fun e h => by cases h
theorem gam_cons {P : Program} {G : Globs} {f : FuncId} {C : Con} {Γ : Ctr} (h : FnOk P G f C) (t : ∀ e ∈ Γ, FnOk P G e.1 e.2) : ∀ e ∈ ((f, C) :: Γ : Ctr), FnOk P G e.1 e.2 := List.forall_mem_cons.2 ⟨h, t⟩

/-- What a function makes of data. -/
noncomputable def xfn (P : Program) (G : Globs) (Γ : Env) (ro : List Nat) (fn : Func) (code : Code) (hs : Hints) (kp : Nat) (T : Tm) (outs : List (Ex × Tm)) (Uss : List (List Ty)) (d : List Sg) : Option (SumL Uss) :=
  match T.fill d with
  | some st => xcode P G (Env.gam P G Γ) (kOf ro) code hs ⟨st.fr ++ List.replicate (fn.ntmps - T.n) .und, st.mem⟩ fun e st => match e with
    | .exit _ => none
    | _ => xres P st fn.results.toList fun avs => outK kp outs Uss .ret ⟨avs, st.mem⟩ some
  | none => none

/-- A contract that says nothing. -/
theorem fn_none {P : Program} {G : Globs} {f : FuncId} {kp : Nat} {T : Tm} {Ts : List Ty} {outs : List (Ex × Tm)} {Uss : List (List Ty)} {M : HL Ts → Option (SumL Uss)} {ro : List Nat} (hM : ∀ x, M x = none) : FnOk P G f ⟨kp, T, outs, stdCn Ts Uss M, ro⟩ := by
  intro w ρ Z z X R vs d st i o hfill h hev
  obtain ⟨x, y, _, h1, _⟩ := std_ev hev
  rw [hM x] at h1; cases h1

theorem fn_of_exec {P : Program} {G : Globs} (hΓ : EnvOk P G Γ) {f : FuncId} {fn : Func} {code : Code} (hf : P.funcs[f]? = some fn) (hb : fn.body = some code) {hs : Hints} (hh : HsOk P G code hs) {kp : Nat} {T : Tm} {Ts : List Ty} {outs : List (Ex × Tm)} {Uss : List (List Ty)} {M : HL Ts → Option (SumL Uss)}
    {ro : List Nat} (hkp : Nat.ble kp T.mem.length = true) (hM : ∀ x, xfn P G Γ ro fn code hs kp T outs Uss (encHL Ts x) = M x) (hro : roB ro kp = true) : FnOk P G f ⟨kp, T, outs, stdCn Ts Uss M, ro⟩ := by
  intro w ρ Z z X R vs d st i o hfill h hev
  obtain ⟨x, y, rfl, h1, h2⟩ := std_ev hev
  have hx := hM x
  rw [h1] at hx
  unfold xfn at hx
  have hfill : T.fill (encHL Ts x) = some st := hfill
  rw [hfill] at hx
  have hkl : kp ≤ st.mem.length := by
    rw [fill_len hfill]; exact Nat.le_of_ble_eq_true hkp
  have hn : st.fr.length = T.n := fill_n hfill
  have hvl : vs.length = T.n := by rw [← hn]; exact h.fr.1.symm
  refine enter (vs ++ List.replicate (fn.ntmps - T.n) undef) hf hb (by simp [hvl]) ?_
  have h0 : At ⟨P, G, w, doms X, R, z⟩ ρ Z z X ⟨st.fr ++ List.replicate (fn.ntmps - T.n) .und, st.mem⟩ (vs ++ List.replicate (fn.ntmps - T.n) undef) w := by
    refine ⟨⟨by simp [h.fr.1], fun j a v hj hv => ?_⟩, h.mem, h.own, h.ext, h.gl, h.dr⟩
    rw [List.getElem?_append] at hj hv
    rw [h.fr.1] at hj
    split at hj
    · rw [if_pos (by assumption)] at hv; exact h.fr.2 j a v hj hv
    · rw [if_neg (by assumption)] at hv
      rw [List.getElem?_replicate] at hj hv
      split at hj
      · injection hj with hj; subst hj
        rw [if_pos (by assumption)] at hv
        injection hv with hv; subst hv; rfl
      · cases hj
  refine xcode_sound (c := ⟨P, G, w, doms X, R, z⟩) (gam_ok hΓ) hh hx h0 fun e st1 ρ1 Z1 z1 X1 l1 w1 h3 h4 h5 => ?_
  have key : (xres P st1 fn.results.toList fun avs => outK kp outs Uss .ret ⟨avs, st1.mem⟩ some) = some y → ∃ v, (results fn l1.toArray).run P w1 = .ok v w1 ∧ ∃ ex To st' ρ' Z' z' X' us, Ending.returned v = .returned (resV us) ∧ outs[i]? = some (ex, To) ∧ To.fill o = some st' ∧ At ⟨P, G, w, doms X, R, z⟩ ρ' Z' z' X' st' us w1 ∧ Later ρ ρ' z z' kp st'.mem.length ∧ Ro ro X X' := by
    intro h3
    obtain ⟨avs, us, h6, h7, h8⟩ := xres_sound (c := ⟨P, G, w, doms X, R, z⟩) h4 h3
    obtain ⟨y', To, st2, ρ2, X2, h9, h10, h11, h12, h13, h14⟩ := outK_sound (c := ⟨P, G, w, doms X, R, z⟩) (st := ⟨avs, st1.mem⟩) (l := us) h6 ⟨h7, h4.mem, h4.own, h4.ext, h4.gl, h4.dr⟩
    injection h9 with h9; subst h9
    rw [h2] at h10 h11
    exact ⟨_, results_eq _ _ _ _ h8, .ret, To, st2, ρ2, Z1, z1, X2, us, rfl, h10, h11, h12, ⟨fun j hj => (h13.r j hj).trans (h5.lat.r j (Nat.lt_of_lt_of_le hj hkl)), h5.lat.z, h13.n⟩, ro_out hro h5.held h14⟩
  cases e with
  | normal => exact ⟨rfl, key h3⟩
  | exit id => cases h3
  | ret => exact ⟨rfl, key h3⟩
end
end Go.Lift

/- From a contract to a law's row: a call in a world that is as it is, which returns true. -/
namespace Go.Lift
open Go Go.ChangeShapes Go.WideShapes Go.ChangeAt Go.RowKit
set_option linter.unusedVariables false

def boolOut : List (Ex × Tm) := [(.ret, ⟨[(0, false, [.hole .bool])], 1, []⟩)]
def noρ : Nat → HI := fun _ => ⟨none, 0, .unit, 0⟩
/-- All that there is, read alone. -/
noncomputable def allZ (w : World) : Zn := ⟨cut (Old w) (look w), fun _ => ⟨0, none, 0, 0⟩, 0⟩

theorem close_bool {P : Program} {G : Globs} {f : FuncId} {kp : Nat} {T : Tm} {cn : Cn} {ro : List Nat} (h : FnOk P G f ⟨kp, T, boolOut, cn, ro⟩) {w : World} {vs : List Value} {d : List Sg} {st : St} (hfill : T.fill d = some st) (hmem : st.mem = [])
    (hfr : FrAt noρ (allZ w) 0 st.fr vs) (hg : GlAt G (allZ w)) (hev : cn.ev d = some (0, [⟨.bool, true⟩])) : Calls P f vs.toArray w fun e w' => e = .returned (.bool true) ∧ Below w.heap.size w w' := by
  have hown : Own w (doms []) (doms [zA (Old w) (allZ w)]) w [] [zA (Old w) (allZ w)] := Own.start (fun A hA => by rw [List.mem_singleton.1 hA]; rfl) (fun A hA b hb => by rw [List.mem_singleton.1 hA] at hb; exact hb)
  have hat : At ⟨P, G, w, doms [], doms [zA (Old w) (allZ w)], allZ w⟩ noρ (Old w) (allZ w) [] st vs w := by
    refine ⟨by rw [hmem]; exact hfr, ⟨by rw [hmem]; rfl, fun i p A hp => by rw [hmem] at hp; simp at hp⟩, hown, Ext.refl _, hg, fun b hb => (doms_nil b hb).elim⟩
  refine (h w noρ (Old w) (allZ w) [] _ vs d st 0 _ hfill hat hev).mono ?_
  rintro e w' ⟨ex, To, st', ρ', Z', z', X', us, rfl, h1, h2, h3, h4, _⟩
  have h1 : some ((Ex.ret, (⟨[(0, false, [.hole .bool])], 1, []⟩ : Tm))) = some (ex, To) := h1
  injection h1 with h1; injection h1 with h1 h1'; subst h1; subst h1'
  have h2 : some (⟨[.vl false [.dat .bool true]], []⟩ : St) = some st' := h2
  injection h2 with h2; subst h2
  match us, h3.fr with
  | [u], hf =>
    have hu := Cmp.of_one (hf.2 0 (.vl false [.dat .bool true]) u rfl rfl)
    have hu : [u] = [Value.bool true] := hu
    injection hu with hu; subst hu
    exact ⟨rfl, h3.own.below⟩
  | [], hf => exact absurd hf.1 (by simp)
  | _ :: _ :: _, hf => exact absurd hf.1 (by simp)

/-- The same, for a law that makes nodes: at first there is none. -/
def arOut (T U : Ty) : List (Ex × Tm) := [(.ret, ⟨[(0, false, [.hole .bool])], 1, [.ar T U]⟩)]
theorem ar0_dom {tb : Nat → NI} {U : Ty} (b : Nat) : ¬ (arA tb U []).dom b := by rintro ⟨i, hi, _⟩; exact Nat.not_lt_zero _ hi
theorem close_bool_ar {P : Program} {G : Globs} {f : FuncId} {kp : Nat} {T : Tm} {cn : Cn} {ro : List Nat} {T' U : Ty} (h : FnOk P G f ⟨kp, T, arOut T' U, cn, ro⟩) {w : World} {vs : List Value} {d : List Sg} {st : St} (hfill : T.fill d = some st) (hmem : st.mem = [.ar T' U []])
    (hfr : FrAt noρ (allZ w) 0 st.fr vs) (hg : GlAt G (allZ w)) (hev : ∃ a : List (T'.den × List U.den), cn.ev d = some (0, [⟨.bool, true⟩, ⟨.slc (.pair T' (.slc U)), a⟩])) : Calls P f vs.toArray w fun e w' => e = .returned (.bool true) ∧ Below w.heap.size w w' := by
  obtain ⟨a, hev⟩ := hev
  have hdm : doms [arA (allZ w).tb U []] = doms [] := by
    funext b; apply propext
    exact ⟨fun ⟨A, hA, hb⟩ => by rw [List.mem_singleton.1 hA] at hb; exact (ar0_dom b hb).elim, fun hb => (doms_nil b hb).elim⟩
  have hz : (zA (Old w) (allZ w)).at w := rfl
  have hE : (arA (allZ w).tb U []).at w := arA_at.2 fun i c hc => by simp at hc
  have hown : Own w (doms [arA (allZ w).tb U []]) (doms [zA (Old w) (allZ w)]) w [arA (allZ w).tb U []] [zA (Old w) (allZ w)] := by
    refine ⟨Keeps.refl _ _, ?_, ?_, ?_, ?_, List.pairwise_singleton _ _, ?_⟩
    · intro A hA; rw [List.mem_singleton.1 hA]; exact hE
    · intro A hA; rw [List.mem_singleton.1 hA]; exact hz
    · intro A hA b hb; rw [List.mem_singleton.1 hA] at hb; exact (ar0_dom b hb).elim
    · intro A hA b hb; exact ⟨.inl ⟨A, hA, hb⟩, by rw [List.mem_singleton.1 hA] at hb; exact hb⟩
    · intro A hA B hB b hb; rw [List.mem_singleton.1 hA] at hb; exact (ar0_dom b hb).elim
  have hok : ArOk (allZ w) T' U [] [] := by
    refine ⟨rfl, rfl, ?_, ?_, ?_, ?_⟩
    · intro i x c hx; simp at hx
    · intro i j hi; exact absurd hi (Nat.not_lt_zero i)
    · intro i j hi; exact absurd hi (Nat.not_lt_zero i)
    · intro i j hi; exact absurd hi (Nat.not_lt_zero i)
  have hat : At ⟨P, G, w, doms [arA (allZ w).tb U []], doms [zA (Old w) (allZ w)], allZ w⟩ noρ (Old w) (allZ w) [arA (allZ w).tb U []] st vs w := by
    refine ⟨?_, ?_, hown, Ext.refl _, hg, fun b hb => ?_⟩
    · exact hfr.later (n' := st.mem.length) ⟨fun _ _ => rfl, Ext.refl _, Nat.zero_le _⟩
    · rw [hmem]
      refine ⟨rfl, fun i p A hp hA => ?_⟩
      cases i with
      | zero => simp at hp hA; subst hp; subst hA; exact ⟨[], hok, rfl⟩
      | succ i => simp at hp
    · rw [hdm] at hb; exact (doms_nil b hb).elim
  refine (h w noρ (Old w) (allZ w) [arA (allZ w).tb U []] _ vs d st 0 _ hfill hat hev).mono ?_
  rintro e w' ⟨ex, To, st', ρ', Z', z', X', us, rfl, h1, h2, h3, h4, _⟩
  have h1 : some ((Ex.ret, (⟨[(0, false, [.hole .bool])], 1, [.ar T' U]⟩ : Tm))) = some (ex, To) := h1
  injection h1 with h1; injection h1 with h1 h1'; subst h1; subst h1'
  obtain ⟨m, h2⟩ : ∃ m, st' = ⟨[.vl false [.dat .bool true]], m⟩ := by
    simp [Tm.fill, fillFr, fillTLs, fillTL, Ty.beq, fillMem] at h2
    split at h2
    · injection h2 with h2; exact ⟨_, h2.symm⟩
    · cases h2
  subst h2
  have hown' := h3.own
  rw [hdm] at hown'
  match us, h3.fr with
  | [u], hf =>
    have hu := Cmp.of_one (hf.2 0 (.vl false [.dat .bool true]) u rfl rfl)
    have hu : [u] = [Value.bool true] := hu
    injection hu with hu; subst hu
    exact ⟨rfl, hown'.below⟩
  | [], hf => exact absurd hf.1 (by simp)
  | _ :: _ :: _, hf => exact absurd hf.1 (by simp)

/-- Numbers as chunks. -/
def chInt (k : IntKind) (x : Int) : Chunk (Ty.int k).sz := ⟨[.int k x], rfl, by intro u hu; rw [List.mem_singleton] at hu; subst hu; rfl⟩

theorem chInt_flat (k : IntKind) (xs : List Int) : flat (Ty.int k).enc (xs.map (chInt k)) = flat (Enc.int k) xs := by
  induction xs with
  | nil => rfl
  | cons x xs ih => rw [List.map_cons, flat_cons, flat_cons, ih]; rfl

theorem chInt_els {z : Zn} (k : IntKind) (xs : List Int) : Els (t := .int k) ((Ty.int k).holds z) xs (xs.map (chInt k)) := by
  refine ⟨(List.length_map (as := xs) (chInt k)).symm, fun i x c hx hc => ?_⟩
  rw [List.getElem?_map] at hc
  obtain ⟨y, h1, rfl⟩ := Option.map_eq_some_iff.1 hc
  have : some x = some y := hx.symm.trans h1
  injection this with this; subst this
  rfl

theorem holds_ints_sl {W : World} {k : IntKind} {A : Option Addr} {cap : Nat} {xs : List Int} (h : SlOk (Enc.int k) A cap xs (allZ W).hp) : (Ty.slc (.int k)).holds (allZ W) xs [.slice A xs.length cap] := by
  refine ⟨A, cap, xs.map (chInt k), rfl, h.1, chInt_els k xs, ?_⟩
  rcases h.2 with ⟨h1, h2⟩ | ⟨a, h1, h2⟩
  · subst h2; exact .inl ⟨h1, rfl⟩
  · exact .inr ⟨a, h1, fun j u hj => h2 j u (by rw [← chInt_flat]; exact hj)⟩

theorem sl_allZ {W : World} {k : IntKind} {A : Option Addr} {cap : Nat} {xs : List Int} (h : (slA (Old W) (Enc.int k) A cap xs).at W) : SlOk (Enc.int k) A cap xs (allZ W).hp := h
theorem arg_ints {W : World} {k : IntKind} {A : Option Addr} {cap : Nat} {xs : List Int} (h : (slA (Old W) (Enc.int k) A cap xs).at W) : (AV.vl false [.dat (.slc (.int k)) xs]).at noρ (allZ W) 0 (.slice A xs.length cap) :=
  Cmp.one (holds_ints_sl (sl_allZ h))

/-- Elements that lie one behind the other. -/
theorem els_zone {t : Ty} {z : Zn} {a : Addr} (xs : List t.den) (h : ∀ (j : Nat) (x : t.den), xs[j]? = some x → ∃ c : Chunk t.sz, t.holds z x c.1 ∧ InZ z (a.add (j * t.sz)) c.1) : ∃ ch, Els (t.holds z) xs ch ∧ InZ z a (flat t.enc ch) := by
  have key : ∀ (n : Nat), n ≤ xs.length → ∃ ch, Els (t.holds z) (xs.take n) ch ∧ InZ z a (flat t.enc ch) := by
    intro n
    induction n with
    | zero => intro _; exact ⟨[], by rw [List.take_zero]; exact Els.nil, fun j u hj => by simp [flat] at hj⟩
    | succ n ih =>
      intro hn
      obtain ⟨ch, he, hz⟩ := ih (by omega)
      have hlt : n < xs.length := by omega
      obtain ⟨d, h3, h4⟩ := h n xs[n] (List.getElem?_eq_getElem hlt)
      have hcl : ch.length = n := by rw [← he.1, List.length_take]; omega
      refine ⟨ch ++ [d], ?_, fun j u hj => ?_⟩
      · rw [List.take_succ_eq_append_getElem hlt]
        exact he.append (Els.one (p := t.holds z) h3)
      · rw [flat_append, List.getElem?_append] at hj
        have hfl : (flat t.enc ch).length = n * t.sz := by rw [flat_len, hcl]; rfl
        split at hj
        · exact hz j u hj
        · rename_i hge
          have hd : flat t.enc [d] = d.1 := by rw [flat_cons]; show d.1 ++ [] = _; rw [List.append_nil]
          rw [hfl] at hj hge
          rw [hd] at hj
          have := h4 _ u hj
          rw [add_add] at this
          rwa [show n * t.sz + (j - n * t.sz) = j from by omega] at this
  obtain ⟨ch, he, hz⟩ := key xs.length (Nat.le_refl _)
  rw [List.take_length] at he
  exact ⟨ch, he, hz⟩

theorem arg_rows {W : World} {k : IntKind} {A : Option Addr} {cap : Nat} {xss : List (List Int)} (h : (slsA (Old W) (Enc.int k) A cap xss).at W) : (AV.vl false [.dat (.slc (.slc (.int k))) xss]).at noρ (allZ W) 0 (.slice A xss.length cap) := by
  have h : SlsOk (Enc.int k) A cap xss (allZ W).hp := h
  rcases h.2 with ⟨h1, h2⟩ | ⟨a, h1, h2⟩
  · subst h2; subst h1
    exact Cmp.one ⟨none, cap, [], rfl, Nat.zero_le _, Els.nil, .inl ⟨rfl, rfl⟩⟩
  · obtain ⟨ch, he, hz⟩ := els_zone (t := .slc (.int k)) (z := allZ W) (a := a) xss fun j x hj => by
      obtain ⟨B, c, h3, h4⟩ := h2 j x hj
      refine ⟨⟨[.slice B (List.length x) c], rfl, by intro u hu; rw [List.mem_singleton] at hu; subst hu; rfl⟩, holds_ints_sl h4, fun i u hu => ?_⟩
      have hi : i = 0 := by
        have := (List.getElem?_eq_some_iff.1 hu).1
        simp at this; exact this
      subst hi
      simp at hu
      subst hu
      rw [addr_add0, show j * (Ty.slc (.int k)).sz = j from Nat.mul_one j]
      exact h3
    exact Cmp.one ⟨A, cap, ch, rfl, h.1, he, .inr ⟨a, h1, hz⟩⟩

theorem arg_int {z : Zn} (k : IntKind) (n : Int) : (AV.vl false [.dat (.int k) n]).at noρ z 0 (.int k n) := Cmp.one rfl
theorem arg_bool {z : Zn} (b : Bool) : (AV.vl false [.dat .bool b]).at noρ z 0 (.bool b) := Cmp.one rfl
theorem args_nil {z : Zn} : FrAt noρ z 0 [] [] := ⟨rfl, fun i a v hi => by simp at hi⟩
theorem args_cons {z : Zn} {av : AV} {v : Value} {avs : List AV} {vs : List Value} (h : av.at noρ z 0 v) (t : FrAt noρ z 0 avs vs) : FrAt noρ z 0 (av :: avs) (v :: vs) := frAt_cons h t

/-- A variable of the package: its cells hold these data. -/
theorem glob_of {W : World} {t : Ty} {g : Nat} {x : t.den} {cs : List Value} {ty : TypeId} {m : Nat × Nat} (hx : t.holds (allZ W) x cs) (h : W.heap[g]? = some (.cells cs.toArray ty m)) :
    ∃ c, t.holds (allZ W) x c ∧ InZ (allZ W) ⟨g, 0, none⟩ c ∧ ∃ ty m, (allZ W).hp g = some (.cells c.toArray ty m) := by
  have hlt := (Array.getElem?_eq_some_iff.1 h).1
  refine ⟨cs, hx, fun j u hj => ?_, ty, m, ?_⟩
  · apply cellAt_old
    rw [show (⟨g, 0, none⟩ : Addr).add j = ⟨g, j, none⟩ from by rw [Addr.add_lit, Nat.zero_add], cell_of_row W g j _ ty m h, List.getElem?_toArray]
    exact hj
  · show cut (Old W) (look W) g = _
    rw [cut_pos (show Old W g from hlt)]
    exact h
theorem var_heap {P : Program} {W : World} {name : String} {cs : Array Value} {g : Nat} (h : W.var? P name = some cs) (hg : P.globalNamed name = some g) : ∃ ty m, W.heap[g]? = some (.cells cs ty m) := by
  unfold World.var? at h
  rw [hg, Option.bind_some] at h
  split at h
  · rename_i c ty m hc
    injection h with h
    subst h
    exact ⟨ty, m, hc⟩
  · cases h
/-- A table: its cells hold these numbers. -/
theorem glob_tab {P : Program} {W : World} {k : IntKind} {name : String} {g m : Nat} {x : Arr m Int} (h : Lib.TabIs P W name k x.1) (hg : P.globalNamed name = some g) :
    ∃ c, (Ty.arr m (.int k)).holds (allZ W) x c ∧ InZ (allZ W) ⟨g, 0, none⟩ c ∧ ∃ ty m, (allZ W).hp g = some (.cells c.toArray ty m) := by
  obtain ⟨ty, mk, h⟩ := var_heap h hg
  refine glob_of (cs := flat (Ty.int k).enc (x.1.map (chInt k))) ⟨_, chInt_els k x.1, rfl⟩ (ty := ty) (m := mk) ?_
  rw [chInt_flat, flat_ints]
  exact h
end Go.Lift

/- Arguments of any plain kind, opened: what they hold, and within what bounds. -/
namespace Go.Lift
open Go Go.ChangeShapes Go.WideShapes Go.ChangeAt Go.RowKit
set_option linter.unusedVariables false

mutual
def Rep.ok : Rep → Prop
  | .mk k t n l => (Lit.int .i64 k).wf = true ∧ t.length ≤ maxLen ∧ (Lit.int .i64 n).wf = true ∧ l.length ≤ maxLen ∧ Rep.oks l
def Rep.oks : List Rep → Prop
  | [] => True
  | r :: rs => Rep.ok r ∧ Rep.oks rs
end

/-- Within their kinds' bounds. -/
def Ty.ok : (t : Ty) → t.den → Prop
  | .int k, x => (Lit.int k x).wf = true
  | .bool, _ => True
  | .err, _ => True
  | .nd, _ => True
  | .any, _ => True
  | .rep, x => Rep.ok x
  | .pt _, _ => True
  | .str, x => List.length x ≤ maxLen
  | .unit, _ => True
  | .pair a b, x => a.ok x.1 ∧ b.ok x.2
  | .arr _ t, x => ∀ y, List.Mem y x.1 → t.ok y
  | .slc t, x => List.length x ≤ maxLen ∧ ∀ y, List.Mem y x → t.ok y

def fldB (P : Program) (r : TypeId → Ty → Bool) : List Field → Nat → Ty → Bool
  | [], _, .unit => true
  | f :: fs, off, .pair a b => Nat.beq f.offset off && Nat.beq (P.cellsOf f.type) a.sz && r f.type a && fldB P r fs (off + a.sz) b
  | _, _, _ => false

/-- Is a type a struct of a number, a text, a number and a slice of such structs? -/
def repF (P : Program) (t : TypeId) (u : TypeId) (T : Ty) : Bool := match P.underlying u, T with
  | some (.int k), .int k' => kindB k k'
  | some .string, .str => true
  | some (.slice e), .slc .rep => Nat.beq e t
  | _, _ => false
def repB (P : Program) (t : TypeId) : Bool := match P.underlying t with
  | some (.struct fs) => Nat.beq (P.cellsOf t) 4 && fldB P (repF P t) fs.toList 0 Ty.repU
  | _ => false

/-- Is a type of the program this kind? -/
def tyB (P : Program) : Nat → TypeId → Ty → Bool
  | 0, _, _ => false
  | n + 1, t, T => match P.underlying t, T with
    | some (.int k), .int k' => kindB k k'
    | some .bool, .bool => true
    | some .string, .str => true
    | some (.slice e), .slc E => tyB P n e E && Nat.beq (P.cellsOf e) E.sz
    | some (.array m e), .arr m' E => Nat.beq m m' && tyB P n e E && Nat.beq (P.cellsOf e) E.sz && Nat.beq (P.cellsOf t) (m * E.sz)
    | some (.struct _), .rep => repB P t
    | some (.struct fs), T => Nat.beq (P.cellsOf t) T.sz && fldB P (tyB P n) fs.toList 0 T
    | _, _ => false

theorem list_of {α : Type} {p : Nat → α → Prop} : ∀ {n : Nat}, (∀ i, i < n → ∃ y, p i y) → ∃ l : List α, l.length = n ∧ ∀ i y, l[i]? = some y → p i y
  | 0, _ => ⟨[], rfl, fun i y h => by simp at h⟩
  | n + 1, h => by
    obtain ⟨l, hl, hp⟩ := list_of (n := n) fun i hi => h i (by omega)
    obtain ⟨y, hy⟩ := h n (by omega)
    refine ⟨l ++ [y], by simp [hl], fun i z hz => ?_⟩
    rw [List.getElem?_append] at hz
    split at hz
    · exact hp i z hz
    · rename_i hge
      have hi : i = n := by
        have := (List.getElem?_eq_some_iff.1 hz).1
        simp at this; omega
      subst hi
      rw [hl] at hz
      simp at hz
      subst hz; exact hy

section
variable {H : Type} {enc : TypeId × Value → H} {P : Program} {W : World} {held : Bool}

theorem fld_open {r : TypeId → Ty → Bool} {cs : List Value} {m : Nat} (hr : ∀ t T x cs, r t T = true → DataW.trod enc P W 0 (fun _ => true) held m t cs = some x → ∃ y, T.holds (allZ W) y cs ∧ T.ok y) :
    ∀ (fs : List Field) (off : Nat) (T : Ty), fldB P r fs off T = true → cs.length = off + T.sz →
      (∀ f ∈ fs, ∃ x, DataW.trod enc P W 0 (fun _ => true) held m f.type ((cs.drop f.offset).take (P.cellsOf f.type)) = some x) → ∃ y, T.holds (allZ W) y (cs.drop off) ∧ T.ok y
  | [], off, T, h, hl, _ => by
    cases T <;> simp only [fldB] at h <;> try cases h
    refine ⟨(), ?_, trivial⟩
    show cs.drop off = []
    exact List.drop_of_length_le (by rw [hl]; exact Nat.le_refl _)
  | f :: fs, off, T, h, hl, hx => by
    cases T with
    | pair a b =>
      simp only [fldB, Bool.and_eq_true] at h
      obtain ⟨⟨⟨h1, h2⟩, h3⟩, h4⟩ := h
      have e1 := Nat.eq_of_beq_eq_true h1
      have e2 := Nat.eq_of_beq_eq_true h2
      obtain ⟨x, hx0⟩ := hx f (by simp)
      rw [e1, e2] at hx0
      obtain ⟨y, hy, oy⟩ := hr _ _ _ _ h3 hx0
      obtain ⟨q, hq, oq⟩ := fld_open hr fs (off + a.sz) b h4 (by rw [hl]; exact (Nat.add_assoc _ _ _).symm) fun g hg => hx g (by simp [hg])
      refine ⟨(y, q), ⟨_, _, ?_, hy, hq⟩, oy, oq⟩
      rw [← List.drop_drop, List.take_append_drop]
    | _ => simp only [fldB] at h; cases h

theorem Rep.oks_of : ∀ (l : List Rep), (∀ y ∈ l, Rep.ok y) → Rep.oks l
  | [], _ => trivial
  | r :: rs, h => by unfold Rep.oks; exact ⟨h r (List.mem_cons_self ..), Rep.oks_of rs fun y hy => h y (List.mem_cons_of_mem _ hy)⟩

theorem open_rep {t : TypeId} (h : repB P t = true) : ∀ (M m : Nat), m ≤ M → ∀ (x : DataW H × List MemPlace) (cs : List Value), DataW.trod enc P W 0 (fun _ => true) held m t cs = some x → ∃ y : Rep, Ty.rep.holds (allZ W) y cs ∧ Ty.rep.ok y := by
  intro M
  have h0 := h
  unfold repB at h
  split at h
  case h_2 => cases h
  rename_i fs hu
  simp only [Bool.and_eq_true] at h
  have hsz := Nat.eq_of_beq_eq_true h.1
  induction M with
  | zero =>
    intro m hm x cs hd
    obtain ⟨xs, j, hj, _⟩ := DataW.trod_struct hu hd
    omega
  | succ M ih =>
    intro m hm x cs hd
    obtain ⟨xs, j, hj, _, hlen, hxl, hx⟩ := DataW.trod_struct hu hd
    obtain ⟨y, hy, oy⟩ := fld_open (enc := enc) (held := held) (W := W) (P := P) (r := repF P t) (cs := cs) (m := j) (fun u T x cs hr hdi => by
      unfold repF at hr
      split at hr
      · rename_i k k' hu
        rw [kind_of_beq hr] at hu
        obtain ⟨i, rfl, _, hw⟩ := DataW.trod_int hu hdi
        exact ⟨i, rfl, hw⟩
      · rename_i hu
        obtain ⟨s, rfl, _, hs⟩ := DataW.trod_string hu hdi
        exact ⟨s.data.toList, rfl, by show s.data.toList.length ≤ maxLen; rw [Array.length_toList]; exact hs⟩
      · rename_i e hus
        have he := Nat.eq_of_beq_eq_true hr
        subst he
        rcases DataW.trod_slice hus hdi with ⟨rfl, _⟩ | ⟨a, len, cap, elems, rest, k, hk, rfl, _, _, hlc, hcm, hel, hE, _, _⟩
        · exact ⟨[], ⟨none, 0, [], rfl, Nat.le_refl _, Els.nil, .inl ⟨rfl, rfl⟩⟩, Nat.zero_le _, fun y hy => by cases hy⟩
        · have key : ∀ i, i < len → ∃ y, (∃ c, W.cells? 0 (a.add (i * Ty.rep.sz)) Ty.rep.sz = some c ∧ Ty.rep.holds (allZ W) y c) ∧ Ty.rep.ok y := by
            intro i hi
            have hi' := hE i hi
            rw [List.getElem?_eq_getElem (by omega), hsz] at hi'
            obtain ⟨c, hc, hc'⟩ := Option.bind_eq_some_iff.1 hi'
            obtain ⟨y, h1, h2⟩ := ih k (by omega) _ c hc'
            exact ⟨y, ⟨c, hc, h1⟩, h2⟩
          obtain ⟨l, hl, hp⟩ := list_of key
          obtain ⟨ch, h1, h2⟩ := els_zone (t := .rep) (z := allZ W) (a := a) l fun j y hj => by
            obtain ⟨⟨c, hc, hh⟩, _⟩ := hp j y hj
            obtain ⟨c', rfl⟩ := Ty.holds_chunk hh
            refine ⟨c', hh, fun i u hu => cellAt_old ?_⟩
            obtain ⟨_, hlen, hget⟩ := World.cells?_some hc
            rw [hget i (by rw [← hlen]; exact (List.getElem?_eq_some_iff.1 hu).1)]
            exact hu
          refine ⟨l, ⟨some a, cap, ch, by rw [hl], by rw [hl]; exact hlc, h1, .inr ⟨a, rfl, h2⟩⟩, ?_, fun y hy => ?_⟩
          · show List.length l ≤ maxLen
            rw [hl]; omega
          · obtain ⟨i, hi⟩ := List.mem_iff_getElem?.1 (show y ∈ (l : List Ty.rep.den) from hy)
            exact (hp i y hi).2
      · cases hr) fs.toList 0 Ty.repU h.2 (by rw [hlen, hsz]; rfl) fun f hf => by
        obtain ⟨i, hi⟩ := List.mem_iff_getElem?.1 hf
        have hi' : fs[i]? = some f := by simpa using hi
        have hlt := (Array.getElem?_eq_some_iff.1 hi').1
        rw [hx i f hi', List.getElem?_eq_getElem (by omega)]
        exact ⟨_, rfl⟩
    obtain ⟨k, s, n, l, u⟩ := y
    rw [List.drop_zero] at hy
    refine ⟨.mk k s n l, (Rep.as_struct _ _).2 hy, ?_⟩
    obtain ⟨o1, o2, o3, o4, o5⟩ := oy
    show Rep.ok (.mk k s n l)
    unfold Rep.ok
    exact ⟨o1, o2, o3, o4.1, Rep.oks_of l fun y hy => o4.2 y hy⟩

theorem open_ty : ∀ (n : Nat) (t : TypeId) (T : Ty) (m : Nat) (x : DataW H × List MemPlace) (cs : List Value), tyB P n t T = true → DataW.trod enc P W 0 (fun _ => true) held m t cs = some x → ∃ y, T.holds (allZ W) y cs ∧ T.ok y
  | 0, _, _, _, _, _, h, _ => by simp [tyB] at h
  | n + 1, t, T, m, x, cs, h, hd => by
    unfold tyB at h
    split at h
    · rename_i k k' hu
      rw [kind_of_beq h] at hu
      obtain ⟨i, rfl, _, hw⟩ := DataW.trod_int hu hd
      exact ⟨i, rfl, hw⟩
    · rename_i hu
      obtain ⟨b, rfl, _⟩ := DataW.trod_bool hu hd
      exact ⟨b, rfl, trivial⟩
    · rename_i hu
      obtain ⟨s, rfl, _, hs⟩ := DataW.trod_string hu hd
      exact ⟨s.data.toList, rfl, by show s.data.toList.length ≤ maxLen; rw [Array.length_toList]; exact hs⟩
    · rename_i e E hu
      simp only [Bool.and_eq_true] at h
      have hsz := Nat.eq_of_beq_eq_true h.2
      rcases DataW.trod_slice hu hd with ⟨rfl, _⟩ | ⟨a, len, cap, elems, rest, k, _, rfl, _, _, hlc, hcm, hel, hE, _, _⟩
      · exact ⟨[], ⟨none, 0, [], rfl, Nat.le_refl _, Els.nil, .inl ⟨rfl, rfl⟩⟩, Nat.zero_le _, fun y hy => by cases hy⟩
      · have key : ∀ i, i < len → ∃ y, (∃ c, W.cells? 0 (a.add (i * E.sz)) E.sz = some c ∧ E.holds (allZ W) y c) ∧ E.ok y := by
          intro i hi
          have hi' := hE i hi
          rw [List.getElem?_eq_getElem (by omega), hsz] at hi'
          obtain ⟨c, hc, hc'⟩ := Option.bind_eq_some_iff.1 hi'
          obtain ⟨y, h1, h2⟩ := open_ty n e E k _ c h.1 hc'
          exact ⟨y, ⟨c, hc, h1⟩, h2⟩
        obtain ⟨l, hl, hp⟩ := list_of key
        obtain ⟨ch, h1, h2⟩ := els_zone (t := E) (z := allZ W) (a := a) l fun j y hj => by
          obtain ⟨⟨c, hc, hh⟩, _⟩ := hp j y hj
          obtain ⟨c', rfl⟩ := Ty.holds_chunk hh
          refine ⟨c', hh, fun i u hu => cellAt_old ?_⟩
          obtain ⟨_, hlen, hget⟩ := World.cells?_some hc
          rw [hget i (by rw [← hlen]; exact (List.getElem?_eq_some_iff.1 hu).1)]
          exact hu
        refine ⟨l, ⟨some a, cap, ch, by rw [hl], by rw [hl]; exact hlc, h1, .inr ⟨a, rfl, h2⟩⟩, ?_, fun y hy => ?_⟩
        · show List.length l ≤ maxLen
          rw [hl]; omega
        · obtain ⟨i, hi⟩ := List.mem_iff_getElem?.1 (show y ∈ (l : List E.den) from hy)
          exact (hp i y hi).2
    · rename_i k e k' E hu
      simp only [Bool.and_eq_true] at h
      obtain ⟨⟨⟨h1, h2⟩, h3⟩, h4⟩ := h
      have e1 := Nat.eq_of_beq_eq_true h1
      have e3 := Nat.eq_of_beq_eq_true h3
      have e4 := Nat.eq_of_beq_eq_true h4
      subst e1
      obtain ⟨xs, j, _, _, hlen, hxl, hx⟩ := DataW.trod_array hu hd
      rw [e4] at hlen
      have key : ∀ i, i < k → ∃ y : E.den × Chunk E.sz, (E.holds (allZ W) y.1 y.2.1 ∧ E.ok y.1) ∧ y.2.1 = (cs.drop (i * E.sz)).take E.sz := by
        intro i hi
        have hi' := hx i hi
        rw [List.getElem?_eq_getElem (by omega), e3] at hi'
        obtain ⟨y, h1, h2⟩ := open_ty n e E j _ _ h2 hi'
        obtain ⟨c, hc⟩ := Ty.holds_chunk h1
        exact ⟨(y, c), ⟨by rw [hc]; exact h1, h2⟩, hc⟩
      obtain ⟨l, hl, hp⟩ := list_of key
      have hflat : ∀ q, q ≤ k → flat E.enc ((l.map (·.2)).take q) = cs.take (q * E.sz) := by
        intro q
        induction q with
        | zero => intro _; simp [flat]
        | succ q ih =>
          intro hq
          have hlt : q < l.length := by omega
          rw [List.take_succ_eq_append_getElem (by simpa using hlt), flat_append, ih (by omega), flat_cons, flat_nil, List.append_nil]
          have := (hp q l[q] (List.getElem?_eq_getElem hlt)).2
          rw [show (l.map (·.2))[q]'(by simpa using hlt) = l[q].2 by simp]
          show cs.take (q * E.sz) ++ l[q].2.1 = _
          rw [this, Nat.succ_mul, List.take_add]
      refine ⟨⟨l.map (·.1), by simp [hl]⟩, ⟨l.map (·.2), ⟨by simp, fun i y c hy hc => ?_⟩, ?_⟩, fun y hy => ?_⟩
      · rw [List.getElem?_map] at hc
        have hy : (l.map (·.1))[i]? = some y := hy
        rw [List.getElem?_map] at hy
        obtain ⟨q, hq, rfl⟩ := Option.map_eq_some_iff.1 hc
        rw [hq] at hy
        simp at hy
        subst hy
        exact (hp i q hq).1.1
      · have := hflat k (Nat.le_refl _)
        rw [List.take_of_length_le (by simp; omega), List.take_of_length_le (by omega)] at this
        exact this.symm
      · obtain ⟨q, hq, rfl⟩ := List.mem_map.1 (show y ∈ l.map (·.1) from hy)
        obtain ⟨i, hi⟩ := List.mem_iff_getElem?.1 hq
        exact (hp i q hi).1.2
    · exact open_rep h m m (Nat.le_refl _) x cs hd
    · rename_i fs hu hn
      simp only [Bool.and_eq_true] at h
      have hsz := Nat.eq_of_beq_eq_true h.1
      obtain ⟨xs, j, _, _, hlen, hxl, hx⟩ := DataW.trod_struct hu hd
      have := fld_open (enc := enc) (held := held) (W := W) (P := P) (r := tyB P n) (cs := cs) (m := j) (fun t T x cs => open_ty n t T j x cs) fs.toList 0 _ h.2 (by omega) fun f hf => by
        obtain ⟨i, hi⟩ := List.mem_iff_getElem?.1 hf
        have hi' : fs[i]? = some f := by simpa using hi
        have hlt := (Array.getElem?_eq_some_iff.1 hi').1
        rw [hx i f hi', List.getElem?_eq_getElem (by omega)]
        exact ⟨_, rfl⟩
      simpa using this
    · cases h

theorem op_dat {n : Nat} {t : TypeId} {T : Ty} {v : Value} {d : DataW H} {ps : List MemPlace} (h : tyB P n t T = true) (hagg : T.agg = false) (hone : ∃ u, v.cells = #[u] ∧ v = u) (hd : DataW.Trod enc P W 0 (fun _ => true) held t v d ps) :
    ∃ x, (AV.vl false [.dat T x]).at noρ (allZ W) 0 v ∧ T.ok x := by
  obtain ⟨m, hm⟩ := hd
  obtain ⟨y, h1, h2⟩ := open_ty n t T m _ _ h hm
  obtain ⟨u, e1, rfl⟩ := hone
  rw [e1] at h1
  exact ⟨y, Cmp.one h1, h2⟩
theorem op_agg {n : Nat} {t : TypeId} {T : Ty} {v : Value} {d : DataW H} {ps : List MemPlace} (h : tyB P n t T = true) (ht : ∃ cs, v = .agg cs) (hd : DataW.Trod enc P W 0 (fun _ => true) held t v d ps) :
    ∃ x, (AV.vl true [.dat T x]).at noρ (allZ W) 0 v ∧ T.ok x := by
  obtain ⟨m, hm⟩ := hd
  obtain ⟨cs, rfl⟩ := ht
  obtain ⟨y, h1, h2⟩ := open_ty n t T m _ _ h hm
  refine ⟨y, ⟨cs.toList, ⟨cs.toList, [], (List.append_nil _).symm, h1, rfl⟩, by simp⟩, h2⟩
theorem agg_un {T : Ty} {x : T.den} {v : Value} (h : (AV.vl true [.dat T x]).at noρ (allZ W) 0 v) : (AV.vl true (unL T x)).at noρ (allZ W) 0 v := by
  obtain ⟨cs, h1, h2⟩ := h
  exact ⟨cs, unL_at _ _ _ (Lvs.of_one h1), h2⟩
end
end Go.Lift

/- From a call that makes nothing but new blocks to a contract. -/
namespace Go.Lift
open Go Go.ChangeShapes Go.WideShapes Go.ChangeAt Go.RowKit
set_option linter.unusedVariables false

/-- What the variables of the package hold in a world. -/
def GlW (G : Globs) (z : Zn) (w : World) : Prop := ∀ e ∈ G, ∃ c, e.2.1.holds z e.2.2 c ∧ ∃ t m, w.heap[e.1]? = some (.cells c.toArray t m)

theorem gl_world {G : Globs} {Z : Nat → Prop} {z : Zn} {w : World} (h : GlAt G z) (hz : (zA Z z).at w) : GlW G z w := by
  intro e he
  obtain ⟨c, h1, _, t, m, h3⟩ := h e he
  refine ⟨c, h1, t, m, ?_⟩
  have hc : cut Z (look w) = z.hp := hz
  rw [← hc] at h3
  exact (cut_some h3).2

theorem fn_pure {P : Program} {G : Globs} {f : FuncId} {T To : Tm} {Ts Us : List Ty} {M : HL Ts → Option (SumL [Us])} {A : HL Ts → List AV} {B : HL Us → List AV}
    (hT : ∀ x, T.fill (encHL Ts x) = some ⟨A x, []⟩) (hU : ∀ y, To.fill (encHL Us y) = some ⟨B y, []⟩)
    (H : ∀ (x : HL Ts) (y : HL Us) ρ z w vs, M x = some y → FrAt ρ z 0 (A x) vs → GlW G z w → Calls P f vs.toArray w fun e w' => ∃ us, e = .returned (resV us) ∧ FrAt ρ z 0 (B y) us ∧ Below w.heap.size w w') :
    FnOk P G f ⟨0, T, [(.ret, To)], stdCn Ts [Us] M, []⟩ := by
  intro w ρ Z z X R vs d st i o hfill h hev
  obtain ⟨x, y, rfl, h1, h2⟩ := std_ev hev
  have hfill : T.fill (encHL Ts x) = some st := hfill
  rw [hT] at hfill
  injection hfill with hfill
  subst hfill
  injection (show (0, encHL Us y) = (i, o) from h2) with e1 e2
  subst e1 e2
  have hX : X = [] := List.eq_nil_of_length_eq_zero h.mem.1.symm
  subst hX
  refine (H x y ρ z w vs h1 h.fr (gl_world h.gz h.fx.1)).mono ?_
  rintro e w' ⟨us, rfl, h3, h4⟩
  have hk : Keeps (fun _ => False) w w' := ⟨h4.os, h4.tape, h4.output, h4.size, fun b hb _ => h4.block b hb⟩
  have hown := (h.own.new (B := deadA) hk (deadA_at w') (fun b hb => hb.elim)).drop (List.sublist_cons_self _ _)
  exact ⟨.ret, To, ⟨B y, []⟩, ρ, Z, z, [], us, rfl, rfl, hU y, ⟨h3, ⟨rfl, fun h p A hp => by simp at hp⟩, hown, h.ext, h.gl, h.dr⟩, Later.refl .., fun _ _ _ => rfl⟩

theorem frAt_two {ρ : Nat → HI} {z : Zn} {n : Nat} {a b : AV} {vs : List Value} (h : FrAt ρ z n [a, b] vs) : ∃ v u, vs = [v, u] ∧ a.at ρ z n v ∧ b.at ρ z n u := by
  obtain ⟨h1, h2⟩ := h
  match vs, h1, h2 with
  | [v, u], _, h2 => exact ⟨v, u, rfl, h2 0 _ _ rfl rfl, h2 1 _ _ rfl rfl⟩
theorem frAt_one {ρ : Nat → HI} {z : Zn} {n : Nat} {a : AV} {vs : List Value} (h : FrAt ρ z n [a] vs) : ∃ v, vs = [v] ∧ a.at ρ z n v := by
  obtain ⟨h1, h2⟩ := h
  match vs, h1, h2 with
  | [v], _, h2 => exact ⟨v, rfl, h2 0 _ _ rfl rfl⟩
theorem frAt_three {ρ : Nat → HI} {z : Zn} {n : Nat} {a b c : AV} {vs : List Value} (h : FrAt ρ z n [a, b, c] vs) : ∃ v u x, vs = [v, u, x] ∧ a.at ρ z n v ∧ b.at ρ z n u ∧ c.at ρ z n x := by
  obtain ⟨h1, h2⟩ := h
  match vs, h1, h2 with
  | [v, u, x], _, h2 => exact ⟨v, u, x, rfl, h2 0 _ _ rfl rfl, h2 1 _ _ rfl rfl, h2 2 _ _ rfl rfl⟩
theorem frAt_nil {ρ : Nat → HI} {z : Zn} {n : Nat} : FrAt ρ z n [] [] := ⟨rfl, fun i a v hi => by simp at hi⟩
theorem dat_at {ρ : Nat → HI} {z : Zn} {n : Nat} {t : Ty} {x : t.den} {v : Value} (h : (AV.vl false [.dat t x]).at ρ z n v) : t.holds z x [v] := Cmp.of_one h
end Go.Lift

/- What the listed variables of a row read as, as what is known of the package's variables: structs of integers, errors. -/
namespace Go.Lift
open Go Go.ChangeShapes Go.WideShapes Go.ChangeAt Go.RowKit Go.Deep
set_option linter.unusedVariables false

/-- One variable of the list. -/
structure LaidOne (P : Program) (W : World) (name : String) (d : DataW Unit) (g : Nat) (t : TypeId) : Prop where
  ex : ∃ (enc : TypeId × Value → Unit) (base : Nat) (sp : Nat → Bool) (held : Bool) (fuel : Nat) (cs : List Value) (p : List MemPlace), W.var? P name = some cs.toArray ∧ DataW.trod enc P W base sp held fuel t cs = some (d, p)
  gl : P.globalNamed name = some g

theorem laid_one {P : Program} {W : World} {name : String} {d : DataW Unit} {rest : List (String × DataW Unit)} {g : Nat} {t : TypeId} (hg : P.globalNamed name = some g) (hty : (P.globals[g]?).map (·.type) = some t)
    (h : laidMet P ((name, d) :: rest) W) : LaidOne P W name d g t := by
  obtain ⟨ps, ⟨g', t', cs, fuel, p, q, hg', ht', hvar, hd, _, _⟩, _⟩ := h
  obtain rfl := Option.some.inj (hg.symm.trans hg')
  obtain rfl := Option.some.inj (hty.symm.trans ht')
  exact ⟨⟨_, _, _, _, fuel, cs.toList, p, by rw [hvar], hd⟩, hg⟩

/-- Structs of three integers. -/
theorem glob_ints3 {P : Program} {W : World} {name : String} {g : Nat} {t : TypeId} {k : IntKind} {a b c : Int} {f0 f1 f2 : Field} (h : LaidOne P W name (.agg [.lit (.int k a), .lit (.int k b), .lit (.int k c)]) g t)
    (ht : P.underlying t = some (.struct #[f0, f1, f2])) (hct : P.cellsOf t = 3) (o0 : f0.offset = 0) (o1 : f1.offset = 1) (o2 : f2.offset = 2) (c0 : P.cellsOf f0.type = 1) (c1 : P.cellsOf f1.type = 1) (c2 : P.cellsOf f2.type = 1)
    (u0 : P.underlying f0.type = some (.int k)) (u1 : P.underlying f1.type = some (.int k)) (u2 : P.underlying f2.type = some (.int k)) :
    ∃ cs, (Ty.pair (.int k) (.pair (.int k) (.pair (.int k) .unit))).holds (allZ W) ((a, b, c, ()) : Int × Int × Int × Unit) cs ∧ InZ (allZ W) ⟨g, 0, none⟩ cs ∧ ∃ ty m, (allZ W).hp g = some (.cells cs.toArray ty m) := by
  obtain ⟨⟨enc, base, sp, held, fuel, cs, p, hvar, hd⟩, hg⟩ := h
  obtain ⟨y0, y1, y2, n, hx, hl, h0, h1, h2⟩ := trod_struct3 ht hd
  obtain ⟨z0, e0, r0, _⟩ := DataW.trod_int u0 h0
  obtain ⟨z1, e1, r1, _⟩ := DataW.trod_int u1 h1
  obtain ⟨z2, e2, r2, _⟩ := DataW.trod_int u2 h2
  subst r0 r1 r2
  have hx := congrArg Prod.fst hx
  simp only [DataW.agg.injEq, List.cons.injEq, DataW.lit.injEq, Lit.int.injEq, true_and, and_true] at hx
  obtain ⟨rfl, rfl, rfl⟩ := hx
  rw [o0, c0] at e0; rw [o1, c1] at e1; rw [o2, c2] at e2
  rw [hct] at hl
  have hcs : cs = [.int k a, .int k b, .int k c] := by
    match cs, hl with
    | [x, y, z], _ =>
      have e0 : [x] = [Value.int k a] := e0
      have e1 : [y] = [Value.int k b] := e1
      have e2 : [z] = [Value.int k c] := e2
      injection e0 with e0; injection e1 with e1; injection e2 with e2
      rw [e0, e1, e2]
  obtain ⟨ty, m, hw⟩ := var_heap hvar hg
  refine glob_of (t := Ty.pair (.int k) (.pair (.int k) (.pair (.int k) .unit))) (cs := cs) ?_ hw
  rw [hcs]
  exact ⟨[.int k a], _, rfl, rfl, [.int k b], _, rfl, rfl, [.int k c], [], rfl, rfl, rfl⟩

theorem glob_err {P : Program} {W : World} {name nm : String} {d : DataW Unit} {g : Nat} {t : TypeId} {ms : Array (String × TypeId)} (h : LaidOne P W name (.iface nm d) g t) (ht : P.underlying t = some (.interface ms)) :
    ∃ cs, Ty.err.holds (allZ W) true cs ∧ InZ (allZ W) ⟨g, 0, none⟩ cs ∧ ∃ ty m, (allZ W).hp g = some (.cells cs.toArray ty m) := by
  obtain ⟨⟨enc, base, sp, held, fuel, cs, p, hvar, hd⟩, hg⟩ := h
  obtain ⟨ty, m, hw⟩ := var_heap hvar hg
  have hcs : ∃ u v, cs = [.iface u v] := by
    cases fuel with
    | zero => simp [DataW.trod] at hd
    | succ fuel =>
      unfold DataW.trod at hd
      rw [ht] at hd
      split at hd <;> first | (exact ⟨_, _, rfl⟩) | (simp_all; done)
  obtain ⟨u, v, rfl⟩ := hcs
  exact glob_of (t := Ty.err) (x := true) (cs := [.iface u v]) ⟨_, rfl, u, v, rfl⟩ hw
end Go.Lift

/- What a law's argument is, where each text and each slice takes no more than a process's addresses. -/
namespace Go.Lift
open Go
set_option linter.unusedVariables false

/-- Within their kinds' bounds, and no longer than memory is. -/
def Ty.okS : (t : Ty) → t.den → Prop
  | .int k, x => (Lit.int k x).wf = true
  | .bool, _ => True
  | .err, _ => True
  | .nd, _ => True
  | .any, _ => True
  | .rep, x => Rep.ok x
  | .pt _, _ => True
  | .str, x => List.length x ≤ 140737488355328
  | .unit, _ => True
  | .pair a b, x => a.okS x.1 ∧ b.okS x.2
  | .arr _ t, x => ∀ y, List.Mem y x.1 → t.okS y
  | .slc t, x => List.length x ≤ 140737488355328 ∧ ∀ y, List.Mem y x → t.okS y

/-- Each slice's elements take at least a byte. -/
def tyS (P : Program) : Nat → TypeId → Ty → Bool
  | 0, _, _ => false
  | n + 1, t, T => match P.underlying t, T with
    | some (.int k), .int k' => kindB k k'
    | some .bool, .bool => true
    | some .string, .str => true
    | some (.slice e), .slc E => tyS P n e E && Nat.beq (P.cellsOf e) E.sz && Nat.ble 1 (P.bytesOf e)
    | some (.struct fs), T => Nat.beq (P.cellsOf t) T.sz && fldB P (tyS P n) fs.toList 0 T
    | _, _ => false

section
variable {H : Type} {enc : TypeId × Value → H} {P : Program} {W : World} {held : Bool}

theorem weights_all {e : TypeId} : ∀ {ds : List (DataW H)} {d : DataW H}, d ∈ ds → ∀ n ∈ d.weights P e, n ∈ DataW.weightsAll P e ds
  | d :: ds, d', h, n, hn => by
    simp only [DataW.weightsAll, List.mem_append]
    rcases List.mem_cons.1 h with rfl | h
    · exact .inl hn
    · exact .inr (weights_all h n hn)

theorem flds_open {r : TypeId → Ty → Bool} {cs : List Value} {m : Nat} (hr : ∀ t T x cs, r t T = true → DataW.trod enc P W 0 (fun _ => true) held m t cs = some x → (∀ n ∈ x.1.weights P t, n ≤ reachBytes) → ∃ y, T.holds (allZ W) y cs ∧ T.okS y) :
    ∀ (fs : List Field) (off : Nat) (T : Ty), fldB P r fs off T = true → cs.length = off + T.sz →
      (∀ f ∈ fs, ∃ x, DataW.trod enc P W 0 (fun _ => true) held m f.type ((cs.drop f.offset).take (P.cellsOf f.type)) = some x ∧ ∀ n ∈ x.1.weights P f.type, n ≤ reachBytes) → ∃ y, T.holds (allZ W) y (cs.drop off) ∧ T.okS y
  | [], off, T, h, hl, _ => by
    cases T <;> simp only [fldB] at h <;> try cases h
    refine ⟨(), ?_, trivial⟩
    show cs.drop off = []
    exact List.drop_of_length_le (by rw [hl]; exact Nat.le_refl _)
  | f :: fs, off, T, h, hl, hx => by
    cases T with
    | pair a b =>
      simp only [fldB, Bool.and_eq_true] at h
      obtain ⟨⟨⟨h1, h2⟩, h3⟩, h4⟩ := h
      have e1 := Nat.eq_of_beq_eq_true h1
      have e2 := Nat.eq_of_beq_eq_true h2
      obtain ⟨x, hx0, hz⟩ := hx f (by simp)
      rw [e1, e2] at hx0
      obtain ⟨y, hy, oy⟩ := hr _ _ _ _ h3 hx0 hz
      obtain ⟨q, hq, oq⟩ := flds_open hr fs (off + a.sz) b h4 (by rw [hl]; exact (Nat.add_assoc _ _ _).symm) fun g hg => hx g (by simp [hg])
      refine ⟨(y, q), ⟨_, _, ?_, hy, hq⟩, oy, oq⟩
      rw [← List.drop_drop, List.take_append_drop]
    | _ => simp only [fldB] at h; cases h

theorem open_ts : ∀ (n : Nat) (t : TypeId) (T : Ty) (m : Nat) (x : DataW H × List MemPlace) (cs : List Value), tyS P n t T = true → DataW.trod enc P W 0 (fun _ => true) held m t cs = some x → (∀ n ∈ x.1.weights P t, n ≤ reachBytes) → ∃ y, T.holds (allZ W) y cs ∧ T.okS y
  | 0, _, _, _, _, _, h, _, _ => by simp [tyS] at h
  | n + 1, t, T, m, x, cs, h, hd, hz => by
    have hR : reachBytes ≤ 140737488355328 := by decide
    unfold tyS at h
    split at h
    · rename_i k k' hu
      rw [kind_of_beq h] at hu
      obtain ⟨i, rfl, _, hw⟩ := DataW.trod_int hu hd
      exact ⟨i, rfl, hw⟩
    · rename_i hu
      obtain ⟨b, rfl, _⟩ := DataW.trod_bool hu hd
      exact ⟨b, rfl, trivial⟩
    · rename_i hu
      obtain ⟨s, rfl, rfl, hs⟩ := DataW.trod_string hu hd
      have := hz s.data.toList.length (by simp [DataW.weights])
      exact ⟨s.data.toList, rfl, Nat.le_trans this hR⟩
    · rename_i e E hu
      simp only [Bool.and_eq_true] at h
      obtain ⟨⟨h1, h2⟩, h3⟩ := h
      have hsz := Nat.eq_of_beq_eq_true h2
      have hby := Nat.le_of_ble_eq_true h3
      rcases DataW.trod_slice hu hd with ⟨rfl, _⟩ | ⟨a, len, cap, elems, rest, k, _, rfl, rfl, _, hlc, hcm, hel, hE, _, _⟩
      · exact ⟨[], ⟨none, 0, [], rfl, Nat.le_refl _, Els.nil, .inl ⟨rfl, rfl⟩⟩, Nat.zero_le _, fun y hy => by cases hy⟩
      · simp only [DataW.weights, hu, List.length_map] at hz
        have hlen : elems.length ≤ 140737488355328 := by
          have h5 := hz _ (List.mem_cons_self ..)
          have h6 : elems.length * 1 ≤ (elems.length + rest.length) * P.bytesOf e := Nat.mul_le_mul (Nat.le_add_right ..) hby
          omega
        have key : ∀ i, i < len → ∃ y, (∃ c, W.cells? 0 (a.add (i * E.sz)) E.sz = some c ∧ E.holds (allZ W) y c) ∧ E.okS y := by
          intro i hi
          have hi' := hE i hi
          rw [List.getElem?_eq_getElem (by omega), hsz] at hi'
          obtain ⟨c, hc, hc'⟩ := Option.bind_eq_some_iff.1 hi'
          obtain ⟨y, h5, h6⟩ := open_ts n e E k _ c h1 hc' fun q hq => hz q (List.mem_cons_of_mem _ (List.mem_append_left _ (weights_all (List.mem_map.2 ⟨_, List.getElem_mem (by omega), rfl⟩) q hq)))
          exact ⟨y, ⟨c, hc, h5⟩, h6⟩
        obtain ⟨l, hl, hp⟩ := list_of key
        obtain ⟨ch, h5, h6⟩ := els_zone (t := E) (z := allZ W) (a := a) l fun j y hj => by
          obtain ⟨⟨c, hc, hh⟩, _⟩ := hp j y hj
          obtain ⟨c', rfl⟩ := Ty.holds_chunk hh
          refine ⟨c', hh, fun i u hu => cellAt_old ?_⟩
          obtain ⟨_, hlen, hget⟩ := World.cells?_some hc
          rw [hget i (by rw [← hlen]; exact (List.getElem?_eq_some_iff.1 hu).1)]
          exact hu
        refine ⟨l, ⟨some a, cap, ch, by rw [hl], by rw [hl]; exact hlc, h5, .inr ⟨a, rfl, h6⟩⟩, ?_, fun y hy => ?_⟩
        · show List.length l ≤ 140737488355328
          rw [hl]; omega
        · obtain ⟨i, hi⟩ := List.mem_iff_getElem?.1 (show y ∈ (l : List E.den) from hy)
          exact (hp i y hi).2
    · rename_i fs hu
      simp only [Bool.and_eq_true] at h
      have hsz := Nat.eq_of_beq_eq_true h.1
      obtain ⟨xs, j, _, rfl, hlen, hxl, hx⟩ := DataW.trod_struct hu hd
      simp only [DataW.weights, hu] at hz
      have := flds_open (enc := enc) (held := held) (W := W) (P := P) (r := tyS P n) (cs := cs) (m := j) (fun t T x cs => open_ts n t T j x cs) fs.toList 0 _ h.2 (by omega) fun f hf => by
        obtain ⟨i, hi⟩ := List.mem_iff_getElem?.1 hf
        have hi' : fs[i]? = some f := by simpa using hi
        have hlt := (Array.getElem?_eq_some_iff.1 hi').1
        rw [hx i f hi', List.getElem?_eq_getElem (by omega)]
        refine ⟨_, rfl, fun q hq => hz q (DataW.weights_mem_each (j := i) (t := f.type) (d := (xs[i]'(by omega)).1) ?_ ?_ q hq)⟩
        · rw [List.getElem?_map, hi]; rfl
        · rw [List.getElem?_map, List.getElem?_eq_getElem (by omega)]; rfl
      simpa using this
    · cases h

theorem ops_dat {n : Nat} {t : TypeId} {T : Ty} {v : Value} {d : DataW H} {ps : List MemPlace} (h : tyS P n t T = true) (hagg : T.agg = false) (hone : ∃ u, v.cells = #[u] ∧ v = u) (hd : DataW.Trod enc P W 0 (fun _ => true) held t v d ps) (hz : ∀ n ∈ d.weights P t, n ≤ reachBytes) :
    ∃ x, (AV.vl false [.dat T x]).at noρ (allZ W) 0 v ∧ T.okS x := by
  obtain ⟨m, hm⟩ := hd
  obtain ⟨y, h1, h2⟩ := open_ts n t T m _ _ h hm hz
  obtain ⟨u, e1, rfl⟩ := hone
  rw [e1] at h1
  exact ⟨y, Cmp.one h1, h2⟩
theorem ops_agg {n : Nat} {t : TypeId} {T : Ty} {v : Value} {d : DataW H} {ps : List MemPlace} (h : tyS P n t T = true) (ht : ∃ cs, v = .agg cs) (hd : DataW.Trod enc P W 0 (fun _ => true) held t v d ps) (hz : ∀ n ∈ d.weights P t, n ≤ reachBytes) :
    ∃ x, (AV.vl true [.dat T x]).at noρ (allZ W) 0 v ∧ T.okS x := by
  obtain ⟨m, hm⟩ := hd
  obtain ⟨cs, rfl⟩ := ht
  obtain ⟨y, h1, h2⟩ := open_ts n t T m _ _ h hm hz
  refine ⟨y, ⟨cs.toList, ⟨cs.toList, [], (List.append_nil _).symm, h1, rfl⟩, by simp⟩, h2⟩
end
end Go.Lift
