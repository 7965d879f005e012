/- One operation each: what it does to the frame and to the pieces of memory. -/
import Derived.Test.YtcpddgjmopdlbaaLists
namespace Go.Lift
open Go
set_option linter.unusedVariables false

section
variable {P : Program} {ops : Array Oper} {Q : Exit → Act → World → Prop} {w : World} {o : Oper} {os : List Oper} {l : List Value}

/-- A call of a function with a body. -/
theorem s_call (f : FuncId) (args : Array Value) (hw : Region.wanted o (yielded ops l.toArray) = true) (hp : pev P (execOp (Fr l).eval o) = some (.enter f args))
    (K : Calls P f args w fun e w' => ∃ v, e = .returned v ∧ WL P ops Q os (Fr (dstSet o.dst l v)) w') : WL P ops Q (o :: os) (Fr l) w :=
  step_run hw (pev_run _ _ hp w) (by
    simp only [Oper.upon]
    refine K.mono fun e w' he => ?_
    obtain ⟨v, rfl, h⟩ := he
    show wpList P ops Q os ((Fr l).put o.dst v) w'
    rw [Fr.put_dst]
    exact h.out)

/-- The same frame, otherwise spelled. -/
theorem fr_eq (l2 l1 : List Value) {l0 : List Value} (h1 : l0 = l1) (h2 : l2 = l1) (K : WL P ops Q os (Fr l2) w) : WL P ops Q os (Fr l0) w := by
  subst h1; subst h2; exact K

/-! ### Slices -/

variable {α : Type} {e : Enc α} {A : Option Addr} {cap : Nat} {xs ys : List α} {w0 : World} {D R : Nat → Prop} {X S : List Atom}

theorem s_append (s x : Operand) (T T' E : TypeId) (bytes : Nat) (y : Value) (ho : o.op = .call { callee := .builtin .append, args := #[s, x], argTypes := #[T, T'] })
    (hT : P.underlying T = some (.slice E)) (el : ElTy P E e bytes) (hs : (Fr l).eval s = .slice A xs.length cap) (hx : (Fr l).eval x = y)
    (hw : Region.wanted o (yielded ops l.toArray) = true) (hS : Own w0 D R w (rowA e A cap xs :: X) S) (hy : Src P w T' y e ys)
    (hb : (xs.length + ys.length) * bytes ≤ 140737488355328) (h63 : xs.length + ys.length ≤ maxLen)
    (K : ∀ A' cap' w', Own w0 D R w' (rowA e A' cap' (xs ++ ys) :: X) S → WL P ops Q os (Fr (dstSet o.dst l (.slice A' (xs ++ ys).length cap'))) w') :
    WL P ops Q (o :: os) (Fr l) w := by
  obtain ⟨A', cap', w', hr, hrow, hk, hd⟩ := run_append (T' := T') (ty := o.type) hT el hS.x0 hy h63 hb
  refine step_val hw ?_ (K A' cap' w' (hS.turn1 hk hrow hd))
  unfold execOp
  simp only [ho, resolve, invoke, builtin, Sem.run_bind, Sem.run_pure, Result.andThen_ok, List.map_toArray, List.map_cons, List.map_nil, hs, hx, hr]

/-- A slice written out. -/
theorem run_buildSlice {T E : TypeId} {n bytes : Nat} {parts : Array (Nat × Value)} {i : TypeInfo} {z : Value} (hT : P.underlying T = some (.slice E)) (hi : P.info? E = some i) (hz : i.zero = some z)
    (hn : n * i.size ≤ 16777216) {cs : Array Value}
    (hf : Instr.fill (fun j => some (j * i.size, i.size)) ((Array.range (n * i.size)).map ((if n * i.size = 0 then #[] else z.cells)[· % (if n * i.size = 0 then #[] else z.cells).size]!)) parts.toList = some cs) :
    (Instr.buildSlice T n parts).run P w = .ok (.slice (some ⟨w.heap.size, 0, none⟩) n n) (w.alloc (.cells cs E)) := by
  have h24 : ¬ (2 ^ 24 < n * i.size) := by omega
  by_cases h0 : n * i.size = 0
  · simp [h0] at hf
    simp [Instr.buildSlice, run_underlying hT, sizeOf, typeInfo, hi, h0, hf, newRow]
  · simp only [h0, if_false] at hf
    simp [Instr.buildSlice, run_underlying hT, sizeOf, typeInfo, zeroValue, hi, hz, h0, hf, newRow, h24]

theorem s_lit (T E : TypeId) (bytes n : Nat) (ps : Array (Nat × Operand)) (xs : List α) (z : Value) (ho : o.op = .buildSlice T n ps) (hT : P.underlying T = some (.slice E))
    (hinfo : (P.info? E).map (fun i => (i.zero, i.size, i.bytes)) = some (some z, e.sz, bytes))
    (hn : n * e.sz ≤ 16777216) (hxs : xs.length = n)
    (hw : Region.wanted o (yielded ops l.toArray) = true)
    (hf : Instr.fill (fun j => some (j * e.sz, e.sz)) ((Array.range (n * e.sz)).map ((if n * e.sz = 0 then #[] else z.cells)[· % (if n * e.sz = 0 then #[] else z.cells).size]!)) (ps.map fun (i, x) => (i, (Fr l).eval x)).toList = some (flat e xs).toArray)
    (hS : Own w0 D R w X S)
    (K : ∀ A' cap' w', Own w0 D R w' (rowA e A' cap' xs :: X) S → WL P ops Q os (Fr (dstSet o.dst l (.slice A' xs.length cap'))) w') :
    WL P ops Q (o :: os) (Fr l) w := by
  obtain ⟨i, hi, hz, hsz, hby⟩ := info_parts hinfo
  have hr := run_buildSlice (P := P) (w := w) (T := T) (E := E) (n := n) (bytes := bytes) (parts := ps.map fun (i, x) => (i, (Fr l).eval x)) (cs := (flat e xs).toArray) hT hi hz (by rw [hsz]; exact hn) (by rw [hsz]; exact hf)
  subst hxs
  refine step_val hw ?_ (K (some ⟨w.heap.size, 0, none⟩) xs.length (w.alloc (.cells (flat e xs).toArray E)) (hS.new (keeps_alloc' _ _ _) ?_ ?_))
  · unfold execOp
    simp only [ho, Sem.run_bind, Sem.run_pure, Result.andThen_ok, hr]
  · have := row_mk (w := w.alloc (.cells (flat e xs).toArray E)) (e := e) (xs := xs) (cap := xs.length) (b := w.heap.size) (o := 0) (t := E) (pre := []) (sp := []) (post := []) (Nat.le_refl _) rfl (by rw [flat_len]; simp) (by simpa using heap_alloc_new w _)
    exact this
  · rintro b ⟨a, ha, rfl⟩
    injection ha with ha
    subst ha
    exact ⟨Nat.le_refl _, by simp⟩

/-- Room for so many elements. -/
def room (bytes n : Nat) : Option Unit := if n * bytes ≤ 140737488355328 ∧ n ≤ maxLen then some () else none
theorem room_some {bytes n : Nat} {u : Unit} (h : room bytes n = some u) : n * bytes ≤ 140737488355328 ∧ n ≤ maxLen := by
  unfold room at h
  split at h
  · assumption
  · cases h

theorem then_normal {J : Act → World → Prop} {a : Act} (h : J a w) : Exit.then J Q .normal a w := h
theorem then_exit {J : Act → World → Prop} {a : Act} {i : Nat} (h : Q (.exit i) a w) : Exit.then J Q (.exit i) a w := h
theorem then_ret {J : Act → World → Prop} {a : Act} (h : Q .ret a w) : Exit.then J Q .ret a w := h
theorem in_normal {a : Act} {i : Nat} (h : Q .normal a w) : Exit.inBlock i Q .normal a w := h
theorem in_ret {a : Act} {i : Nat} (h : Q .ret a w) : Exit.inBlock i Q .ret a w := h
theorem in_exit_eq {a : Act} {i : Nat} (h : Q .normal a w) : Exit.inBlock i Q (.exit i) a w := by simpa [Exit.inBlock] using h
theorem in_exit_ne {a : Act} {i j : Nat} (hn : j ≠ i) (h : Q (.exit j) a w) : Exit.inBlock i Q (.exit j) a w := by simpa [Exit.inBlock, hn] using h

/-! ### Numbers -/

def band (k : IntKind) (a b : Int) : Int := k.wrap ((BitVec.ofInt k.bits a &&& BitVec.ofInt k.bits b).toNat)
def bor (k : IntKind) (a b : Int) : Int := k.wrap ((BitVec.ofInt k.bits a ||| BitVec.ofInt k.bits b).toNat)
def bxor (k : IntKind) (a b : Int) : Int := k.wrap ((BitVec.ofInt k.bits a ^^^ BitVec.ofInt k.bits b).toNat)
def bandNot (k : IntKind) (a b : Int) : Int := k.wrap ((BitVec.ofInt k.bits a &&& ~~~ BitVec.ofInt k.bits b).toNat)

def gshl (k : IntKind) (x y : Int) : Option Int := if y < 0 then none else some (k.wrap (x * 2 ^ (min y.toNat k.bits)))
def gshr (k : IntKind) (x y : Int) : Option Int := if y < 0 then none else some (x.fdiv (2 ^ (min y.toNat k.bits)))
def gquo (k : IntKind) (x y : Int) : Option Int := if y = 0 then none else some (k.wrap (x.tdiv y))
def grem (_k : IntKind) (x y : Int) : Option Int := if y = 0 then none else some (x.tmod y)

theorem s_gshl (x y : Operand) (t : TypeId) {t' : TypeId} (k k' : IntKind) (a b : Int) {z : Int} (ho : o.op = .binOp .shl t x y t') (hx : (Fr l).eval x = .int k a) (hy : (Fr l).eval y = .int k' b)
    (hw : Region.wanted o (yielded ops l.toArray) = true) (hz : gshl k a b = some z) (K : WL P ops Q os (Fr (dstSet o.dst l (.int k z))) w) : WL P ops Q (o :: os) (Fr l) w := by
  unfold gshl at hz
  split at hz
  · cases hz
  · rename_i hb
    injection hz with hz
    subst hz
    refine step_val hw ?_ K
    unfold execOp
    simp [ho, hx, hy, eqGuard_shl, binOp, Op.shift, hb]
theorem s_gshr (x y : Operand) (t : TypeId) {t' : TypeId} (k k' : IntKind) (a b : Int) {z : Int} (ho : o.op = .binOp .shr t x y t') (hx : (Fr l).eval x = .int k a) (hy : (Fr l).eval y = .int k' b)
    (hw : Region.wanted o (yielded ops l.toArray) = true) (hz : gshr k a b = some z) (K : WL P ops Q os (Fr (dstSet o.dst l (.int k z))) w) : WL P ops Q (o :: os) (Fr l) w := by
  unfold gshr at hz
  split at hz
  · cases hz
  · rename_i hb
    injection hz with hz
    subst hz
    refine step_val hw ?_ K
    unfold execOp
    simp [ho, hx, hy, eqGuard_shr, binOp, Op.shift, hb]
theorem s_gquo (x y : Operand) (t : TypeId) {t' : TypeId} (k k' : IntKind) (a b : Int) {z : Int} (ho : o.op = .binOp .quo t x y t') (hx : (Fr l).eval x = .int k a) (hy : (Fr l).eval y = .int k b)
    (hw : Region.wanted o (yielded ops l.toArray) = true) (hz : gquo k a b = some z) (K : WL P ops Q os (Fr (dstSet o.dst l (.int k z))) w) : WL P ops Q (o :: os) (Fr l) w := by
  unfold gquo at hz
  split at hz
  · cases hz
  · rename_i hb
    injection hz with hz
    subst hz
    refine step_val hw ?_ K
    unfold execOp
    simp [ho, hx, hy, eqGuard_quo, binOp, Op.intDiv, hb]
theorem s_grem (x y : Operand) (t : TypeId) {t' : TypeId} (k k' : IntKind) (a b : Int) {z : Int} (ho : o.op = .binOp .rem t x y t') (hx : (Fr l).eval x = .int k a) (hy : (Fr l).eval y = .int k b)
    (hw : Region.wanted o (yielded ops l.toArray) = true) (hz : grem k a b = some z) (K : WL P ops Q os (Fr (dstSet o.dst l (.int k z))) w) : WL P ops Q (o :: os) (Fr l) w := by
  unfold grem at hz
  split at hz
  · cases hz
  · rename_i hb
    injection hz with hz
    subst hz
    refine step_val hw ?_ K
    unfold execOp
    simp [ho, hx, hy, eqGuard_rem, binOp, Op.intDiv, hb]

/-- An element's place. -/
def ElP (A : Option Addr) (sz k : Nat) (p : Addr) : Prop := ∃ a, A = some a ∧ p = a.add (k * sz)

/-- What an index reads; none: out of range. -/
def ix {β : Type} (xs : List β) (i : Int) : Option β := if 0 ≤ i then xs[i.toNat]? else none
/-- What a store leaves. -/
def up {β : Type} (xs : List β) (i : Int) (y : β) : Option (List β) := if 0 ≤ i ∧ i.toNat < xs.length then some (xs.set i.toNat y) else none

theorem ix_some {β : Type} {xs : List β} {i : Int} {y : β} (h : ix xs i = some y) : 0 ≤ i ∧ i < xs.length ∧ xs[i.toNat]? = some y := by
  unfold ix at h
  split at h
  · rename_i h0
    have := (List.getElem?_eq_some_iff.1 h).1
    exact ⟨h0, by omega, h⟩
  · cases h
theorem up_some {β : Type} {xs zs : List β} {i : Int} {y : β} (h : up xs i y = some zs) : 0 ≤ i ∧ i < xs.length ∧ zs = xs.set i.toNat y := by
  unfold up at h
  split at h
  · rename_i h0
    injection h with h
    exact ⟨h0.1, by omega, h.symm⟩
  · cases h

theorem SlR.some_of_pos (h : SlR w e A xs) (hp : 0 < xs.length) : ∃ a, A = some a ∧ ∀ j u, (flat e xs)[j]? = some u → w.cell? (a.add j) = some u := by
  rcases h with ⟨_, rfl⟩ | h
  · simp at hp
  · exact h

theorem s_index (x iop : Operand) (T E : TypeId) (bytes : Nat) (k : IntKind) (i : Int) (ho : o.op = .indexAddr T x iop) (hT : P.underlying T = some (.slice E)) (el : ElTy P E e bytes)
    (hx : (Fr l).eval x = .slice A xs.length cap) (hi : (Fr l).eval iop = .int k i)
    (hw : Region.wanted o (yielded ops l.toArray) = true) (hr : SlR w e A xs) (h0 : 0 ≤ i) (h1 : i < xs.length)
    (K : ∀ p, ElP A e.sz i.toNat p → WL P ops Q os (Fr (dstSet o.dst l (.pointer (some p)))) w) :
    WL P ops Q (o :: os) (Fr l) w := by
  obtain ⟨a, rfl, hc⟩ := hr.some_of_pos (by omega)
  obtain ⟨⟨inf, z, hinf, hz, hsz, hby, hzs⟩, _⟩ := el
  refine step_val hw ?_ (K (a.add (i.toNat * e.sz)) ⟨a, rfl, rfl⟩)
  unfold execOp
  have hin : 0 ≤ i ∧ i < (xs.length : Int) := ⟨h0, h1⟩
  simp [ho, hx, hi, Instr.indexAt, asIntOf, run_underlying hT, hin, sizeOf, typeInfo, hinf, hsz]

theorem add_add (a : Addr) (m n : Nat) : (a.add m).add n = a.add (m + n) := by
  unfold Addr.add
  by_cases hm : m = 0
  · subst hm; simp
  · by_cases hn : n = 0
    · subst hn; simp [hm]
    · simp [hm, hn, Nat.add_assoc]

/-- A value read at an address where its cells stand. -/
theorem run_loadVar_enc {E : TypeId} {bytes : Nat} (el : ElTy P E e bytes) (a : Addr) (y : α) (hc : ∀ j u, (e.cs y)[j]? = some u → w.cell? (a.add j) = some u) :
    (loadVar E a).run P w = .ok (e.v y) w := by
  obtain ⟨⟨i, z, hi, hz, hsz, hby, hzs⟩, hagg⟩ := el
  unfold loadVar
  simp only [Sem.run_bind, hagg w, Result.andThen_ok]
  unfold Enc.v
  cases h : e.agg with
  | true =>
    have hl := run_loadCells_list (P := P) (w := w) a (e.cs y) hc
    simp only [e.len] at hl
    simp [sizeOf, typeInfo, hi, hsz, hl]
  | false =>
    have h1 := e.len y
    rw [e.one h] at h1
    match hcs : e.cs y, h1 with
    | [u], _ =>
      have := hc 0 u (by rw [hcs]; rfl)
      rw [Addr.add_zero'] at this
      simp [this]

theorem s_load_el (x : Operand) (E : TypeId) (bytes : Nat) (p : Addr) (k : Nat) (y : α) (ho : o.op = .load E x) (el : ElTy P E e bytes) (hx : (Fr l).eval x = .pointer (some p))
    (hw : Region.wanted o (yielded ops l.toArray) = true) (hp : ElP A e.sz k p) (hr : SlR w e A xs) (hy : xs[k]? = some y)
    (K : WL P ops Q os (Fr (dstSet o.dst l (e.v y))) w) : WL P ops Q (o :: os) (Fr l) w := by
  obtain ⟨a, rfl, rfl⟩ := hp
  have hk : k < xs.length := (List.getElem?_eq_some_iff.1 hy).1
  have hyk : xs[k] = y := (List.getElem?_eq_some_iff.1 hy).2
  obtain ⟨a', ha, hc⟩ := hr.some_of_pos (by omega)
  injection ha with ha
  subst ha
  have hld := run_loadVar_enc (P := P) (w := w) el (a.add (k * e.sz)) y (fun j u hj => by
    rw [add_add]
    refine hc _ u ?_
    have hjl : j < e.sz := by rw [← e.len y]; exact (List.getElem?_eq_some_iff.1 hj).1
    rw [flat_get xs k j hk hjl, hyk]
    exact hj)
  refine step_val hw ?_ K
  unfold execOp
  simp [ho, hx, Instr.loadAt, Instr.sureAddr, hld]


theorem mid_set {pre cs rest new : List Value} (k : Nat) (hk : k + new.length ≤ cs.length) :
    (pre ++ (cs ++ rest)).take (pre.length + k) ++ new ++ (pre ++ (cs ++ rest)).drop (pre.length + k + new.length) = pre ++ ((cs.take k ++ (new ++ cs.drop (k + new.length))) ++ rest) := by
  have e1 : (pre ++ (cs ++ rest)).take (pre.length + k) = pre ++ cs.take k := by
    rw [List.take_append, List.take_of_length_le (by omega), Nat.add_sub_cancel_left, List.take_append_of_le_length (by omega)]
  have e2 : (pre ++ (cs ++ rest)).drop (pre.length + k + new.length) = cs.drop (k + new.length) ++ rest := by
    rw [List.drop_append, List.drop_of_length_le (by omega), List.nil_append, show pre.length + k + new.length - pre.length = k + new.length by omega, List.drop_append_of_le_length hk]
  rw [e1, e2]
  simp

theorem run_storeVar_enc {E : TypeId} {bytes : Nat} (el : ElTy P E e bytes) (a : Addr) (y : α) {w' : World} (h : (storeCells a (e.cs y)).run P w = .ok () w') :
    (storeVar E a (e.v y)).run P w = .ok () w' := by
  obtain ⟨⟨i, z, hi, hz, hsz, hby, hzs⟩, _⟩ := el
  unfold storeVar
  have hs : (e.cs y).length = i.size := by rw [hsz, e.len]
  simp [sizeOf, typeInfo, hi, hs, e.v_cells, h]

theorem run_store_row {b o' t : Nat} {pre rest : List Value} {k : Nat} (y : α) (hk : k < xs.length) (hp : pre.length = o')
    (hb : w.heap[b]? = some (.cells (pre ++ (flat e xs ++ rest)).toArray t (0, 0))) :
    (storeCells (⟨b, o' + k * e.sz, none⟩ : Addr) (e.cs y)).run P w = .ok () (w.setRow b (pre ++ (flat e (xs.set k y) ++ rest)).toArray) := by
  have hfit : k * e.sz + (e.cs y).length ≤ (flat e xs).length := by
    rw [e.len, flat_len, ← Nat.succ_mul]
    exact Nat.mul_le_mul_right _ hk
  have h := run_storeCells_at P b (o' + k * e.sz) t (e.cs y) 0 _ w hb (by simp only [List.size_toArray, List.length_append]; omega) (e.leaf y)
  simp only [Nat.add_zero] at h
  rw [h, ← hp, mid_set (k * e.sz) hfit, flat_set _ _ _ hk, e.len]

theorem s_store_el (x yop : Operand) (E : TypeId) (bytes : Nat) (p : Addr) (k : Nat) (y : α) (ho : o.op = .store E x yop) (el : ElTy P E e bytes) (hx : (Fr l).eval x = .pointer (some p)) (hy : (Fr l).eval yop = e.v y)
    (hw : Region.wanted o (yielded ops l.toArray) = true) (hp : ElP A e.sz k p) (hk : k < xs.length) (hS : Own w0 D R w (rowA e A cap xs :: X) S)
    (K : ∀ w', Own w0 D R w' (rowA e A cap (xs.set k y) :: X) S → WL P ops Q os (Fr (dstSet o.dst l undef)) w') : WL P ops Q (o :: os) (Fr l) w := by
  obtain ⟨a, rfl, rfl⟩ := hp
  obtain ⟨hl, h'⟩ := row_facts hS.x0
  rcases h' with ⟨h1, _⟩ | ⟨b, o', t, pre, sp, post, h1, h2, h3, h4⟩
  · cases h1
  injection h1 with h1
  subst h1
  have hst := run_storeVar_enc (P := P) (w := w) el _ y (run_store_row (P := P) y hk h2 h4)
  have hln : (flat e (xs.set k y)).length = (flat e xs).length := by rw [flat_len, flat_len, List.length_set]
  refine step_unit hw ?_ (K _ (hS.turn1 (w' := w.setRow b (pre ++ (flat e (xs.set k y) ++ (sp ++ post))).toArray) ?_ ?_ ?_))
  · unfold execOp
    simp [ho, hx, hy, Instr.storeAt, Instr.sureAddr, Addr.add_lit, hst]
  · exact ⟨rfl, rfl, rfl, by simp, fun k _ hk => setRow_other w b k _ fun e => hk ⟨_, rfl, e.symm⟩⟩
  · exact row_mk (by rw [List.length_set]; exact hl) h2 (by rw [hln]; exact h3) (setRow_heap w b _ _ t _ h4)
  · rintro c ⟨a, ha, rfl⟩
    injection ha with ha
    subst ha
    exact ⟨.inl ⟨_, rfl, rfl⟩, by simpa using (Array.getElem?_eq_some_iff.1 h4).1⟩

/-- A part of a list; none: out of range. -/
def sub {β : Type} (xs : List β) (lo hi : Int) : Option (List β) := if 0 ≤ lo ∧ lo ≤ hi ∧ hi ≤ xs.length then some ((xs.take hi.toNat).drop lo.toNat) else none

theorem sub_some {β : Type} {xs ys : List β} {lo hi : Int} (h : sub xs lo hi = some ys) : 0 ≤ lo ∧ lo ≤ hi ∧ hi ≤ xs.length ∧ ys = (xs.take hi.toNat).drop lo.toNat := by
  unfold sub at h
  split at h
  · rename_i h0
    injection h with h
    exact ⟨h0.1, h0.2.1, h0.2.2, h.symm⟩
  · cases h

/-- A bound of a slice. -/
def Bnd (l : List Value) (x : Option Operand) (i d : Int) : Prop := (x = none ∧ i = d) ∨ ∃ op k, x = some op ∧ (Fr l).eval op = .int k i

theorem run_sliceBounds {lo hi : Option Operand} {a b : Int} {n c : Nat} (hlo : Bnd l lo a 0) (hhi : Bnd l hi b n) (h0 : 0 ≤ a) (h1 : a ≤ b) (h2 : b ≤ n) (hc : n ≤ c) (isSlice : Bool) :
    (Instr.sliceBounds isSlice n c (lo.map (Fr l).eval) (hi.map (Fr l).eval) none).run P w = .ok (a.toNat, b.toNat, c) w := by
  have bnd : ∀ (k : IntKind) (i : Int) (y : Nat) (code : BoundsCode), 0 ≤ i → i ≤ y → (Instr.sliceBound (.int k i) y code).run P w = .ok i.toNat w := fun k i y code h h' => run_sliceBound (P := P) (w := w) k i y code h h'
  have hbc : b ≤ (c : Int) := by omega
  have hab : a ≤ (b.toNat : Int) := by omega
  rcases hlo with ⟨rfl, rfl⟩ | ⟨lop, lk, rfl, hlv⟩ <;> rcases hhi with ⟨rfl, rfl⟩ | ⟨hop, hk, rfl, hhv⟩
  · simp [Instr.sliceBounds]
  · simp [Instr.sliceBounds, hhv, bnd _ _ _ _ (show 0 ≤ b by omega) hbc]
  · simp [Instr.sliceBounds, hlv, bnd _ _ _ _ h0 h1]
  · simp [Instr.sliceBounds, hlv, hhv, bnd _ _ _ _ (show 0 ≤ b by omega) hbc, bnd _ _ _ _ h0 hab]

def cutAddr (A : Option Addr) (cap l sz : Nat) : Option Addr := if cap = l then A else A.map (·.add (l * sz))

theorem blk_cutAddr {A : Option Addr} {c k sz b : Nat} (h : blkOf (cutAddr A c k sz) b) : blkOf A b := by
  obtain ⟨a, ha, rfl⟩ := h
  unfold cutAddr at ha
  split at ha
  · exact ⟨a, ha, rfl⟩
  · cases A with
    | none => simp at ha
    | some a0 =>
      simp at ha
      subst ha
      refine ⟨a0, rfl, ?_⟩
      unfold Addr.add
      split <;> rfl

theorem flat_part (xs : List α) (a b : Nat) (j : Nat) (u : Value) (h : (flat e ((xs.take b).drop a))[j]? = some u) : (flat e xs)[a * e.sz + j]? = some u := by
  rw [flat_drop, flat_take, List.getElem?_drop] at h
  rw [List.getElem?_take] at h
  split at h
  · exact h
  · cases h

theorem sl_part {Rd : Nat → Prop} {a b : Nat} (hab : a ≤ b) (hb : b ≤ xs.length) (h : (slA Rd e A cap xs).at w) : (slA Rd e (cutAddr A cap a e.sz) (cap - a) ((xs.take b).drop a)).at w := by
  obtain ⟨hl, h'⟩ := h
  refine ⟨by simp; omega, ?_⟩
  rcases h' with ⟨rfl, rfl⟩ | ⟨ad, rfl, hc⟩
  · refine .inl ⟨?_, by simp⟩
    unfold cutAddr; split <;> rfl
  · refine .inr ?_
    unfold cutAddr
    by_cases hca : cap = a
    · refine ⟨ad, if_pos hca, fun j u hj => ?_⟩
      have : (xs.take b).drop a = [] := List.drop_of_length_le (by simp; omega)
      rw [this] at hj
      simp [flat] at hj
    · refine ⟨ad.add (a * e.sz), if_neg hca, fun j u hj => ?_⟩
      rw [add_add]
      exact hc _ u (flat_part xs a b j u hj)

theorem row_part {a b : Nat} (hab : a ≤ b) (hb : b ≤ xs.length) (h : (rowA e A cap xs).at w) : (rowA e (cutAddr A cap a e.sz) (cap - a) ((xs.take b).drop a)).at w := by
  obtain ⟨hl, h'⟩ := row_facts h
  rcases h' with ⟨rfl, rfl⟩ | ⟨bl, o', t, pre, sp, post, rfl, h2, h3, h4⟩
  · have hx : xs = [] := List.eq_nil_of_length_eq_zero (by omega)
    subst hx
    have : cutAddr none 0 a e.sz = none := by unfold cutAddr; split <;> rfl
    rw [this, Nat.zero_sub]
    simpa using row_nil e w
  · unfold cutAddr
    by_cases hca : cap = a
    · rw [if_pos hca]
      have hx : (xs.take b).drop a = [] := List.drop_of_length_le (by simp; omega)
      rw [hx, hca, Nat.sub_self]
      exact row_mk (Nat.le_refl _) h2 (sp := []) (post := flat e xs ++ (sp ++ post)) (t := t) (by simp [flat]) (by simpa [flat] using h4)
    · rw [if_neg hca]
      simp only [Option.map_some, Addr.add_lit]
      have e1 : flat e xs = flat e (xs.take a) ++ (flat e ((xs.take b).drop a) ++ flat e (xs.drop b)) := by
        rw [← flat_append, ← flat_append]
        congr 1
        have : xs.take a = (xs.take b).take a := by rw [List.take_take, Nat.min_eq_left hab]
        rw [this, ← List.append_assoc, List.take_append_drop, List.take_append_drop]
      have hla : (flat e (xs.take a)).length = a * e.sz := by rw [flat_len, List.length_take, Nat.min_eq_left (by omega)]
      refine row_mk (by simp; omega) (pre := pre ++ flat e (xs.take a)) (sp := flat e (xs.drop b) ++ sp) (post := post) (t := t) (by rw [List.length_append, h2, hla]) ?_ ?_
      · have := congrArg List.length e1
        simp only [List.length_append] at this ⊢
        rw [Nat.sub_mul]
        omega
      · rw [h4]
        congr 3
        rw [e1]
        simp

theorem run_slice {T E : TypeId} {bytes : Nat} {lo hi : Option Operand} {a b : Int} (hT : P.underlying T = some (.slice E)) (el : ElTy P E e bytes) (hlo : Bnd l lo a 0) (hhi : Bnd l hi b xs.length)
    (h0 : 0 ≤ a) (h1 : a ≤ b) (h2 : b ≤ xs.length) (hc : xs.length ≤ cap) :
    (Instr.sliceAt T (.slice A xs.length cap) (lo.map (Fr l).eval) (hi.map (Fr l).eval) none).run P w = .ok (.slice (cutAddr A cap a.toNat e.sz) ((xs.take b.toNat).drop a.toNat).length (cap - a.toNat)) w := by
  obtain ⟨⟨i, z, hi', hz, hsz, hby, hzs⟩, _⟩ := el
  have hb := run_sliceBounds (P := P) (w := w) hlo hhi h0 h1 h2 hc true
  have hln : ((xs.take b.toNat).drop a.toNat).length = b.toNat - a.toNat := by simp; omega
  unfold Instr.sliceAt
  simp only [Sem.run_bind, run_underlying hT, Result.andThen_ok]
  unfold Instr.slice
  simp only [Sem.run_bind, run_underlying hT, Result.andThen_ok, hb, sizeOf, typeInfo, run_program, hi', Sem.run_pure, hsz, hln]
  rfl

/-- One slice is a part of another one. -/
def Part {β : Type} (e : Enc β) (A : Option Addr) (cap : Nat) (xs : List β) (A' : Option Addr) (cap' : Nat) (ys : List β) : Prop :=
  ∃ a b, a ≤ b ∧ b ≤ xs.length ∧ A' = cutAddr A cap a e.sz ∧ cap' = cap - a ∧ ys = (xs.take b).drop a

section
variable {A' : Option Addr} {cap' : Nat}
theorem Part.sl (h : Part e A cap xs A' cap' ys) {Rd : Nat → Prop} (hs : (slA Rd e A cap xs).at w) : (slA Rd e A' cap' ys).at w := by
  obtain ⟨a, b, h1, h2, rfl, rfl, rfl⟩ := h
  exact sl_part h1 h2 hs
theorem Part.row (h : Part e A cap xs A' cap' ys) (hs : (rowA e A cap xs).at w) : (rowA e A' cap' ys).at w := by
  obtain ⟨a, b, h1, h2, rfl, rfl, rfl⟩ := h
  exact row_part h1 h2 hs
theorem Part.blk (h : Part e A cap xs A' cap' ys) {c : Nat} (hc : blkOf A' c) : blkOf A c := by
  obtain ⟨a, b, h1, h2, rfl, rfl, rfl⟩ := h
  exact blk_cutAddr hc
theorem Part.trans {A'' : Option Addr} {cap'' : Nat} {zs : List α} (h : Part e A cap xs A' cap' ys) (h' : Part e A' cap' ys A'' cap'' zs) (hc : xs.length ≤ cap) : ∀ {Rd : Nat → Prop}, (slA Rd e A cap xs).at w → (slA Rd e A'' cap'' zs).at w :=
  fun hs => h'.sl (h.sl hs)
end

/-- A part of what is read alone. -/
theorem s_slice (x : Operand) (lo hi : Option Operand) (T E : TypeId) (bytes : Nat) (a b : Int) (ho : o.op = .slice T x lo hi none) (hT : P.underlying T = some (.slice E)) (el : ElTy P E e bytes)
    (hx : (Fr l).eval x = .slice A xs.length cap) (hlo : Bnd l lo a 0) (hhi : Bnd l hi b xs.length)
    (hw : Region.wanted o (yielded ops l.toArray) = true) (hc : xs.length ≤ cap) (hy : sub xs a b = some ys)
    (K : ∀ A' cap', Part e A cap xs A' cap' ys → WL P ops Q os (Fr (dstSet o.dst l (.slice A' ys.length cap'))) w) : WL P ops Q (o :: os) (Fr l) w := by
  obtain ⟨h0, h1, h2, rfl⟩ := sub_some hy
  refine step_val hw ?_ (K (cutAddr A cap a.toNat e.sz) (cap - a.toNat) ⟨a.toNat, b.toNat, by omega, by omega, rfl, rfl, rfl⟩)
  unfold execOp
  simp only [ho, hx, Sem.run_bind, Option.map_none, run_slice hT el hlo hhi h0 h1 h2 hc, Result.andThen_ok, Sem.run_pure]

theorem Own.sl_mem {Rd : Nat → Prop} (hS : Own w0 D R w X S) (h : slA Rd e A cap xs ∈ S) : (slA Rd e A cap xs).at w := hS.sok _ h
theorem Own.row_mem (hS : Own w0 D R w X S) (h : rowA e A cap xs ∈ X) : (rowA e A cap xs).at w := hS.xok _ h
theorem Own.box_mem {b : Nat} {cs : List Value} (hS : Own w0 D R w X S) (h : boxA b cs ∈ X) : (boxA b cs).at w := hS.xok _ h

theorem Own.addPart {Rd : Nat → Prop} {A' : Option Addr} {cap' : Nat} (hS : Own w0 D R w X S) (h : slA Rd e A cap xs ∈ S) (hp : Part e A cap xs A' cap' ys) : Own w0 D R w X (slA Rd e A' cap' ys :: S) :=
  hS.addS (hp.sl (hS.sok _ h)) fun _ hb => ⟨_, h, hb⟩

theorem Own.toPart {A' : Option Addr} {cap' : Nat} (hS : Own w0 D R w (rowA e A cap xs :: X) S) (hp : Part e A cap xs A' cap' ys) : Own w0 D R w (rowA e A' cap' ys :: X) S :=
  hS.turn1 (Keeps.refl _ _) (hp.row hS.x0) fun b hb => ⟨.inl (hp.blk hb), (hS.xdom _ (List.mem_cons_self ..) b (hp.blk hb)).2⟩

theorem Own.addNil (e : Enc α) (hS : Own w0 D R w X S) : Own w0 D R w (rowA e none 0 [] :: X) S :=
  hS.new (Keeps.refl _ _) (row_nil e w) fun b ⟨_, h, _⟩ => by cases h

theorem Own.addNilS (Rd : Nat → Prop) (e : Enc α) (hS : Own w0 D R w X S) (h : ∀ b, Rd b → doms S b) : Own w0 D R w X (slA Rd e none 0 [] :: S) :=
  hS.addS (sl_nil Rd e 0 w) h

theorem Own.freezeRow (hS : Own w0 D R w (rowA e A cap xs :: X) S) (hD : ∀ b, ¬ D b) : Own w0 D R w X (slA (blkOf A) e A cap xs :: S) :=
  hS.freeze (fun b _ => hD b) (sl_of_row hS.x0) fun _ h => h

theorem Own.len (hS : Own w0 D R w (rowA e A cap xs :: X) S) : xs.length ≤ cap := hS.x0.1

/-! ### Results -/

theorem ret_v {fn : Func} {Rr : Ending → World → Prop} (v : Value) (h : pev P (results fn l.toArray) = some v) (hR : Rr (.returned v) w) : bodyPost P fn Rr .ret (Fr l) w :=
  ⟨rfl, v, pev_run _ _ h w, hR⟩
theorem end_v {fn : Func} {Rr : Ending → World → Prop} (v : Value) (h : pev P (results fn l.toArray) = some v) (hR : Rr (.returned v) w) : bodyPost P fn Rr .normal (Fr l) w :=
  ⟨rfl, v, pev_run _ _ h w, hR⟩

theorem bind_some {α β : Type} {x : Option α} {f : α → Option β} {r : β} (h : x.bind f = some r) : ∃ a, x = some a ∧ f a = some r := Option.bind_eq_some_iff.1 h

theorem forall2 {β : Type} {p : β → Prop} {a : β} {l : List β} (h : p a) (t : ∀ x ∈ l, p x) : ∀ x ∈ a :: l, p x := fun x hx => by
  rcases List.mem_cons.1 hx with rfl | hx
  · exact h
  · exact t x hx
theorem forall0 {β : Type} {p : β → Prop} : ∀ x ∈ ([] : List β), p x := fun x hx => by cases hx

theorem doms_sub {B : Atom} {L : List Atom} (h : ∀ b, B.dom b → doms S b) (t : ∀ b, doms L b → doms S b) : ∀ b, doms (B :: L) b → doms S b := fun b ⟨C, hC, hb⟩ => by
  rcases List.mem_cons.1 hC with rfl | hC
  · exact h b hb
  · exact t b ⟨C, hC, hb⟩
theorem doms_sub0 : ∀ b, doms [] b → doms S b := fun b h => (doms_nil b h).elim

/-! ### Variables in memory -/

theorem box_heap {b : Nat} {cs : List Value} (h : (boxA b cs).at w) : ∃ t, w.heap[b]? = some (.cells cs.toArray t (0, 0)) := by
  obtain ⟨t, h⟩ := h
  exact ⟨t, (cut_some h).2⟩

theorem box_mk {b t : Nat} {cs : List Value} (h : w.heap[b]? = some (.cells cs.toArray t (0, 0))) : (boxA b cs).at w :=
  ⟨t, by rw [show cut (boxA b cs).dom (look w) b = look w b from cut_pos rfl]; exact h⟩

theorem s_box (x : Operand) (E : TypeId) (cs : List Value) (v : Value) (ho : o.op = .box E x) (hx : (Fr l).eval x = v) (hv : v.cells = cs.toArray)
    (hw : Region.wanted o (yielded ops l.toArray) = true) (hS : Own w0 D R w X S)
    (K : ∀ b w', Own w0 D R w' (boxA b cs :: X) S → WL P ops Q os (Fr (dstSet o.dst l (.pointer (some ⟨b, 0, none⟩)))) w') : WL P ops Q (o :: os) (Fr l) w := by
  refine step_val hw (v := .pointer (some ⟨w.heap.size, 0, none⟩)) (w' := w.alloc (.cells cs.toArray E)) ?_ (K w.heap.size _ (hS.new (keeps_alloc' _ _ _) (box_mk (t := E) (heap_alloc_new w _)) ?_))
  · unfold execOp
    simp [ho, hx, Instr.box, newVar, newRow, hv]
  · rintro b rfl
    exact ⟨Nat.le_refl _, by simp⟩

theorem s_alloc (E : TypeId) (cs : List Value) (ho : o.op = .alloc E) (hz : ∃ z, pev P (zeroValue E) = some z ∧ z.cells = cs.toArray)
    (hw : Region.wanted o (yielded ops l.toArray) = true) (hS : Own w0 D R w X S)
    (K : ∀ b w', Own w0 D R w' (boxA b cs :: X) S → WL P ops Q os (Fr (dstSet o.dst l (.pointer (some ⟨b, 0, none⟩)))) w') : WL P ops Q (o :: os) (Fr l) w := by
  obtain ⟨z, hz1, hz2⟩ := hz
  refine step_val hw (v := .pointer (some ⟨w.heap.size, 0, none⟩)) (w' := w.alloc (.cells cs.toArray E)) ?_ (K w.heap.size _ (hS.new (keeps_alloc' _ _ _) (box_mk (t := E) (heap_alloc_new w _)) ?_))
  · unfold execOp
    simp [ho, Instr.alloc, newVar, newRow, hz2, pev_run _ _ hz1 w]
  · rintro b rfl
    exact ⟨Nat.le_refl _, by simp⟩

/-- A variable, or a part of one, is read: n cells from 'off' on. -/
theorem run_load_box {T : TypeId} {b off n : Nat} {cs vs : List Value} {v : Value} (h : (boxA b cs).at w) (hvs : (cs.drop off).take n = vs) (hn : vs.length = n)
    (hT : (pev P (isAgg T) = some true ∧ pev P (sizeOf T) = some n ∧ v = .agg vs.toArray) ∨ (pev P (isAgg T) = some false ∧ vs = [v])) :
    (loadVar T ⟨b, off, none⟩).run P w = .ok v w := by
  obtain ⟨t, hb⟩ := box_heap h
  have hcell : ∀ j u, vs[j]? = some u → w.cell? ((⟨b, off, none⟩ : Addr).add j) = some u := fun j u hj => by
    rw [Addr.add_lit, cell_of_row w b (off + j) _ t (0, 0) hb, List.getElem?_toArray]
    rw [← hvs, List.getElem?_take] at hj
    split at hj
    · rwa [List.getElem?_drop] at hj
    · cases hj
  unfold loadVar
  rcases hT with ⟨h1, h2, rfl⟩ | ⟨h1, rfl⟩
  · have hl := run_loadCells_list (P := P) (w := w) ⟨b, off, none⟩ vs hcell
    rw [hn] at hl
    simp only [Sem.run_bind, pev_run _ _ h1 w, pev_run _ _ h2 w, Result.andThen_ok, if_true, hl, Sem.run_pure]
  · have := hcell 0 v rfl
    rw [Addr.add_zero'] at this
    simp [pev_run _ _ h1 w, this]

theorem s_load_box (x : Operand) (T : TypeId) (b off n : Nat) (cs vs : List Value) (v : Value) (ho : o.op = .load T x) (hx : (Fr l).eval x = .pointer (some ⟨b, off, none⟩))
    (hw : Region.wanted o (yielded ops l.toArray) = true) (h : (boxA b cs).at w) (hvs : (cs.drop off).take n = vs) (hn : vs.length = n)
    (hT : (pev P (isAgg T) = some true ∧ pev P (sizeOf T) = some n ∧ v = .agg vs.toArray) ∨ (pev P (isAgg T) = some false ∧ vs = [v]))
    (K : WL P ops Q os (Fr (dstSet o.dst l v)) w) : WL P ops Q (o :: os) (Fr l) w := by
  refine step_val hw ?_ K
  unfold execOp
  simp [ho, hx, Instr.loadAt, Instr.sureAddr, run_load_box h hvs hn hT]

/-- A variable, or a part of one, is written. -/
theorem s_store_box (x yop : Operand) (T : TypeId) (b off : Nat) (cs cs' vs : List Value) (v : Value) (ho : o.op = .store T x yop) (hx : (Fr l).eval x = .pointer (some ⟨b, off, none⟩)) (hy : (Fr l).eval yop = v)
    (hw : Region.wanted o (yielded ops l.toArray) = true) (hv : v.cells = vs.toArray) (hsz : pev P (sizeOf T) = some vs.length) (hone : ∀ u ∈ vs, u.oneCell' = true)
    (hfit : off + vs.length ≤ cs.length) (hcs : cs.take off ++ (vs ++ cs.drop (off + vs.length)) = cs') (hS : Own w0 D R w (boxA b cs :: X) S)
    (K : ∀ w', Own w0 D R w' (boxA b cs' :: X) S → WL P ops Q os (Fr (dstSet o.dst l undef)) w') : WL P ops Q (o :: os) (Fr l) w := by
  obtain ⟨t, hb⟩ := box_heap hS.x0
  have h := run_storeCells_at P b off t vs 0 _ w hb (by simpa using hfit) hone
  simp only [Nat.add_zero, List.append_assoc, hcs] at h
  have hsv : (storeVar T ⟨b, off, none⟩ v).run P w = .ok () (w.setRow b cs'.toArray) := by
    unfold storeVar
    simp [pev_run _ _ hsz w, hv, h]
  refine step_unit hw ?_ (K _ (hS.turn1 (w' := w.setRow b cs'.toArray) ?_ (box_mk (setRow_heap w b _ _ t _ hb)) ?_))
  · unfold execOp
    simp [ho, hx, hy, Instr.storeAt, Instr.sureAddr, hsv]
  · exact ⟨rfl, rfl, rfl, by simp, fun k _ hk => setRow_other w b k _ hk⟩
  · rintro c rfl
    exact ⟨.inl rfl, by simpa using (Array.getElem?_eq_some_iff.1 hb).1⟩
end
end Go.Lift
