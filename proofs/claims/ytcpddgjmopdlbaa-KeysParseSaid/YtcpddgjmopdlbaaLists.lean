/- Rows of values in memory that stand for plain lists: what append, make, an index, a slice, a load and a store do to them. -/
import Derived.Test.YtcpddgjmopdlbaaOwn
import Derived.Laws.MakeOwn
import Derived.Laws.Slices
import Derived.Laws.Entries
import Derived.Laws.Cells
import Derived.OwnWalk
namespace Go.Lift
open Go

/-- How plain data lie in cells. -/
structure Enc (α : Type) where
  agg : Bool
  sz : Nat
  cs : α → List Value
  len : ∀ x, (cs x).length = sz
  one : agg = false → sz = 1
  leaf : ∀ x, ∀ u ∈ cs x, u.oneCell' = true

def Enc.v {α : Type} (e : Enc α) (x : α) : Value := match e.agg with | true => .agg (e.cs x).toArray | false => (e.cs x).headD undef

theorem Enc.v_cells {α : Type} (e : Enc α) (x : α) : (e.v x).cells = (e.cs x).toArray := by
  unfold Enc.v
  cases h : e.agg with
  | true => rfl
  | false =>
    have h1 := e.len x
    rw [e.one h] at h1
    match hc : e.cs x, h1 with
    | [u], _ =>
      have := e.leaf x u (by simp [hc])
      cases u <;> first | rfl | (simp [Value.oneCell'] at this)

def Enc.int (k : IntKind) : Enc Int := ⟨false, 1, fun x => [.int k x], fun _ => rfl, fun _ => rfl, fun _ u hu => by simp at hu; subst hu; rfl⟩
def Enc.bool : Enc Bool := ⟨false, 1, fun x => [.bool x], fun _ => rfl, fun _ => rfl, fun _ u hu => by simp at hu; subst hu; rfl⟩
def Enc.str : Enc (List UInt8) := ⟨false, 1, fun x => [.string ⟨x.toArray⟩], fun _ => rfl, fun _ => rfl, fun _ u hu => by simp at hu; subst hu; rfl⟩

def flat {α : Type} (e : Enc α) (xs : List α) : List Value := xs.flatMap e.cs

section
variable {α : Type} {e : Enc α}
theorem flat_nil : flat e [] = [] := rfl
theorem flat_cons (x : α) (xs : List α) : flat e (x :: xs) = e.cs x ++ flat e xs := by simp [flat]
theorem flat_append (xs ys : List α) : flat e (xs ++ ys) = flat e xs ++ flat e ys := by simp [flat]
theorem flat_len (xs : List α) : (flat e xs).length = xs.length * e.sz := by
  induction xs with
  | nil => simp [flat]
  | cons x xs ih => rw [flat_cons, List.length_append, ih, e.len, List.length_cons, Nat.succ_mul]; omega
theorem flat_leaf (xs : List α) : ∀ u ∈ flat e xs, u.oneCell' = true := by
  intro u hu
  simp only [flat, List.mem_flatMap] at hu
  obtain ⟨x, _, hx⟩ := hu
  exact e.leaf x u hx
theorem flat_get (xs : List α) (i j : Nat) (hi : i < xs.length) (hj : j < e.sz) : (flat e xs)[i * e.sz + j]? = (e.cs xs[i])[j]? := by
  induction xs generalizing i with
  | nil => simp at hi
  | cons x xs ih =>
    rw [flat_cons]
    cases i with
    | zero => rw [List.getElem?_append_left (by rw [e.len]; omega)]; simp
    | succ i =>
      rw [List.getElem?_append_right (by rw [e.len, Nat.succ_mul]; omega), e.len]
      have : (i + 1) * e.sz + j - e.sz = i * e.sz + j := by rw [Nat.succ_mul]; omega
      rw [this, ih i (by simpa using hi)]
      simp
theorem flat_take (xs : List α) (k : Nat) : flat e (xs.take k) = (flat e xs).take (k * e.sz) := by
  induction xs generalizing k with
  | nil => simp [flat]
  | cons x xs ih =>
    cases k with
    | zero => simp [flat]
    | succ k =>
      rw [List.take_succ_cons, flat_cons, flat_cons, ih, List.take_append, e.len]
      have h1 : (k + 1) * e.sz - e.sz = k * e.sz := by rw [Nat.succ_mul]; omega
      have h2 : (e.cs x).take ((k + 1) * e.sz) = e.cs x := List.take_of_length_le (by rw [e.len, Nat.succ_mul]; omega)
      rw [h1, h2]
theorem flat_drop (xs : List α) (k : Nat) : flat e (xs.drop k) = (flat e xs).drop (k * e.sz) := by
  induction xs generalizing k with
  | nil => simp [flat]
  | cons x xs ih =>
    cases k with
    | zero => simp
    | succ k =>
      rw [List.drop_succ_cons, flat_cons, ih, List.drop_append, e.len]
      have h1 : (k + 1) * e.sz - e.sz = k * e.sz := by rw [Nat.succ_mul]; omega
      have h2 : (e.cs x).drop ((k + 1) * e.sz) = [] := List.drop_of_length_le (by rw [e.len, Nat.succ_mul]; omega)
      rw [h1, h2, List.nil_append]
theorem flat_set (xs : List α) (i : Nat) (y : α) (hi : i < xs.length) :
    flat e (xs.set i y) = (flat e xs).take (i * e.sz) ++ (e.cs y ++ (flat e xs).drop (i * e.sz + e.sz)) := by
  rw [List.set_eq_take_append_cons_drop, if_pos hi, flat_append, flat_cons, flat_take, flat_drop, Nat.succ_mul]
end

def cellAt (h : Hp) (a : Addr) : Option Value :=
  match h a.block with
  | some (.cells c _ _) => if a.spot.isSome then none else c[a.off]?
  | _ => none

theorem cellAt_look (w : World) (a : Addr) : cellAt (look w) a = w.cell? a := rfl
theorem cellAt_cut {D : Nat → Prop} {w : World} {a : Addr} {v : Value} (h : cellAt (cut D (look w)) a = some v) : D a.block ∧ w.cell? a = some v := by
  unfold cellAt at h
  split at h
  · rename_i c t f hc
    obtain ⟨h1, h2⟩ := cut_some hc
    refine ⟨h1, ?_⟩
    show cellAt (look w) a = some v
    unfold cellAt
    rw [h2]
    exact h
  · cases h

def blkOf (A : Option Addr) (b : Nat) : Prop := ∃ a, A = some a ∧ a.block = b

/-- A slice that reads as a list. -/
def SlR {α : Type} (w : World) (e : Enc α) (A : Option Addr) (xs : List α) : Prop :=
  (A = none ∧ xs = []) ∨ ∃ a, A = some a ∧ ∀ j u, (flat e xs)[j]? = some u → w.cell? (a.add j) = some u

def SlOk {α : Type} (e : Enc α) (A : Option Addr) (cap : Nat) (xs : List α) (h : Hp) : Prop :=
  xs.length ≤ cap ∧ ((A = none ∧ xs = []) ∨ ∃ a, A = some a ∧ ∀ j u, (flat e xs)[j]? = some u → cellAt h (a.add j) = some u)

/-- It is read alone; Rd: where it lies. -/
def slA {α : Type} (Rd : Nat → Prop) (e : Enc α) (A : Option Addr) (cap : Nat) (xs : List α) : Atom := ⟨Rd, SlOk e A cap xs⟩

def RowOk {α : Type} (e : Enc α) (A : Option Addr) (cap : Nat) (xs : List α) (h : Hp) : Prop :=
  xs.length ≤ cap ∧ ((A = none ∧ cap = 0) ∨ ∃ b o t pre sp post, A = some ⟨b, o, none⟩ ∧ pre.length = o ∧ (flat e xs).length + sp.length = cap * e.sz ∧
    h b = some (.cells (pre ++ (flat e xs ++ (sp ++ post))).toArray t (0, 0)))

/-- It is the call's own. -/
def rowA {α : Type} (e : Enc α) (A : Option Addr) (cap : Nat) (xs : List α) : Atom := ⟨blkOf A, RowOk e A cap xs⟩

/-- A variable in memory. -/
def boxA (b : Nat) (cs : List Value) : Atom := ⟨fun x => x = b, fun h => ∃ t, h b = some (.cells cs.toArray t (0, 0))⟩

section
variable {P : Program} {w w' : World} {α : Type} {e : Enc α} {A B : Option Addr} {cap : Nat} {xs ys : List α} {Rd : Nat → Prop}

theorem SlR.of_sl (h : (slA Rd e A cap xs).at w) : SlR w e A xs := by
  rcases h.2 with h | ⟨a, ha, hc⟩
  · exact .inl h
  · exact .inr ⟨a, ha, fun j u hj => (cellAt_cut (hc j u hj)).2⟩

theorem row_facts (h : (rowA e A cap xs).at w) : xs.length ≤ cap ∧ ((A = none ∧ cap = 0) ∨ ∃ b o t pre sp post, A = some ⟨b, o, none⟩ ∧ pre.length = o ∧ (flat e xs).length + sp.length = cap * e.sz ∧
    w.heap[b]? = some (.cells (pre ++ (flat e xs ++ (sp ++ post))).toArray t (0, 0))) := by
  refine ⟨h.1, h.2.imp id ?_⟩
  rintro ⟨b, o, t, pre, sp, post, h1, h2, h3, h4⟩
  exact ⟨b, o, t, pre, sp, post, h1, h2, h3, (cut_some h4).2⟩

theorem row_mk (hl : xs.length ≤ cap) {b o t : Nat} {pre sp post : List Value} (h2 : pre.length = o) (h3 : (flat e xs).length + sp.length = cap * e.sz)
    (h4 : w.heap[b]? = some (.cells (pre ++ (flat e xs ++ (sp ++ post))).toArray t (0, 0))) : (rowA e (some ⟨b, o, none⟩) cap xs).at w :=
  ⟨hl, .inr ⟨b, o, t, pre, sp, post, rfl, h2, h3, by rw [show cut (rowA e (some ⟨b, o, none⟩) cap xs).dom (look w) b = look w b from cut_pos ⟨_, rfl, rfl⟩]; exact h4⟩⟩

theorem row_nil (e : Enc α) (w : World) : (rowA e none 0 ([] : List α)).at w := ⟨Nat.le_refl _, .inl ⟨rfl, rfl⟩⟩

theorem row_none (h : (rowA e none cap xs).at w) : xs = [] ∧ cap = 0 := by
  obtain ⟨h1, h2⟩ := row_facts h
  rcases h2 with ⟨_, h2⟩ | ⟨b, o, t, pre, sp, post, h2, _⟩
  · exact ⟨List.eq_nil_of_length_eq_zero (by omega), h2⟩
  · cases h2

theorem cell_row {b o t : Nat} {pre cs rest : List Value} (hp : pre.length = o) (hb : w.heap[b]? = some (.cells (pre ++ (cs ++ rest)).toArray t (0, 0))) (j : Nat) (u : Value) (hj : cs[j]? = some u) :
    w.cell? ((⟨b, o, none⟩ : Addr).add j) = some u := by
  rw [Addr.add_lit, cell_of_row w b (o + j) _ t (0, 0) hb]
  have hlt : j < cs.length := (List.getElem?_eq_some_iff.1 hj).1
  rw [List.getElem?_toArray, List.getElem?_append_right (by omega), List.getElem?_append_left (by omega)]
  rw [show o + j - pre.length = j by omega]
  exact hj

theorem SlR.of_row (h : (rowA e A cap xs).at w) : SlR w e A xs := by
  obtain ⟨hl, h⟩ := row_facts h
  rcases h with ⟨h1, h2⟩ | ⟨b, o, t, pre, sp, post, h1, h2, _, h4⟩
  · exact .inl ⟨h1, List.eq_nil_of_length_eq_zero (by omega)⟩
  · exact .inr ⟨_, h1, fun j u hj => cell_row h2 h4 j u hj⟩

/-- The call's own, lent to be read. -/
theorem sl_of_row (h : (rowA e A cap xs).at w) : (slA (blkOf A) e A cap xs).at w := by
  obtain ⟨hl, h'⟩ := row_facts h
  refine ⟨hl, ?_⟩
  rcases h' with ⟨h1, h2⟩ | ⟨b, o, t, pre, sp, post, h1, h2, _, h4⟩
  · exact .inl ⟨h1, List.eq_nil_of_length_eq_zero (by omega)⟩
  · refine .inr ⟨_, h1, fun j u hj => ?_⟩
    have := cell_row h2 h4 j u hj
    have hb : (blkOf A) ((⟨b, o, none⟩ : Addr).add j).block := ⟨_, h1, by rw [Addr.add_lit]⟩
    unfold cellAt
    rw [show (slA (blkOf A) e A cap xs).dom = blkOf A from rfl, cut_pos hb]
    exact this

theorem sl_nil (Rd : Nat → Prop) (e : Enc α) (cap : Nat) (w : World) : (slA Rd e none cap ([] : List α)).at w := ⟨Nat.zero_le _, .inl ⟨rfl, rfl⟩⟩

theorem SlR.first (h : SlR w e A xs) : (Builtin.firstCells e.sz xs.length (.slice A xs.length cap)).run P w = .ok (flat e xs).toArray w := by
  rcases h with ⟨rfl, rfl⟩ | ⟨a, rfl, hc⟩
  · exact run_firstCells_none (P := P) (w := w) _ _ _ _
  · exact run_firstCells_some (P := P) w _ _ a _ _ _ (flat_len xs) hc

/-- What the second operand of append or copy gives. -/
structure Src (P : Program) (w : World) (T : TypeId) (x : Value) (e : Enc α) (ys : List α) : Prop where
  ty : (∃ E, P.underlying T = some (.slice E)) ∨ P.underlying T = some .string
  lenOf : (Builtin.lenOf x).run P w = .ok ys.length w
  cells : ∀ w', w'.heap = w.heap → (Builtin.firstCells e.sz ys.length x).run P w' = .ok (flat e ys).toArray w'

theorem SlR.src {T E : TypeId} (hT : P.underlying T = some (.slice E)) (h : SlR w e A xs) : Src P w T (.slice A xs.length cap) e xs where
  ty := .inl ⟨_, hT⟩
  lenOf := rfl
  cells w' hw := SlR.first (by
    rcases h with h | ⟨a, ha, hc⟩
    · exact .inl h
    · exact .inr ⟨a, ha, fun j u hj => by have := hc j u hj; unfold World.cell? at *; rw [hw]; exact this⟩)

/-- What the program's table says of an element's type. -/
structure ElTy (P : Program) (E : TypeId) {α : Type} (e : Enc α) (bytes : Nat) : Prop where
  info : ∃ i z, P.info? E = some i ∧ i.zero = some z ∧ i.size = e.sz ∧ i.bytes = bytes ∧ z.cells.size = e.sz
  agg : ∀ w, (isAgg E).run P w = .ok e.agg w

theorem ElTy.mk' {E : TypeId} {z : Value} {bytes : Nat} (h : (P.info? E).map (fun i => (i.zero, i.size, i.bytes)) = some (some z, e.sz, bytes)) (hz : z.cells.size = e.sz)
    (ha : pev P (isAgg E) = some e.agg) : ElTy P E e bytes :=
  ⟨by obtain ⟨i, h1, h2, h3, h4⟩ := info_parts h; exact ⟨i, z, h1, h2, h3, h4, hz⟩, fun w => pev_run _ _ ha w⟩

theorem keeps_alloc (w : World) (o : Obj) (M : Nat → Prop) : Keeps M w (w.drew.alloc o) :=
  ⟨rfl, rfl, rfl, by simp, fun b hb _ => by show (w.heap.push o)[b]? = _; rw [Array.getElem?_push, if_neg (by omega)]⟩
theorem keeps_alloc' (w : World) (o : Obj) (M : Nat → Prop) : Keeps M w (w.alloc o) :=
  ⟨rfl, rfl, rfl, by simp, fun b hb _ => by show (w.heap.push o)[b]? = _; rw [Array.getElem?_push, if_neg (by omega)]⟩

theorem run_append {T T' ty E : TypeId} {bytes : Nat} (hT : P.underlying T = some (.slice E)) (el : ElTy P E e bytes) {y : Value}
    (hrow : (rowA e A cap xs).at w) (hy : Src P w T' y e ys) (h63 : xs.length + ys.length ≤ maxLen) (hb : (xs.length + ys.length) * bytes ≤ 140737488355328) :
    ∃ A' cap' w', (Builtin.append_ #[T, T'] ty #[.slice A xs.length cap, y]).run P w = .ok (.slice A' (xs ++ ys).length cap') w' ∧ (rowA e A' cap' (xs ++ ys)).at w' ∧
      Keeps (blkOf A) w w' ∧ ∀ b, blkOf A' b → (blkOf A b ∨ w.heap.size ≤ b) ∧ b < w'.heap.size := by
  obtain ⟨⟨i, z, hi, hz, hsz, hby, hzs⟩, _⟩ := el
  obtain ⟨hd, hlen, hcells⟩ := hy
  have hsmall : xs.length + ys.length ≤ 9223372036854775807 := by simp only [maxLen] at h63; omega
  have hln : (xs ++ ys).length = xs.length + ys.length := List.length_append
  have old : ∀ A, SlR w e A xs → (Builtin.firstCells e.sz xs.length (.slice A xs.length cap)).run P w.drew = .ok (flat e xs).toArray w.drew := fun A h => SlR.first (by exact h)
  have hf : (Builtin.firstCells e.sz ys.length y).run P w.drew = .ok (flat e ys).toArray w.drew := hcells _ rfl
  have grow : cap < xs.length + ys.length → ∃ A' cap' w', (Builtin.append_ #[T, T'] ty #[.slice A xs.length cap, y]).run P w = .ok (.slice A' (xs ++ ys).length cap') w' ∧ (rowA e A' cap' (xs ++ ys)).at w' ∧
      Keeps (blkOf A) w w' ∧ ∀ b, blkOf A' b → (blkOf A b ∨ w.heap.size ≤ b) ∧ b < w'.heap.size := by
    intro hcap
    have hfit := growslice_fits hcap hb
    have hge := grownCap_ge w (xs.length + ys.length) cap E
    refine ⟨some ⟨w.heap.size, 0, none⟩, grownCap w (xs.length + ys.length) cap E, w.drew.alloc (.cells ((flat e xs).toArray ++ (flat e ys).toArray ++ Builtin.zeroCells z.cells (grownCap w (xs.length + ys.length) cap E - (xs.length + ys.length))) E), ?_, ?_, ?_, ?_⟩
    · have hn : ¬ (xs.length + ys.length ≤ cap) := by omega
      have h63' : ¬ (9223372036854775807 < ((xs.length : Int) + (ys.length : Int))) := by omega
      have h48' : ¬ (281474976710656 < Builtin.nextslicecap (xs.length + ys.length) cap * i.bytes) := by rw [hby]; omega
      have hfo := old A (SlR.of_row hrow)
      rw [← hsz] at hfo hf
      rcases hd with ⟨E', hd⟩ | hd <;>
        simp [Builtin.append_, run_underlying hT, run_underlying hd, sizeOf, typeInfo, zeroValue, hi, hz, hn, h63', h48', Question.forced, hf, hfo, newRow, grownCap, hlen] <;>
        (congr 2; apply Array.ext'; simp [List.append_assoc])
    · have e1 : ((flat e xs).toArray ++ (flat e ys).toArray ++ Builtin.zeroCells z.cells (grownCap w (xs.length + ys.length) cap E - (xs.length + ys.length)))
          = ([] ++ (flat e (xs ++ ys) ++ ((Builtin.zeroCells z.cells (grownCap w (xs.length + ys.length) cap E - (xs.length + ys.length))).toList ++ []))).toArray := by
        apply Array.toList_inj.1; simp [flat_append, List.append_assoc]
      rw [e1]
      refine row_mk (by omega) (pre := []) (sp := (Builtin.zeroCells z.cells (grownCap w (xs.length + ys.length) cap E - (xs.length + ys.length))).toList) (post := []) (t := E) rfl ?_ (heap_alloc_new w.drew _)
      have e2 : (Builtin.zeroCells z.cells (grownCap w (xs.length + ys.length) cap E - (xs.length + ys.length))).toList.length = (grownCap w (xs.length + ys.length) cap E - (xs.length + ys.length)) * e.sz := by
        rw [Array.length_toList, size_zeroCells, hzs]
      rw [e2, flat_len, hln, ← Nat.add_mul]
      congr 1
      omega
    · exact keeps_alloc w _ _
    · rintro b ⟨a, ha, rfl⟩
      injection ha with ha
      subst ha
      exact ⟨.inr (Nat.le_refl _), by simp⟩
  by_cases hcap : xs.length + ys.length ≤ cap
  · obtain ⟨hl, h'⟩ := row_facts hrow
    rcases h' with ⟨rfl, rfl⟩ | ⟨b, o, t, pre, sp, post, rfl, h2, h3, h4⟩
    · have hxs : xs = [] := List.eq_nil_of_length_eq_zero (by omega)
      have hys : ys = [] := List.eq_nil_of_length_eq_zero (by omega)
      subst hxs; subst hys
      refine ⟨none, 0, w, ?_, row_nil e w, Keeps.refl _ _, fun b hb => ?_⟩
      · have hf' : (Builtin.firstCells e.sz 0 y).run P w = .ok (flat e ([] : List α)).toArray w := hcells _ rfl
        rw [← hsz] at hf'
        rcases hd with ⟨E', hd⟩ | hd <;>
          simp [Builtin.append_, run_underlying hT, run_underlying hd, sizeOf, typeInfo, hi, hlen, hf']
      · obtain ⟨a, ha, _⟩ := hb; cases ha
    · have hlf : (flat e ys).length ≤ sp.length := by
        rw [flat_len] at *
        have := Nat.mul_le_mul_right e.sz hcap
        rw [Nat.add_mul] at this
        omega
      have hf' : (Builtin.firstCells e.sz ys.length y).run P w = .ok (flat e ys).toArray w := hcells _ rfl
      have hst := run_storeCells_at P b (o + xs.length * e.sz) t (flat e ys) 0 _ w h4 (by
        have hx : (flat e xs).length = xs.length * e.sz := flat_len xs
        simp only [List.size_toArray, List.length_append]
        omega) (flat_leaf ys)
      simp only [Nat.add_zero] at hst
      have hw : (pre ++ (flat e xs ++ (sp ++ post))).take (o + xs.length * e.sz) ++ flat e ys ++ (pre ++ (flat e xs ++ (sp ++ post))).drop (o + xs.length * e.sz + (flat e ys).length)
          = pre ++ (flat e (xs ++ ys) ++ (sp.drop (flat e ys).length ++ post)) := by
        have e1 : o + xs.length * e.sz = (pre ++ flat e xs).length := by rw [List.length_append, flat_len, h2]
        have e0 : pre ++ (flat e xs ++ (sp ++ post)) = (pre ++ flat e xs) ++ (sp ++ post) := by simp
        rw [e0, e1, List.take_left, ← List.drop_drop, List.drop_left, List.drop_append_of_le_length hlf, flat_append]
        simp
      refine ⟨some ⟨b, o, none⟩, cap, w.setRow b (pre ++ (flat e (xs ++ ys) ++ (sp.drop (flat e ys).length ++ post))).toArray, ?_, ?_, ?_, ?_⟩
      · rw [hw] at hst
        rcases hd with ⟨E', hd⟩ | hd <;>
          simp [Builtin.append_, run_underlying hT, run_underlying hd, sizeOf, typeInfo, hi, hlen, hcap, hf', hsz, Addr.add_lit, hst]
      · refine row_mk (by omega) h2 (sp := sp.drop (flat e ys).length) (post := post) (t := t) ?_ (setRow_heap w b _ _ t _ h4)
        rw [List.length_drop, flat_append, List.length_append]
        omega
      · exact ⟨rfl, rfl, rfl, by simp, fun k _ hk => setRow_other w b k _ fun e => hk ⟨_, rfl, e.symm⟩⟩
      · rintro k ⟨a, ha, rfl⟩
        injection ha with ha
        subst ha
        exact ⟨.inl ⟨_, rfl, rfl⟩, by simpa using (Array.getElem?_eq_some_iff.1 h4).1⟩
  · exact grow (by omega)
end
end Go.Lift
