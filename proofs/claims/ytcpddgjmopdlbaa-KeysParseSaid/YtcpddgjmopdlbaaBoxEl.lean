/- A variable that is an array of numbers: an element at a place that is reckoned. -/
import Derived.Test.YtcpddgjmopdlbaaEql
namespace Go.Lift
open Go

/-- A list with one element set, spelled out. -/
def setL (j : Nat) (v : Int) : Nat → List Int → List Int
  | _, [] => []
  | s, y :: ys => (if j = s then v else y) :: setL j v (s + 1) ys

theorem setL_eq (v : Int) : ∀ (ys : List Int) (s j : Nat), setL (s + j) v s ys = ys.set j v
  | [], _, _ => by simp [setL]
  | y :: ys, s, 0 => by
    have h : ∀ (zs : List Int) (t : Nat), s < t → setL s v t zs = zs := by
      intro zs
      induction zs with
      | nil => intro t _; rfl
      | cons z zs ih => intro t ht; simp only [setL]; rw [if_neg (by omega), ih _ (by omega)]
    simp only [setL, Nat.add_zero, if_true, List.set_cons_zero]
    rw [h ys (s + 1) (by omega)]
  | y :: ys, s, j + 1 => by
    simp only [setL, List.set_cons_succ]
    rw [if_neg (by omega), show s + (j + 1) = (s + 1) + j by omega, setL_eq v ys (s + 1) j]

section
variable {P : Program} {ops : Array Oper} {Q : Exit → Act → World → Prop} {w : World} {o : Oper} {os : List Oper} {l : List Value} {w0 : World} {D R : Nat → Prop} {X S : List Atom}

theorem s_index_box (x iop : Operand) (T E : TypeId) (n b : Nat) (k : IntKind) (i : Int) (ho : o.op = .indexAddr T x iop) (hT : P.underlying T = some (.array n E)) (hsz : pev P (sizeOf E) = some 1)
    (hx : (Fr l).eval x = .pointer (some ⟨b, 0, none⟩)) (hi : (Fr l).eval iop = .int k i) (hw : Region.wanted o (yielded ops l.toArray) = true) (h0 : 0 ≤ i) (h1 : i < n)
    (K : WL P ops Q os (Fr (dstSet o.dst l (.pointer (some ⟨b, i.toNat, none⟩)))) w) : WL P ops Q (o :: os) (Fr l) w := by
  refine step_val hw ?_ K
  unfold execOp
  have hin : 0 ≤ i ∧ i < (n : Int) := ⟨h0, h1⟩
  simp [ho, hx, hi, Instr.indexAt, Instr.sureAddr, asIntOf, run_underlying hT, hin, pev_run _ _ hsz w, Addr.add_lit]

theorem s_load_boxel (x : Operand) (T : TypeId) (b j : Nat) (k : IntKind) (cs : List Value) (ys : List Int) (y : Int) (ho : o.op = .load T x) (hx : (Fr l).eval x = .pointer (some ⟨b, j, none⟩)) (hw : Region.wanted o (yielded ops l.toArray) = true)
    (h : (boxA b cs).at w) (hcs : cs = ys.map (Value.int k)) (hT : pev P (isAgg T) = some false) (hy : ys[j]? = some y)
    (K : WL P ops Q os (Fr (dstSet o.dst l (.int k y))) w) : WL P ops Q (o :: os) (Fr l) w := by
  subst hcs
  have hc : w.cell? ⟨b, j, none⟩ = some (.int k y) := box_cell h (by rw [List.getElem?_map, hy]; rfl)
  have hld : (loadVar T ⟨b, j, none⟩).run P w = .ok (.int k y) w := by
    unfold loadVar
    simp [pev_run _ _ hT w, hc]
  refine step_val hw ?_ K
  unfold execOp
  simp [ho, hx, Instr.loadAt, Instr.sureAddr, hld]

theorem s_store_boxel (x yop : Operand) (T : TypeId) (b j : Nat) (k : IntKind) (cs cs' : List Value) (ys ys' : List Int) (v : Int) (ho : o.op = .store T x yop) (hx : (Fr l).eval x = .pointer (some ⟨b, j, none⟩)) (hy : (Fr l).eval yop = .int k v)
    (hw : Region.wanted o (yielded ops l.toArray) = true) (hsz : pev P (sizeOf T) = some 1) (hj : j < ys.length) (hcs : cs = ys.map (Value.int k)) (hys : setL j v 0 ys = ys') (hcs' : cs' = ys'.map (Value.int k))
    (hS : Own w0 D R w (boxA b cs :: X) S) (K : ∀ w', Own w0 D R w' (boxA b cs' :: X) S → WL P ops Q os (Fr (dstSet o.dst l undef)) w') : WL P ops Q (o :: os) (Fr l) w := by
  subst hcs
  subst hys
  subst hcs'
  refine s_store_box x yop T b j _ _ [.int k v] (.int k v) ho hx hy hw rfl (by simpa using hsz) (by simp [Value.oneCell']) (by simpa using Nat.succ_le_of_lt hj) ?_ hS K
  have := setL_eq v ys 0 j
  rw [Nat.zero_add] at this
  rw [this, List.map_set, List.set_eq_take_append_cons_drop, if_pos (by simpa using hj)]
  simp
end
end Go.Lift
