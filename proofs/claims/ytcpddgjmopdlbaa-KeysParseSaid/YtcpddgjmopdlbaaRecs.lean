/- Elements that are structs: a part of one is read. -/
import Derived.Test.YtcpddgjmopdlbaaDraws
namespace Go.Lift
open Go

section
variable {P : Program} {ops : Array Oper} {Q : Exit → Act → World → Prop} {w : World} {o : Oper} {os : List Oper} {l : List Value}
variable {α : Type} {e : Enc α} {A : Option Addr} {xs : List α}

theorem s_load_field (x : Operand) (T : TypeId) (p : Addr) (k off : Nat) (y : α) (v : Value) (ho : o.op = .load T x) (hT : pev P (isAgg T) = some false) (hx : (Fr l).eval x = .pointer (some (p.add off)))
    (hw : Region.wanted o (yielded ops l.toArray) = true) (hp : ElP A e.sz k p) (hr : SlR w e A xs) (hy : xs[k]? = some y) (hv : (e.cs y)[off]? = some v)
    (K : WL P ops Q os (Fr (dstSet o.dst l v)) w) : WL P ops Q (o :: os) (Fr l) w := by
  obtain ⟨a, rfl, rfl⟩ := hp
  have hk : k < xs.length := (List.getElem?_eq_some_iff.1 hy).1
  have hyk : xs[k] = y := (List.getElem?_eq_some_iff.1 hy).2
  obtain ⟨a', ha, hc⟩ := hr.some_of_pos (by omega)
  injection ha with ha
  subst ha
  have hoff : off < e.sz := by rw [← e.len y]; exact (List.getElem?_eq_some_iff.1 hv).1
  have hcell : w.cell? ((a.add (k * e.sz)).add off) = some v := by
    rw [add_add]
    refine hc _ v ?_
    rw [flat_get xs k off hk hoff, hyk]
    exact hv
  have hld : (loadVar T ((a.add (k * e.sz)).add off)).run P w = .ok v w := by
    unfold loadVar
    simp [pev_run _ _ hT w, hcell]
  refine step_val hw ?_ K
  unfold execOp
  simp [ho, hx, Instr.loadAt, Instr.sureAddr, hld]
end
end Go.Lift
