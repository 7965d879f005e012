/- Arrays by value: an element is read at a place that is reckoned. -/
import Derived.Test.YtcpddgjmopdlbaaExt
namespace Go.Lift
open Go

section
variable {P : Program} {ops : Array Oper} {Q : Exit → Act → World → Prop} {w : World} {o : Oper} {os : List Oper} {l : List Value}
variable {α : Type} {e : Enc α}

theorem s_index_arr (x iop : Operand) (T E : TypeId) (n bytes : Nat) (k : IntKind) (i : Int) (ys : List α) (y : α) (hag : e.agg = false) (ho : o.op = .index T x iop) (hT : P.underlying T = some (.array n E)) (el : ElTy P E e bytes)
    (hx : (Fr l).eval x = .agg (flat e ys).toArray) (hi : (Fr l).eval iop = .int k i) (hn : ys.length = n)
    (hw : Region.wanted o (yielded ops l.toArray) = true) (h0 : 0 ≤ i) (hy : ys[i.toNat]? = some y)
    (K : WL P ops Q os (Fr (dstSet o.dst l (e.v y))) w) : WL P ops Q (o :: os) (Fr l) w := by
  obtain ⟨⟨inf, z, hinf, hz, hsz, hby, hzs⟩, ha⟩ := el
  have hlt : i.toNat < ys.length := (List.getElem?_eq_some_iff.1 hy).1
  have hin : 0 ≤ i ∧ i < (n : Int) := ⟨h0, by omega⟩
  have h1 := e.one hag
  have hg := flat_get (e := e) ys i.toNat 0 hlt (by omega)
  have hyk : ys[i.toNat] = y := (List.getElem?_eq_some_iff.1 hy).2
  rw [hyk] at hg
  have hv : (e.cs y)[0]? = some (e.v y) := by
    have := e.len y
    rw [h1] at this
    match hcs : e.cs y, this with
    | [u], _ => simp [Enc.v, hag, hcs]
  rw [hv, Nat.add_zero] at hg
  refine step_val hw ?_ K
  unfold execOp
  have hA := ha w
  rw [hag] at hA
  simp [ho, hx, hi, Instr.index, asIntOf, run_underlying hT, hin, sizeOf, typeInfo, hinf, hsz, part, hA, hg]
end
end Go.Lift
