/- Arguments that are structs of six numbers. -/
import Derived.Test.YtcpddgjmopdlbaaClose2
namespace Go.Lift
open Go Go.ChangeShapes Go.WideShapes Go.ChangeAt Go.RowKit
set_option linter.unusedVariables false

section
variable {H : Type} {enc : TypeId × Value → H} {P : Program} {W : World} {r : Reach} {b0 base : Nat} {sp : Nat → Bool} {held : Bool}

theorem rec_field {fs : Array Field} {xs : List (DataW H × List MemPlace)} {n : Nat} {cs : List Value} (hx : xs.length = fs.size)
    (h : ∀ (i : Nat) (f : Field), fs[i]? = some f → DataW.trod enc P W base sp held n f.type ((cs.drop f.offset).take (P.cellsOf f.type)) = xs[i]?)
    {i : Nat} {f : Field} {k : IntKind} {c : Value} (hf : fs[i]? = some f) (hu : P.underlying f.type = some (.int k)) (hcs : (cs.drop f.offset).take (P.cellsOf f.type) = [c]) :
    ∃ m, c = .int k m ∧ (Lit.int k m).wf = true := by
  have h1 := h i f hf
  have hi : i < xs.length := by rw [hx]; exact (Array.getElem?_eq_some_iff.1 hf).1
  rw [hcs, List.getElem?_eq_getElem hi] at h1
  obtain ⟨m, hm, _, hw⟩ := DataW.trod_int hu h1
  simp only [List.cons.injEq, and_true] at hm
  exact ⟨m, hm, hw⟩

theorem op_rec6 {t : TypeId} {f0 f1 f2 f3 f4 f5 : Field} {k0 k1 k2 k3 k4 k5 : IntKind} {v : Value} {d : DataW H} {ps : List MemPlace} (ht : P.underlying t = some (.struct #[f0, f1, f2, f3, f4, f5])) (hC : P.cellsOf t = 6)
    (u0 : P.underlying f0.type = some (.int k0)) (u1 : P.underlying f1.type = some (.int k1)) (u2 : P.underlying f2.type = some (.int k2)) (u3 : P.underlying f3.type = some (.int k3)) (u4 : P.underlying f4.type = some (.int k4)) (u5 : P.underlying f5.type = some (.int k5))
    (c0 : f0.offset = 0 ∧ P.cellsOf f0.type = 1) (c1 : f1.offset = 1 ∧ P.cellsOf f1.type = 1) (c2 : f2.offset = 2 ∧ P.cellsOf f2.type = 1) (c3 : f3.offset = 3 ∧ P.cellsOf f3.type = 1) (c4 : f4.offset = 4 ∧ P.cellsOf f4.type = 1) (c5 : f5.offset = 5 ∧ P.cellsOf f5.type = 1)
    (hval : Value.okWide P W r b0 t v) (hd : DataW.Trod enc P W base sp held t v d ps) :
    ∃ n0 n1 n2 n3 n4 n5 : Int, v = .agg #[.int k0 n0, .int k1 n1, .int k2 n2, .int k3 n3, .int k4 n4, .int k5 n5] ∧
      (Lit.int k0 n0).wf = true ∧ (Lit.int k1 n1).wf = true ∧ (Lit.int k2 n2).wf = true ∧ (Lit.int k3 n3).wf = true ∧ (Lit.int k4 n4).wf = true ∧ (Lit.int k5 n5).wf = true := by
  obtain ⟨cs, rfl, hsz⟩ := okWide_struct ht hval
  obtain ⟨fuel, hf⟩ := hd
  obtain ⟨xs, n, _, _, _, hx, h⟩ := DataW.trod_struct ht hf
  rw [hC] at hsz
  obtain ⟨l⟩ := cs
  match l, hsz with
  | [a0, a1, a2, a3, a4, a5], _ =>
    simp only [Value.cells] at h
    obtain ⟨n0, rfl, w0⟩ := rec_field hx h (i := 0) rfl u0 (c := a0) (by simp [c0])
    obtain ⟨n1, rfl, w1⟩ := rec_field hx h (i := 1) rfl u1 (c := a1) (by simp [c1])
    obtain ⟨n2, rfl, w2⟩ := rec_field hx h (i := 2) rfl u2 (c := a2) (by simp [c2])
    obtain ⟨n3, rfl, w3⟩ := rec_field hx h (i := 3) rfl u3 (c := a3) (by simp [c3])
    obtain ⟨n4, rfl, w4⟩ := rec_field hx h (i := 4) rfl u4 (c := a4) (by simp [c4])
    obtain ⟨n5, rfl, w5⟩ := rec_field hx h (i := 5) rfl u5 (c := a5) (by simp [c5])
    exact ⟨n0, n1, n2, n3, n4, n5, rfl, w0, w1, w2, w3, w4, w5⟩
end
end Go.Lift
