/- Arguments that are slices of structs of two numbers. -/
import Derived.Test.YtcpddgjmopdlbaaClose
import Derived.Deep.SlicePairs
namespace Go.Lift
open Go Go.ChangeShapes Go.WideShapes Go.ChangeAt Go.RowKit
set_option linter.unusedVariables false

def numOf (v : Value) : Int := match v with
  | .int _ n => n
  | _ => 0

section
variable {H : Type} {enc : TypeId × Value → H} {P : Program} {W : World} {r : Reach} {b0 : Nat} {held : Bool}

theorem op_pairs {t E : TypeId} {f0 f1 : Field} {k0 k1 : IntKind} {e : Enc (Int × Int)} {v : Value} {d : DataW H} {ps : List MemPlace} (ht : P.underlying t = some (.slice E)) (he : P.underlying E = some (.struct #[f0, f1]))
    (ce : P.cellsOf E = 2) (o0 : f0.offset = 0) (o1 : f1.offset = 1) (c0 : P.cellsOf f0.type = 1) (c1 : P.cellsOf f1.type = 1) (u0 : P.underlying f0.type = some (.int k0)) (u1 : P.underlying f1.type = some (.int k1))
    (hcs : ∀ x, e.cs x = [.int k0 x.1, .int k1 x.2])
    (hval : Value.okWide P W r b0 t v) (hd : DataW.Trod enc P W 0 (fun _ => true) held t v d ps) :
    ∃ A cap xs, v = .slice A (List.length xs) cap ∧ (slA (Old W) e A cap xs).at W ∧ (∀ x ∈ xs, (Lit.int k0 x.1).wf = true ∧ (Lit.int k1 x.2).wf = true) ∧ xs.length ≤ maxLen := by
  have hsz : e.sz = 2 := by rw [← e.len (0, 0), hcs]; rfl
  obtain ⟨a0, len, cap, rfl⟩ := okWide_slice ht hval
  obtain ⟨fuel, hf⟩ := hd
  rcases Go.Deep.open_slice_pairs ht he ce o0 o1 c0 c1 hf with ⟨hcs', _⟩ | ⟨a, l, c, m, n, V0, V1, D0, D1, P0, P1, hcs', _, hl, hm, hmm, _, hx⟩
  · simp [Value.cells] at hcs'
    obtain ⟨rfl, rfl, rfl⟩ := hcs'
    exact ⟨none, 0, [], rfl, sl_nil _ _ _ _, by simp, Nat.zero_le _⟩
  · simp [Value.cells] at hcs'
    obtain ⟨rfl, rfl, rfl⟩ := hcs'
    simp only [if_true] at hmm
    subst hmm
    have h0 : ∀ i, i < m → V0 i = .int k0 (numOf (V0 i)) ∧ (Lit.int k0 (numOf (V0 i))).wf = true := fun i hi => by
      obtain ⟨z, hz, _, hw⟩ := DataW.trod_int u0 (hx i hi).2.2.1
      simp only [List.cons.injEq, and_true] at hz
      rw [hz]; exact ⟨rfl, hw⟩
    have h1 : ∀ i, i < m → V1 i = .int k1 (numOf (V1 i)) ∧ (Lit.int k1 (numOf (V1 i))).wf = true := fun i hi => by
      obtain ⟨z, hz, _, hw⟩ := DataW.trod_int u1 (hx i hi).2.2.2
      simp only [List.cons.injEq, and_true] at hz
      rw [hz]; exact ⟨rfl, hw⟩
    refine ⟨some a, m, (List.range len).map fun i => (numOf (V0 i), numOf (V1 i)), by simp, ⟨by simpa using hl, .inr ⟨a, rfl, fun j u hj => ?_⟩⟩, fun x hx' => ?_, by simp; omega⟩
    · have hjl : j < 2 * len := by
        have := (List.getElem?_eq_some_iff.1 hj).1
        rw [flat_len, hsz] at this
        simp at this; omega
      have hq : j = (j / 2) * 2 + j % 2 := by omega
      have hq2 : j / 2 < len := by omega
      have hg := flat_get (e := e) ((List.range len).map fun i => (numOf (V0 i), numOf (V1 i))) (j / 2) (j % 2) (by simpa using hq2) (by rw [hsz]; omega)
      rw [hsz, ← hq, hj, hcs] at hg
      apply cellAt_old
      have hx := hx (j / 2) (by omega)
      rcases Nat.mod_two_eq_zero_or_one j with h | h
      · rw [h] at hg hq
        simp only [List.getElem_map, List.getElem_range, List.getElem?_cons_zero, Option.some.injEq] at hg
        rw [hg, ← (h0 (j / 2) (by omega)).1, hq]
        simpa using hx.1
      · rw [h] at hg hq
        simp only [List.getElem_map, List.getElem_range, List.getElem?_cons_succ, List.getElem?_cons_zero, Option.some.injEq] at hg
        rw [hg, ← (h1 (j / 2) (by omega)).1, hq]
        have := hx.2.1
        rw [show (j / 2 * 2 + 1) / 2 = j / 2 by omega]
        exact this
    · obtain ⟨i, hi, rfl⟩ := List.mem_map.1 hx'
      have := List.mem_range.1 hi
      exact ⟨(h0 i (by omega)).2, (h1 i (by omega)).2⟩
end
end Go.Lift
