/- From an argument that reads as data to the pieces of memory that the walks speak of, and back. -/
import Derived.Test.YtcpddgjmopdlbaaMore
import Derived.WalkKit
import Derived.ProofKit
import Derived.OpenShut
import Derived.ShutString
import Derived.ChangeOld
import Derived.Below
import Derived.Deep.Matrix
namespace Go.Lift
open Go Go.ChangeShapes Go.WideShapes Go.ChangeAt Go.RowKit
set_option linter.unusedVariables false

theorem Own.start {w : World} {S : List Atom} (h : ∀ A ∈ S, A.at w) (hd : ∀ A ∈ S, ∀ b, A.dom b → b < w.heap.size) : Own w (doms []) (doms S) w [] S where
  keep := Keeps.refl _ _
  xok := forall0
  sok := h
  xdom := forall0
  sdom A hA b hb := ⟨.inl ⟨A, hA, hb⟩, hd A hA b hb⟩
  xx := List.Pairwise.nil
  xs := forall0

theorem Own.below {w w' : World} {R : Nat → Prop} {X S : List Atom} (h : Own w (doms []) R w' X S) : Below w.heap.size w w' :=
  ⟨h.keep.os, h.keep.tape, h.keep.output, h.keep.size, fun k hk => h.keep.block k hk (doms_nil k)⟩

/-- Where the arguments lie. -/
def Old (w : World) (b : Nat) : Prop := b < w.heap.size

theorem flat_ints (k : IntKind) (xs : List Int) : flat (Enc.int k) xs = xs.map (Value.int k) := by
  unfold flat; rw [List.map_eq_flatMap]; rfl

theorem cellAt_old {w : World} {a : Addr} {v : Value} (h : w.cell? a = some v) : cellAt (cut (Old w) (look w)) a = some v := by
  have hlt : a.block < w.heap.size := block_lt_of_cell h
  unfold cellAt
  rw [cut_pos (show Old w a.block from hlt)]
  exact h

theorem slOk_ints {w : World} {k : IntKind} {a : Addr} {len cap : Nat} {zs : List Int} (hl : len ≤ cap) (hz : zs.length = cap)
    (hc : ∀ i, i < cap → w.cell? (a.add i) = some (.int k (zs.getD i 0))) : SlOk (Enc.int k) (some a) cap (zs.take len) (cut (Old w) (look w)) := by
  refine ⟨by simp; omega, .inr ⟨a, rfl, fun j u hj => ?_⟩⟩
  rw [flat_ints, List.map_take, List.getElem?_take] at hj
  split at hj
  · rename_i hjl
    have hjz : j < zs.length := by omega
    rw [List.getElem?_map, List.getElem?_eq_getElem hjz] at hj
    simp only [Option.map_some, Option.some.injEq] at hj
    subst hj
    apply cellAt_old
    rw [hc j (by omega)]
    simp [List.getD, List.getElem?_eq_getElem hjz]
  · cases hj

section
variable {H : Type} {enc : TypeId × Value → H} {P : Program} {W : World} {r : Reach} {b0 : Nat} {sp : Nat → Bool} {held : Bool}

theorem op_ints {t e : TypeId} {k : IntKind} {v : Value} {d : DataW H} {ps : List MemPlace} (ht : P.underlying t = some (.slice e)) (he : P.underlying e = some (.int k)) (hc : P.cellsOf e = 1)
    (hval : Value.okWide P W r b0 t v) (hd : DataW.Trod enc P W 0 (fun _ => true) held t v d ps) :
    ∃ A cap xs, v = .slice A (List.length xs) cap ∧ (slA (Old W) (Enc.int k) A cap xs).at W ∧ (∀ n ∈ xs, (Lit.int k n).wf = true) ∧ xs.length ≤ maxLen := by
  obtain ⟨a0, len, cap, rfl⟩ := okWide_slice ht hval
  obtain ⟨fuel, hf⟩ := hd
  rcases open_ints ht he hc hf with ⟨hcs, _⟩ | ⟨x, l, c, zs, hcs, _, hl, hm, hz, _, hcell, hwz⟩
  · simp [Value.cells] at hcs
    obtain ⟨rfl, rfl, rfl⟩ := hcs
    exact ⟨none, 0, [], rfl, sl_nil _ _ _ _, by simp, Nat.zero_le _⟩
  · simp [Value.cells] at hcs
    obtain ⟨rfl, rfl, rfl⟩ := hcs
    simp only [if_true] at hz
    refine ⟨some x, cap, zs.take len, ?_, slOk_ints hl hz (fun i hi => hcell i (by omega)), fun n hn => hwz n (List.mem_of_mem_take hn), by simp; omega⟩
    rw [List.length_take, Nat.min_eq_left (by omega)]

theorem op_rows {t e q : TypeId} {k : IntKind} {v : Value} {d : DataW H} {ps : List MemPlace} (ht : P.underlying t = some (.slice e)) (he : P.underlying e = some (.slice q)) (hq : P.underlying q = some (.int k))
    (ce : P.cellsOf e = 1) (cq : P.cellsOf q = 1)
    (hval : Value.okWide P W r b0 t v) (hd : DataW.Trod enc P W 0 (fun _ => true) held t v d ps) :
    ∃ A cap xss, v = .slice A (List.length xss) cap ∧ (slsA (Old W) (Enc.int k) A cap xss).at W ∧ (∀ xs ∈ xss, (∀ n ∈ xs, (Lit.int k n).wf = true) ∧ List.length xs ≤ maxLen) ∧ xss.length ≤ maxLen := by
  obtain ⟨a0, len, cap, rfl⟩ := okWide_slice ht hval
  obtain ⟨fuel, hf⟩ := hd
  rcases Go.Deep.open_int_rows ht he hq ce cq hf with ⟨hcs, _⟩ | ⟨a, l, c, A, L, C, Z, hcs, _, hl, hm, _, hr⟩
  · simp [Value.cells] at hcs
    obtain ⟨rfl, rfl, rfl⟩ := hcs
    exact ⟨none, 0, [], rfl, ⟨Nat.le_refl _, .inl ⟨rfl, rfl⟩⟩, by simp, Nat.zero_le _⟩
  · simp [Value.cells] at hcs
    obtain ⟨rfl, rfl, rfl⟩ := hcs
    have hrow : ∀ j, j < len → SlOk (Enc.int k) (A j) (C j) ((Z j).take (L j)) (cut (Old W) (look W)) := by
      intro j hj
      obtain ⟨h1, h2, h3, h4, h5, h6, h7⟩ := hr j (by omega)
      cases hA : A j with
      | none =>
        have hC := h6 hA
        have hz : Z j = [] := List.eq_nil_of_length_eq_zero (by omega)
        rw [hz]
        exact ⟨by simp, .inl ⟨rfl, by simp⟩⟩
      | some a' => exact slOk_ints h2 h4 fun i hi => (h7 a' hA).2 i hi
    refine ⟨some a, cap, (List.range len).map fun j => (Z j).take (L j), by simp, ⟨by simp; omega, .inr ⟨a, rfl, fun j xs hj => ?_⟩⟩, ?_, by simp; omega⟩
    · have hjl : j < len := by
        have := (List.getElem?_eq_some_iff.1 hj).1
        simpa using this
      simp [hjl] at hj
      subst hj
      obtain ⟨h1, h2, h3, h4, h5, h6, h7⟩ := hr j (by omega)
      refine ⟨A j, C j, ?_, hrow j hjl⟩
      have := cellAt_old h1
      rw [List.length_take, Nat.min_eq_left (by omega)]
      exact this
    · intro xs hxs
      simp only [List.mem_map, List.mem_range] at hxs
      obtain ⟨j, hj, rfl⟩ := hxs
      obtain ⟨h1, h2, h3, h4, h5, h6, h7⟩ := hr j (by omega)
      exact ⟨fun n hn => h5 n (List.mem_of_mem_take hn), by simp; omega⟩
end

theorem wf_u8 {n : Int} (h : (Lit.int .u8 n).wf = true) : 0 ≤ n ∧ n ≤ 255 := bounds_u8 h
theorem wf_u16 {n : Int} (h : (Lit.int .u16 n).wf = true) : 0 ≤ n ∧ n ≤ 65535 := bounds_u16 h
theorem wf_u32 {n : Int} (h : (Lit.int .u32 n).wf = true) : 0 ≤ n ∧ n ≤ 4294967295 := bounds_u32 h
theorem wf_u64 {n : Int} (h : (Lit.int .u64 n).wf = true) : 0 ≤ n ∧ n ≤ 18446744073709551615 := bounds_u64 h
theorem wf_i64 {n : Int} (h : (Lit.int .i64 n).wf = true) : -9223372036854775808 ≤ n ∧ n ≤ 9223372036854775807 := bounds_i64 h
end Go.Lift
