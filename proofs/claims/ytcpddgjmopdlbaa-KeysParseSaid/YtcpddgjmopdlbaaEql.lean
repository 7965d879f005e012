/- Equality of arrays of numbers. -/
import Derived.Test.YtcpddgjmopdlbaaBev
import Derived.ChangeKeysEq
namespace Go.Lift
open Go

section
variable {P : Program} {ops : Array Oper} {Q : Exit → Act → World → Prop} {w : World} {o : Oper} {os : List Oper} {l : List Value}

theorem all_get_eq : ∀ (xs ys : List Int), xs.length = ys.length → ((List.range xs.length).all fun i => xs.getD i 0 == ys.getD i 0) = (xs == ys)
  | [], [], _ => rfl
  | x :: xs, y :: ys, h => by
    have ih := all_get_eq xs ys (by simpa using h)
    rw [List.length_cons, List.range_succ_eq_map, List.all_cons, List.all_map]
    simp only [List.getD_cons_zero, Function.comp_def, List.getD_cons_succ, ih]
    simp [List.cons_beq_cons]
  | [], _ :: _, h => by simp at h
  | _ :: _, [], h => by simp at h

theorem run_items (d : Nat) {e : TypeId} {k : IntKind} (he : P.underlying e = some (.int k)) (hc : P.cellsOf e = 1) {n : Nat} (xs ys : List Int) (hx : xs.length = n) (hy : ys.length = n) :
    ∀ (is : List Nat), (∀ i ∈ is, i < n) → (Op.eqItems (d + 1) e (P.cellsOf e) (xs.map (Value.int k)).toArray (ys.map (Value.int k)).toArray is).run P w = .ok (is.all fun i => xs.getD i 0 == ys.getD i 0) w
  | [], _ => by simp [Op.eqItems]
  | i :: is, h => by
    have hi := h i List.mem_cons_self
    have px : (part e (xs.map (Value.int k)).toArray (i * 1)).run P w = .ok (.int k (xs.getD i 0)) w := by
      simp [part, isAgg, run_underlying he, List.getD, List.getElem?_eq_getElem (show i < xs.length by omega)]
    have py : (part e (ys.map (Value.int k)).toArray (i * 1)).run P w = .ok (.int k (ys.getD i 0)) w := by
      simp [part, isAgg, run_underlying he, List.getD, List.getElem?_eq_getElem (show i < ys.length by omega)]
    have ih := run_items d he hc xs ys hx hy is fun j hj => h j (List.mem_cons_of_mem _ hj)
    rw [hc] at ih ⊢
    simp only [Op.eqItems, Sem.run_bind, px, py, Result.andThen_ok, run_equalIn_int w d e k k _ _ he, List.all_cons]
    cases hb : (xs.getD i 0 == ys.getD i 0)
    · simp
    · simp only [Bool.not_true, Bool.false_eq_true, if_false, Bool.true_and]
      exact ih

theorem run_eq_arr {t e : TypeId} {k : IntKind} {n : Nat} {inf : TypeInfo} (ht : P.underlying t = some (.array n e)) (he : P.underlying e = some (.int k)) (hi : P.info? e = some inf) (hc : P.cellsOf e = 1) (xs ys : List Int) (hx : xs.length = n) (hy : ys.length = n) :
    (Op.equalIn 10000 t (.agg (xs.map (Value.int k)).toArray) (.agg (ys.map (Value.int k)).toArray)).run P w = .ok (xs == ys) w := by
  rw [run_equalIn_array w 9999 _ _ ht hi, run_items 9998 he hc xs ys hx hy _ (fun i hi => List.mem_range.1 hi), ← all_get_eq xs ys (hx.trans hy.symm), hx]

theorem s_eql_arr (x y : Operand) (t t' : TypeId) {e : TypeId} {k : IntKind} {n : Nat} (xs ys : List Int) (ho : o.op = .binOp .eql t x y t') (ht : P.underlying t = some (.array n e)) (he : P.underlying e = some (.int k)) (hi : (P.info? e).isSome = true) (hc : P.cellsOf e = 1)
    (hg : P.eqGuardType P.depth t = false) (hx : (Fr l).eval x = .agg (xs.map (Value.int k)).toArray) (hy : (Fr l).eval y = .agg (ys.map (Value.int k)).toArray) (lx : xs.length = n) (ly : ys.length = n)
    (hw : Region.wanted o (yielded ops l.toArray) = true) (K : WL P ops Q os (Fr (dstSet o.dst l (.bool (xs == ys)))) w) : WL P ops Q (o :: os) (Fr l) w := by
  obtain ⟨inf, hinf⟩ := Option.isSome_iff_exists.1 hi
  refine step_val hw ?_ K
  unfold execOp
  simp [ho, hx, hy, run_eqGuard_agg, hg, run_eql_struct, run_eq_arr ht he hinf hc xs ys lx ly]

/-- The equality of two structs of numbers and truths. -/
def eqRec (P : Program) (xs ys : Array Value) : List Field → Option Bool
  | [] => some true
  | f :: fs => match P.underlying f.type, xs[f.offset]?, ys[f.offset]? with
    | some (.int _), some (.int k a), some (.int k' b) => if f.name ≠ "_" ∧ k = k' then (eqRec P xs ys fs).map (fun r => (a == b) && r) else none
    | some .bool, some (.bool a), some (.bool b) => if f.name ≠ "_" then (eqRec P xs ys fs).map (fun r => (a == b) && r) else none
    | _, _, _ => none

theorem run_eqRec {xs ys : Array Value} (d : Nat) : ∀ (fs : List Field) (r : Bool), eqRec P xs ys fs = some r → (Op.eqFields (d + 1) xs ys fs).run P w = .ok r w
  | [], r, h => by simp only [eqRec, Option.some.injEq] at h; subst h; simp [Op.eqFields]
  | f :: fs, r, h => by
    unfold eqRec at h
    split at h
    · rename_i k0 k a k' b hu hx hy
      split at h
      · rename_i hn
        obtain ⟨hn, rfl⟩ := hn
        rw [Option.map_eq_some_iff] at h
        obtain ⟨r', hr, rfl⟩ := h
        have px : (part f.type xs f.offset).run P w = .ok (.int k a) w := by simp [part, isAgg, run_underlying hu, hx]
        have py : (part f.type ys f.offset).run P w = .ok (.int k b) w := by simp [part, isAgg, run_underlying hu, hy]
        have ih := run_eqRec d fs r' hr
        simp only [Op.eqFields, if_pos hn, Sem.run_bind, px, py, Result.andThen_ok, run_equalIn_int w d f.type k k0 _ _ hu]
        cases hb : (a == b)
        · simp
        · simp only [Bool.not_true, Bool.false_eq_true, if_false, Bool.true_and]
          exact ih
      · cases h
    · rename_i a b hu hx hy
      split at h
      · rename_i hn
        rw [Option.map_eq_some_iff] at h
        obtain ⟨r', hr, rfl⟩ := h
        have px : (part f.type xs f.offset).run P w = .ok (.bool a) w := by simp [part, isAgg, run_underlying hu, hx]
        have py : (part f.type ys f.offset).run P w = .ok (.bool b) w := by simp [part, isAgg, run_underlying hu, hy]
        have ih := run_eqRec d fs r' hr
        simp only [Op.eqFields, if_pos hn, Sem.run_bind, px, py, Result.andThen_ok, run_equalIn_bool' w d f.type _ _ hu]
        cases hb : (a == b)
        · simp
        · simp only [Bool.not_true, Bool.false_eq_true, if_false, Bool.true_and]
          exact ih
      · cases h
    · cases h

theorem s_eql_rec (x y : Operand) (t t' : TypeId) {xs ys : Array Value} (r : Bool) (ho : o.op = .binOp .eql t x y t') (ht : P.underlying t = some (.struct (P.fieldsOf t))) (hp : P.stoodInHeld t = false)
    (hg : P.eqGuardType P.depth t = false) (hx : (Fr l).eval x = .agg xs) (hy : (Fr l).eval y = .agg ys) (hr : eqRec P xs ys (P.fieldsOf t).toList = some r)
    (hw : Region.wanted o (yielded ops l.toArray) = true) (K : WL P ops Q os (Fr (dstSet o.dst l (.bool r))) w) : WL P ops Q (o :: os) (Fr l) w := by
  refine step_val hw ?_ K
  unfold execOp
  have h := run_eqRec (w := w) (P := P) 9998 (P.fieldsOf t).toList r hr
  simp [ho, hx, hy, run_eqGuard_agg, hg, run_eql_struct, run_equalIn_agg w 9999 t xs ys ht hp, h]
end
end Go.Lift
