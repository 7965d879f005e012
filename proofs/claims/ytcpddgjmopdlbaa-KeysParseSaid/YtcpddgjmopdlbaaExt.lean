/- A call of a function without a body: the comparison of two rows of bytes. -/
import Derived.Test.YtcpddgjmopdlbaaWalks2
import Derived.Lib.Bytealg
namespace Go.Lift
open Go

/-- The comparison of two rows of bytes. -/
def cmpB (xs ys : List Int) : Int := Lib.compareBytes (b8 xs) (b8 ys)

section
variable {P : Program} {ops : Array Oper} {Q : Exit → Act → World → Prop} {w : World} {o : Oper} {os : List Oper} {l : List Value}

theorem run_loadBytes : ∀ (xs : List Int) (a : Addr) (acc : ByteArray), (∀ (j : Nat) (u : Value), (flat (Enc.int .u8) xs)[j]? = some u → w.cell? (a.add j) = some u) →
    (Extern.Bytes.loadBytes a xs.length acc).run P w = .ok ⟨acc.data ++ (b8 xs).toArray⟩ w
  | [], a, acc, _ => by simp [Extern.Bytes.loadBytes, b8]
  | x :: xs, a, acc, h => by
    have h0 := h 0 (.int .u8 x) rfl
    rw [Addr.add_zero'] at h0
    have ih := run_loadBytes xs (a.add 1) (acc.push x.toNat.toUInt8) (fun j u hj => by
      rw [add_add, Nat.add_comm 1 j]
      exact h (j + 1) u hj)
    simp only [List.length_cons, Extern.Bytes.loadBytes, Sem.run_bind]
    rw [show (load a).run P w = .ok (.int .u8 x) w by simp [h0]]
    simp only [Result.andThen, ih]
    congr 1
    simp [b8, ByteArray.push]

theorem run_bytesOf {A : Option Addr} {cap : Nat} {xs : List Int} (h : SlR w (Enc.int .u8) A xs) : (Extern.Bytes.bytesOf (.slice A xs.length cap)).run P w = .ok ⟨(b8 xs).toArray⟩ w := by
  rcases h with ⟨rfl, rfl⟩ | ⟨a, rfl, hc⟩
  · rfl
  · simp only [Extern.Bytes.bytesOf]
    rw [run_loadBytes xs a _ hc]
    congr 1
    simp only [ByteArray.empty, ByteArray.emptyWithCapacity]
    congr 1
    exact Array.empty_append

theorem s_compare (f : FuncId) (fn : Func) {A B : Option Addr} {ca cb : Nat} {xs ys : List Int} (hf : P.funcs[f]? = some fn) (h1 : (fn.name == "runtime.NumGoroutine") = false) (h2 : fn.body.isNone = true) (h3 : Extern.findNext fn = none)
    (h4 : Extern.find fn = some Extern.BytealgCompare.compare) (hx : execOp (Fr l).eval o = callFunc f #[.slice A xs.length ca, .slice B ys.length cb])
    (hw : Region.wanted o (yielded ops l.toArray) = true) (ha : SlR w (Enc.int .u8) A xs) (hb : SlR w (Enc.int .u8) B ys)
    (K : WL P ops Q os (Fr (dstSet o.dst l (.int .i64 (cmpB xs ys)))) w) : WL P ops Q (o :: os) (Fr l) w := by
  refine step_val hw ?_ K
  rw [hx, run_callFunc_extern hf h1 h2 h3 h4]
  change ((do pure (goInt (Extern.BytealgCompare.cmp (← Extern.Bytes.bytesOf (.slice A xs.length ca)) (← Extern.Bytes.bytesOf (.slice B ys.length cb)))) : Sem Value).run P w).andThen _ = _
  simp only [Sem.run_bind, run_bytesOf ha, run_bytesOf hb, Result.andThen, Sem.run_pure]
  rw [Lib.cmp_eq]
  rfl
end
end Go.Lift
