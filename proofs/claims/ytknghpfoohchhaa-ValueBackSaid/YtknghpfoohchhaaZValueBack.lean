/- The statement: for every input the law ValueBack returns true, and its arguments read as before. No condition. -/
import Derived.Test.YtknghpfoohchhaaRows
import Derived.WalkKit
import Derived.ProofKit
import Derived.OpenShut
import Derived.Carry
import Derived.Test.YtknghpfoohchhaaEd
import Derived.Test.YtknghpfoohchhaaGFAll
import Derived.Test.YtknghpfoohchhaaVd
namespace Go.Proofs.Ytknghpfoohchhaa.valueBack
open Go Go.Lift Go.ChangeShapes Go.WideShapes Go.ChangeAt Go.RowKit
set_option linter.unusedVariables false
set_option maxRecDepth 100000

theorem own : ownKnob Go.Proofs.Try.prog.godebug = none := by kernel_rfl
theorem laidOut : laidOutB Go.Proofs.Try.prog = true := by kernel_rfl

theorem lifted (os : Os) (started : os.Started) (H : Type) (enc : TypeId × Value → H) :
    ReturnsInHanded {} Go.Proofs.Try.checked os 10 .any (Rows.valueBackSpec.pre6 enc Go.Proofs.Try.prog Go.Proofs.Try.f10 Rows.valueBackRow.domain false) (Rows.valueBackSpec.post enc Go.Proofs.Try.prog Go.Proofs.Try.f10 false true false false) := by
  refine returnsInHanded_of_change_sized (C := Go.Proofs.Try.checked) own started (by kernel_rfl) Go.Proofs.Try.func10
    (ChangeSpec.witness6 (enc := enc) (C := Go.Proofs.Try.checked) false ⟨#[], #[.agg #[.string ⟨#[]⟩, .int .i64 0, .string ⟨#[]⟩, .slice none 0 0, .slice none 0 0, .slice none 0 0, .int .i64 0], .slice none 0 0], []⟩ 8 (by kernel_rfl) (by kernel_rfl) (by kernel_rfl) (by kernel_rfl)) ?_
  intro W base args ds gs before hval0 hW hcnd hsz _
  have hval : ∀ (j : Nat) t v, Go.Proofs.Try.f10.params[j]? = some t → args[j]? = some v → Value.okWide Go.Proofs.Try.prog W .any base t v := hval0
  clear hval0
  have hW' := hW
  obtain ⟨p, q, hA0, hV, rfl, hfz, hnd⟩ := hW
  have hA : DataW.TrodAll enc Go.Proofs.Try.prog W 0 (fun _ => true) true Go.Proofs.Try.f10.params.toList args.toList ds p := hA0
  rw [Go.Proofs.Try.params10] at hA hval
  obtain ⟨v0, vs0, d0, ds0, p0, q0, hargs, rfl, rfl, h0, r0⟩ := trodAll_cons hA
  obtain ⟨v1, vs1, d1, ds1, p1, q1, rfl, rfl, rfl, h1, r1⟩ := trodAll_cons r0
  obtain ⟨rfl, rfl, rfl⟩ := trodAll_nil r1
  obtain rfl : args = #[v0, v1] := by cases args; simp_all
  obtain ⟨rfl, rfl⟩ := trodVars_none hV
  have k0 := h0
  have lt0 : ∀ x ∈ p0, x.block < W.heap.size := by obtain ⟨m, hm⟩ := k0; exact DataW.trod_lt m _ _ _ hm
  have w0 : ∀ n ∈ d0.weights Go.Proofs.Try.prog 28, n ≤ reachBytes := fun n hn => by simpa using List.all_eq_true.1 hsz n (DataW.weights_mem_each (j := 0) (t := 28) (d := d0) (by rw [Go.Proofs.Try.params10]; rfl) rfl n hn)
  have g0 : ∃ cs, v0 = .agg cs := by have hv := (hval 0 28 v0 rfl rfl); simp only [Value.okWide, Go.Proofs.Try.underlying28] at hv; obtain ⟨cs, e, _⟩ := hv; exact ⟨cs, e⟩
  obtain ⟨x0, f0, o0⟩ := ops_agg (n := 12) (t := 28) (T := (.pair .str (.pair (.pair (.int .i64) (.pair .str (.pair (.slc (.pair .str (.pair .str .unit))) (.pair (.slc .str) (.pair (.slc (.pair .str (.pair (.int .i64) .unit))) .unit))))) (.pair (.int .i64) .unit)))) (by kernel_rfl) g0 h0 w0
  replace f0 := agg_un f0
  have k1 := h1
  have lt1 : ∀ x ∈ p1, x.block < W.heap.size := by obtain ⟨m, hm⟩ := k1; exact DataW.trod_lt m _ _ _ hm
  have w1 : ∀ n ∈ d1.weights Go.Proofs.Try.prog 38, n ≤ reachBytes := fun n hn => by simpa using List.all_eq_true.1 hsz n (DataW.weights_mem_each (j := 1) (t := 38) (d := d1) (by rw [Go.Proofs.Try.params10]; rfl) rfl n hn)
  obtain ⟨a1, l_, c_, rfl⟩ := okWide_slice Go.Proofs.Try.underlying38 (hval 1 38 v1 rfl rfl)
  obtain ⟨x1, f1, o1⟩ := ops_dat (n := 12) (t := 38) (T := (.slc (.int .u8))) (by kernel_rfl) rfl ⟨_, rfl, rfl⟩ h1 w1
  clear hA0
  have walk := close_bool intagliolaw15_ValueBack_ok (w := W) (d := [⟨.str, x0.1⟩, ⟨(.int .i64), x0.2.1.1⟩, ⟨.str, x0.2.1.2.1⟩, ⟨(.slc (.pair .str (.pair .str .unit))), x0.2.1.2.2.1⟩, ⟨(.slc .str), x0.2.1.2.2.2.1⟩, ⟨(.slc (.pair .str (.pair (.int .i64) .unit))), x0.2.1.2.2.2.2.1⟩, ⟨(.int .i64), x0.2.2.1⟩, ⟨(.slc (.int .u8)), x1⟩]) rfl rfl (args_cons f0 (args_cons f1 args_nil)) (fun e he => by cases he) (by
    have := std_go (Uss := [[.bool]]) (M := intagliolaw15_ValueBack_MM) (x := (x0.1, x0.2.1.1, x0.2.1.2.1, x0.2.1.2.2.1, x0.2.1.2.2.2.1, x0.2.1.2.2.2.2.1, x0.2.2.1, x1)) (y := true) (by simp) (intagliolaw15_ValueBack_pure x0.1 x0.2.1.1 x0.2.1.2.1 x0.2.1.2.2.1 x0.2.1.2.2.2.1 x0.2.1.2.2.2.2.1 x0.2.2.1 x1 o0 o1)
    exact this)
  refine walk.mono fun e W' ⟨he, bel⟩ => ?_
  subst he
  exact ⟨_, rfl, _, _, _, [], _, [], hW', trodAll_mk1 (shut_bool Go.Proofs.Try.underlying4 _), (trodAll_cons_mk (Below.trod laidOut (by kernel_rfl) (of_decide_eq_true (by kernel_rfl)) k0 bel lt0) (trodAll_cons_mk (Below.trod laidOut (by kernel_rfl) (of_decide_eq_true (by kernel_rfl)) k1 bel lt1) trodAll_mk0)), rfl, bel.frame _, fun h => by cases h⟩

theorem over : Rows.valueBackRow.holds Try.pinned (OpenSpec.ofChange Rows.valueBackSpec) :=
  OpenClaim.holds_of_wide 10 Go.Proofs.Try.f10 rfl rfl rfl rfl rfl rfl rfl ⟨rfl, rfl, rfl, rfl, rfl⟩ rfl rfl rfl rfl rfl (by kernel_rfl) Go.Proofs.Try.func10 (by kernel_rfl)
    (of_decide_eq_true (by kernel_rfl)) (by unfold Func.isWrapper; first | (rw [if_pos (by decide +kernel)]; kernel_rfl) | (rw [if_neg (by decide +kernel)]; exact ⟨rfl, rfl⟩))
    (fun os started H enc _ => lifted os started H enc)

theorem proved : Rows.ValueBackSaid := over
#print axioms proved
end Go.Proofs.Ytknghpfoohchhaa.valueBack
