/- The statement: for every input the law ValueSame returns true, and its arguments read as before. No condition. -/
import Derived.Test.YtknghpfoohchhaaRows
import Derived.WalkKit
import Derived.ProofKit
import Derived.OpenShut
import Derived.Carry
import Derived.Test.YtknghpfoohchhaaEd
import Derived.Test.YtknghpfoohchhaaGFAll
import Derived.Test.YtknghpfoohchhaaL15
namespace Go.Proofs.Ytknghpfoohchhaa.valueSame
open Go Go.Lift Go.ChangeShapes Go.WideShapes Go.ChangeAt Go.RowKit
set_option linter.unusedVariables false
set_option maxRecDepth 100000

theorem own : ownKnob Go.Proofs.Try.prog.godebug = none := by kernel_rfl
theorem laidOut : laidOutB Go.Proofs.Try.prog = true := by kernel_rfl

theorem lifted (os : Os) (started : os.Started) (H : Type) (enc : TypeId × Value → H) :
    ReturnsInHanded {} Go.Proofs.Try.checked os 4 .any (Rows.valueSameSpec.pre6 enc Go.Proofs.Try.prog Go.Proofs.Try.f4 Rows.valueSameRow.domain false) (Rows.valueSameSpec.post enc Go.Proofs.Try.prog Go.Proofs.Try.f4 false true false false) := by
  refine returnsInHanded_of_change_sized (C := Go.Proofs.Try.checked) own started (by kernel_rfl) Go.Proofs.Try.func4
    (ChangeSpec.witness6 (enc := enc) (C := Go.Proofs.Try.checked) false ⟨#[], #[.agg #[.int .i64 0, .string ⟨#[]⟩, .slice none 0 0, .slice none 0 0, .slice none 0 0], .agg #[.int .i64 0, .string ⟨#[]⟩, .slice none 0 0, .slice none 0 0, .slice none 0 0]], []⟩ 8 (by kernel_rfl) (by kernel_rfl) (by kernel_rfl) (by kernel_rfl)) ?_
  intro W base args ds gs before hval0 hW hcnd hsz _
  have hval : ∀ (j : Nat) t v, Go.Proofs.Try.f4.params[j]? = some t → args[j]? = some v → Value.okWide Go.Proofs.Try.prog W .any base t v := hval0
  clear hval0
  have hW' := hW
  obtain ⟨p, q, hA0, hV, rfl, hfz, hnd⟩ := hW
  have hA : DataW.TrodAll enc Go.Proofs.Try.prog W 0 (fun _ => true) true Go.Proofs.Try.f4.params.toList args.toList ds p := hA0
  rw [Go.Proofs.Try.params4] at hA hval
  obtain ⟨v0, vs0, d0, ds0, p0, q0, hargs, rfl, rfl, h0, r0⟩ := trodAll_cons hA
  obtain ⟨v1, vs1, d1, ds1, p1, q1, rfl, rfl, rfl, h1, r1⟩ := trodAll_cons r0
  obtain ⟨rfl, rfl, rfl⟩ := trodAll_nil r1
  obtain rfl : args = #[v0, v1] := by cases args; simp_all
  obtain ⟨rfl, rfl⟩ := trodVars_none hV
  have k0 := h0
  have lt0 : ∀ x ∈ p0, x.block < W.heap.size := by obtain ⟨m, hm⟩ := k0; exact DataW.trod_lt m _ _ _ hm
  have w0 : ∀ n ∈ d0.weights Go.Proofs.Try.prog 26, n ≤ reachBytes := fun n hn => by simpa using List.all_eq_true.1 hsz n (DataW.weights_mem_each (j := 0) (t := 26) (d := d0) (by rw [Go.Proofs.Try.params4]; rfl) rfl n hn)
  have g0 : ∃ cs, v0 = .agg cs := by have hv := (hval 0 26 v0 rfl rfl); simp only [Value.okWide, Go.Proofs.Try.underlying26] at hv; obtain ⟨cs, e, _⟩ := hv; exact ⟨cs, e⟩
  obtain ⟨x0, f0, o0⟩ := ops_agg (n := 12) (t := 26) (T := (.pair (.int .i64) (.pair .str (.pair (.slc (.pair .str (.pair .str .unit))) (.pair (.slc .str) (.pair (.slc (.pair .str (.pair (.int .i64) .unit))) .unit)))))) (by kernel_rfl) g0 h0 w0
  replace f0 := agg_un f0
  have k1 := h1
  have lt1 : ∀ x ∈ p1, x.block < W.heap.size := by obtain ⟨m, hm⟩ := k1; exact DataW.trod_lt m _ _ _ hm
  have w1 : ∀ n ∈ d1.weights Go.Proofs.Try.prog 26, n ≤ reachBytes := fun n hn => by simpa using List.all_eq_true.1 hsz n (DataW.weights_mem_each (j := 1) (t := 26) (d := d1) (by rw [Go.Proofs.Try.params4]; rfl) rfl n hn)
  have g1 : ∃ cs, v1 = .agg cs := by have hv := (hval 1 26 v1 rfl rfl); simp only [Value.okWide, Go.Proofs.Try.underlying26] at hv; obtain ⟨cs, e, _⟩ := hv; exact ⟨cs, e⟩
  obtain ⟨x1, f1, o1⟩ := ops_agg (n := 12) (t := 26) (T := (.pair (.int .i64) (.pair .str (.pair (.slc (.pair .str (.pair .str .unit))) (.pair (.slc .str) (.pair (.slc (.pair .str (.pair (.int .i64) .unit))) .unit)))))) (by kernel_rfl) g1 h1 w1
  replace f1 := agg_un f1
  clear hA0
  have walk := close_bool intagliolaw15_ValueSame_ok (w := W) (d := [⟨(.int .i64), x0.1⟩, ⟨.str, x0.2.1⟩, ⟨(.slc (.pair .str (.pair .str .unit))), x0.2.2.1⟩, ⟨(.slc .str), x0.2.2.2.1⟩, ⟨(.slc (.pair .str (.pair (.int .i64) .unit))), x0.2.2.2.2.1⟩, ⟨(.int .i64), x1.1⟩, ⟨.str, x1.2.1⟩, ⟨(.slc (.pair .str (.pair .str .unit))), x1.2.2.1⟩, ⟨(.slc .str), x1.2.2.2.1⟩, ⟨(.slc (.pair .str (.pair (.int .i64) .unit))), x1.2.2.2.2.1⟩]) rfl rfl (args_cons f0 (args_cons f1 args_nil)) (fun e he => by cases he) (by
    have := std_go (Uss := [[.bool]]) (M := intagliolaw15_ValueSame_MM) (x := (x0.1, x0.2.1, x0.2.2.1, x0.2.2.2.1, x0.2.2.2.2.1, x1.1, x1.2.1, x1.2.2.1, x1.2.2.2.1, x1.2.2.2.2.1)) (y := true) (by simp) (intagliolaw15_ValueSame_pure x0.1 x0.2.1 x0.2.2.1 x0.2.2.2.1 x0.2.2.2.2.1 x1.1 x1.2.1 x1.2.2.1 x1.2.2.2.1 x1.2.2.2.2.1 o0 o1)
    exact this)
  refine walk.mono fun e W' ⟨he, bel⟩ => ?_
  subst he
  exact ⟨_, rfl, _, _, _, [], _, [], hW', trodAll_mk1 (shut_bool Go.Proofs.Try.underlying4 _), (trodAll_cons_mk (Below.trod laidOut (by kernel_rfl) (of_decide_eq_true (by kernel_rfl)) k0 bel lt0) (trodAll_cons_mk (Below.trod laidOut (by kernel_rfl) (of_decide_eq_true (by kernel_rfl)) k1 bel lt1) trodAll_mk0)), rfl, bel.frame _, fun h => by cases h⟩

theorem over : Rows.valueSameRow.holds Try.pinned (OpenSpec.ofChange Rows.valueSameSpec) :=
  OpenClaim.holds_of_wide 4 Go.Proofs.Try.f4 rfl rfl rfl rfl rfl rfl rfl ⟨rfl, rfl, rfl, rfl, rfl⟩ rfl rfl rfl rfl rfl (by kernel_rfl) Go.Proofs.Try.func4 (by kernel_rfl)
    (of_decide_eq_true (by kernel_rfl)) (by unfold Func.isWrapper; first | (rw [if_pos (by decide +kernel)]; kernel_rfl) | (rw [if_neg (by decide +kernel)]; exact ⟨rfl, rfl⟩))
    (fun os started H enc _ => lifted os started H enc)

theorem proved : Rows.ValueSameSaid := over
#print axioms proved
end Go.Proofs.Ytknghpfoohchhaa.valueSame
