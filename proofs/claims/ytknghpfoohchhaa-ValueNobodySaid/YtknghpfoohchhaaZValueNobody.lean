/- The statement: for every input the law ValueNobody returns true, and its arguments read as before. No condition. -/
import Derived.Test.YtknghpfoohchhaaRows
import Derived.WalkKit
import Derived.ProofKit
import Derived.OpenShut
import Derived.Carry
import Derived.Test.YtknghpfoohchhaaEd
import Derived.Test.YtknghpfoohchhaaGFAll
import Derived.Test.YtknghpfoohchhaaL15n
namespace Go.Proofs.Ytknghpfoohchhaa.valueNobody
open Go Go.Lift Go.ChangeShapes Go.WideShapes Go.ChangeAt Go.RowKit
set_option linter.unusedVariables false
set_option maxRecDepth 100000

theorem own : ownKnob Go.Proofs.Try.prog.godebug = none := by kernel_rfl
theorem laidOut : laidOutB Go.Proofs.Try.prog = true := by kernel_rfl

theorem lifted (os : Os) (started : os.Started) (H : Type) (enc : TypeId × Value → H) :
    ReturnsInHanded {} Go.Proofs.Try.checked os 8 .any (Rows.valueNobodySpec.pre6 enc Go.Proofs.Try.prog Go.Proofs.Try.f8 Rows.valueNobodyRow.domain false) (Rows.valueNobodySpec.post enc Go.Proofs.Try.prog Go.Proofs.Try.f8 false true false false) := by
  refine returnsInHanded_of_change_sized (C := Go.Proofs.Try.checked) own started (by kernel_rfl) Go.Proofs.Try.func8
    (ChangeSpec.witness6 (enc := enc) (C := Go.Proofs.Try.checked) false ⟨#[], #[.agg #[.int .u8 0, .string ⟨#[]⟩, .string ⟨#[]⟩, .int .i64 0, .slice none 0 0]], []⟩ 8 (by kernel_rfl) (by kernel_rfl) (by kernel_rfl) (by kernel_rfl)) ?_
  intro W base args ds gs before hval0 hW hcnd hsz _
  have hval : ∀ (j : Nat) t v, Go.Proofs.Try.f8.params[j]? = some t → args[j]? = some v → Value.okWide Go.Proofs.Try.prog W .any base t v := hval0
  clear hval0
  have hW' := hW
  obtain ⟨p, q, hA0, hV, rfl, hfz, hnd⟩ := hW
  have hA : DataW.TrodAll enc Go.Proofs.Try.prog W 0 (fun _ => true) true Go.Proofs.Try.f8.params.toList args.toList ds p := hA0
  rw [Go.Proofs.Try.params8] at hA hval
  obtain ⟨v0, vs0, d0, ds0, p0, q0, hargs, rfl, rfl, h0, r0⟩ := trodAll_cons hA
  obtain ⟨rfl, rfl, rfl⟩ := trodAll_nil r0
  obtain rfl : args = #[v0] := by cases args; simp_all
  obtain ⟨rfl, rfl⟩ := trodVars_none hV
  have k0 := h0
  have lt0 : ∀ x ∈ p0, x.block < W.heap.size := by obtain ⟨m, hm⟩ := k0; exact DataW.trod_lt m _ _ _ hm
  have w0 : ∀ n ∈ d0.weights Go.Proofs.Try.prog 53, n ≤ reachBytes := fun n hn => by simpa using List.all_eq_true.1 hsz n (DataW.weights_mem_each (j := 0) (t := 53) (d := d0) (by rw [Go.Proofs.Try.params8]; rfl) rfl n hn)
  have g0 : ∃ cs, v0 = .agg cs := by have hv := (hval 0 53 v0 rfl rfl); simp only [Value.okWide, Go.Proofs.Try.underlying53] at hv; obtain ⟨cs, e, _⟩ := hv; exact ⟨cs, e⟩
  obtain ⟨x0, f0, o0⟩ := ops_agg (n := 12) (t := 53) (T := (.pair (.int .u8) (.pair .str (.pair .str (.pair (.int .i64) (.pair (.slc .str) .unit)))))) (by kernel_rfl) g0 h0 w0
  replace f0 := agg_un f0
  clear hA0
  have walk := close_bool intagliolaw15_ValueNobody_ok (w := W) (d := [⟨(.int .u8), x0.1⟩, ⟨.str, x0.2.1⟩, ⟨.str, x0.2.2.1⟩, ⟨(.int .i64), x0.2.2.2.1⟩, ⟨(.slc .str), x0.2.2.2.2.1⟩]) rfl rfl (args_cons f0 args_nil) (fun e he => by cases he) (by
    have := std_go (Uss := [[.bool]]) (M := intagliolaw15_ValueNobody_MM) (x := (x0.1, x0.2.1, x0.2.2.1, x0.2.2.2.1, x0.2.2.2.2.1)) (y := true) (by simp) (intagliolaw15_ValueNobody_pure x0.1 x0.2.1 x0.2.2.1 x0.2.2.2.1 x0.2.2.2.2.1 o0)
    exact this)
  refine walk.mono fun e W' ⟨he, bel⟩ => ?_
  subst he
  exact ⟨_, rfl, _, _, _, [], _, [], hW', trodAll_mk1 (shut_bool Go.Proofs.Try.underlying4 _), (trodAll_cons_mk (Below.trod laidOut (by kernel_rfl) (of_decide_eq_true (by kernel_rfl)) k0 bel lt0) trodAll_mk0), rfl, bel.frame _, fun h => by cases h⟩

theorem over : Rows.valueNobodyRow.holds Try.pinned (OpenSpec.ofChange Rows.valueNobodySpec) :=
  OpenClaim.holds_of_wide 8 Go.Proofs.Try.f8 rfl rfl rfl rfl rfl rfl rfl ⟨rfl, rfl, rfl, rfl, rfl⟩ rfl rfl rfl rfl rfl (by kernel_rfl) Go.Proofs.Try.func8 (by kernel_rfl)
    (of_decide_eq_true (by kernel_rfl)) (by unfold Func.isWrapper; first | (rw [if_pos (by decide +kernel)]; kernel_rfl) | (rw [if_neg (by decide +kernel)]; exact ⟨rfl, rfl⟩))
    (fun os started H enc _ => lifted os started H enc)

theorem proved : Rows.ValueNobodySaid := over
#print axioms proved
end Go.Proofs.Ytknghpfoohchhaa.valueNobody
