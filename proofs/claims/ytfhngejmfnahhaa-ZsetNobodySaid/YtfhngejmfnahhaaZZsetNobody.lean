/- The statement: for every input the law ZsetNobody returns true, and its arguments read as before. No condition. -/
import Derived.Test.YtfhngejmfnahhaaRows
import Derived.WalkKit
import Derived.ProofKit
import Derived.OpenShut
import Derived.Carry
import Derived.Test.YtfhngejmfnahhaaEd
import Derived.Test.YtfhngejmfnahhaaGFAll
import Derived.Test.YtfhngejmfnahhaaL14
namespace Go.Proofs.Ytfhngejmfnahhaa.zsetNobody
open Go Go.Lift Go.ChangeShapes Go.WideShapes Go.ChangeAt Go.RowKit
set_option linter.unusedVariables false
set_option maxRecDepth 100000

theorem own : ownKnob Go.Proofs.Try.prog.godebug = none := by kernel_rfl
theorem laidOut : laidOutB Go.Proofs.Try.prog = true := by kernel_rfl

theorem lifted (os : Os) (started : os.Started) (H : Type) (enc : TypeId × Value → H) :
    ReturnsInHanded {} Go.Proofs.Try.checked os 8 .any (Rows.zsetNobodySpec.pre6 enc Go.Proofs.Try.prog Go.Proofs.Try.f8 Rows.zsetNobodyRow.domain false) (Rows.zsetNobodySpec.post enc Go.Proofs.Try.prog Go.Proofs.Try.f8 false true false false) := by
  refine returnsInHanded_of_change_sized (C := Go.Proofs.Try.checked) own started (by kernel_rfl) Go.Proofs.Try.func8
    (ChangeSpec.witness6 (enc := enc) (C := Go.Proofs.Try.checked) false ⟨#[], #[.agg #[.bool false, .string ⟨#[]⟩, .int .i64 0], .agg #[.string ⟨#[]⟩, .int .i64 0], .int .i64 0], []⟩ 8 (by kernel_rfl) (by kernel_rfl) (by kernel_rfl) (by kernel_rfl)) ?_
  intro W base args ds gs before hval0 hW hcnd hsz _
  have hval : ∀ (j : Nat) t v, Go.Proofs.Try.f8.params[j]? = some t → args[j]? = some v → Value.okWide Go.Proofs.Try.prog W .any base t v := hval0
  clear hval0
  have hW' := hW
  obtain ⟨p, q, hA0, hV, rfl, hfz, hnd⟩ := hW
  have hA : DataW.TrodAll enc Go.Proofs.Try.prog W 0 (fun _ => true) true Go.Proofs.Try.f8.params.toList args.toList ds p := hA0
  rw [Go.Proofs.Try.params8] at hA hval
  obtain ⟨v0, vs0, d0, ds0, p0, q0, hargs, rfl, rfl, h0, r0⟩ := trodAll_cons hA
  obtain ⟨v1, vs1, d1, ds1, p1, q1, rfl, rfl, rfl, h1, r1⟩ := trodAll_cons r0
  obtain ⟨v2, vs2, d2, ds2, p2, q2, rfl, rfl, rfl, h2, r2⟩ := trodAll_cons r1
  obtain ⟨rfl, rfl, rfl⟩ := trodAll_nil r2
  obtain rfl : args = #[v0, v1, v2] := by cases args; simp_all
  obtain ⟨rfl, rfl⟩ := trodVars_none hV
  have k0 := h0
  have lt0 : ∀ x ∈ p0, x.block < W.heap.size := by obtain ⟨m, hm⟩ := k0; exact DataW.trod_lt m _ _ _ hm
  have w0 : ∀ n ∈ d0.weights Go.Proofs.Try.prog 43, n ≤ reachBytes := fun n hn => by simpa using List.all_eq_true.1 hsz n (DataW.weights_mem_each (j := 0) (t := 43) (d := d0) (by rw [Go.Proofs.Try.params8]; rfl) rfl n hn)
  have g0 : ∃ cs, v0 = .agg cs := by have hv := (hval 0 43 v0 rfl rfl); simp only [Value.okWide, Go.Proofs.Try.underlying43] at hv; obtain ⟨cs, e, _⟩ := hv; exact ⟨cs, e⟩
  obtain ⟨x0, f0, o0⟩ := ops_agg (n := 12) (t := 43) (T := (.pair .bool (.pair .str (.pair (.int .i64) .unit)))) (by kernel_rfl) g0 h0 w0
  replace f0 := agg_un f0
  have k1 := h1
  have lt1 : ∀ x ∈ p1, x.block < W.heap.size := by obtain ⟨m, hm⟩ := k1; exact DataW.trod_lt m _ _ _ hm
  have w1 : ∀ n ∈ d1.weights Go.Proofs.Try.prog 35, n ≤ reachBytes := fun n hn => by simpa using List.all_eq_true.1 hsz n (DataW.weights_mem_each (j := 1) (t := 35) (d := d1) (by rw [Go.Proofs.Try.params8]; rfl) rfl n hn)
  have g1 : ∃ cs, v1 = .agg cs := by have hv := (hval 1 35 v1 rfl rfl); simp only [Value.okWide, Go.Proofs.Try.underlying35] at hv; obtain ⟨cs, e, _⟩ := hv; exact ⟨cs, e⟩
  obtain ⟨x1, f1, o1⟩ := ops_agg (n := 12) (t := 35) (T := (.pair .str (.pair (.int .i64) .unit))) (by kernel_rfl) g1 h1 w1
  replace f1 := agg_un f1
  have k2 := h2
  have lt2 : ∀ x ∈ p2, x.block < W.heap.size := by obtain ⟨m, hm⟩ := k2; exact DataW.trod_lt m _ _ _ hm
  have w2 : ∀ n ∈ d2.weights Go.Proofs.Try.prog 3, n ≤ reachBytes := fun n hn => by simpa using List.all_eq_true.1 hsz n (DataW.weights_mem_each (j := 2) (t := 3) (d := d2) (by rw [Go.Proofs.Try.params8]; rfl) rfl n hn)
  obtain ⟨n2, rfl⟩ := okWide_int Go.Proofs.Try.underlying3 (hval 2 3 v2 rfl rfl)
  obtain ⟨x2, f2, o2⟩ := ops_dat (n := 12) (t := 3) (T := (.int .i64)) (by kernel_rfl) rfl ⟨_, rfl, rfl⟩ h2 w2
  clear hA0
  have walk := close_bool_ar (T' := (.pair .str (.pair (.int .i64) .unit))) (U := (.pair .nd (.pair (.int .i64) .unit))) intagliolaw14_ZsetNobody_ok (w := W) (d := [⟨.bool, x0.1⟩, ⟨.str, x0.2.1⟩, ⟨(.int .i64), x0.2.2.1⟩, ⟨.str, x1.1⟩, ⟨(.int .i64), x1.2.1⟩, ⟨(.int .i64), x2⟩, ⟨(.slc (.pair (.pair .str (.pair (.int .i64) .unit)) (.slc (.pair .nd (.pair (.int .i64) .unit))))), []⟩]) rfl rfl (args_cons f0 (args_cons f1 (args_cons f2 args_nil))) (fun e he => by cases he) (by
    obtain ⟨a, ha⟩ := intagliolaw14_ZsetNobody_pure x0.1 x0.2.1 x0.2.2.1 x1.1 x1.2.1 x2 o0 o1 o2
    refine ⟨a, ?_⟩
    have := std_go (Uss := [[.bool, (.slc (.pair (.pair .str (.pair (.int .i64) .unit)) (.slc (.pair .nd (.pair (.int .i64) .unit)))))]]) (M := intagliolaw14_ZsetNobody_MM) (x := (x0.1, x0.2.1, x0.2.2.1, x1.1, x1.2.1, x2, [])) (y := (true, a)) (by simp) ha
    exact this)
  refine walk.mono fun e W' ⟨he, bel⟩ => ?_
  subst he
  exact ⟨_, rfl, _, _, _, [], _, [], hW', trodAll_mk1 (shut_bool Go.Proofs.Try.underlying4 _), (trodAll_cons_mk (Below.trod laidOut (by kernel_rfl) (of_decide_eq_true (by kernel_rfl)) k0 bel lt0) (trodAll_cons_mk (Below.trod laidOut (by kernel_rfl) (of_decide_eq_true (by kernel_rfl)) k1 bel lt1) (trodAll_cons_mk (Below.trod laidOut (by kernel_rfl) (of_decide_eq_true (by kernel_rfl)) k2 bel lt2) trodAll_mk0))), rfl, bel.frame _, fun h => by cases h⟩

theorem over : Rows.zsetNobodyRow.holds Try.pinned (OpenSpec.ofChange Rows.zsetNobodySpec) :=
  OpenClaim.holds_of_wide 8 Go.Proofs.Try.f8 rfl rfl rfl rfl rfl rfl rfl ⟨rfl, rfl, rfl, rfl, rfl⟩ rfl rfl rfl rfl rfl (by kernel_rfl) Go.Proofs.Try.func8 (by kernel_rfl)
    (of_decide_eq_true (by kernel_rfl)) (by unfold Func.isWrapper; first | (rw [if_pos (by decide +kernel)]; kernel_rfl) | (rw [if_neg (by decide +kernel)]; exact ⟨rfl, rfl⟩))
    (fun os started H enc _ => lifted os started H enc)

theorem proved : Rows.ZsetNobodySaid := over
#print axioms proved
end Go.Proofs.Ytfhngejmfnahhaa.zsetNobody
