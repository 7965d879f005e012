/- The statement: for every input the law KeysNext returns true, and its arguments read as before. No condition. -/
import Derived.Test.YtcpddgjmopdlbaaRows
import Derived.Test.YtcpddgjmopdlbaaClose2
import Derived.Test.YtcpddgjmopdlbaaFKeysNext
import Derived.Test.YtcpddgjmopdlbaaPKeysNext
namespace Go.Proofs.Ytcpddgjmopdlbaa.keysNext
open Go Go.Lift Go.ChangeShapes Go.WideShapes Go.ChangeAt Go.RowKit
set_option linter.unusedVariables false

theorem own : ownKnob Go.Proofs.Try.prog.godebug = none := by kernel_rfl
theorem laidOut : laidOutB Go.Proofs.Try.prog = true := by kernel_rfl

set_option maxRecDepth 100000 in
theorem lifted (os : Os) (started : os.Started) (H : Type) (enc : TypeId × Value → H) :
    ReturnsInHanded {} Go.Proofs.Try.checked os 5 .any (Rows.keysNextSpec.pre6 enc Go.Proofs.Try.prog Go.Proofs.Try.f5 Rows.keysNextRow.domain false) (Rows.keysNextSpec.post enc Go.Proofs.Try.prog Go.Proofs.Try.f5 false true false false) := by
  refine returnsInHanded_of_change (C := Go.Proofs.Try.checked) own started (by kernel_rfl) Go.Proofs.Try.func5
    (ChangeSpec.witness6 (enc := enc) (C := Go.Proofs.Try.checked) false ⟨#[], #[.int .i64 0, .int .i64 0], []⟩ 8 (by kernel_rfl) (by kernel_rfl) (by kernel_rfl) (by kernel_rfl)) ?_
  intro W base args ds gs before hval0 hW hcnd _
  have hval : ∀ (j : Nat) t v, Go.Proofs.Try.f5.params[j]? = some t → args[j]? = some v → Value.okWide Go.Proofs.Try.prog W .any base t v := hval0
  have hW' := hW
  obtain ⟨p, q, hA0, hV, rfl, hfz, hnd⟩ := hW
  have hA : DataW.TrodAll enc Go.Proofs.Try.prog W 0 (fun _ => true) true Go.Proofs.Try.f5.params.toList args.toList ds p := hA0
  rw [Go.Proofs.Try.params5] at hA hval
  obtain ⟨v0, vs0, d0, ds0, p0, q0, hargs, rfl, rfl, h0, r0⟩ := trodAll_cons hA
  obtain ⟨v1, vs1, d1, ds1, p1, q1, rfl, rfl, rfl, h1, r1⟩ := trodAll_cons r0
  obtain ⟨rfl, rfl, rfl⟩ := trodAll_nil r1
  obtain rfl : args = #[v0, v1] := by cases args; simp_all
  obtain ⟨rfl, rfl⟩ := trodVars_none hV
  obtain ⟨p0, rfl, rfl, rfl, w0⟩ := open_int Go.Proofs.Try.underlying3 (hval 0 3 v0 rfl rfl) h0
  obtain ⟨p1, rfl, rfl, rfl, w1⟩ := open_int Go.Proofs.Try.underlying3 (hval 1 3 v1 rfl rfl) h1
  clear hA0 hval0
  have hS := Own.start (w := W) (S := []) forall0 forall0
  refine (intagliolaw07_KeysNext_W hS doms_nil (intagliolaw07_KeysNext_pure p0 p1 w0 w1)).mono fun e W' ⟨he, hO⟩ => ?_
  subst he
  have bel := hO.below
  exact ⟨_, rfl, _, _, _, [], _, [], hW', trodAll_mk1 (shut_bool Go.Proofs.Try.underlying4 _), (trodAll_cons_mk (shut_int Go.Proofs.Try.underlying3 w0) (trodAll_cons_mk (shut_int Go.Proofs.Try.underlying3 w1) trodAll_mk0)), rfl, bel.frame _, fun h => by cases h⟩

theorem over : Rows.keysNextRow.holds Try.pinned (OpenSpec.ofChange Rows.keysNextSpec) :=
  OpenClaim.holds_of_wide 5 Go.Proofs.Try.f5 rfl rfl rfl rfl rfl rfl rfl ⟨rfl, rfl, rfl, rfl, rfl⟩ rfl rfl rfl rfl rfl (by kernel_rfl) Go.Proofs.Try.func5 (by kernel_rfl)
    (of_decide_eq_true (by kernel_rfl)) (by unfold Func.isWrapper; first | (rw [if_pos (by decide +kernel)]; kernel_rfl) | (rw [if_neg (by decide +kernel)]; exact ⟨rfl, rfl⟩))
    (fun os started H enc _ => lifted os started H enc)

theorem proved : Rows.KeysNextSaid := over
#print axioms proved
end Go.Proofs.Ytcpddgjmopdlbaa.keysNext
