/- The statement: for every input of bulk at most 1048576 the law SpaceNobody returns true, and its arguments read as before. Condition: that bulk. -/
import Derived.Test.YtogbjlmmedfhbaaRows
import Derived.WalkKit
import Derived.ProofKit
import Derived.OpenShut
import Derived.Carry
import Derived.JoinedCond
import Derived.Test.YtogbjlmmedfhbaaEd
import Derived.Test.YtogbjlmmedfhbaaGFAll
import Derived.Test.YtogbjlmmedfhbaaYu
import Derived.Test.YtogbjlmmedfhbaaL16n
namespace Go.Proofs.Ytogbjlmmedfhbaa.spaceNobody
open Go Go.Lift Go.ChangeShapes Go.WideShapes Go.ChangeAt Go.RowKit
set_option linter.unusedVariables false
set_option maxRecDepth 100000

theorem own : ownKnob Go.Proofs.Try.prog.godebug = none := by kernel_rfl
theorem laidOut : laidOutB Go.Proofs.Try.prog = true := by kernel_rfl

theorem bulk_mem {H : Type} {d : DataW H} {B : Nat} : ∀ {l : List (DataW H)}, d ∈ l → Rows.uptoBulkAll l ≤ B → Rows.uptoBulk d ≤ B
  | e :: l, h, hb => by
    rw [Rows.uptoBulkAll] at hb
    rcases List.mem_cons.1 h with rfl | h
    · omega
    · exact bulk_mem h (by omega)
theorem bulk_pos {H : Type} (d : DataW H) : 1 ≤ Rows.uptoBulk d := by
  unfold Rows.uptoBulk
  split <;> omega
theorem bulk_len {H : Type} : ∀ (l : List (DataW H)), l.length ≤ Rows.uptoBulkAll l
  | [] => Nat.zero_le _
  | d :: l => by
    have := bulk_len l
    have := bulk_pos d
    rw [Rows.uptoBulkAll, List.length_cons]; omega
theorem bnd {H : Type} : BndN 1048576 (fun d : DataW H => Rows.uptoBulk d ≤ 1048576) where
  s b h := by rw [Rows.uptoBulk] at h; omega
  l e r h := by
    rw [Rows.uptoBulk] at h
    have := bulk_len e
    exact ⟨by omega, fun d hd => bulk_mem hd (by omega)⟩
  g p h := fun d hd => by
    rw [Rows.uptoBulk] at h
    exact bulk_mem hd (by omega)

theorem contract (H : Type) (enc : TypeId × Value → H) (W : World) (base : Nat) (args : Array Value) (ds gs : List (DataW H)) (before : List MemPlace)
    (hval : ∀ (j : Nat) t v, Go.Proofs.Try.f3.params[j]? = some t → args[j]? = some v → Value.okWide Go.Proofs.Try.prog W .any base t v)
    (hW : DataW.Whole enc Go.Proofs.Try.prog Go.Proofs.Try.f3.params.toList Rows.spaceNobodySpec.vars false W args.toList ds gs before) (hup : Rows.uptoSmall H (ds ++ gs) = true) :
    Calls Go.Proofs.Try.prog 3 args W fun e W' => ∃ v, e = .returned v ∧ Rows.spaceNobodySpec.post enc Go.Proofs.Try.prog Go.Proofs.Try.f3 false true false false W args v W' := by
  have hW' := hW
  obtain ⟨p, q, hA0, hV, rfl, hfz, hnd⟩ := hW
  have hA : DataW.TrodAll enc Go.Proofs.Try.prog W 0 (fun _ => true) true Go.Proofs.Try.f3.params.toList args.toList ds p := hA0
  rw [Go.Proofs.Try.params3] at hA hval
  obtain ⟨v0, vs0, d0, ds0, p0, q0, hargs, rfl, rfl, h0, r0⟩ := trodAll_cons hA
  obtain ⟨rfl, rfl, rfl⟩ := trodAll_nil r0
  obtain rfl : args = #[v0] := by cases args; simp_all
  obtain ⟨rfl, rfl⟩ := trodVars_none hV
  have k0 := h0
  have lt0 : ∀ x ∈ p0, x.block < W.heap.size := by obtain ⟨m, hm⟩ := k0; exact DataW.trod_lt m _ _ _ hm
  have w0 : Rows.uptoBulk d0 ≤ 1048576 := bulk_mem (by simp) (of_decide_eq_true hup)
  have g0 : ∃ cs, v0 = .agg cs := by have hv := (hval 0 28 v0 rfl rfl); simp only [Value.okWide, Go.Proofs.Try.underlying28] at hv; obtain ⟨cs, e, _⟩ := hv; exact ⟨cs, e⟩
  obtain ⟨x0, f0, o0⟩ := opn_agg bnd (n := 12) (t := 28) (T := (.pair (.int .u8) (.pair .str (.pair (.pair (.int .i64) (.pair .str (.pair (.slc (.pair .str (.pair .str .unit))) (.pair (.slc .str) (.pair (.slc (.pair .str (.pair (.int .i64) .unit))) .unit))))) (.pair (.int .i64) .unit))))) (by kernel_rfl) g0 h0 w0
  replace f0 := agg_un f0
  clear hA0
  have walk := close_bool intagliolaw16_SpaceNobody_ok (w := W) (d := [⟨(.int .u8), x0.1⟩, ⟨.str, x0.2.1⟩, ⟨(.int .i64), x0.2.2.1.1⟩, ⟨.str, x0.2.2.1.2.1⟩, ⟨(.slc (.pair .str (.pair .str .unit))), x0.2.2.1.2.2.1⟩, ⟨(.slc .str), x0.2.2.1.2.2.2.1⟩, ⟨(.slc (.pair .str (.pair (.int .i64) .unit))), x0.2.2.1.2.2.2.2.1⟩, ⟨(.int .i64), x0.2.2.2.1⟩]) rfl rfl (args_cons f0 args_nil) (fun e he => by cases he) (by
    have := std_go (Uss := [[.bool]]) (M := intagliolaw16_SpaceNobody_MM) (x := (x0.1, x0.2.1, x0.2.2.1.1, x0.2.2.1.2.1, x0.2.2.1.2.2.1, x0.2.2.1.2.2.2.1, x0.2.2.1.2.2.2.2.1, x0.2.2.2.1)) (y := true) (by simp) (intagliolaw16_SpaceNobody_pure x0.1 x0.2.1 x0.2.2.1.1 x0.2.2.1.2.1 x0.2.2.1.2.2.1 x0.2.2.1.2.2.2.1 x0.2.2.1.2.2.2.2.1 x0.2.2.2.1 o0)
    exact this)
  refine walk.mono fun e W' ⟨he, bel⟩ => ?_
  subst he
  exact ⟨_, rfl, _, _, _, [], _, [], hW', trodAll_mk1 (shut_bool Go.Proofs.Try.underlying4 _), (trodAll_cons_mk (Below.trod laidOut (by kernel_rfl) (of_decide_eq_true (by kernel_rfl)) k0 bel lt0) trodAll_mk0), rfl, bel.frame _, fun h => by cases h⟩

theorem lifted (os : Os) (started : os.Started) (H : Type) (enc : TypeId × Value → H) (F : Stop.Interp) :
    ReturnsInHanded {} Go.Proofs.Try.checked os 3 .any ((Rows.OpenSpec.upto Rows.spaceNobodySpec).pre6 enc Go.Proofs.Try.prog Go.Proofs.Try.f3 Rows.spaceNobodyUptoRow.domain false) (((Rows.OpenSpec.upto Rows.spaceNobodySpec).at F).post enc Go.Proofs.Try.prog Go.Proofs.Try.f3 false true false false) := by
  refine returnsInHanded_of_cond (C := Go.Proofs.Try.checked) (s := Rows.OpenSpec.upto Rows.spaceNobodySpec) (k := Rows.uptoSmall) rfl own started (by kernel_rfl) Go.Proofs.Try.func3
    (OpenSpec.witness (enc := enc) (C := Go.Proofs.Try.checked) (s := Rows.OpenSpec.upto Rows.spaceNobodySpec) (k := Rows.uptoSmall) rfl false ⟨#[], #[.agg #[.int .u8 0, .string ⟨#[]⟩, .int .i64 0, .string ⟨#[]⟩, .slice none 0 0, .slice none 0 0, .slice none 0 0, .int .i64 0]], []⟩ 8 (by kernel_rfl) (by kernel_rfl) (by kernel_rfl)
      (x := ([.agg [.lit (.int .u8 0), .lit (.string []), .agg [.lit (.int .i64 0), .lit (.string []), .nil, .nil, .nil], .lit (.int .i64 0)]], [], [])) (by kernel_rfl) rfl (by kernel_rfl)) ?_
  intro W base args ds gs before hval hW _ hk _
  exact contract H enc W base args ds gs before hval hW hk

theorem over : Rows.spaceNobodyUptoRow.holds Try.pinned (Rows.OpenSpec.upto Rows.spaceNobodySpec) :=
  OpenClaim.holds_of_cond 3 Go.Proofs.Try.f3 rfl rfl rfl rfl rfl rfl rfl ⟨rfl, rfl, rfl, rfl, rfl⟩ rfl rfl rfl rfl rfl (by kernel_rfl) Go.Proofs.Try.func3 (by kernel_rfl)
    (of_decide_eq_true (by kernel_rfl)) (by unfold Func.isWrapper; first | (rw [if_pos (by decide +kernel)]; kernel_rfl) | (rw [if_neg (by decide +kernel)]; exact ⟨rfl, rfl⟩))
    (fun os started H enc _ F => lifted os started H enc F)

theorem proved : Rows.SpaceNobodyUptoSaid := over
#print axioms proved
end Go.Proofs.Ytogbjlmmedfhbaa.spaceNobody
