/- The law TreeChecks: its card. The function comes to what its plain model says; the model says true. Conditions: the tables that the row lists; memory that is big enough is not asked. -/
import Derived.Test.YtmjmjfbmgiidiaaDoorCards
import Derived.Test.YtmjmjfbmgiidiaaDoorTie
import Derived.WalkKit
import Derived.ProofKit
import Derived.OpenShut
import Derived.Carry
import Derived.Deep.DeepHandedRow
import Derived.Lib.LaidTab
import Derived.Test.YtmjmjfbmgiidiaaDoorEd
import Derived.Test.YtmjmjfbmgiidiaaDoorGFAll
import Derived.Test.YtmjmjfbmgiidiaaDoorL12
namespace Go.Proofs.YtmjmjfbmgiidiaaDoor.treeChecks
open Go Go.Lift Go.ChangeShapes Go.WideShapes Go.ChangeAt Go.RowKit
set_option linter.unusedVariables false
set_option maxRecDepth 100000

theorem own : ownKnob Tryd.prog.godebug = none := by kernel_rfl
theorem laidOut : laidOutB Tryd.prog = true := by kernel_rfl
theorem g0 : Tryd.prog.globalNamed "intaglio/sha.start" = some 0 := by kernel_rfl
theorem tab0 {W : World} (h : laidMetH Tryd.prog Rows.treeChecksRow.laid W) : Lib.TabIs Tryd.prog W "intaglio/sha.start" .u32 shaStart.1 :=
  Lib.tabIs_of_head (rest := []) (t := 64) (e := 62) (n := 8) g0 (by kernel_rfl) Tryd.underlying64 Tryd.underlying62 (by kernel_rfl) (by kernel_rfl) (laidMetH.filter (fun x => x.1 == "intaglio/sha.start") h)
theorem g1 : Tryd.prog.globalNamed "intaglio/sha.cubes" = some 1 := by kernel_rfl
theorem tab1 {W : World} (h : laidMetH Tryd.prog Rows.treeChecksRow.laid W) : Lib.TabIs Tryd.prog W "intaglio/sha.cubes" .u32 shaCubes.1 :=
  Lib.tabIs_of_head (rest := []) (t := 63) (e := 62) (n := 64) g1 (by kernel_rfl) Tryd.underlying63 Tryd.underlying62 (by kernel_rfl) (by kernel_rfl) (laidMetH.filter (fun x => x.1 == "intaglio/sha.cubes") h)
theorem cells {W : World} {name : String} {k : IntKind} {zs : List Int} {g : Nat} (h : Lib.TabIs Tryd.prog W name k zs) (hg : Tryd.prog.globalNamed name = some g) (j : Nat) (n : Int) (hj : zs[j]? = some n) : W.cell? ⟨g, j, none⟩ = some (.int k n) := by
  have hl := (List.getElem?_eq_some_iff.1 hj).1
  have := h.cell hg j hl
  rw [this, List.getD, hj]; rfl
theorem tabs {W : World} (h : laidMetH Tryd.prog Rows.treeChecksRow.laid W) : GlAt GL (allZ W) := by
  intro e he
  rcases List.mem_cons.1 he with rfl | he
  · exact glob_ints (k := .u32) (g := 0) (x := shaStart) (cells (tab0 h) g0)
  rcases List.mem_cons.1 he with rfl | he
  · exact glob_ints (k := .u32) (g := 1) (x := shaCubes) (cells (tab1 h) g1)
  cases he

theorem contract (H : Type) (enc : TypeId × Value → H) (W : World) (base : Nat) (args : Array Value) (ds gs : List (DataW H)) (before : List MemPlace)
    (hval : ∀ (j : Nat) t v, Tryd.f6.params[j]? = some t → args[j]? = some v → Value.okWide Tryd.prog W .any base t v)
    (hW : DataW.Whole enc Tryd.prog Tryd.f6.params.toList Rows.treeChecksSpec.vars false W args.toList ds gs before) (hL : laidMetH Tryd.prog Rows.treeChecksRow.laid W) :
    Calls Tryd.prog 6 args W fun e W' => ∃ v, e = .returned v ∧ Rows.treeChecksSpec.post enc Tryd.prog Tryd.f6 false true false false W args v W' := by
  have hW' := hW
  obtain ⟨p, q, hA0, hV, rfl, hfz, hnd⟩ := hW
  have hA : DataW.TrodAll enc Go.Proofs.Tryd.prog W 0 (fun _ => true) true Go.Proofs.Tryd.f6.params.toList args.toList ds p := hA0
  rw [Go.Proofs.Tryd.params6] at hA hval
  obtain ⟨v0, vs0, d0, ds0, p0, q0, hargs, rfl, rfl, h0, r0⟩ := trodAll_cons hA
  obtain ⟨v1, vs1, d1, ds1, p1, q1, rfl, rfl, rfl, h1, r1⟩ := trodAll_cons r0
  obtain ⟨rfl, rfl, rfl⟩ := trodAll_nil r1
  obtain rfl : args = #[v0, v1] := by cases args; simp_all
  obtain ⟨rfl, rfl⟩ := trodVars_none hV
  have k0 := h0
  have lt0 : ∀ x ∈ p0, x.block < W.heap.size := by obtain ⟨m, hm⟩ := k0; exact DataW.trod_lt m _ _ _ hm
  have g0 : ∃ cs, v0 = .agg cs := by have hv := (hval 0 23 v0 rfl rfl); simp only [Value.okWide, Go.Proofs.Tryd.underlying23] at hv; obtain ⟨cs, e, _⟩ := hv; exact ⟨cs, e⟩
  obtain ⟨x0, f0, o0⟩ := op_agg (n := 12) (t := 23) (T := (.arr 32 (.int .u8))) (by kernel_rfl) g0 h0
  have k1 := h1
  have lt1 : ∀ x ∈ p1, x.block < W.heap.size := by obtain ⟨m, hm⟩ := k1; exact DataW.trod_lt m _ _ _ hm
  have g1 : ∃ cs, v1 = .agg cs := by have hv := (hval 1 36 v1 rfl rfl); simp only [Value.okWide, Go.Proofs.Tryd.underlying36] at hv; obtain ⟨cs, e, _⟩ := hv; exact ⟨cs, e⟩
  obtain ⟨x1, f1, o1⟩ := op_agg (n := 12) (t := 36) (T := (.pair (.int .i64) (.pair (.int .i64) (.pair (.slc (.int .u8)) (.pair (.slc (.arr 32 (.int .u8))) .unit))))) (by kernel_rfl) g1 h1
  replace f1 := agg_un f1
  clear hA0
  have walk := close_bool intagliolaw12_TreeChecks_ok (w := W) (d := [⟨(.arr 32 (.int .u8)), x0⟩, ⟨(.int .i64), x1.1⟩, ⟨(.int .i64), x1.2.1⟩, ⟨(.slc (.int .u8)), x1.2.2.1⟩, ⟨(.slc (.arr 32 (.int .u8))), x1.2.2.2.1⟩]) rfl rfl (args_cons f0 (args_cons f1 args_nil)) (tabs hL) (by
    have := std_go (Uss := [[.bool]]) (M := intagliolaw12_TreeChecks_MM) (x := (x0, x1.1, x1.2.1, x1.2.2.1, x1.2.2.2.1)) (y := true) (by simp) (intagliolaw12_TreeChecks_pure x0 x1.1 x1.2.1 x1.2.2.1 x1.2.2.2.1 o0 o1)
    exact this)
  refine walk.mono fun e W' ⟨he, bel⟩ => ?_
  subst he
  exact ⟨_, rfl, _, _, _, [], _, [], hW', trodAll_mk1 (shut_bool Go.Proofs.Tryd.underlying4 _), (trodAll_cons_mk (Below.trod laidOut (by kernel_rfl) (of_decide_eq_true (by kernel_rfl)) k0 bel lt0) (trodAll_cons_mk (Below.trod laidOut (by kernel_rfl) (of_decide_eq_true (by kernel_rfl)) k1 bel lt1) trodAll_mk0)), rfl, bel.frame _, fun h => by cases h⟩

/-- A world for the witness: the tables hold what their initialisers lay. -/
noncomputable def putCells (h : Array Obj) (g : Nat) (cs : Array Value) : Array Obj := h.modify g fun
  | .cells _ t frozen => .cells cs t frozen
  | o => o
noncomputable def laidWorld (os : Os) : World := { World.holding Tryd.prog os ⟨#[], #[], []⟩ with heap := (putCells (putCells (World.holding Tryd.prog os ⟨#[], #[], []⟩).heap 0 (shaStart.1.map (Value.int .u32)).toArray) 1 (shaCubes.1.map (Value.int .u32)).toArray) }
theorem laid_met (os : Os) : laidMet Tryd.prog Rows.treeChecksRow.laid ((laidWorld os).forCall (fun _ _ => 0) ⟨#[], #[.agg #[.int .u8 0, .int .u8 0, .int .u8 0, .int .u8 0, .int .u8 0, .int .u8 0, .int .u8 0, .int .u8 0, .int .u8 0, .int .u8 0, .int .u8 0, .int .u8 0, .int .u8 0, .int .u8 0, .int .u8 0, .int .u8 0, .int .u8 0, .int .u8 0, .int .u8 0, .int .u8 0, .int .u8 0, .int .u8 0, .int .u8 0, .int .u8 0, .int .u8 0, .int .u8 0, .int .u8 0, .int .u8 0, .int .u8 0, .int .u8 0, .int .u8 0, .int .u8 0], .agg #[.int .i64 0, .int .i64 0, .slice none 0 0, .slice none 0 0]], []⟩).memory :=
  laidMet_of_run' 8 (by kernel_rfl) (by kernel_rfl)
theorem reads (os : Os) {H : Type} (enc : TypeId × Value → H) : ∃ places, DataW.whole enc Tryd.prog ((laidWorld os).forCall (fun _ _ => 0) ⟨#[], #[.agg #[.int .u8 0, .int .u8 0, .int .u8 0, .int .u8 0, .int .u8 0, .int .u8 0, .int .u8 0, .int .u8 0, .int .u8 0, .int .u8 0, .int .u8 0, .int .u8 0, .int .u8 0, .int .u8 0, .int .u8 0, .int .u8 0, .int .u8 0, .int .u8 0, .int .u8 0, .int .u8 0, .int .u8 0, .int .u8 0, .int .u8 0, .int .u8 0, .int .u8 0, .int .u8 0, .int .u8 0, .int .u8 0, .int .u8 0, .int .u8 0, .int .u8 0, .int .u8 0], .agg #[.int .i64 0, .int .i64 0, .slice none 0 0, .slice none 0 0]], []⟩).memory Tryd.f6.params.toList Rows.treeChecksSpec.vars false [(Value.agg #[.int .u8 0, .int .u8 0, .int .u8 0, .int .u8 0, .int .u8 0, .int .u8 0, .int .u8 0, .int .u8 0, .int .u8 0, .int .u8 0, .int .u8 0, .int .u8 0, .int .u8 0, .int .u8 0, .int .u8 0, .int .u8 0, .int .u8 0, .int .u8 0, .int .u8 0, .int .u8 0, .int .u8 0, .int .u8 0, .int .u8 0, .int .u8 0, .int .u8 0, .int .u8 0, .int .u8 0, .int .u8 0, .int .u8 0, .int .u8 0, .int .u8 0, .int .u8 0]), (Value.agg #[.int .i64 0, .int .i64 0, .slice none 0 0, .slice none 0 0])] 8 = some ([.agg [.lit (.int .u8 0), .lit (.int .u8 0), .lit (.int .u8 0), .lit (.int .u8 0), .lit (.int .u8 0), .lit (.int .u8 0), .lit (.int .u8 0), .lit (.int .u8 0), .lit (.int .u8 0), .lit (.int .u8 0), .lit (.int .u8 0), .lit (.int .u8 0), .lit (.int .u8 0), .lit (.int .u8 0), .lit (.int .u8 0), .lit (.int .u8 0), .lit (.int .u8 0), .lit (.int .u8 0), .lit (.int .u8 0), .lit (.int .u8 0), .lit (.int .u8 0), .lit (.int .u8 0), .lit (.int .u8 0), .lit (.int .u8 0), .lit (.int .u8 0), .lit (.int .u8 0), .lit (.int .u8 0), .lit (.int .u8 0), .lit (.int .u8 0), .lit (.int .u8 0), .lit (.int .u8 0), .lit (.int .u8 0)], .agg [.lit (.int .i64 0), .lit (.int .i64 0), .nil, .nil]], [], places) :=
  ⟨[], by kernel_rfl⟩

theorem lifted (os : Os) (started : os.Started) (H : Type) (enc : TypeId × Value → H) (F : Stop.Interp) :
    ReturnsInHanded {} Tryd.checked os 6 .any ((OpenSpec.ofChange Rows.treeChecksSpec).preRow enc Tryd.prog Tryd.f6 Rows.treeChecksRow.domain false Rows.treeChecksRow.laid) (((OpenSpec.ofChange Rows.treeChecksSpec).at F).post enc Tryd.prog Tryd.f6 false true false false) := by
  obtain ⟨places, hx⟩ := reads os enc
  refine returnsInHanded_of_row (C := Tryd.checked) (s := OpenSpec.ofChange Rows.treeChecksSpec) own started (by kernel_rfl) Tryd.func6
    (witness_row_at (enc := enc) (C := Tryd.checked) false (laidWorld os) #[.agg #[.int .u8 0, .int .u8 0, .int .u8 0, .int .u8 0, .int .u8 0, .int .u8 0, .int .u8 0, .int .u8 0, .int .u8 0, .int .u8 0, .int .u8 0, .int .u8 0, .int .u8 0, .int .u8 0, .int .u8 0, .int .u8 0, .int .u8 0, .int .u8 0, .int .u8 0, .int .u8 0, .int .u8 0, .int .u8 0, .int .u8 0, .int .u8 0, .int .u8 0, .int .u8 0, .int .u8 0, .int .u8 0, .int .u8 0, .int .u8 0, .int .u8 0, .int .u8 0], .agg #[.int .i64 0, .int .i64 0, .slice none 0 0, .slice none 0 0]] rfl (by kernel_rfl) (by kernel_rfl) (by kernel_rfl)
      (OpenSpec.preRow_of_cond 8 hx (by kernel_rfl) (fun k hk => by cases hk) (by kernel_rfl) (laid_met os))) ?_
  intro W base args ds gs before hval hW _ _ _ hL _ _
  exact contract H enc W base args ds gs before hval hW hL

theorem said : Rows.TreeChecksSaid :=
  OpenClaim.holds_of_cond 6 Tryd.f6 rfl rfl rfl rfl rfl rfl rfl ⟨rfl, rfl, rfl, rfl, rfl⟩ rfl rfl rfl rfl rfl (by kernel_rfl) Tryd.func6 (by kernel_rfl)
    (of_decide_eq_true (by kernel_rfl)) (by unfold Func.isWrapper; first | (rw [if_pos (by decide +kernel)]; kernel_rfl) | (rw [if_neg (by decide +kernel)]; exact ⟨rfl, rfl⟩))
    (fun os started H enc _ F => by rw [OpenClaim.pre_eq_preRow]; exact lifted os started H enc F)

theorem plain (f : FuncId) (fn : Func) (hf : Tryd.pinned.checked.prog.funcNamed "intaglio/intagliolaw12.TreeChecks" = some f) (hfn : Tryd.pinned.checked.prog.funcs[f]? = some fn) :
    false = Tryd.pinned.checked.prog.looks [] ∧ ∀ (j : Nat) t, fn.params[j]? = some t → Tryd.pinned.checked.prog.wantsStandIn t = false := by
  obtain rfl : f = 6 := Option.some.inj ((show Tryd.prog.funcNamed "intaglio/intagliolaw12.TreeChecks" = some 6 by kernel_rfl).symm.trans hf) |>.symm
  obtain rfl : fn = Tryd.f6 := (Option.some.inj (Tryd.func6.symm.trans hfn)).symm
  refine ⟨by kernel_rfl, fun j t ht => ?_⟩
  rw [Tryd.params6] at ht
  have hm := Array.mem_of_getElem? ht
  have all : ∀ t ∈ [23, 36], Tryd.prog.wantsStandIn t = false := by
    intro t ht
    rcases List.mem_cons.1 ht with rfl | ht
    · exact (show Tryd.prog.wantsStandIn 23 = false by kernel_rfl)
    rcases List.mem_cons.1 ht with rfl | ht
    · exact (show Tryd.prog.wantsStandIn 36 = false by kernel_rfl)
    cases ht
  exact all t (by simpa using hm)

theorem proved : Rows.TreeChecksCardSaid :=
  Claim7.holds_tied_plain_at .later [] _ _ _ _ said (fun _ h => by cases h) (by kernel_rfl) (fun _ h => by cases h) treeChecks_row_tie rfl ⟨rfl, rfl⟩ (by kernel_rfl) rfl plain (by kernel_rfl)
#print axioms proved
end Go.Proofs.YtmjmjfbmgiidiaaDoor.treeChecks
