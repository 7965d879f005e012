/- The law RespEncodes: its card. The function comes to what its plain model says; the model says true. Conditions: the tables that the row lists; memory that is big enough is not asked. -/
import Derived.Test.YtlkcgjablhpfcaaDoorCards
import Derived.Test.YtlkcgjablhpfcaaDoorTie
import Derived.WalkKit
import Derived.ProofKit
import Derived.OpenShut
import Derived.Carry
import Derived.Deep.DeepHandedRow
import Derived.Lib.LaidTab
import Derived.Test.YtlkcgjablhpfcaaDoorEd
import Derived.Test.YtlkcgjablhpfcaaDoorGFAll
import Derived.Test.YtlkcgjablhpfcaaDoorL19e
namespace Go.Proofs.YtlkcgjablhpfcaaDoor.respEncodes
open Go Go.Lift Go.ChangeShapes Go.WideShapes Go.ChangeAt Go.RowKit
set_option linter.unusedVariables false
set_option maxRecDepth 100000

theorem own : ownKnob Tryd.prog.godebug = none := by kernel_rfl
theorem laidOut : laidOutB Tryd.prog = true := by kernel_rfl
theorem g0 : Tryd.prog.globalNamed "math/bits.deBruijn32tab" = some 4 := by kernel_rfl
theorem tab0 {W : World} (h : laidMetH Tryd.prog Rows.respEncodesRow.laid W) : Lib.TabIs Tryd.prog W "math/bits.deBruijn32tab" .u8 tb_math_bits_deBruijn32tab.1 :=
  Lib.tabIs_of_head (rest := []) (t := 131) (e := 5) (n := 32) g0 (by kernel_rfl) Tryd.underlying131 Tryd.underlying5 (by kernel_rfl) (by kernel_rfl) (laidMetH.filter (fun x => x.1 == "math/bits.deBruijn32tab") h)
theorem g1 : Tryd.prog.globalNamed "math/bits.deBruijn64tab" = some 5 := by kernel_rfl
theorem tab1 {W : World} (h : laidMetH Tryd.prog Rows.respEncodesRow.laid W) : Lib.TabIs Tryd.prog W "math/bits.deBruijn64tab" .u8 tb_math_bits_deBruijn64tab.1 :=
  Lib.tabIs_of_head (rest := []) (t := 132) (e := 5) (n := 64) g1 (by kernel_rfl) Tryd.underlying132 Tryd.underlying5 (by kernel_rfl) (by kernel_rfl) (laidMetH.filter (fun x => x.1 == "math/bits.deBruijn64tab") h)
theorem g2 : Tryd.prog.globalNamed "internal/strconv.uint64pow10" = some 1 := by kernel_rfl
theorem tab2 {W : World} (h : laidMetH Tryd.prog Rows.respEncodesRow.laid W) : Lib.TabIs Tryd.prog W "internal/strconv.uint64pow10" .u64 tb_internal_strconv_uint64pow10.1 :=
  Lib.tabIs_of_head (rest := []) (t := 117) (e := 102) (n := 20) g2 (by kernel_rfl) Tryd.underlying117 Tryd.underlying102 (by kernel_rfl) (by kernel_rfl) (laidMetH.filter (fun x => x.1 == "internal/strconv.uint64pow10") h)
theorem g3 : Tryd.prog.globalNamed "strconv.ErrRange" = some 3 := by kernel_rfl
theorem tab3 {W : World} (h : laidMetH Tryd.prog Rows.respEncodesRow.laid W) : LaidOne Tryd.prog W "strconv.ErrRange" Rows.laid_strconv_ErrRange 3 66 :=
  laid_one (rest := []) g3 (by kernel_rfl) (laidMetH.filter (fun x => x.1 == "strconv.ErrRange") h)
theorem g4 : Tryd.prog.globalNamed "strconv.ErrSyntax" = some 2 := by kernel_rfl
theorem tab4 {W : World} (h : laidMetH Tryd.prog Rows.respEncodesRow.laid W) : LaidOne Tryd.prog W "strconv.ErrSyntax" Rows.laid_strconv_ErrSyntax 2 66 :=
  laid_one (rest := []) g4 (by kernel_rfl) (laidMetH.filter (fun x => x.1 == "strconv.ErrSyntax") h)
theorem tabs {W : World} (h : laidMetH Tryd.prog Rows.respEncodesRow.laid W) : GlAt GL (allZ W) := by
  intro e he
  rcases List.mem_cons.1 he with rfl | he
  · exact glob_tab (k := .u8) (g := 4) (x := tb_math_bits_deBruijn32tab) (tab0 h) g0
  rcases List.mem_cons.1 he with rfl | he
  · exact glob_tab (k := .u8) (g := 5) (x := tb_math_bits_deBruijn64tab) (tab1 h) g1
  rcases List.mem_cons.1 he with rfl | he
  · exact glob_tab (k := .u64) (g := 1) (x := tb_internal_strconv_uint64pow10) (tab2 h) g2
  rcases List.mem_cons.1 he with rfl | he
  · exact glob_err (tab3 h) Tryd.underlying66
  rcases List.mem_cons.1 he with rfl | he
  · exact glob_err (tab4 h) Tryd.underlying66
  cases he

theorem contract (H : Type) (enc : TypeId × Value → H) (W : World) (base : Nat) (args : Array Value) (ds gs : List (DataW H)) (before : List MemPlace)
    (hval : ∀ (j : Nat) t v, Tryd.f7.params[j]? = some t → args[j]? = some v → Value.okWide Tryd.prog W .any base t v)
    (hW : DataW.Whole enc Tryd.prog Tryd.f7.params.toList Rows.respEncodesSpec.vars false W args.toList ds gs before) (hL : laidMetH Tryd.prog Rows.respEncodesRow.laid W) :
    Calls Tryd.prog 7 args W fun e W' => ∃ v, e = .returned v ∧ Rows.respEncodesSpec.post enc Tryd.prog Tryd.f7 false true false false W args v W' := by
  have hW' := hW
  obtain ⟨p, q, hA0, hV, rfl, hfz, hnd⟩ := hW
  have hA : DataW.TrodAll enc Go.Proofs.Tryd.prog W 0 (fun _ => true) true Go.Proofs.Tryd.f7.params.toList args.toList ds p := hA0
  rw [Go.Proofs.Tryd.params7] at hA hval
  obtain ⟨v0, vs0, d0, ds0, p0, q0, hargs, rfl, rfl, h0, r0⟩ := trodAll_cons hA
  obtain ⟨rfl, rfl, rfl⟩ := trodAll_nil r0
  obtain rfl : args = #[v0] := by cases args; simp_all
  obtain ⟨rfl, rfl⟩ := trodVars_none hV
  have k0 := h0
  have lt0 : ∀ x ∈ p0, x.block < W.heap.size := by obtain ⟨m, hm⟩ := k0; exact DataW.trod_lt m _ _ _ hm
  have g0 : ∃ cs, v0 = .agg cs := by have hv := (hval 0 51 v0 rfl rfl); simp only [Value.okWide, Go.Proofs.Tryd.underlying51] at hv; obtain ⟨cs, e, _⟩ := hv; exact ⟨cs, e⟩
  obtain ⟨x0, f0, o0⟩ := op_agg (n := 12) (t := 51) (T := .rep) (by kernel_rfl) g0 h0
  replace f0 := agg_un f0
  obtain ⟨xk0, xt0, xn0, xl0⟩ := (x0 : Rep)
  clear hA0
  have walk := close_bool intagliolaw19_RespEncodes_ok (w := W) (d := [⟨(.int .i64), xk0⟩, ⟨.str, xt0⟩, ⟨(.int .i64), xn0⟩, ⟨(.slc .rep), xl0⟩]) rfl rfl (args_cons f0 args_nil) (tabs hL) (by
    have := std_go (Uss := [[.bool]]) (M := intagliolaw19_RespEncodes_MM) (x := (xk0, xt0, xn0, xl0)) (y := true) (by simp) (intagliolaw19_RespEncodes_pure xk0 xt0 xn0 xl0 o0)
    exact this)
  refine walk.mono fun e W' ⟨he, bel⟩ => ?_
  subst he
  exact ⟨_, rfl, _, _, _, [], _, [], hW', trodAll_mk1 (shut_bool Go.Proofs.Tryd.underlying4 _), (trodAll_cons_mk (Below.trod laidOut (by kernel_rfl) (of_decide_eq_true (by kernel_rfl)) k0 bel lt0) trodAll_mk0), rfl, bel.frame _, fun h => by cases h⟩

/-- A world for the witness: the tables hold what their initialisers lay. -/
def putCells (h : Array Obj) (g : Nat) (cs : Array Value) : Array Obj := h.modify g fun
  | .cells _ t frozen => .cells cs t frozen
  | o => o
def putErr (h : Array Obj) (g T E : Nat) (s : List UInt8) : Array Obj := (putCells h g #[.iface T (.pointer (some ⟨h.size, 0, none⟩))]).push (.cells #[.string ⟨s.toArray⟩] E)
noncomputable def laidWorld (os : Os) : World := { World.holding Tryd.prog os ⟨#[], #[], []⟩ with heap := (putErr (putErr (putCells (putCells (putCells (World.holding Tryd.prog os ⟨#[], #[], []⟩).heap 4 (tb_math_bits_deBruijn32tab.1.map (Value.int .u8)).toArray) 5 (tb_math_bits_deBruijn64tab.1.map (Value.int .u8)).toArray) 1 (tb_internal_strconv_uint64pow10.1.map (Value.int .u64)).toArray) 3 128 130 [118, 97, 108, 117, 101, 32, 111, 117, 116, 32, 111, 102, 32, 114, 97, 110, 103, 101]) 2 128 130 [105, 110, 118, 97, 108, 105, 100, 32, 115, 121, 110, 116, 97, 120]) }
theorem laid_met (os : Os) : laidMet Tryd.prog Rows.respEncodesRow.laid ((laidWorld os).forCall (fun _ _ => 0) ⟨#[], #[.agg #[.int .i64 0, .string ⟨#[]⟩, .int .i64 0, .slice none 0 0]], []⟩).memory :=
  laidMet_of_run' 8 (by kernel_rfl) (by kernel_rfl)
theorem reads (os : Os) {H : Type} (enc : TypeId × Value → H) : ∃ places, DataW.whole enc Tryd.prog ((laidWorld os).forCall (fun _ _ => 0) ⟨#[], #[.agg #[.int .i64 0, .string ⟨#[]⟩, .int .i64 0, .slice none 0 0]], []⟩).memory Tryd.f7.params.toList Rows.respEncodesSpec.vars false [(Value.agg #[.int .i64 0, .string ⟨#[]⟩, .int .i64 0, .slice none 0 0])] 8 = some ([.agg [.lit (.int .i64 0), .lit (.string []), .lit (.int .i64 0), .nil]], [], places) :=
  ⟨[], by kernel_rfl⟩

theorem lifted (os : Os) (started : os.Started) (H : Type) (enc : TypeId × Value → H) (F : Stop.Interp) :
    ReturnsInHanded {} Tryd.checked os 7 .any ((OpenSpec.ofChange Rows.respEncodesSpec).preRow enc Tryd.prog Tryd.f7 Rows.respEncodesRow.domain false Rows.respEncodesRow.laid) (((OpenSpec.ofChange Rows.respEncodesSpec).at F).post enc Tryd.prog Tryd.f7 false true false false) := by
  obtain ⟨places, hx⟩ := reads os enc
  refine returnsInHanded_of_row (C := Tryd.checked) (s := OpenSpec.ofChange Rows.respEncodesSpec) own started (by kernel_rfl) Tryd.func7
    (witness_row_at (enc := enc) (C := Tryd.checked) false (laidWorld os) #[.agg #[.int .i64 0, .string ⟨#[]⟩, .int .i64 0, .slice none 0 0]] rfl (by kernel_rfl) (by kernel_rfl) (by kernel_rfl)
      (OpenSpec.preRow_of_cond 8 hx (by kernel_rfl) (fun k hk => by cases hk) (by kernel_rfl) (laid_met os))) ?_
  intro W base args ds gs before hval hW _ hk _ hL _ _
  exact contract H enc W base args ds gs before hval hW hL

theorem said : Rows.RespEncodesSaid :=
  OpenClaim.holds_of_cond 7 Tryd.f7 rfl rfl rfl rfl rfl rfl rfl ⟨rfl, rfl, rfl, rfl, rfl⟩ rfl rfl rfl rfl rfl (by kernel_rfl) Tryd.func7 (by kernel_rfl)
    (of_decide_eq_true (by kernel_rfl)) (by unfold Func.isWrapper; first | (rw [if_pos (by decide +kernel)]; kernel_rfl) | (rw [if_neg (by decide +kernel)]; exact ⟨rfl, rfl⟩))
    (fun os started H enc _ F => by rw [OpenClaim.pre_eq_preRow]; exact lifted os started H enc F)

theorem plain (f : FuncId) (fn : Func) (hf : Tryd.pinned.checked.prog.funcNamed "intaglio/intagliolaw19.RespEncodes" = some f) (hfn : Tryd.pinned.checked.prog.funcs[f]? = some fn) :
    true = Tryd.pinned.checked.prog.looks [] ∧ ∀ (j : Nat) t, fn.params[j]? = some t → Tryd.pinned.checked.prog.wantsStandIn t = false := by
  obtain rfl : f = 7 := Option.some.inj ((show Tryd.prog.funcNamed "intaglio/intagliolaw19.RespEncodes" = some 7 by kernel_rfl).symm.trans hf) |>.symm
  obtain rfl : fn = Tryd.f7 := (Option.some.inj (Tryd.func7.symm.trans hfn)).symm
  refine ⟨by kernel_rfl, fun j t ht => ?_⟩
  rw [Tryd.params7] at ht
  have hm := Array.mem_of_getElem? ht
  have all : ∀ t ∈ [51], Tryd.prog.wantsStandIn t = false := by
    intro t ht
    rcases List.mem_cons.1 ht with rfl | ht
    · exact (show Tryd.prog.wantsStandIn 51 = false by kernel_rfl)
    cases ht
  exact all t (by simpa using hm)

theorem proved : Rows.RespEncodesCardSaid :=
  Claim7.holds_tied_plain_at .later [] _ _ _ _ said (fun _ h => by cases h) (by kernel_rfl) (fun _ h => by cases h) respEncodes_row_tie rfl ⟨rfl, rfl⟩ (by kernel_rfl) rfl plain (by kernel_rfl)
#print axioms proved
end Go.Proofs.YtlkcgjablhpfcaaDoor.respEncodes
