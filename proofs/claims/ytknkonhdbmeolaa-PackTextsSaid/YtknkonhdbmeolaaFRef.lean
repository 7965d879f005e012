/- The Go functions come to what their models say (Ref). -/
import Derived.Test.YtknkonhdbmeolaaTy
import Derived.Test.YtknkonhdbmeolaaMRef
namespace Go.Proofs.Ytknkonhdbmeolaa
open Go Go.Lift
set_option maxRecDepth 100000
set_option maxHeartbeats 4000000
set_option linter.unusedVariables false

theorem intaglioref01_Both_W {w0 w : World} {D R : Nat → Prop} {Rp0 : Nat → Prop} {Ap0 : Option Addr} {cp0 : Nat} {Rp1 : Nat → Prop} {Ap1 : Option Addr} {cp1 : Nat} {p0 : List Int} {p1 : List Int} {r0 : List Int} (hS : Own w0 D R w [] [slA Rp0 (Enc.int .u8) Ap0 cp0 p0, slA Rp1 (Enc.int .u8) Ap1 cp1 p1]) (hD : ∀ b, ¬ D b) (hM : intaglioref01_Both_M p0 p1 = some r0) :
    Calls Go.Proofs.Try.prog 22 #[.slice Ap0 p0.length cp0, .slice Ap1 p1.length cp1] w (fun e w' => ∃ (ZA1 : Option Addr) (Zc2 : Nat), e = .returned (.slice ZA1 r0.length Zc2) ∧ Own w0 D R w' [rowA (Enc.int .u8) ZA1 Zc2 r0] []) := by
  refine enter (fn := Go.Proofs.Try.f22) [.slice Ap0 p0.length cp0, .slice Ap1 p1.length cp1, undef, undef, undef, undef, undef, undef, undef, undef, undef, undef] (by kernel_rfl) rfl (by kernel_rfl) ?_
  unfold intaglioref01_Both_M at hM
  refine wp_seq ?_
  refine wp_reg ?_
  refine segEnd [.slice Ap0 p0.length cp0, .slice Ap1 p1.length cp1, undef, undef, .slice none 0 0, undef, undef, undef, undef, undef, undef, undef] (by kernel_rfl) ?_
  refine then_normal ?_
  refine wp_seq ?_
  refine wp_reg ?_
  refine segEnd [.slice Ap0 p0.length cp0, .slice Ap1 p1.length cp1, undef, undef, .slice none 0 0, .slice none 0 0, undef, undef, undef, undef, undef, undef] (by kernel_rfl) ?_
  refine then_normal ?_
  refine wp_seq ?_
  refine wp_reg ?_
  refine seg 2 [.slice Ap0 p0.length cp0, .slice Ap1 p1.length cp1, undef, undef, .slice none 0 0, .slice none 0 0, .slice none 0 0, .slice Ap0 p0.length cp0, undef, undef, undef, undef] (by kernel_rfl) ?_
  replace hM := bind_some hM
  obtain ⟨_, h1, hM⟩ := hM
  replace hS : Own w0 D R _ [rowA (Enc.int .u8) none 0 []] [slA Rp0 (Enc.int .u8) Ap0 cp0 p0, slA Rp1 (Enc.int .u8) Ap1 cp1 p1] := hS.addNil (Enc.int .u8)
  refine s_append (.tmp 6) (.tmp 7) 22 22 5 1 (.slice Ap0 p0.length cp0) (e := (Enc.int .u8)) (xs := []) (ys := p0) rfl u22 el5 (by kernel_rfl) (by kernel_rfl) (by kernel_rfl) hS ((SlR.of_sl (hS.sl_mem (List.Mem.head _))).src u22) (room_some h1).1 (room_some h1).2 (fun A2 c3 _ hS => ?_)
  refine segEnd [.slice Ap0 p0.length cp0, .slice Ap1 p1.length cp1, undef, undef, .slice none 0 0, .slice A2 (([] ++ p0).length) c3, .slice none 0 0, .slice Ap0 p0.length cp0, .slice A2 (([] ++ p0).length) c3, undef, undef, undef] (by kernel_rfl) ?_
  refine then_normal ?_
  refine wp_seq ?_
  refine wp_reg ?_
  refine seg 2 [.slice Ap0 p0.length cp0, .slice Ap1 p1.length cp1, undef, undef, .slice none 0 0, .slice A2 (([] ++ p0).length) c3, .slice none 0 0, .slice Ap0 p0.length cp0, .slice A2 (([] ++ p0).length) c3, .slice A2 (([] ++ p0).length) c3, .slice Ap1 p1.length cp1, undef] (by kernel_rfl) ?_
  replace hM := bind_some hM
  obtain ⟨_, h4, hM⟩ := hM
  refine s_append (.tmp 9) (.tmp 10) 22 22 5 1 (.slice Ap1 p1.length cp1) (e := (Enc.int .u8)) (xs := ([] ++ p0)) (ys := p1) rfl u22 el5 (by kernel_rfl) (by kernel_rfl) (by kernel_rfl) hS ((SlR.of_sl (hS.sl_mem (List.Mem.tail _ (List.Mem.head _)))).src u22) (room_some h4).1 (room_some h4).2 (fun A5 c6 _ hS => ?_)
  refine segEnd [.slice Ap0 p0.length cp0, .slice Ap1 p1.length cp1, undef, undef, .slice A5 ((([] ++ p0) ++ p1).length) c6, .slice A2 (([] ++ p0).length) c3, .slice none 0 0, .slice Ap0 p0.length cp0, .slice A2 (([] ++ p0).length) c3, .slice A2 (([] ++ p0).length) c3, .slice Ap1 p1.length cp1, .slice A5 ((([] ++ p0) ++ p1).length) c6] (by kernel_rfl) ?_
  refine then_normal ?_
  refine wp_ret ?_
  replace hS : Own w0 D R _ [rowA (Enc.int .u8) A5 c6 (([] ++ p0) ++ p1)] [] := hS.dropS forall0
  obtain rfl := Option.some.inj hM
  refine ret_v (.slice A5 ((([] ++ p0) ++ p1).length) c6) (by kernel_rfl) ⟨A5, c6, rfl, hS⟩

theorem intaglioref01_Low_W {w0 w : World} {D R : Nat → Prop} {p0 : Int} {p1 : Int} {r0 : List Int} (hS : Own w0 D R w [] []) (hD : ∀ b, ¬ D b) (hM : intaglioref01_Low_M p0 p1 = some r0) :
    Calls Go.Proofs.Try.prog 23 #[.int .u64 p0, .int .i64 p1] w (fun e w' => ∃ (ZA1 : Option Addr) (Zc2 : Nat), e = .returned (.slice ZA1 r0.length Zc2) ∧ Own w0 D R w' [rowA (Enc.int .u8) ZA1 Zc2 r0] []) := by
  refine enter (fn := Go.Proofs.Try.f23) [.int .u64 p0, .int .i64 p1, undef, undef, undef, undef, undef, undef, undef, undef, undef, undef, undef, undef, undef, undef, undef, undef, undef, undef, undef] (by kernel_rfl) rfl (by kernel_rfl) ?_
  unfold intaglioref01_Low_M at hM
  refine wp_seq ?_
  refine wp_reg ?_
  refine segEnd [.int .u64 p0, .int .i64 p1, undef, undef, .slice none 0 0, undef, undef, undef, undef, undef, undef, undef, undef, undef, undef, undef, undef, undef, undef, undef, undef] (by kernel_rfl) ?_
  refine then_normal ?_
  refine wp_seq ?_
  refine wp_reg ?_
  refine segEnd [.int .u64 p0, .int .i64 p1, undef, undef, .slice none 0 0, .slice none 0 0, undef, undef, undef, undef, undef, undef, undef, undef, undef, undef, undef, undef, undef, undef, undef] (by kernel_rfl) ?_
  refine then_normal ?_
  refine wp_join (fun a w => ∃ (g77 : Value) (g78 : Value) (g79 : Value) (A80 : Option Addr) (c81 : Nat) (g83 : Value) (g84 : Value) (g85 : Value) (g86 : Value) (g87 : Value) (g88 : Value) (g89 : Value) (g90 : Value) (g91 : Value) (g92 : Value) (g93 : Value) (g94 : Value) (g95 : Value) (g96 : Value) (l82 : List Int), a = Fr [g77, g78, undef, undef, g79, .slice A80 l82.length c81, g83, g84, g85, g86, g87, g88, g89, g90, g91, g92, g93, g94, g95, g96, undef] ∧ Own w0 D R w [rowA (Enc.int .u8) A80 c81 l82] [] ∧ intaglioref01_Low_J1 l82 = some r0) ?_ ?_
  ·
    refine wp_seq ?_
    refine wp_reg ?_
    refine segEnd [.int .u64 p0, .int .i64 p1, undef, undef, .slice none 0 0, .slice none 0 0, .int .i64 0, undef, undef, undef, undef, undef, undef, undef, undef, undef, undef, undef, undef, undef, undef] (by kernel_rfl) ?_
    refine then_normal ?_
    refine wp_block ?_
    replace hM := bind_some hM
    obtain ⟨q50, hL51, hM⟩ := hM
    replace hS : Own w0 D R _ [rowA (Enc.int .u8) none 0 []] [] := hS.addNil (Enc.int .u8)
    refine wp_loop_model (fun (s : (Int × (List Int) × Int)) a w => ∃ (g53 : Value) (A54 : Option Addr) (c55 : Nat) (g58 : Value) (g59 : Value) (g60 : Value) (g61 : Value) (g62 : Value) (g63 : Value) (g64 : Value) (g65 : Value) (g66 : Value) (g67 : Value) (g68 : Value) (g69 : Value) (g70 : Value) (x52 : Int) (l56 : List Int) (x57 : Int), s = (x52, l56, x57) ∧ a = Fr [.int .u64 x52, .int .i64 p1, undef, undef, g53, .slice A54 l56.length c55, .int .i64 x57, g58, g59, g60, g61, g62, g63, g64, g65, g66, g67, g68, g69, g70, undef] ∧ Own w0 D R w [rowA (Enc.int .u8) A54 c55 l56] []) ?_ hL51 ?_
    · rintro _ a w ⟨g53, A54, c55, g58, g59, g60, g61, g62, g63, g64, g65, g66, g67, g68, g69, g70, x52, l56, x57, rfl, rfl, hS⟩ o48 hM1 hout49
      replace hM1 : intaglioref01_Low_L1 p1 x52 l56 x57 = some o48 := hM1
      unfold intaglioref01_Low_L1 at hM1
      refine wp_seq ?_
      refine wp_seq ?_
      refine wp_reg ?_
      refine segEnd [.int .u64 x52, .int .i64 p1, undef, undef, g53, .slice A54 l56.length c55, .int .i64 x57, .int .i64 x57, .int .i64 p1, .bool (decide (x57 < p1)), g61, g62, g63, g64, g65, g66, g67, g68, g69, g70, undef] (by kernel_rfl) ?_
      refine then_normal ?_
      refine wp_cond_split (t := decide (x57 < p1)) (by kernel_rfl) (fun hc71 => ?_) (fun hc71 => ?_)
      · replace hM1 := (if_pos hc71).symm.trans hM1
        refine wp_skip ?_
        refine then_normal ?_
        refine wp_seq ?_
        refine wp_block ?_
        refine wp_seq ?_
        refine wp_reg ?_
        refine seg 4 [.int .u64 x52, .int .i64 p1, undef, undef, g53, .slice A54 l56.length c55, .int .i64 x57, .int .i64 x57, .int .i64 p1, .bool (decide (x57 < p1)), g61, g62, .slice A54 l56.length c55, .int .u64 x52, .int .u64 (Int.tmod x52 256), .int .u8 (IntKind.u8.wrap ((Int.tmod x52 256))), g67, g68, g69, g70, undef] (by kernel_rfl) ?_
        refine s_lit 22 5 1 1 #[(0, .tmp 15)] (e := (Enc.int .u8)) ([(IntKind.u8.wrap ((Int.tmod x52 256)))] : List Int) (.int .u8 0) rfl u22 (by kernel_rfl) (by decide) rfl (by kernel_rfl) (by kernel_rfl) hS (fun A72 c73 _ hS => ?_)
        replace hM1 := bind_some hM1
        obtain ⟨_, h74, hM1⟩ := hM1
        replace hS : Own w0 D R _ [rowA (Enc.int .u8) A54 c55 l56, rowA (Enc.int .u8) A72 c73 [(IntKind.u8.wrap ((Int.tmod x52 256)))]] [] := hS.pick 1 rfl
        refine s_append (.tmp 12) (.tmp 16) 22 22 5 1 (.slice A72 ([(IntKind.u8.wrap ((Int.tmod x52 256)))].length) c73) (e := (Enc.int .u8)) (xs := l56) (ys := [(IntKind.u8.wrap ((Int.tmod x52 256)))]) rfl u22 el5 (by kernel_rfl) (by kernel_rfl) (by kernel_rfl) hS ((SlR.of_row (hS.row_mem (List.Mem.tail _ (List.Mem.head _)))).src u22) (room_some h74).1 (room_some h74).2 (fun A75 c76 _ hS => ?_)
        refine segEnd [.int .u64 x52, .int .i64 p1, undef, undef, g53, .slice A75 ((l56 ++ [(IntKind.u8.wrap ((Int.tmod x52 256)))]).length) c76, .int .i64 x57, .int .i64 x57, .int .i64 p1, .bool (decide (x57 < p1)), g61, g62, .slice A54 l56.length c55, .int .u64 x52, .int .u64 (Int.tmod x52 256), .int .u8 (IntKind.u8.wrap ((Int.tmod x52 256))), .slice A72 ([(IntKind.u8.wrap ((Int.tmod x52 256)))].length) c73, .slice A75 ((l56 ++ [(IntKind.u8.wrap ((Int.tmod x52 256)))]).length) c76, g69, g70, undef] (by kernel_rfl) ?_
        refine then_normal ?_
        refine wp_reg ?_
        refine segEnd [.int .u64 (IntKind.u64.wrap (Int.tdiv x52 256)), .int .i64 p1, undef, undef, g53, .slice A75 ((l56 ++ [(IntKind.u8.wrap ((Int.tmod x52 256)))]).length) c76, .int .i64 x57, .int .i64 x57, .int .i64 p1, .bool (decide (x57 < p1)), g61, g62, .slice A54 l56.length c55, .int .u64 x52, .int .u64 (Int.tmod x52 256), .int .u8 (IntKind.u8.wrap ((Int.tmod x52 256))), .slice A72 ([(IntKind.u8.wrap ((Int.tmod x52 256)))].length) c73, .slice A75 ((l56 ++ [(IntKind.u8.wrap ((Int.tmod x52 256)))]).length) c76, .int .u64 x52, .int .u64 (IntKind.u64.wrap (Int.tdiv x52 256)), undef] (by kernel_rfl) ?_
        refine in_normal ?_
        refine then_normal ?_
        refine wp_reg ?_
        refine segEnd [.int .u64 (IntKind.u64.wrap (Int.tdiv x52 256)), .int .i64 p1, undef, undef, g53, .slice A75 ((l56 ++ [(IntKind.u8.wrap ((Int.tmod x52 256)))]).length) c76, .int .i64 (IntKind.i64.wrap (x57 + 1)), .int .i64 x57, .int .i64 p1, .bool (decide (x57 < p1)), .int .i64 x57, .int .i64 (IntKind.i64.wrap (x57 + 1)), .slice A54 l56.length c55, .int .u64 x52, .int .u64 (Int.tmod x52 256), .int .u8 (IntKind.u8.wrap ((Int.tmod x52 256))), .slice A72 ([(IntKind.u8.wrap ((Int.tmod x52 256)))].length) c73, .slice A75 ((l56 ++ [(IntKind.u8.wrap ((Int.tmod x52 256)))]).length) c76, .int .u64 x52, .int .u64 (IntKind.u64.wrap (Int.tdiv x52 256)), undef] (by kernel_rfl) ?_
        refine then_normal ?_
        replace hS : Own w0 D R _ [rowA (Enc.int .u8) A75 c76 (l56 ++ [(IntKind.u8.wrap ((Int.tmod x52 256)))])] [] := hS.takeX 1
        exact ⟨((IntKind.u64.wrap (Int.tdiv x52 256)), (l56 ++ [(IntKind.u8.wrap ((Int.tmod x52 256)))]), (IntKind.i64.wrap (x57 + 1))), (Option.some.inj hM1).symm, g53, A75, c76, (.int .i64 x57), (.int .i64 p1), (.bool (decide (x57 < p1))), (.int .i64 x57), (.int .i64 (IntKind.i64.wrap (x57 + 1))), (.slice A54 l56.length c55), (.int .u64 x52), (.int .u64 (Int.tmod x52 256)), (.int .u8 (IntKind.u8.wrap ((Int.tmod x52 256)))), (.slice A72 ([(IntKind.u8.wrap ((Int.tmod x52 256)))].length) c73), (.slice A75 ((l56 ++ [(IntKind.u8.wrap ((Int.tmod x52 256)))]).length) c76), (.int .u64 x52), (.int .u64 (IntKind.u64.wrap (Int.tdiv x52 256))), (IntKind.u64.wrap (Int.tdiv x52 256)), (l56 ++ [(IntKind.u8.wrap ((Int.tmod x52 256)))]), (IntKind.i64.wrap (x57 + 1)), rfl, (by kernel_rfl), hS⟩
      · replace hM1 := (if_neg (Bool.eq_false_iff.1 hc71)).symm.trans hM1
        refine wp_exit ?_
        refine then_exit ?_
        refine then_exit ?_
        have hr98 := hout49 _ (Option.some.inj hM1).symm
        subst hr98
        refine in_exit_eq ?_
        refine then_normal ?_
        exact ⟨(.int .u64 x52), (.int .i64 p1), g53, A54, c55, (.int .i64 x57), (.int .i64 x57), (.int .i64 p1), (.bool (decide (x57 < p1))), g61, g62, g63, g64, g65, g66, g67, g68, g69, g70, l56, (by kernel_rfl), hS, hM⟩
    · exact ⟨(.slice none 0 0), none, 0, undef, undef, undef, undef, undef, undef, undef, undef, undef, undef, undef, undef, undef, p0, [], 0, rfl, (by kernel_rfl), hS⟩
  · rintro a w ⟨g77, g78, g79, A80, c81, g83, g84, g85, g86, g87, g88, g89, g90, g91, g92, g93, g94, g95, g96, l82, rfl, hS, hM⟩
    unfold intaglioref01_Low_J1 at hM
    refine wp_seq ?_
    refine wp_reg ?_
    refine segEnd [g77, g78, undef, undef, .slice A80 l82.length c81, .slice A80 l82.length c81, g83, g84, g85, g86, g87, g88, g89, g90, g91, g92, g93, g94, g95, g96, .slice A80 l82.length c81] (by kernel_rfl) ?_
    refine then_normal ?_
    refine wp_ret ?_
    replace hS : Own w0 D R _ [rowA (Enc.int .u8) A80 c81 l82] [] := hS.dropS forall0
    obtain rfl := Option.some.inj hM
    refine ret_v (.slice A80 l82.length c81) (by kernel_rfl) ⟨A80, c81, rfl, hS⟩

theorem intaglioref01_High_W {w0 w : World} {D R : Nat → Prop} {p0 : Int} {p1 : Int} {r0 : List Int} (hS : Own w0 D R w [] []) (hD : ∀ b, ¬ D b) (hM : intaglioref01_High_M p0 p1 = some r0) :
    Calls Go.Proofs.Try.prog 46 #[.int .u64 p0, .int .i64 p1] w (fun e w' => ∃ (ZA1 : Option Addr) (Zc2 : Nat), e = .returned (.slice ZA1 r0.length Zc2) ∧ Own w0 D R w' [rowA (Enc.int .u8) ZA1 Zc2 r0] []) := by
  refine enter (fn := Go.Proofs.Try.f46) [.int .u64 p0, .int .i64 p1, undef, undef, undef, undef, undef, undef, undef, undef, undef, undef, undef, undef, undef, undef, undef, undef, undef, undef, undef, undef, undef, undef, undef, undef] (by kernel_rfl) rfl (by kernel_rfl) ?_
  unfold intaglioref01_High_M at hM
  refine wp_seq ?_
  refine wp_reg ?_
  refine segEnd [.int .u64 p0, .int .i64 p1, undef, undef, .slice none 0 0, undef, undef, undef, undef, undef, undef, undef, undef, undef, undef, undef, undef, undef, undef, undef, undef, undef, undef, undef, undef, undef] (by kernel_rfl) ?_
  refine then_normal ?_
  refine wp_seq ?_
  refine wp_reg ?_
  refine seg 1 [.int .u64 p0, .int .i64 p1, undef, undef, .slice none 0 0, undef, undef, .int .i64 p1, undef, undef, undef, undef, undef, undef, undef, undef, undef, undef, undef, undef, undef, undef, undef, undef, undef, undef] (by kernel_rfl) ?_
  replace hM := bind_some hM
  obtain ⟨m1, h2, hM⟩ := hM
  refine s_make (e := (Enc.int .u8)) 22 5 1 (.tmp 7) (.tmp 7) .i64 .i64 p1 m1 (0 : Int) (.int .u8 0) rfl u22 (by kernel_rfl) rfl rfl rfl (by kernel_rfl) (by kernel_rfl) (by kernel_rfl) h2 hS (fun A3 c4 _ hS => ?_)
  refine segEnd [.int .u64 p0, .int .i64 p1, undef, undef, .slice none 0 0, .slice A3 ((List.replicate m1 (0 : Int)).length) c4, undef, .int .i64 p1, .slice A3 ((List.replicate m1 (0 : Int)).length) c4, undef, undef, undef, undef, undef, undef, undef, undef, undef, undef, undef, undef, undef, undef, undef, undef, undef] (by kernel_rfl) ?_
  refine then_normal ?_
  refine wp_join (fun a w => ∃ (g96 : Value) (g97 : Value) (g98 : Value) (A99 : Option Addr) (c100 : Nat) (g102 : Value) (g103 : Value) (g104 : Value) (g105 : Value) (g106 : Value) (g107 : Value) (g108 : Value) (g109 : Value) (g110 : Value) (g111 : Value) (g112 : Value) (g113 : Value) (g114 : Value) (g115 : Value) (g116 : Value) (g117 : Value) (g118 : Value) (g119 : Value) (g120 : Value) (l101 : List Int), a = Fr [g96, g97, undef, undef, g98, .slice A99 l101.length c100, g102, g103, g104, g105, g106, g107, g108, g109, g110, g111, g112, g113, g114, g115, g116, g117, g118, g119, g120, undef] ∧ Own w0 D R w [rowA (Enc.int .u8) A99 c100 l101] [] ∧ intaglioref01_High_J1 l101 = some r0) ?_ ?_
  ·
    refine wp_seq ?_
    refine wp_reg ?_
    refine segEnd [.int .u64 p0, .int .i64 p1, undef, undef, .slice none 0 0, .slice A3 ((List.replicate m1 (0 : Int)).length) c4, .int .i64 0, .int .i64 p1, .slice A3 ((List.replicate m1 (0 : Int)).length) c4, undef, undef, undef, undef, undef, undef, undef, undef, undef, undef, undef, undef, undef, undef, undef, undef, undef] (by kernel_rfl) ?_
    refine then_normal ?_
    refine wp_block ?_
    replace hM := bind_some hM
    obtain ⟨q64, hL65, hM⟩ := hM
    refine wp_loop_model (fun (s : (Int × (List Int) × Int)) a w => ∃ (g67 : Value) (A68 : Option Addr) (c69 : Nat) (g72 : Value) (g73 : Value) (g74 : Value) (g75 : Value) (g76 : Value) (g77 : Value) (g78 : Value) (g79 : Value) (g80 : Value) (g81 : Value) (g82 : Value) (g83 : Value) (g84 : Value) (g85 : Value) (g86 : Value) (g87 : Value) (g88 : Value) (g89 : Value) (x66 : Int) (l70 : List Int) (x71 : Int), s = (x66, l70, x71) ∧ a = Fr [.int .u64 x66, .int .i64 p1, undef, undef, g67, .slice A68 l70.length c69, .int .i64 x71, g72, g73, g74, g75, g76, g77, g78, g79, g80, g81, g82, g83, g84, g85, g86, g87, g88, g89, undef] ∧ Own w0 D R w [rowA (Enc.int .u8) A68 c69 l70] []) ?_ hL65 ?_
    · rintro _ a w ⟨g67, A68, c69, g72, g73, g74, g75, g76, g77, g78, g79, g80, g81, g82, g83, g84, g85, g86, g87, g88, g89, x66, l70, x71, rfl, rfl, hS⟩ o62 hM1 hout63
      replace hM1 : intaglioref01_High_L1 p1 x66 l70 x71 = some o62 := hM1
      unfold intaglioref01_High_L1 at hM1
      refine wp_seq ?_
      refine wp_seq ?_
      refine wp_reg ?_
      refine segEnd [.int .u64 x66, .int .i64 p1, undef, undef, g67, .slice A68 l70.length c69, .int .i64 x71, g72, g73, .int .i64 x71, .int .i64 p1, .bool (decide (x71 < p1)), g77, g78, g79, g80, g81, g82, g83, g84, g85, g86, g87, g88, g89, undef] (by kernel_rfl) ?_
      refine then_normal ?_
      refine wp_cond_split (t := decide (x71 < p1)) (by kernel_rfl) (fun hc90 => ?_) (fun hc90 => ?_)
      · replace hM1 := (if_pos hc90).symm.trans hM1
        refine wp_skip ?_
        refine then_normal ?_
        refine wp_seq ?_
        refine wp_block ?_
        refine wp_seq ?_
        refine wp_reg ?_
        refine seg 8 [.int .u64 x66, .int .i64 p1, undef, undef, g67, .slice A68 l70.length c69, .int .i64 x71, g72, g73, .int .i64 x71, .int .i64 p1, .bool (decide (x71 < p1)), g77, g78, .slice A68 l70.length c69, .int .i64 p1, .int .i64 (IntKind.i64.wrap (p1 - 1)), .int .i64 x71, .int .i64 (IntKind.i64.wrap ((IntKind.i64.wrap (p1 - 1)) - x71)), .int .u64 x66, .int .u64 (Int.tmod x66 256), .int .u8 (IntKind.u8.wrap ((Int.tmod x66 256))), g87, g88, g89, undef] (by kernel_rfl) ?_
        replace hM1 := bind_some hM1
        obtain ⟨y91, h92, hM1⟩ := hM1
        have hi95 := ix_some h92
        refine s_index (A := A68) (cap := c69) (.tmp 14) (.tmp 18) 22 5 1 .i64 (IntKind.i64.wrap ((IntKind.i64.wrap (p1 - 1)) - x71)) rfl u22 el5 (by kernel_rfl) (by kernel_rfl) (by kernel_rfl) (SlR.of_row (hS.row_mem (List.Mem.head _))) hi95.1 hi95.2.1 (fun p93 hp94 => ?_)
        refine s_store_el (.tmp 22) (.tmp 21) 5 1 p93 _ (IntKind.u8.wrap ((Int.tmod x66 256))) rfl el5 (by kernel_rfl) (by kernel_rfl) (by kernel_rfl) hp94 (by have := hi95.1; have := hi95.2.1; omega) hS (fun _ hS => ?_)
        refine fr_eq [.int .u64 x66, .int .i64 p1, undef, undef, g67, .slice A68 ((l70.set (Int.toNat (IntKind.i64.wrap ((IntKind.i64.wrap (p1 - 1)) - x71))) (IntKind.u8.wrap ((Int.tmod x66 256)))).length) c69, .int .i64 x71, g72, g73, .int .i64 x71, .int .i64 p1, .bool (decide (x71 < p1)), g77, g78, .slice A68 ((l70.set (Int.toNat (IntKind.i64.wrap ((IntKind.i64.wrap (p1 - 1)) - x71))) (IntKind.u8.wrap ((Int.tmod x66 256)))).length) c69, .int .i64 p1, .int .i64 (IntKind.i64.wrap (p1 - 1)), .int .i64 x71, .int .i64 (IntKind.i64.wrap ((IntKind.i64.wrap (p1 - 1)) - x71)), .int .u64 x66, .int .u64 (Int.tmod x66 256), .int .u8 (IntKind.u8.wrap ((Int.tmod x66 256))), .pointer (some p93), g88, g89, undef] [.int .u64 x66, .int .i64 p1, undef, undef, g67, .slice A68 l70.length c69, .int .i64 x71, g72, g73, .int .i64 x71, .int .i64 p1, .bool (decide (x71 < p1)), g77, g78, .slice A68 l70.length c69, .int .i64 p1, .int .i64 (IntKind.i64.wrap (p1 - 1)), .int .i64 x71, .int .i64 (IntKind.i64.wrap ((IntKind.i64.wrap (p1 - 1)) - x71)), .int .u64 x66, .int .u64 (Int.tmod x66 256), .int .u8 (IntKind.u8.wrap ((Int.tmod x66 256))), .pointer (some p93), g88, g89, undef] (by kernel_rfl) (by simp only [List.length_set]) ?_
        refine wl_nil ?_
        refine then_normal ?_
        refine wp_reg ?_
        refine segEnd [.int .u64 (IntKind.u64.wrap (Int.tdiv x66 256)), .int .i64 p1, undef, undef, g67, .slice A68 ((l70.set (Int.toNat (IntKind.i64.wrap ((IntKind.i64.wrap (p1 - 1)) - x71))) (IntKind.u8.wrap ((Int.tmod x66 256)))).length) c69, .int .i64 x71, g72, g73, .int .i64 x71, .int .i64 p1, .bool (decide (x71 < p1)), g77, g78, .slice A68 ((l70.set (Int.toNat (IntKind.i64.wrap ((IntKind.i64.wrap (p1 - 1)) - x71))) (IntKind.u8.wrap ((Int.tmod x66 256)))).length) c69, .int .i64 p1, .int .i64 (IntKind.i64.wrap (p1 - 1)), .int .i64 x71, .int .i64 (IntKind.i64.wrap ((IntKind.i64.wrap (p1 - 1)) - x71)), .int .u64 x66, .int .u64 (Int.tmod x66 256), .int .u8 (IntKind.u8.wrap ((Int.tmod x66 256))), .pointer (some p93), .int .u64 x66, .int .u64 (IntKind.u64.wrap (Int.tdiv x66 256)), undef] (by kernel_rfl) ?_
        refine in_normal ?_
        refine then_normal ?_
        refine wp_reg ?_
        refine segEnd [.int .u64 (IntKind.u64.wrap (Int.tdiv x66 256)), .int .i64 p1, undef, undef, g67, .slice A68 ((l70.set (Int.toNat (IntKind.i64.wrap ((IntKind.i64.wrap (p1 - 1)) - x71))) (IntKind.u8.wrap ((Int.tmod x66 256)))).length) c69, .int .i64 (IntKind.i64.wrap (x71 + 1)), g72, g73, .int .i64 x71, .int .i64 p1, .bool (decide (x71 < p1)), .int .i64 x71, .int .i64 (IntKind.i64.wrap (x71 + 1)), .slice A68 ((l70.set (Int.toNat (IntKind.i64.wrap ((IntKind.i64.wrap (p1 - 1)) - x71))) (IntKind.u8.wrap ((Int.tmod x66 256)))).length) c69, .int .i64 p1, .int .i64 (IntKind.i64.wrap (p1 - 1)), .int .i64 x71, .int .i64 (IntKind.i64.wrap ((IntKind.i64.wrap (p1 - 1)) - x71)), .int .u64 x66, .int .u64 (Int.tmod x66 256), .int .u8 (IntKind.u8.wrap ((Int.tmod x66 256))), .pointer (some p93), .int .u64 x66, .int .u64 (IntKind.u64.wrap (Int.tdiv x66 256)), undef] (by kernel_rfl) ?_
        refine then_normal ?_
        exact ⟨((IntKind.u64.wrap (Int.tdiv x66 256)), (l70.set (Int.toNat (IntKind.i64.wrap ((IntKind.i64.wrap (p1 - 1)) - x71))) (IntKind.u8.wrap ((Int.tmod x66 256)))), (IntKind.i64.wrap (x71 + 1))), (Option.some.inj hM1).symm, g67, A68, c69, g72, g73, (.int .i64 x71), (.int .i64 p1), (.bool (decide (x71 < p1))), (.int .i64 x71), (.int .i64 (IntKind.i64.wrap (x71 + 1))), (.slice A68 ((l70.set (Int.toNat (IntKind.i64.wrap ((IntKind.i64.wrap (p1 - 1)) - x71))) (IntKind.u8.wrap ((Int.tmod x66 256)))).length) c69), (.int .i64 p1), (.int .i64 (IntKind.i64.wrap (p1 - 1))), (.int .i64 x71), (.int .i64 (IntKind.i64.wrap ((IntKind.i64.wrap (p1 - 1)) - x71))), (.int .u64 x66), (.int .u64 (Int.tmod x66 256)), (.int .u8 (IntKind.u8.wrap ((Int.tmod x66 256)))), (.pointer (some p93)), (.int .u64 x66), (.int .u64 (IntKind.u64.wrap (Int.tdiv x66 256))), (IntKind.u64.wrap (Int.tdiv x66 256)), (l70.set (Int.toNat (IntKind.i64.wrap ((IntKind.i64.wrap (p1 - 1)) - x71))) (IntKind.u8.wrap ((Int.tmod x66 256)))), (IntKind.i64.wrap (x71 + 1)), rfl, (by kernel_rfl), hS⟩
      · replace hM1 := (if_neg (Bool.eq_false_iff.1 hc90)).symm.trans hM1
        refine wp_exit ?_
        refine then_exit ?_
        refine then_exit ?_
        have hr122 := hout63 _ (Option.some.inj hM1).symm
        subst hr122
        refine in_exit_eq ?_
        refine then_normal ?_
        exact ⟨(.int .u64 x66), (.int .i64 p1), g67, A68, c69, (.int .i64 x71), g72, g73, (.int .i64 x71), (.int .i64 p1), (.bool (decide (x71 < p1))), g77, g78, g79, g80, g81, g82, g83, g84, g85, g86, g87, g88, g89, l70, (by kernel_rfl), hS, hM⟩
    · exact ⟨(.slice none 0 0), A3, c4, (.int .i64 p1), (.slice A3 ((List.replicate m1 (0 : Int)).length) c4), undef, undef, undef, undef, undef, undef, undef, undef, undef, undef, undef, undef, undef, undef, undef, undef, p0, (List.replicate m1 (0 : Int)), 0, rfl, (by kernel_rfl), hS⟩
  · rintro a w ⟨g96, g97, g98, A99, c100, g102, g103, g104, g105, g106, g107, g108, g109, g110, g111, g112, g113, g114, g115, g116, g117, g118, g119, g120, l101, rfl, hS, hM⟩
    unfold intaglioref01_High_J1 at hM
    refine wp_seq ?_
    refine wp_reg ?_
    refine segEnd [g96, g97, undef, undef, .slice A99 l101.length c100, .slice A99 l101.length c100, g102, g103, g104, g105, g106, g107, g108, g109, g110, g111, g112, g113, g114, g115, g116, g117, g118, g119, g120, .slice A99 l101.length c100] (by kernel_rfl) ?_
    refine then_normal ?_
    refine wp_ret ?_
    replace hS : Own w0 D R _ [rowA (Enc.int .u8) A99 c100 l101] [] := hS.dropS forall0
    obtain rfl := Option.some.inj hM
    refine ret_v (.slice A99 l101.length c100) (by kernel_rfl) ⟨A99, c100, rfl, hS⟩

theorem intaglioref01_Put32_W {w0 w : World} {D R : Nat → Prop} {Rp0 : Nat → Prop} {Ap0 : Option Addr} {cp0 : Nat} {p0 : List Int} {p1 : Int} {r0 : List Int} (hS : Own w0 D R w [] [slA Rp0 (Enc.int .u8) Ap0 cp0 p0]) (hD : ∀ b, ¬ D b) (hM : intaglioref01_Put32_M p0 p1 = some r0) :
    Calls Go.Proofs.Try.prog 16 #[.slice Ap0 p0.length cp0, .int .u32 p1] w (fun e w' => ∃ (ZA1 : Option Addr) (Zc2 : Nat), e = .returned (.slice ZA1 r0.length Zc2) ∧ Own w0 D R w' [rowA (Enc.int .u8) ZA1 Zc2 r0] []) := by
  refine enter (fn := Go.Proofs.Try.f16) [.slice Ap0 p0.length cp0, .int .u32 p1, undef, undef, undef, undef, undef, undef, undef, undef] (by kernel_rfl) rfl (by kernel_rfl) ?_
  unfold intaglioref01_Put32_M at hM
  refine wp_seq ?_
  refine wp_reg ?_
  refine segEnd [.slice Ap0 p0.length cp0, .int .u32 p1, undef, undef, .slice none 0 0, undef, undef, undef, undef, undef] (by kernel_rfl) ?_
  refine then_normal ?_
  refine wp_seq ?_
  refine wp_reg ?_
  refine seg 3 [.slice Ap0 p0.length cp0, .int .u32 p1, undef, undef, .slice none 0 0, .slice Ap0 p0.length cp0, .int .u32 p1, .int .u64 (IntKind.u64.wrap (p1)), undef, undef] (by kernel_rfl) ?_
  replace hM := bind_some hM
  obtain ⟨v1, h4, hM⟩ := hM
  have hP := Own.pre (Xi := []) (X := []) (Si := []) hS forall0 forall0
  refine s_call 46 #[.int .u64 (IntKind.u64.wrap (p1)), .int .i64 4] (by kernel_rfl) (by kernel_rfl) ((intaglioref01_High_W hP doms_nil h4).mono ?_)
  rintro _ _ ⟨A2, c3, rfl, hQ⟩
  replace hS : Own w0 D R _ [rowA (Enc.int .u8) A2 c3 v1] [slA Rp0 (Enc.int .u8) Ap0 cp0 p0] := hS.post hQ (.inl rfl)
  clear hP hQ
  refine ⟨_, rfl, ?_⟩
  replace hM := bind_some hM
  obtain ⟨v5, h8, hM⟩ := hM
  have hP := Own.pre (Xi := []) (X := [rowA (Enc.int .u8) A2 c3 v1]) (Si := [slA Rp0 (Enc.int .u8) Ap0 cp0 p0, slA (blkOf A2) (Enc.int .u8) A2 c3 v1]) hS (forall2 (hS.sl_mem (List.Mem.head _)) (forall2 (sl_of_row (hS.row_mem (List.Mem.head _))) forall0)) (forall2 (fun _ h => .inl ⟨_, (List.Mem.head _), h⟩) (forall2 (fun _ h => .inr ⟨_, (List.Mem.head _), h⟩) forall0))
  refine s_call 22 #[.slice Ap0 p0.length cp0, .slice A2 v1.length c3] (by kernel_rfl) (by kernel_rfl) ((intaglioref01_Both_W hP doms_nil h8).mono ?_)
  rintro _ _ ⟨A6, c7, rfl, hQ⟩
  replace hS : Own w0 D R _ [rowA (Enc.int .u8) A6 c7 v5, rowA (Enc.int .u8) A2 c3 v1] [slA Rp0 (Enc.int .u8) Ap0 cp0 p0] := hS.post hQ (.inl rfl)
  clear hP hQ
  refine ⟨_, rfl, ?_⟩
  refine segEnd [.slice Ap0 p0.length cp0, .int .u32 p1, undef, undef, .slice A6 v5.length c7, .slice Ap0 p0.length cp0, .int .u32 p1, .int .u64 (IntKind.u64.wrap (p1)), .slice A2 v1.length c3, .slice A6 v5.length c7] (by kernel_rfl) ?_
  refine then_normal ?_
  refine wp_ret ?_
  replace hS : Own w0 D R _ [rowA (Enc.int .u8) A6 c7 v5] [slA Rp0 (Enc.int .u8) Ap0 cp0 p0] := hS.takeX 1
  replace hS : Own w0 D R _ [rowA (Enc.int .u8) A6 c7 v5] [] := hS.dropS forall0
  obtain rfl := Option.some.inj hM
  refine ret_v (.slice A6 v5.length c7) (by kernel_rfl) ⟨A6, c7, rfl, hS⟩

theorem intaglioref01_Put64_W {w0 w : World} {D R : Nat → Prop} {Rp0 : Nat → Prop} {Ap0 : Option Addr} {cp0 : Nat} {p0 : List Int} {p1 : Int} {r0 : List Int} (hS : Own w0 D R w [] [slA Rp0 (Enc.int .u8) Ap0 cp0 p0]) (hD : ∀ b, ¬ D b) (hM : intaglioref01_Put64_M p0 p1 = some r0) :
    Calls Go.Proofs.Try.prog 18 #[.slice Ap0 p0.length cp0, .int .u64 p1] w (fun e w' => ∃ (ZA1 : Option Addr) (Zc2 : Nat), e = .returned (.slice ZA1 r0.length Zc2) ∧ Own w0 D R w' [rowA (Enc.int .u8) ZA1 Zc2 r0] []) := by
  refine enter (fn := Go.Proofs.Try.f18) [.slice Ap0 p0.length cp0, .int .u64 p1, undef, undef, undef, undef, undef, undef, undef] (by kernel_rfl) rfl (by kernel_rfl) ?_
  unfold intaglioref01_Put64_M at hM
  refine wp_seq ?_
  refine wp_reg ?_
  refine segEnd [.slice Ap0 p0.length cp0, .int .u64 p1, undef, undef, .slice none 0 0, undef, undef, undef, undef] (by kernel_rfl) ?_
  refine then_normal ?_
  refine wp_seq ?_
  refine wp_reg ?_
  refine seg 2 [.slice Ap0 p0.length cp0, .int .u64 p1, undef, undef, .slice none 0 0, .slice Ap0 p0.length cp0, .int .u64 p1, undef, undef] (by kernel_rfl) ?_
  replace hM := bind_some hM
  obtain ⟨v1, h4, hM⟩ := hM
  have hP := Own.pre (Xi := []) (X := []) (Si := []) hS forall0 forall0
  refine s_call 46 #[.int .u64 p1, .int .i64 8] (by kernel_rfl) (by kernel_rfl) ((intaglioref01_High_W hP doms_nil h4).mono ?_)
  rintro _ _ ⟨A2, c3, rfl, hQ⟩
  replace hS : Own w0 D R _ [rowA (Enc.int .u8) A2 c3 v1] [slA Rp0 (Enc.int .u8) Ap0 cp0 p0] := hS.post hQ (.inl rfl)
  clear hP hQ
  refine ⟨_, rfl, ?_⟩
  replace hM := bind_some hM
  obtain ⟨v5, h8, hM⟩ := hM
  have hP := Own.pre (Xi := []) (X := [rowA (Enc.int .u8) A2 c3 v1]) (Si := [slA Rp0 (Enc.int .u8) Ap0 cp0 p0, slA (blkOf A2) (Enc.int .u8) A2 c3 v1]) hS (forall2 (hS.sl_mem (List.Mem.head _)) (forall2 (sl_of_row (hS.row_mem (List.Mem.head _))) forall0)) (forall2 (fun _ h => .inl ⟨_, (List.Mem.head _), h⟩) (forall2 (fun _ h => .inr ⟨_, (List.Mem.head _), h⟩) forall0))
  refine s_call 22 #[.slice Ap0 p0.length cp0, .slice A2 v1.length c3] (by kernel_rfl) (by kernel_rfl) ((intaglioref01_Both_W hP doms_nil h8).mono ?_)
  rintro _ _ ⟨A6, c7, rfl, hQ⟩
  replace hS : Own w0 D R _ [rowA (Enc.int .u8) A6 c7 v5, rowA (Enc.int .u8) A2 c3 v1] [slA Rp0 (Enc.int .u8) Ap0 cp0 p0] := hS.post hQ (.inl rfl)
  clear hP hQ
  refine ⟨_, rfl, ?_⟩
  refine segEnd [.slice Ap0 p0.length cp0, .int .u64 p1, undef, undef, .slice A6 v5.length c7, .slice Ap0 p0.length cp0, .int .u64 p1, .slice A2 v1.length c3, .slice A6 v5.length c7] (by kernel_rfl) ?_
  refine then_normal ?_
  refine wp_ret ?_
  replace hS : Own w0 D R _ [rowA (Enc.int .u8) A6 c7 v5] [slA Rp0 (Enc.int .u8) Ap0 cp0 p0] := hS.takeX 1
  replace hS : Own w0 D R _ [rowA (Enc.int .u8) A6 c7 v5] [] := hS.dropS forall0
  obtain rfl := Option.some.inj hM
  refine ret_v (.slice A6 v5.length c7) (by kernel_rfl) ⟨A6, c7, rfl, hS⟩

theorem intaglioref01_PutNum_W {w0 w : World} {D R : Nat → Prop} {Rp0 : Nat → Prop} {Ap0 : Option Addr} {cp0 : Nat} {p0 : List Int} {p1 : Int} {r0 : List Int} (hS : Own w0 D R w [] [slA Rp0 (Enc.int .u8) Ap0 cp0 p0]) (hD : ∀ b, ¬ D b) (hM : intaglioref01_PutNum_M p0 p1 = some r0) :
    Calls Go.Proofs.Try.prog 20 #[.slice Ap0 p0.length cp0, .int .i64 p1] w (fun e w' => ∃ (ZA1 : Option Addr) (Zc2 : Nat), e = .returned (.slice ZA1 r0.length Zc2) ∧ Own w0 D R w' [rowA (Enc.int .u8) ZA1 Zc2 r0] []) := by
  refine enter (fn := Go.Proofs.Try.f20) [.slice Ap0 p0.length cp0, .int .i64 p1, undef, undef, undef, undef, undef, undef, undef, undef, undef] (by kernel_rfl) rfl (by kernel_rfl) ?_
  unfold intaglioref01_PutNum_M at hM
  refine wp_seq ?_
  refine wp_reg ?_
  refine segEnd [.slice Ap0 p0.length cp0, .int .i64 p1, undef, undef, .slice none 0 0, undef, undef, undef, undef, undef, undef] (by kernel_rfl) ?_
  refine then_normal ?_
  refine wp_seq ?_
  refine wp_seq ?_
  refine wp_reg ?_
  refine segEnd [.slice Ap0 p0.length cp0, .int .i64 p1, undef, undef, .slice none 0 0, .int .i64 p1, .bool (decide (p1 < 0)), undef, undef, undef, undef] (by kernel_rfl) ?_
  refine then_normal ?_
  refine wp_cond_split (t := decide (p1 < 0)) (by kernel_rfl) (fun hc1 => ?_) (fun hc1 => ?_)
  · replace hM := (if_pos hc1).symm.trans hM
    refine wp_reg ?_
    refine segEnd [.slice Ap0 p0.length cp0, .int .i64 0, undef, undef, .slice none 0 0, .int .i64 p1, .bool (decide (p1 < 0)), undef, undef, undef, undef] (by kernel_rfl) ?_
    refine then_normal ?_
    refine wp_seq ?_
    refine wp_reg ?_
    refine seg 3 [.slice Ap0 p0.length cp0, .int .i64 0, undef, undef, .slice none 0 0, .int .i64 p1, .bool (decide (p1 < 0)), .slice Ap0 p0.length cp0, .int .i64 0, .int .u64 (IntKind.u64.wrap (0)), undef] (by kernel_rfl) ?_
    replace hM := bind_some hM
    obtain ⟨v2, h5, hM⟩ := hM
    have hP := Own.pre (Xi := []) (X := []) (Si := [slA Rp0 (Enc.int .u8) Ap0 cp0 p0]) hS (forall2 (hS.sl_mem (List.Mem.head _)) forall0) (forall2 (fun _ h => .inl ⟨_, (List.Mem.head _), h⟩) forall0)
    refine s_call 18 #[.slice Ap0 p0.length cp0, .int .u64 (IntKind.u64.wrap (0))] (by kernel_rfl) (by kernel_rfl) ((intaglioref01_Put64_W hP doms_nil h5).mono ?_)
    rintro _ _ ⟨A3, c4, rfl, hQ⟩
    replace hS : Own w0 D R _ [rowA (Enc.int .u8) A3 c4 v2] [slA Rp0 (Enc.int .u8) Ap0 cp0 p0] := hS.post hQ (.inl rfl)
    clear hP hQ
    refine ⟨_, rfl, ?_⟩
    refine segEnd [.slice Ap0 p0.length cp0, .int .i64 0, undef, undef, .slice A3 v2.length c4, .int .i64 p1, .bool (decide (p1 < 0)), .slice Ap0 p0.length cp0, .int .i64 0, .int .u64 (IntKind.u64.wrap (0)), .slice A3 v2.length c4] (by kernel_rfl) ?_
    refine then_normal ?_
    refine wp_ret ?_
    replace hS : Own w0 D R _ [rowA (Enc.int .u8) A3 c4 v2] [] := hS.dropS forall0
    obtain rfl := Option.some.inj hM
    refine ret_v (.slice A3 v2.length c4) (by kernel_rfl) ⟨A3, c4, rfl, hS⟩
  · replace hM := (if_neg (Bool.eq_false_iff.1 hc1)).symm.trans hM
    refine wp_skip ?_
    refine then_normal ?_
    refine wp_seq ?_
    refine wp_reg ?_
    refine seg 3 [.slice Ap0 p0.length cp0, .int .i64 p1, undef, undef, .slice none 0 0, .int .i64 p1, .bool (decide (p1 < 0)), .slice Ap0 p0.length cp0, .int .i64 p1, .int .u64 (IntKind.u64.wrap (p1)), undef] (by kernel_rfl) ?_
    replace hM := bind_some hM
    obtain ⟨v6, h9, hM⟩ := hM
    have hP := Own.pre (Xi := []) (X := []) (Si := [slA Rp0 (Enc.int .u8) Ap0 cp0 p0]) hS (forall2 (hS.sl_mem (List.Mem.head _)) forall0) (forall2 (fun _ h => .inl ⟨_, (List.Mem.head _), h⟩) forall0)
    refine s_call 18 #[.slice Ap0 p0.length cp0, .int .u64 (IntKind.u64.wrap (p1))] (by kernel_rfl) (by kernel_rfl) ((intaglioref01_Put64_W hP doms_nil h9).mono ?_)
    rintro _ _ ⟨A7, c8, rfl, hQ⟩
    replace hS : Own w0 D R _ [rowA (Enc.int .u8) A7 c8 v6] [slA Rp0 (Enc.int .u8) Ap0 cp0 p0] := hS.post hQ (.inl rfl)
    clear hP hQ
    refine ⟨_, rfl, ?_⟩
    refine segEnd [.slice Ap0 p0.length cp0, .int .i64 p1, undef, undef, .slice A7 v6.length c8, .int .i64 p1, .bool (decide (p1 < 0)), .slice Ap0 p0.length cp0, .int .i64 p1, .int .u64 (IntKind.u64.wrap (p1)), .slice A7 v6.length c8] (by kernel_rfl) ?_
    refine then_normal ?_
    refine wp_ret ?_
    replace hS : Own w0 D R _ [rowA (Enc.int .u8) A7 c8 v6] [] := hS.dropS forall0
    obtain rfl := Option.some.inj hM
    refine ret_v (.slice A7 v6.length c8) (by kernel_rfl) ⟨A7, c8, rfl, hS⟩

theorem intaglioref01_Put_W {w0 w : World} {D R : Nat → Prop} {Rp0 : Nat → Prop} {Ap0 : Option Addr} {cp0 : Nat} {Rp1 : Nat → Prop} {Ap1 : Option Addr} {cp1 : Nat} {p0 : List Int} {p1 : List Int} {r0 : List Int} (hS : Own w0 D R w [] [slA Rp0 (Enc.int .u8) Ap0 cp0 p0, slA Rp1 (Enc.int .u8) Ap1 cp1 p1]) (hD : ∀ b, ¬ D b) (hM : intaglioref01_Put_M p0 p1 = some r0) :
    Calls Go.Proofs.Try.prog 13 #[.slice Ap0 p0.length cp0, .slice Ap1 p1.length cp1] w (fun e w' => ∃ (ZA1 : Option Addr) (Zc2 : Nat), e = .returned (.slice ZA1 r0.length Zc2) ∧ Own w0 D R w' [rowA (Enc.int .u8) ZA1 Zc2 r0] []) := by
  refine enter (fn := Go.Proofs.Try.f13) [.slice Ap0 p0.length cp0, .slice Ap1 p1.length cp1, undef, undef, undef, undef, undef, undef, undef, undef, undef, undef] (by kernel_rfl) rfl (by kernel_rfl) ?_
  unfold intaglioref01_Put_M at hM
  refine wp_seq ?_
  refine wp_reg ?_
  refine segEnd [.slice Ap0 p0.length cp0, .slice Ap1 p1.length cp1, undef, undef, .slice none 0 0, undef, undef, undef, undef, undef, undef, undef] (by kernel_rfl) ?_
  refine then_normal ?_
  refine wp_seq ?_
  refine wp_reg ?_
  refine seg 4 [.slice Ap0 p0.length cp0, .slice Ap1 p1.length cp1, undef, undef, .slice none 0 0, .slice Ap0 p0.length cp0, .slice Ap1 p1.length cp1, .int .i64 (p1.length : Int), .int .u32 (IntKind.u32.wrap ((p1.length : Int))), undef, undef, undef] (by kernel_rfl) ?_
  replace hM := bind_some hM
  obtain ⟨v1, h4, hM⟩ := hM
  have hP := Own.pre (Xi := []) (X := []) (Si := [slA Rp0 (Enc.int .u8) Ap0 cp0 p0]) hS (forall2 (hS.sl_mem (List.Mem.head _)) forall0) (forall2 (fun _ h => .inl ⟨_, (List.Mem.head _), h⟩) forall0)
  refine s_call 16 #[.slice Ap0 p0.length cp0, .int .u32 (IntKind.u32.wrap ((p1.length : Int)))] (by kernel_rfl) (by kernel_rfl) ((intaglioref01_Put32_W hP doms_nil h4).mono ?_)
  rintro _ _ ⟨A2, c3, rfl, hQ⟩
  replace hS : Own w0 D R _ [rowA (Enc.int .u8) A2 c3 v1] [slA Rp0 (Enc.int .u8) Ap0 cp0 p0, slA Rp1 (Enc.int .u8) Ap1 cp1 p1] := hS.post hQ (.inl rfl)
  clear hP hQ
  refine ⟨_, rfl, ?_⟩
  refine seg 1 [.slice Ap0 p0.length cp0, .slice Ap1 p1.length cp1, undef, undef, .slice none 0 0, .slice Ap0 p0.length cp0, .slice Ap1 p1.length cp1, .int .i64 (p1.length : Int), .int .u32 (IntKind.u32.wrap ((p1.length : Int))), .slice A2 v1.length c3, .slice Ap1 p1.length cp1, undef] (by kernel_rfl) ?_
  replace hM := bind_some hM
  obtain ⟨v5, h8, hM⟩ := hM
  have hP := Own.pre (Xi := []) (X := [rowA (Enc.int .u8) A2 c3 v1]) (Si := [slA (blkOf A2) (Enc.int .u8) A2 c3 v1, slA Rp1 (Enc.int .u8) Ap1 cp1 p1]) hS (forall2 (sl_of_row (hS.row_mem (List.Mem.head _))) (forall2 (hS.sl_mem (List.Mem.tail _ (List.Mem.head _))) forall0)) (forall2 (fun _ h => .inr ⟨_, (List.Mem.head _), h⟩) (forall2 (fun _ h => .inl ⟨_, (List.Mem.tail _ (List.Mem.head _)), h⟩) forall0))
  refine s_call 22 #[.slice A2 v1.length c3, .slice Ap1 p1.length cp1] (by kernel_rfl) (by kernel_rfl) ((intaglioref01_Both_W hP doms_nil h8).mono ?_)
  rintro _ _ ⟨A6, c7, rfl, hQ⟩
  replace hS : Own w0 D R _ [rowA (Enc.int .u8) A6 c7 v5, rowA (Enc.int .u8) A2 c3 v1] [slA Rp0 (Enc.int .u8) Ap0 cp0 p0, slA Rp1 (Enc.int .u8) Ap1 cp1 p1] := hS.post hQ (.inl rfl)
  clear hP hQ
  refine ⟨_, rfl, ?_⟩
  refine segEnd [.slice Ap0 p0.length cp0, .slice Ap1 p1.length cp1, undef, undef, .slice A6 v5.length c7, .slice Ap0 p0.length cp0, .slice Ap1 p1.length cp1, .int .i64 (p1.length : Int), .int .u32 (IntKind.u32.wrap ((p1.length : Int))), .slice A2 v1.length c3, .slice Ap1 p1.length cp1, .slice A6 v5.length c7] (by kernel_rfl) ?_
  refine then_normal ?_
  refine wp_ret ?_
  replace hS : Own w0 D R _ [rowA (Enc.int .u8) A6 c7 v5] [slA Rp0 (Enc.int .u8) Ap0 cp0 p0, slA Rp1 (Enc.int .u8) Ap1 cp1 p1] := hS.takeX 1
  replace hS : Own w0 D R _ [rowA (Enc.int .u8) A6 c7 v5] [] := hS.dropS forall0
  obtain rfl := Option.some.inj hM
  refine ret_v (.slice A6 v5.length c7) (by kernel_rfl) ⟨A6, c7, rfl, hS⟩

end Go.Proofs.Ytknkonhdbmeolaa
