/- The Go functions come to what their models say (Ref). -/
import Derived.Test.YtknkonhdbmeolaaTy
import Derived.Test.YtknkonhdbmeolaaMRef
namespace Go.Proofs.Ytknkonhdbmeolaa
open Go Go.Lift
set_option maxRecDepth 100000
set_option maxHeartbeats 4000000
set_option linter.unusedVariables false

theorem intaglioref01_Both_W {w0 w : World} {D R : Nat → Prop} {Rp0 : Nat → Prop} {Ap0 : Option Addr} {cp0 : Nat} {Rp1 : Nat → Prop} {Ap1 : Option Addr} {cp1 : Nat} {p0 : List Int} {p1 : List Int} {r0 : List Int} (hS : Own w0 D R w [] [slA Rp0 (Enc.int .u8) Ap0 cp0 p0, slA Rp1 (Enc.int .u8) Ap1 cp1 p1]) (hD : ∀ b, ¬ D b) (hM : intaglioref01_Both_M p0 p1 = some r0) :
    Calls Go.Proofs.Try.prog 22 #[.slice Ap0 p0.length cp0, .slice Ap1 p1.length cp1] w (fun e w' => ∃ (ZA1 : Option Addr) (Zc2 : Nat), e = .returned (.slice ZA1 r0.length Zc2) ∧ Own w0 D R w' [rowA (Enc.int .u8) ZA1 Zc2 r0] []) := by
  refine enter (fn := Go.Proofs.Try.f22) [.slice Ap0 p0.length cp0, .slice Ap1 p1.length cp1, undef, undef, undef, undef, undef, undef, undef, undef, undef, undef] (by kernel_rfl) rfl (by kernel_rfl) ?_
  unfold intaglioref01_Both_M at hM
  refine wp_seq ?_
  refine wp_reg ?_
  refine segEnd [.slice Ap0 p0.length cp0, .slice Ap1 p1.length cp1, undef, undef, .slice none 0 0, undef, undef, undef, undef, undef, undef, undef] (by kernel_rfl) ?_
  refine then_normal ?_
  refine wp_seq ?_
  refine wp_reg ?_
  refine segEnd [.slice Ap0 p0.length cp0, .slice Ap1 p1.length cp1, undef, undef, .slice none 0 0, .slice none 0 0, undef, undef, undef, undef, undef, undef] (by kernel_rfl) ?_
  refine then_normal ?_
  refine wp_seq ?_
  refine wp_reg ?_
  refine seg 2 [.slice Ap0 p0.length cp0, .slice Ap1 p1.length cp1, undef, undef, .slice none 0 0, .slice none 0 0, .slice none 0 0, .slice Ap0 p0.length cp0, undef, undef, undef, undef] (by kernel_rfl) ?_
  replace hM := bind_some hM
  obtain ⟨_, h1, hM⟩ := hM
  replace hS : Own w0 D R _ [rowA (Enc.int .u8) none 0 []] [slA Rp0 (Enc.int .u8) Ap0 cp0 p0, slA Rp1 (Enc.int .u8) Ap1 cp1 p1] := hS.addNil (Enc.int .u8)
  refine s_append (.tmp 6) (.tmp 7) 22 22 5 1 (.slice Ap0 p0.length cp0) (e := (Enc.int .u8)) (xs := []) (ys := p0) rfl u22 el5 (by kernel_rfl) (by kernel_rfl) (by kernel_rfl) hS ((SlR.of_sl (hS.sl_mem (List.Mem.head _))).src u22) (room_some h1).1 (room_some h1).2 (fun A2 c3 _ hS => ?_)
  refine segEnd [.slice Ap0 p0.length cp0, .slice Ap1 p1.length cp1, undef, undef, .slice none 0 0, .slice A2 (([] ++ p0).length) c3, .slice none 0 0, .slice Ap0 p0.length cp0, .slice A2 (([] ++ p0).length) c3, undef, undef, undef] (by kernel_rfl) ?_
  refine then_normal ?_
  refine wp_seq ?_
  refine wp_reg ?_
  refine seg 2 [.slice Ap0 p0.length cp0, .slice Ap1 p1.length cp1, undef, undef, .slice none 0 0, .slice A2 (([] ++ p0).length) c3, .slice none 0 0, .slice Ap0 p0.length cp0, .slice A2 (([] ++ p0).length) c3, .slice A2 (([] ++ p0).length) c3, .slice Ap1 p1.length cp1, undef] (by kernel_rfl) ?_
  replace hM := bind_some hM
  obtain ⟨_, h4, hM⟩ := hM
  refine s_append (.tmp 9) (.tmp 10) 22 22 5 1 (.slice Ap1 p1.length cp1) (e := (Enc.int .u8)) (xs := ([] ++ p0)) (ys := p1) rfl u22 el5 (by kernel_rfl) (by kernel_rfl) (by kernel_rfl) hS ((SlR.of_sl (hS.sl_mem (List.Mem.tail _ (List.Mem.head _)))).src u22) (room_some h4).1 (room_some h4).2 (fun A5 c6 _ hS => ?_)
  refine segEnd [.slice Ap0 p0.length cp0, .slice Ap1 p1.length cp1, undef, undef, .slice A5 ((([] ++ p0) ++ p1).length) c6, .slice A2 (([] ++ p0).length) c3, .slice none 0 0, .slice Ap0 p0.length cp0, .slice A2 (([] ++ p0).length) c3, .slice A2 (([] ++ p0).length) c3, .slice Ap1 p1.length cp1, .slice A5 ((([] ++ p0) ++ p1).length) c6] (by kernel_rfl) ?_
  refine then_normal ?_
  refine wp_ret ?_
  replace hS : Own w0 D R _ [rowA (Enc.int .u8) A5 c6 (([] ++ p0) ++ p1)] [] := hS.dropS forall0
  obtain rfl := Option.some.inj hM
  refine ret_v (.slice A5 ((([] ++ p0) ++ p1).length) c6) (by kernel_rfl) ⟨A5, c6, rfl, hS⟩

theorem intaglioref01_Low_W {w0 w : World} {D R : Nat → Prop} {p0 : Int} {p1 : Int} {r0 : List Int} (hS : Own w0 D R w [] []) (hD : ∀ b, ¬ D b) (hM : intaglioref01_Low_M p0 p1 = some r0) :
    Calls Go.Proofs.Try.prog 23 #[.int .u64 p0, .int .i64 p1] w (fun e w' => ∃ (ZA1 : Option Addr) (Zc2 : Nat), e = .returned (.slice ZA1 r0.length Zc2) ∧ Own w0 D R w' [rowA (Enc.int .u8) ZA1 Zc2 r0] []) := by
  refine enter (fn := Go.Proofs.Try.f23) [.int .u64 p0, .int .i64 p1, undef, undef, undef, undef, undef, undef, undef, undef, undef, undef, undef, undef, undef, undef, undef, undef, undef, undef, undef] (by kernel_rfl) rfl (by kernel_rfl) ?_
  unfold intaglioref01_Low_M at hM
  refine wp_seq ?_
  refine wp_reg ?_
  refine segEnd [.int .u64 p0, .int .i64 p1, undef, undef, .slice none 0 0, undef, undef, undef, undef, undef, undef, undef, undef, undef, undef, undef, undef, undef, undef, undef, undef] (by kernel_rfl) ?_
  refine then_normal ?_
  refine wp_seq ?_
  refine wp_reg ?_
  refine segEnd [.int .u64 p0, .int .i64 p1, undef, undef, .slice none 0 0, .slice none 0 0, undef, undef, undef, undef, undef, undef, undef, undef, undef, undef, undef, undef, undef, undef, undef] (by kernel_rfl) ?_
  refine then_normal ?_
  refine wp_join (fun a w => ∃ (A38 : Option Addr) (c39 : Nat) (G41 : Nat → Value) (l40 : List Int), a = Fr [(G41 0), (G41 1), undef, undef, (G41 2), .slice A38 l40.length c39, (G41 3), (G41 4), (G41 5), (G41 6), (G41 7), (G41 8), (G41 9), (G41 10), (G41 11), (G41 12), (G41 13), (G41 14), (G41 15), (G41 16), undef] ∧ Own w0 D R w [rowA (Enc.int .u8) A38 c39 l40] [] ∧ intaglioref01_Low_J1 l40 = some r0) ?_ ?_
  ·
    refine wp_seq ?_
    refine wp_reg ?_
    refine segEnd [.int .u64 p0, .int .i64 p1, undef, undef, .slice none 0 0, .slice none 0 0, .int .i64 0, undef, undef, undef, undef, undef, undef, undef, undef, undef, undef, undef, undef, undef, undef] (by kernel_rfl) ?_
    refine then_normal ?_
    refine wp_block ?_
    replace hM := bind_some hM
    obtain ⟨q24, hL25, hM⟩ := hM
    replace hS : Own w0 D R _ [rowA (Enc.int .u8) none 0 []] [] := hS.addNil (Enc.int .u8)
    refine wp_loop_model (fun (s : (Int × (List Int) × Int)) a w => ∃ (A27 : Option Addr) (c28 : Nat) (G31 : Nat → Value) (x26 : Int) (l29 : List Int) (x30 : Int), s = (x26, l29, x30) ∧ a = Fr [.int .u64 x26, .int .i64 p1, undef, undef, (G31 0), .slice A27 l29.length c28, .int .i64 x30, (G31 1), (G31 2), (G31 3), (G31 4), (G31 5), (G31 6), (G31 7), (G31 8), (G31 9), (G31 10), (G31 11), (G31 12), (G31 13), undef] ∧ Own w0 D R w [rowA (Enc.int .u8) A27 c28 l29] []) ?_ hL25 ?_
    · rintro _ a w ⟨A27, c28, G31, x26, l29, x30, rfl, rfl, hS⟩ o22 hM1 hout23
      replace hM1 : intaglioref01_Low_L1 p1 x26 l29 x30 = some o22 := hM1
      unfold intaglioref01_Low_L1 at hM1
      refine wp_seq ?_
      refine wp_seq ?_
      refine wp_reg ?_
      refine segEnd [.int .u64 x26, .int .i64 p1, undef, undef, (G31 0), .slice A27 l29.length c28, .int .i64 x30, .int .i64 x30, .int .i64 p1, .bool (decide (x30 < p1)), (G31 4), (G31 5), (G31 6), (G31 7), (G31 8), (G31 9), (G31 10), (G31 11), (G31 12), (G31 13), undef] (by kernel_rfl) ?_
      refine then_normal ?_
      refine wp_cond_split (t := decide (x30 < p1)) (by kernel_rfl) (fun hc32 => ?_) (fun hc32 => ?_)
      · replace hM1 := (if_pos hc32).symm.trans hM1
        refine wp_skip ?_
        refine then_normal ?_
        refine wp_seq ?_
        refine wp_block ?_
        refine wp_seq ?_
        refine wp_reg ?_
        refine seg 4 [.int .u64 x26, .int .i64 p1, undef, undef, (G31 0), .slice A27 l29.length c28, .int .i64 x30, .int .i64 x30, .int .i64 p1, .bool (decide (x30 < p1)), (G31 4), (G31 5), .slice A27 l29.length c28, .int .u64 x26, .int .u64 (Int.tmod x26 256), .int .u8 (IntKind.u8.wrap ((Int.tmod x26 256))), (G31 10), (G31 11), (G31 12), (G31 13), undef] (by kernel_rfl) ?_
        refine s_lit 22 5 1 1 #[(0, .tmp 15)] (e := (Enc.int .u8)) ([(IntKind.u8.wrap ((Int.tmod x26 256)))] : List Int) (.int .u8 0) rfl u22 (by kernel_rfl) (by decide) rfl (by kernel_rfl) (by kernel_rfl) hS (fun A33 c34 _ hS => ?_)
        replace hM1 := bind_some hM1
        obtain ⟨_, h35, hM1⟩ := hM1
        replace hS : Own w0 D R _ [rowA (Enc.int .u8) A27 c28 l29, rowA (Enc.int .u8) A33 c34 [(IntKind.u8.wrap ((Int.tmod x26 256)))]] [] := hS.pick 1 rfl
        refine s_append (.tmp 12) (.tmp 16) 22 22 5 1 (.slice A33 ([(IntKind.u8.wrap ((Int.tmod x26 256)))].length) c34) (e := (Enc.int .u8)) (xs := l29) (ys := [(IntKind.u8.wrap ((Int.tmod x26 256)))]) rfl u22 el5 (by kernel_rfl) (by kernel_rfl) (by kernel_rfl) hS ((SlR.of_row (hS.row_mem (List.Mem.tail _ (List.Mem.head _)))).src u22) (room_some h35).1 (room_some h35).2 (fun A36 c37 _ hS => ?_)
        refine segEnd [.int .u64 x26, .int .i64 p1, undef, undef, (G31 0), .slice A36 ((l29 ++ [(IntKind.u8.wrap ((Int.tmod x26 256)))]).length) c37, .int .i64 x30, .int .i64 x30, .int .i64 p1, .bool (decide (x30 < p1)), (G31 4), (G31 5), .slice A27 l29.length c28, .int .u64 x26, .int .u64 (Int.tmod x26 256), .int .u8 (IntKind.u8.wrap ((Int.tmod x26 256))), .slice A33 ([(IntKind.u8.wrap ((Int.tmod x26 256)))].length) c34, .slice A36 ((l29 ++ [(IntKind.u8.wrap ((Int.tmod x26 256)))]).length) c37, (G31 12), (G31 13), undef] (by kernel_rfl) ?_
        refine then_normal ?_
        refine wp_reg ?_
        refine segEnd [.int .u64 (IntKind.u64.wrap (Int.tdiv x26 256)), .int .i64 p1, undef, undef, (G31 0), .slice A36 ((l29 ++ [(IntKind.u8.wrap ((Int.tmod x26 256)))]).length) c37, .int .i64 x30, .int .i64 x30, .int .i64 p1, .bool (decide (x30 < p1)), (G31 4), (G31 5), .slice A27 l29.length c28, .int .u64 x26, .int .u64 (Int.tmod x26 256), .int .u8 (IntKind.u8.wrap ((Int.tmod x26 256))), .slice A33 ([(IntKind.u8.wrap ((Int.tmod x26 256)))].length) c34, .slice A36 ((l29 ++ [(IntKind.u8.wrap ((Int.tmod x26 256)))]).length) c37, .int .u64 x26, .int .u64 (IntKind.u64.wrap (Int.tdiv x26 256)), undef] (by kernel_rfl) ?_
        refine in_normal ?_
        refine then_normal ?_
        refine wp_reg ?_
        refine segEnd [.int .u64 (IntKind.u64.wrap (Int.tdiv x26 256)), .int .i64 p1, undef, undef, (G31 0), .slice A36 ((l29 ++ [(IntKind.u8.wrap ((Int.tmod x26 256)))]).length) c37, .int .i64 (IntKind.i64.wrap (x30 + 1)), .int .i64 x30, .int .i64 p1, .bool (decide (x30 < p1)), .int .i64 x30, .int .i64 (IntKind.i64.wrap (x30 + 1)), .slice A27 l29.length c28, .int .u64 x26, .int .u64 (Int.tmod x26 256), .int .u8 (IntKind.u8.wrap ((Int.tmod x26 256))), .slice A33 ([(IntKind.u8.wrap ((Int.tmod x26 256)))].length) c34, .slice A36 ((l29 ++ [(IntKind.u8.wrap ((Int.tmod x26 256)))]).length) c37, .int .u64 x26, .int .u64 (IntKind.u64.wrap (Int.tdiv x26 256)), undef] (by kernel_rfl) ?_
        refine then_normal ?_
        replace hS : Own w0 D R _ [rowA (Enc.int .u8) A36 c37 (l29 ++ [(IntKind.u8.wrap ((Int.tmod x26 256)))])] [] := hS.takeX 1
        exact ⟨((IntKind.u64.wrap (Int.tdiv x26 256)), (l29 ++ [(IntKind.u8.wrap ((Int.tmod x26 256)))]), (IntKind.i64.wrap (x30 + 1))), (Option.some.inj hM1).symm, A36, c37, (fun i => ([(G31 0), .int .i64 x30, .int .i64 p1, .bool (decide (x30 < p1)), .int .i64 x30, .int .i64 (IntKind.i64.wrap (x30 + 1)), .slice A27 l29.length c28, .int .u64 x26, .int .u64 (Int.tmod x26 256), .int .u8 (IntKind.u8.wrap ((Int.tmod x26 256))), .slice A33 ([(IntKind.u8.wrap ((Int.tmod x26 256)))].length) c34, .slice A36 ((l29 ++ [(IntKind.u8.wrap ((Int.tmod x26 256)))]).length) c37, .int .u64 x26, .int .u64 (IntKind.u64.wrap (Int.tdiv x26 256))] : List Value).getD i undef), (IntKind.u64.wrap (Int.tdiv x26 256)), (l29 ++ [(IntKind.u8.wrap ((Int.tmod x26 256)))]), (IntKind.i64.wrap (x30 + 1)), rfl, (by kernel_rfl), hS⟩
      · replace hM1 := (if_neg (Bool.eq_false_iff.1 hc32)).symm.trans hM1
        refine wp_exit ?_
        refine then_exit ?_
        refine then_exit ?_
        have hr43 := hout23 _ (Option.some.inj hM1).symm
        subst hr43
        refine in_exit_eq ?_
        refine then_normal ?_
        exact ⟨A27, c28, (fun i => ([.int .u64 x26, .int .i64 p1, (G31 0), .int .i64 x30, .int .i64 x30, .int .i64 p1, .bool (decide (x30 < p1)), (G31 4), (G31 5), (G31 6), (G31 7), (G31 8), (G31 9), (G31 10), (G31 11), (G31 12), (G31 13)] : List Value).getD i undef), l29, (by kernel_rfl), hS, hM⟩
    · exact ⟨none, 0, (fun i => ([.slice none 0 0, undef, undef, undef, undef, undef, undef, undef, undef, undef, undef, undef, undef, undef] : List Value).getD i undef), p0, [], 0, rfl, (by kernel_rfl), hS⟩
  · rintro a w ⟨A38, c39, G41, l40, rfl, hS, hM⟩
    unfold intaglioref01_Low_J1 at hM
    refine wp_seq ?_
    refine wp_reg ?_
    refine segEnd [(G41 0), (G41 1), undef, undef, .slice A38 l40.length c39, .slice A38 l40.length c39, (G41 3), (G41 4), (G41 5), (G41 6), (G41 7), (G41 8), (G41 9), (G41 10), (G41 11), (G41 12), (G41 13), (G41 14), (G41 15), (G41 16), .slice A38 l40.length c39] (by kernel_rfl) ?_
    refine then_normal ?_
    refine wp_ret ?_
    replace hS : Own w0 D R _ [rowA (Enc.int .u8) A38 c39 l40] [] := hS.dropS forall0
    obtain rfl := Option.some.inj hM
    refine ret_v (.slice A38 l40.length c39) (by kernel_rfl) ⟨A38, c39, rfl, hS⟩

theorem intaglioref01_High_W {w0 w : World} {D R : Nat → Prop} {p0 : Int} {p1 : Int} {r0 : List Int} (hS : Own w0 D R w [] []) (hD : ∀ b, ¬ D b) (hM : intaglioref01_High_M p0 p1 = some r0) :
    Calls Go.Proofs.Try.prog 46 #[.int .u64 p0, .int .i64 p1] w (fun e w' => ∃ (ZA1 : Option Addr) (Zc2 : Nat), e = .returned (.slice ZA1 r0.length Zc2) ∧ Own w0 D R w' [rowA (Enc.int .u8) ZA1 Zc2 r0] []) := by
  refine enter (fn := Go.Proofs.Try.f46) [.int .u64 p0, .int .i64 p1, undef, undef, undef, undef, undef, undef, undef, undef, undef, undef, undef, undef, undef, undef, undef, undef, undef, undef, undef, undef, undef, undef, undef, undef] (by kernel_rfl) rfl (by kernel_rfl) ?_
  unfold intaglioref01_High_M at hM
  refine wp_seq ?_
  refine wp_reg ?_
  refine segEnd [.int .u64 p0, .int .i64 p1, undef, undef, .slice none 0 0, undef, undef, undef, undef, undef, undef, undef, undef, undef, undef, undef, undef, undef, undef, undef, undef, undef, undef, undef, undef, undef] (by kernel_rfl) ?_
  refine then_normal ?_
  refine wp_seq ?_
  refine wp_reg ?_
  refine seg 1 [.int .u64 p0, .int .i64 p1, undef, undef, .slice none 0 0, undef, undef, .int .i64 p1, undef, undef, undef, undef, undef, undef, undef, undef, undef, undef, undef, undef, undef, undef, undef, undef, undef, undef] (by kernel_rfl) ?_
  replace hM := bind_some hM
  obtain ⟨m1, h2, hM⟩ := hM
  refine s_make (e := (Enc.int .u8)) 22 5 1 (.tmp 7) (.tmp 7) .i64 .i64 p1 m1 (0 : Int) (.int .u8 0) rfl u22 (by kernel_rfl) rfl rfl rfl (by kernel_rfl) (by kernel_rfl) (by kernel_rfl) h2 hS (fun A3 c4 _ hS => ?_)
  refine segEnd [.int .u64 p0, .int .i64 p1, undef, undef, .slice none 0 0, .slice A3 ((List.replicate m1 (0 : Int)).length) c4, undef, .int .i64 p1, .slice A3 ((List.replicate m1 (0 : Int)).length) c4, undef, undef, undef, undef, undef, undef, undef, undef, undef, undef, undef, undef, undef, undef, undef, undef, undef] (by kernel_rfl) ?_
  refine then_normal ?_
  refine wp_join (fun a w => ∃ (A42 : Option Addr) (c43 : Nat) (G45 : Nat → Value) (l44 : List Int), a = Fr [(G45 0), (G45 1), undef, undef, (G45 2), .slice A42 l44.length c43, (G45 3), (G45 4), (G45 5), (G45 6), (G45 7), (G45 8), (G45 9), (G45 10), (G45 11), (G45 12), (G45 13), (G45 14), (G45 15), (G45 16), (G45 17), (G45 18), (G45 19), (G45 20), (G45 21), undef] ∧ Own w0 D R w [rowA (Enc.int .u8) A42 c43 l44] [] ∧ intaglioref01_High_J1 l44 = some r0) ?_ ?_
  ·
    refine wp_seq ?_
    refine wp_reg ?_
    refine segEnd [.int .u64 p0, .int .i64 p1, undef, undef, .slice none 0 0, .slice A3 ((List.replicate m1 (0 : Int)).length) c4, .int .i64 0, .int .i64 p1, .slice A3 ((List.replicate m1 (0 : Int)).length) c4, undef, undef, undef, undef, undef, undef, undef, undef, undef, undef, undef, undef, undef, undef, undef, undef, undef] (by kernel_rfl) ?_
    refine then_normal ?_
    refine wp_block ?_
    replace hM := bind_some hM
    obtain ⟨q28, hL29, hM⟩ := hM
    refine wp_loop_model (fun (s : (Int × (List Int) × Int)) a w => ∃ (A31 : Option Addr) (c32 : Nat) (G35 : Nat → Value) (x30 : Int) (l33 : List Int) (x34 : Int), s = (x30, l33, x34) ∧ a = Fr [.int .u64 x30, .int .i64 p1, undef, undef, (G35 0), .slice A31 l33.length c32, .int .i64 x34, (G35 1), (G35 2), (G35 3), (G35 4), (G35 5), (G35 6), (G35 7), (G35 8), (G35 9), (G35 10), (G35 11), (G35 12), (G35 13), (G35 14), (G35 15), (G35 16), (G35 17), (G35 18), undef] ∧ Own w0 D R w [rowA (Enc.int .u8) A31 c32 l33] []) ?_ hL29 ?_
    · rintro _ a w ⟨A31, c32, G35, x30, l33, x34, rfl, rfl, hS⟩ o26 hM1 hout27
      replace hM1 : intaglioref01_High_L1 p1 x30 l33 x34 = some o26 := hM1
      unfold intaglioref01_High_L1 at hM1
      refine wp_seq ?_
      refine wp_seq ?_
      refine wp_reg ?_
      refine segEnd [.int .u64 x30, .int .i64 p1, undef, undef, (G35 0), .slice A31 l33.length c32, .int .i64 x34, (G35 1), (G35 2), .int .i64 x34, .int .i64 p1, .bool (decide (x34 < p1)), (G35 6), (G35 7), (G35 8), (G35 9), (G35 10), (G35 11), (G35 12), (G35 13), (G35 14), (G35 15), (G35 16), (G35 17), (G35 18), undef] (by kernel_rfl) ?_
      refine then_normal ?_
      refine wp_cond_split (t := decide (x34 < p1)) (by kernel_rfl) (fun hc36 => ?_) (fun hc36 => ?_)
      · replace hM1 := (if_pos hc36).symm.trans hM1
        refine wp_skip ?_
        refine then_normal ?_
        refine wp_seq ?_
        refine wp_block ?_
        refine wp_seq ?_
        refine wp_reg ?_
        refine seg 8 [.int .u64 x30, .int .i64 p1, undef, undef, (G35 0), .slice A31 l33.length c32, .int .i64 x34, (G35 1), (G35 2), .int .i64 x34, .int .i64 p1, .bool (decide (x34 < p1)), (G35 6), (G35 7), .slice A31 l33.length c32, .int .i64 p1, .int .i64 (IntKind.i64.wrap (p1 - 1)), .int .i64 x34, .int .i64 (IntKind.i64.wrap ((IntKind.i64.wrap (p1 - 1)) - x34)), .int .u64 x30, .int .u64 (Int.tmod x30 256), .int .u8 (IntKind.u8.wrap ((Int.tmod x30 256))), (G35 16), (G35 17), (G35 18), undef] (by kernel_rfl) ?_
        replace hM1 := bind_some hM1
        obtain ⟨y37, h38, hM1⟩ := hM1
        have hi41 := ix_some h38
        refine s_index (A := A31) (cap := c32) (.tmp 14) (.tmp 18) 22 5 1 .i64 (IntKind.i64.wrap ((IntKind.i64.wrap (p1 - 1)) - x34)) rfl u22 el5 (by kernel_rfl) (by kernel_rfl) (by kernel_rfl) (SlR.of_row (hS.row_mem (List.Mem.head _))) hi41.1 hi41.2.1 (fun p39 hp40 => ?_)
        refine s_store_el (.tmp 22) (.tmp 21) 5 1 p39 _ (IntKind.u8.wrap ((Int.tmod x30 256))) rfl el5 (by kernel_rfl) (by kernel_rfl) (by kernel_rfl) hp40 (by have := hi41.1; have := hi41.2.1; omega) hS (fun _ hS => ?_)
        refine fr_eq [.int .u64 x30, .int .i64 p1, undef, undef, (G35 0), .slice A31 ((l33.set (Int.toNat (IntKind.i64.wrap ((IntKind.i64.wrap (p1 - 1)) - x34))) (IntKind.u8.wrap ((Int.tmod x30 256)))).length) c32, .int .i64 x34, (G35 1), (G35 2), .int .i64 x34, .int .i64 p1, .bool (decide (x34 < p1)), (G35 6), (G35 7), .slice A31 ((l33.set (Int.toNat (IntKind.i64.wrap ((IntKind.i64.wrap (p1 - 1)) - x34))) (IntKind.u8.wrap ((Int.tmod x30 256)))).length) c32, .int .i64 p1, .int .i64 (IntKind.i64.wrap (p1 - 1)), .int .i64 x34, .int .i64 (IntKind.i64.wrap ((IntKind.i64.wrap (p1 - 1)) - x34)), .int .u64 x30, .int .u64 (Int.tmod x30 256), .int .u8 (IntKind.u8.wrap ((Int.tmod x30 256))), .pointer (some p39), (G35 17), (G35 18), undef] [.int .u64 x30, .int .i64 p1, undef, undef, (G35 0), .slice A31 l33.length c32, .int .i64 x34, (G35 1), (G35 2), .int .i64 x34, .int .i64 p1, .bool (decide (x34 < p1)), (G35 6), (G35 7), .slice A31 l33.length c32, .int .i64 p1, .int .i64 (IntKind.i64.wrap (p1 - 1)), .int .i64 x34, .int .i64 (IntKind.i64.wrap ((IntKind.i64.wrap (p1 - 1)) - x34)), .int .u64 x30, .int .u64 (Int.tmod x30 256), .int .u8 (IntKind.u8.wrap ((Int.tmod x30 256))), .pointer (some p39), (G35 17), (G35 18), undef] (by kernel_rfl) (by simp only [List.length_set]) ?_
        refine wl_nil ?_
        refine then_normal ?_
        refine wp_reg ?_
        refine segEnd [.int .u64 (IntKind.u64.wrap (Int.tdiv x30 256)), .int .i64 p1, undef, undef, (G35 0), .slice A31 ((l33.set (Int.toNat (IntKind.i64.wrap ((IntKind.i64.wrap (p1 - 1)) - x34))) (IntKind.u8.wrap ((Int.tmod x30 256)))).length) c32, .int .i64 x34, (G35 1), (G35 2), .int .i64 x34, .int .i64 p1, .bool (decide (x34 < p1)), (G35 6), (G35 7), .slice A31 ((l33.set (Int.toNat (IntKind.i64.wrap ((IntKind.i64.wrap (p1 - 1)) - x34))) (IntKind.u8.wrap ((Int.tmod x30 256)))).length) c32, .int .i64 p1, .int .i64 (IntKind.i64.wrap (p1 - 1)), .int .i64 x34, .int .i64 (IntKind.i64.wrap ((IntKind.i64.wrap (p1 - 1)) - x34)), .int .u64 x30, .int .u64 (Int.tmod x30 256), .int .u8 (IntKind.u8.wrap ((Int.tmod x30 256))), .pointer (some p39), .int .u64 x30, .int .u64 (IntKind.u64.wrap (Int.tdiv x30 256)), undef] (by kernel_rfl) ?_
        refine in_normal ?_
        refine then_normal ?_
        refine wp_reg ?_
        refine segEnd [.int .u64 (IntKind.u64.wrap (Int.tdiv x30 256)), .int .i64 p1, undef, undef, (G35 0), .slice A31 ((l33.set (Int.toNat (IntKind.i64.wrap ((IntKind.i64.wrap (p1 - 1)) - x34))) (IntKind.u8.wrap ((Int.tmod x30 256)))).length) c32, .int .i64 (IntKind.i64.wrap (x34 + 1)), (G35 1), (G35 2), .int .i64 x34, .int .i64 p1, .bool (decide (x34 < p1)), .int .i64 x34, .int .i64 (IntKind.i64.wrap (x34 + 1)), .slice A31 ((l33.set (Int.toNat (IntKind.i64.wrap ((IntKind.i64.wrap (p1 - 1)) - x34))) (IntKind.u8.wrap ((Int.tmod x30 256)))).length) c32, .int .i64 p1, .int .i64 (IntKind.i64.wrap (p1 - 1)), .int .i64 x34, .int .i64 (IntKind.i64.wrap ((IntKind.i64.wrap (p1 - 1)) - x34)), .int .u64 x30, .int .u64 (Int.tmod x30 256), .int .u8 (IntKind.u8.wrap ((Int.tmod x30 256))), .pointer (some p39), .int .u64 x30, .int .u64 (IntKind.u64.wrap (Int.tdiv x30 256)), undef] (by kernel_rfl) ?_
        refine then_normal ?_
        exact ⟨((IntKind.u64.wrap (Int.tdiv x30 256)), (l33.set (Int.toNat (IntKind.i64.wrap ((IntKind.i64.wrap (p1 - 1)) - x34))) (IntKind.u8.wrap ((Int.tmod x30 256)))), (IntKind.i64.wrap (x34 + 1))), (Option.some.inj hM1).symm, A31, c32, (fun i => ([(G35 0), (G35 1), (G35 2), .int .i64 x34, .int .i64 p1, .bool (decide (x34 < p1)), .int .i64 x34, .int .i64 (IntKind.i64.wrap (x34 + 1)), .slice A31 ((l33.set (Int.toNat (IntKind.i64.wrap ((IntKind.i64.wrap (p1 - 1)) - x34))) (IntKind.u8.wrap ((Int.tmod x30 256)))).length) c32, .int .i64 p1, .int .i64 (IntKind.i64.wrap (p1 - 1)), .int .i64 x34, .int .i64 (IntKind.i64.wrap ((IntKind.i64.wrap (p1 - 1)) - x34)), .int .u64 x30, .int .u64 (Int.tmod x30 256), .int .u8 (IntKind.u8.wrap ((Int.tmod x30 256))), .pointer (some p39), .int .u64 x30, .int .u64 (IntKind.u64.wrap (Int.tdiv x30 256))] : List Value).getD i undef), (IntKind.u64.wrap (Int.tdiv x30 256)), (l33.set (Int.toNat (IntKind.i64.wrap ((IntKind.i64.wrap (p1 - 1)) - x34))) (IntKind.u8.wrap ((Int.tmod x30 256)))), (IntKind.i64.wrap (x34 + 1)), rfl, (by kernel_rfl), hS⟩
      · replace hM1 := (if_neg (Bool.eq_false_iff.1 hc36)).symm.trans hM1
        refine wp_exit ?_
        refine then_exit ?_
        refine then_exit ?_
        have hr47 := hout27 _ (Option.some.inj hM1).symm
        subst hr47
        refine in_exit_eq ?_
        refine then_normal ?_
        exact ⟨A31, c32, (fun i => ([.int .u64 x30, .int .i64 p1, (G35 0), .int .i64 x34, (G35 1), (G35 2), .int .i64 x34, .int .i64 p1, .bool (decide (x34 < p1)), (G35 6), (G35 7), (G35 8), (G35 9), (G35 10), (G35 11), (G35 12), (G35 13), (G35 14), (G35 15), (G35 16), (G35 17), (G35 18)] : List Value).getD i undef), l33, (by kernel_rfl), hS, hM⟩
    · exact ⟨A3, c4, (fun i => ([.slice none 0 0, .int .i64 p1, .slice A3 ((List.replicate m1 (0 : Int)).length) c4, undef, undef, undef, undef, undef, undef, undef, undef, undef, undef, undef, undef, undef, undef, undef, undef] : List Value).getD i undef), p0, (List.replicate m1 (0 : Int)), 0, rfl, (by kernel_rfl), hS⟩
  · rintro a w ⟨A42, c43, G45, l44, rfl, hS, hM⟩
    unfold intaglioref01_High_J1 at hM
    refine wp_seq ?_
    refine wp_reg ?_
    refine segEnd [(G45 0), (G45 1), undef, undef, .slice A42 l44.length c43, .slice A42 l44.length c43, (G45 3), (G45 4), (G45 5), (G45 6), (G45 7), (G45 8), (G45 9), (G45 10), (G45 11), (G45 12), (G45 13), (G45 14), (G45 15), (G45 16), (G45 17), (G45 18), (G45 19), (G45 20), (G45 21), .slice A42 l44.length c43] (by kernel_rfl) ?_
    refine then_normal ?_
    refine wp_ret ?_
    replace hS : Own w0 D R _ [rowA (Enc.int .u8) A42 c43 l44] [] := hS.dropS forall0
    obtain rfl := Option.some.inj hM
    refine ret_v (.slice A42 l44.length c43) (by kernel_rfl) ⟨A42, c43, rfl, hS⟩

theorem intaglioref01_Put32_W {w0 w : World} {D R : Nat → Prop} {Rp0 : Nat → Prop} {Ap0 : Option Addr} {cp0 : Nat} {p0 : List Int} {p1 : Int} {r0 : List Int} (hS : Own w0 D R w [] [slA Rp0 (Enc.int .u8) Ap0 cp0 p0]) (hD : ∀ b, ¬ D b) (hM : intaglioref01_Put32_M p0 p1 = some r0) :
    Calls Go.Proofs.Try.prog 16 #[.slice Ap0 p0.length cp0, .int .u32 p1] w (fun e w' => ∃ (ZA1 : Option Addr) (Zc2 : Nat), e = .returned (.slice ZA1 r0.length Zc2) ∧ Own w0 D R w' [rowA (Enc.int .u8) ZA1 Zc2 r0] []) := by
  refine enter (fn := Go.Proofs.Try.f16) [.slice Ap0 p0.length cp0, .int .u32 p1, undef, undef, undef, undef, undef, undef, undef, undef] (by kernel_rfl) rfl (by kernel_rfl) ?_
  unfold intaglioref01_Put32_M at hM
  refine wp_seq ?_
  refine wp_reg ?_
  refine segEnd [.slice Ap0 p0.length cp0, .int .u32 p1, undef, undef, .slice none 0 0, undef, undef, undef, undef, undef] (by kernel_rfl) ?_
  refine then_normal ?_
  refine wp_seq ?_
  refine wp_reg ?_
  refine seg 3 [.slice Ap0 p0.length cp0, .int .u32 p1, undef, undef, .slice none 0 0, .slice Ap0 p0.length cp0, .int .u32 p1, .int .u64 (IntKind.u64.wrap (p1)), undef, undef] (by kernel_rfl) ?_
  replace hM := bind_some hM
  obtain ⟨v1, h4, hM⟩ := hM
  have hP := Own.pre (Xi := []) (X := []) (Si := []) hS forall0 forall0
  refine s_call 46 #[.int .u64 (IntKind.u64.wrap (p1)), .int .i64 4] (by kernel_rfl) (by kernel_rfl) ((intaglioref01_High_W hP doms_nil h4).mono ?_)
  rintro _ _ ⟨A2, c3, rfl, hQ⟩
  replace hS : Own w0 D R _ [rowA (Enc.int .u8) A2 c3 v1] [slA Rp0 (Enc.int .u8) Ap0 cp0 p0] := hS.post hQ (.inl rfl)
  clear hP hQ
  refine ⟨_, rfl, ?_⟩
  replace hM := bind_some hM
  obtain ⟨v5, h8, hM⟩ := hM
  have hP := Own.pre (Xi := []) (X := [rowA (Enc.int .u8) A2 c3 v1]) (Si := [slA Rp0 (Enc.int .u8) Ap0 cp0 p0, slA (blkOf A2) (Enc.int .u8) A2 c3 v1]) hS (forall2 (hS.sl_mem (List.Mem.head _)) (forall2 (sl_of_row (hS.row_mem (List.Mem.head _))) forall0)) (forall2 (fun _ h => .inl ⟨_, (List.Mem.head _), h⟩) (forall2 (fun _ h => .inr ⟨_, (List.Mem.head _), h⟩) forall0))
  refine s_call 22 #[.slice Ap0 p0.length cp0, .slice A2 v1.length c3] (by kernel_rfl) (by kernel_rfl) ((intaglioref01_Both_W hP doms_nil h8).mono ?_)
  rintro _ _ ⟨A6, c7, rfl, hQ⟩
  replace hS : Own w0 D R _ [rowA (Enc.int .u8) A6 c7 v5, rowA (Enc.int .u8) A2 c3 v1] [slA Rp0 (Enc.int .u8) Ap0 cp0 p0] := hS.post hQ (.inl rfl)
  clear hP hQ
  refine ⟨_, rfl, ?_⟩
  refine segEnd [.slice Ap0 p0.length cp0, .int .u32 p1, undef, undef, .slice A6 v5.length c7, .slice Ap0 p0.length cp0, .int .u32 p1, .int .u64 (IntKind.u64.wrap (p1)), .slice A2 v1.length c3, .slice A6 v5.length c7] (by kernel_rfl) ?_
  refine then_normal ?_
  refine wp_ret ?_
  replace hS : Own w0 D R _ [rowA (Enc.int .u8) A6 c7 v5] [slA Rp0 (Enc.int .u8) Ap0 cp0 p0] := hS.takeX 1
  replace hS : Own w0 D R _ [rowA (Enc.int .u8) A6 c7 v5] [] := hS.dropS forall0
  obtain rfl := Option.some.inj hM
  refine ret_v (.slice A6 v5.length c7) (by kernel_rfl) ⟨A6, c7, rfl, hS⟩

theorem intaglioref01_Put64_W {w0 w : World} {D R : Nat → Prop} {Rp0 : Nat → Prop} {Ap0 : Option Addr} {cp0 : Nat} {p0 : List Int} {p1 : Int} {r0 : List Int} (hS : Own w0 D R w [] [slA Rp0 (Enc.int .u8) Ap0 cp0 p0]) (hD : ∀ b, ¬ D b) (hM : intaglioref01_Put64_M p0 p1 = some r0) :
    Calls Go.Proofs.Try.prog 18 #[.slice Ap0 p0.length cp0, .int .u64 p1] w (fun e w' => ∃ (ZA1 : Option Addr) (Zc2 : Nat), e = .returned (.slice ZA1 r0.length Zc2) ∧ Own w0 D R w' [rowA (Enc.int .u8) ZA1 Zc2 r0] []) := by
  refine enter (fn := Go.Proofs.Try.f18) [.slice Ap0 p0.length cp0, .int .u64 p1, undef, undef, undef, undef, undef, undef, undef] (by kernel_rfl) rfl (by kernel_rfl) ?_
  unfold intaglioref01_Put64_M at hM
  refine wp_seq ?_
  refine wp_reg ?_
  refine segEnd [.slice Ap0 p0.length cp0, .int .u64 p1, undef, undef, .slice none 0 0, undef, undef, undef, undef] (by kernel_rfl) ?_
  refine then_normal ?_
  refine wp_seq ?_
  refine wp_reg ?_
  refine seg 2 [.slice Ap0 p0.length cp0, .int .u64 p1, undef, undef, .slice none 0 0, .slice Ap0 p0.length cp0, .int .u64 p1, undef, undef] (by kernel_rfl) ?_
  replace hM := bind_some hM
  obtain ⟨v1, h4, hM⟩ := hM
  have hP := Own.pre (Xi := []) (X := []) (Si := []) hS forall0 forall0
  refine s_call 46 #[.int .u64 p1, .int .i64 8] (by kernel_rfl) (by kernel_rfl) ((intaglioref01_High_W hP doms_nil h4).mono ?_)
  rintro _ _ ⟨A2, c3, rfl, hQ⟩
  replace hS : Own w0 D R _ [rowA (Enc.int .u8) A2 c3 v1] [slA Rp0 (Enc.int .u8) Ap0 cp0 p0] := hS.post hQ (.inl rfl)
  clear hP hQ
  refine ⟨_, rfl, ?_⟩
  replace hM := bind_some hM
  obtain ⟨v5, h8, hM⟩ := hM
  have hP := Own.pre (Xi := []) (X := [rowA (Enc.int .u8) A2 c3 v1]) (Si := [slA Rp0 (Enc.int .u8) Ap0 cp0 p0, slA (blkOf A2) (Enc.int .u8) A2 c3 v1]) hS (forall2 (hS.sl_mem (List.Mem.head _)) (forall2 (sl_of_row (hS.row_mem (List.Mem.head _))) forall0)) (forall2 (fun _ h => .inl ⟨_, (List.Mem.head _), h⟩) (forall2 (fun _ h => .inr ⟨_, (List.Mem.head _), h⟩) forall0))
  refine s_call 22 #[.slice Ap0 p0.length cp0, .slice A2 v1.length c3] (by kernel_rfl) (by kernel_rfl) ((intaglioref01_Both_W hP doms_nil h8).mono ?_)
  rintro _ _ ⟨A6, c7, rfl, hQ⟩
  replace hS : Own w0 D R _ [rowA (Enc.int .u8) A6 c7 v5, rowA (Enc.int .u8) A2 c3 v1] [slA Rp0 (Enc.int .u8) Ap0 cp0 p0] := hS.post hQ (.inl rfl)
  clear hP hQ
  refine ⟨_, rfl, ?_⟩
  refine segEnd [.slice Ap0 p0.length cp0, .int .u64 p1, undef, undef, .slice A6 v5.length c7, .slice Ap0 p0.length cp0, .int .u64 p1, .slice A2 v1.length c3, .slice A6 v5.length c7] (by kernel_rfl) ?_
  refine then_normal ?_
  refine wp_ret ?_
  replace hS : Own w0 D R _ [rowA (Enc.int .u8) A6 c7 v5] [slA Rp0 (Enc.int .u8) Ap0 cp0 p0] := hS.takeX 1
  replace hS : Own w0 D R _ [rowA (Enc.int .u8) A6 c7 v5] [] := hS.dropS forall0
  obtain rfl := Option.some.inj hM
  refine ret_v (.slice A6 v5.length c7) (by kernel_rfl) ⟨A6, c7, rfl, hS⟩

theorem intaglioref01_PutNum_W {w0 w : World} {D R : Nat → Prop} {Rp0 : Nat → Prop} {Ap0 : Option Addr} {cp0 : Nat} {p0 : List Int} {p1 : Int} {r0 : List Int} (hS : Own w0 D R w [] [slA Rp0 (Enc.int .u8) Ap0 cp0 p0]) (hD : ∀ b, ¬ D b) (hM : intaglioref01_PutNum_M p0 p1 = some r0) :
    Calls Go.Proofs.Try.prog 20 #[.slice Ap0 p0.length cp0, .int .i64 p1] w (fun e w' => ∃ (ZA1 : Option Addr) (Zc2 : Nat), e = .returned (.slice ZA1 r0.length Zc2) ∧ Own w0 D R w' [rowA (Enc.int .u8) ZA1 Zc2 r0] []) := by
  refine enter (fn := Go.Proofs.Try.f20) [.slice Ap0 p0.length cp0, .int .i64 p1, undef, undef, undef, undef, undef, undef, undef, undef, undef] (by kernel_rfl) rfl (by kernel_rfl) ?_
  unfold intaglioref01_PutNum_M at hM
  refine wp_seq ?_
  refine wp_reg ?_
  refine segEnd [.slice Ap0 p0.length cp0, .int .i64 p1, undef, undef, .slice none 0 0, undef, undef, undef, undef, undef, undef] (by kernel_rfl) ?_
  refine then_normal ?_
  refine wp_seq ?_
  refine wp_seq ?_
  refine wp_reg ?_
  refine segEnd [.slice Ap0 p0.length cp0, .int .i64 p1, undef, undef, .slice none 0 0, .int .i64 p1, .bool (decide (p1 < 0)), undef, undef, undef, undef] (by kernel_rfl) ?_
  refine then_normal ?_
  refine wp_cond_split (t := decide (p1 < 0)) (by kernel_rfl) (fun hc1 => ?_) (fun hc1 => ?_)
  · replace hM := (if_pos hc1).symm.trans hM
    refine wp_reg ?_
    refine segEnd [.slice Ap0 p0.length cp0, .int .i64 0, undef, undef, .slice none 0 0, .int .i64 p1, .bool (decide (p1 < 0)), undef, undef, undef, undef] (by kernel_rfl) ?_
    refine then_normal ?_
    refine wp_seq ?_
    refine wp_reg ?_
    refine seg 3 [.slice Ap0 p0.length cp0, .int .i64 0, undef, undef, .slice none 0 0, .int .i64 p1, .bool (decide (p1 < 0)), .slice Ap0 p0.length cp0, .int .i64 0, .int .u64 (IntKind.u64.wrap (0)), undef] (by kernel_rfl) ?_
    replace hM := bind_some hM
    obtain ⟨v2, h5, hM⟩ := hM
    have hP := Own.pre (Xi := []) (X := []) (Si := [slA Rp0 (Enc.int .u8) Ap0 cp0 p0]) hS (forall2 (hS.sl_mem (List.Mem.head _)) forall0) (forall2 (fun _ h => .inl ⟨_, (List.Mem.head _), h⟩) forall0)
    refine s_call 18 #[.slice Ap0 p0.length cp0, .int .u64 (IntKind.u64.wrap (0))] (by kernel_rfl) (by kernel_rfl) ((intaglioref01_Put64_W hP doms_nil h5).mono ?_)
    rintro _ _ ⟨A3, c4, rfl, hQ⟩
    replace hS : Own w0 D R _ [rowA (Enc.int .u8) A3 c4 v2] [slA Rp0 (Enc.int .u8) Ap0 cp0 p0] := hS.post hQ (.inl rfl)
    clear hP hQ
    refine ⟨_, rfl, ?_⟩
    refine segEnd [.slice Ap0 p0.length cp0, .int .i64 0, undef, undef, .slice A3 v2.length c4, .int .i64 p1, .bool (decide (p1 < 0)), .slice Ap0 p0.length cp0, .int .i64 0, .int .u64 (IntKind.u64.wrap (0)), .slice A3 v2.length c4] (by kernel_rfl) ?_
    refine then_normal ?_
    refine wp_ret ?_
    replace hS : Own w0 D R _ [rowA (Enc.int .u8) A3 c4 v2] [] := hS.dropS forall0
    obtain rfl := Option.some.inj hM
    refine ret_v (.slice A3 v2.length c4) (by kernel_rfl) ⟨A3, c4, rfl, hS⟩
  · replace hM := (if_neg (Bool.eq_false_iff.1 hc1)).symm.trans hM
    refine wp_skip ?_
    refine then_normal ?_
    refine wp_seq ?_
    refine wp_reg ?_
    refine seg 3 [.slice Ap0 p0.length cp0, .int .i64 p1, undef, undef, .slice none 0 0, .int .i64 p1, .bool (decide (p1 < 0)), .slice Ap0 p0.length cp0, .int .i64 p1, .int .u64 (IntKind.u64.wrap (p1)), undef] (by kernel_rfl) ?_
    replace hM := bind_some hM
    obtain ⟨v6, h9, hM⟩ := hM
    have hP := Own.pre (Xi := []) (X := []) (Si := [slA Rp0 (Enc.int .u8) Ap0 cp0 p0]) hS (forall2 (hS.sl_mem (List.Mem.head _)) forall0) (forall2 (fun _ h => .inl ⟨_, (List.Mem.head _), h⟩) forall0)
    refine s_call 18 #[.slice Ap0 p0.length cp0, .int .u64 (IntKind.u64.wrap (p1))] (by kernel_rfl) (by kernel_rfl) ((intaglioref01_Put64_W hP doms_nil h9).mono ?_)
    rintro _ _ ⟨A7, c8, rfl, hQ⟩
    replace hS : Own w0 D R _ [rowA (Enc.int .u8) A7 c8 v6] [slA Rp0 (Enc.int .u8) Ap0 cp0 p0] := hS.post hQ (.inl rfl)
    clear hP hQ
    refine ⟨_, rfl, ?_⟩
    refine segEnd [.slice Ap0 p0.length cp0, .int .i64 p1, undef, undef, .slice A7 v6.length c8, .int .i64 p1, .bool (decide (p1 < 0)), .slice Ap0 p0.length cp0, .int .i64 p1, .int .u64 (IntKind.u64.wrap (p1)), .slice A7 v6.length c8] (by kernel_rfl) ?_
    refine then_normal ?_
    refine wp_ret ?_
    replace hS : Own w0 D R _ [rowA (Enc.int .u8) A7 c8 v6] [] := hS.dropS forall0
    obtain rfl := Option.some.inj hM
    refine ret_v (.slice A7 v6.length c8) (by kernel_rfl) ⟨A7, c8, rfl, hS⟩

theorem intaglioref01_Put_W {w0 w : World} {D R : Nat → Prop} {Rp0 : Nat → Prop} {Ap0 : Option Addr} {cp0 : Nat} {Rp1 : Nat → Prop} {Ap1 : Option Addr} {cp1 : Nat} {p0 : List Int} {p1 : List Int} {r0 : List Int} (hS : Own w0 D R w [] [slA Rp0 (Enc.int .u8) Ap0 cp0 p0, slA Rp1 (Enc.int .u8) Ap1 cp1 p1]) (hD : ∀ b, ¬ D b) (hM : intaglioref01_Put_M p0 p1 = some r0) :
    Calls Go.Proofs.Try.prog 13 #[.slice Ap0 p0.length cp0, .slice Ap1 p1.length cp1] w (fun e w' => ∃ (ZA1 : Option Addr) (Zc2 : Nat), e = .returned (.slice ZA1 r0.length Zc2) ∧ Own w0 D R w' [rowA (Enc.int .u8) ZA1 Zc2 r0] []) := by
  refine enter (fn := Go.Proofs.Try.f13) [.slice Ap0 p0.length cp0, .slice Ap1 p1.length cp1, undef, undef, undef, undef, undef, undef, undef, undef, undef, undef] (by kernel_rfl) rfl (by kernel_rfl) ?_
  unfold intaglioref01_Put_M at hM
  refine wp_seq ?_
  refine wp_reg ?_
  refine segEnd [.slice Ap0 p0.length cp0, .slice Ap1 p1.length cp1, undef, undef, .slice none 0 0, undef, undef, undef, undef, undef, undef, undef] (by kernel_rfl) ?_
  refine then_normal ?_
  refine wp_seq ?_
  refine wp_reg ?_
  refine seg 4 [.slice Ap0 p0.length cp0, .slice Ap1 p1.length cp1, undef, undef, .slice none 0 0, .slice Ap0 p0.length cp0, .slice Ap1 p1.length cp1, .int .i64 (p1.length : Int), .int .u32 (IntKind.u32.wrap ((p1.length : Int))), undef, undef, undef] (by kernel_rfl) ?_
  replace hM := bind_some hM
  obtain ⟨v1, h4, hM⟩ := hM
  have hP := Own.pre (Xi := []) (X := []) (Si := [slA Rp0 (Enc.int .u8) Ap0 cp0 p0]) hS (forall2 (hS.sl_mem (List.Mem.head _)) forall0) (forall2 (fun _ h => .inl ⟨_, (List.Mem.head _), h⟩) forall0)
  refine s_call 16 #[.slice Ap0 p0.length cp0, .int .u32 (IntKind.u32.wrap ((p1.length : Int)))] (by kernel_rfl) (by kernel_rfl) ((intaglioref01_Put32_W hP doms_nil h4).mono ?_)
  rintro _ _ ⟨A2, c3, rfl, hQ⟩
  replace hS : Own w0 D R _ [rowA (Enc.int .u8) A2 c3 v1] [slA Rp0 (Enc.int .u8) Ap0 cp0 p0, slA Rp1 (Enc.int .u8) Ap1 cp1 p1] := hS.post hQ (.inl rfl)
  clear hP hQ
  refine ⟨_, rfl, ?_⟩
  refine seg 1 [.slice Ap0 p0.length cp0, .slice Ap1 p1.length cp1, undef, undef, .slice none 0 0, .slice Ap0 p0.length cp0, .slice Ap1 p1.length cp1, .int .i64 (p1.length : Int), .int .u32 (IntKind.u32.wrap ((p1.length : Int))), .slice A2 v1.length c3, .slice Ap1 p1.length cp1, undef] (by kernel_rfl) ?_
  replace hM := bind_some hM
  obtain ⟨v5, h8, hM⟩ := hM
  have hP := Own.pre (Xi := []) (X := [rowA (Enc.int .u8) A2 c3 v1]) (Si := [slA (blkOf A2) (Enc.int .u8) A2 c3 v1, slA Rp1 (Enc.int .u8) Ap1 cp1 p1]) hS (forall2 (sl_of_row (hS.row_mem (List.Mem.head _))) (forall2 (hS.sl_mem (List.Mem.tail _ (List.Mem.head _))) forall0)) (forall2 (fun _ h => .inr ⟨_, (List.Mem.head _), h⟩) (forall2 (fun _ h => .inl ⟨_, (List.Mem.tail _ (List.Mem.head _)), h⟩) forall0))
  refine s_call 22 #[.slice A2 v1.length c3, .slice Ap1 p1.length cp1] (by kernel_rfl) (by kernel_rfl) ((intaglioref01_Both_W hP doms_nil h8).mono ?_)
  rintro _ _ ⟨A6, c7, rfl, hQ⟩
  replace hS : Own w0 D R _ [rowA (Enc.int .u8) A6 c7 v5, rowA (Enc.int .u8) A2 c3 v1] [slA Rp0 (Enc.int .u8) Ap0 cp0 p0, slA Rp1 (Enc.int .u8) Ap1 cp1 p1] := hS.post hQ (.inl rfl)
  clear hP hQ
  refine ⟨_, rfl, ?_⟩
  refine segEnd [.slice Ap0 p0.length cp0, .slice Ap1 p1.length cp1, undef, undef, .slice A6 v5.length c7, .slice Ap0 p0.length cp0, .slice Ap1 p1.length cp1, .int .i64 (p1.length : Int), .int .u32 (IntKind.u32.wrap ((p1.length : Int))), .slice A2 v1.length c3, .slice Ap1 p1.length cp1, .slice A6 v5.length c7] (by kernel_rfl) ?_
  refine then_normal ?_
  refine wp_ret ?_
  replace hS : Own w0 D R _ [rowA (Enc.int .u8) A6 c7 v5] [slA Rp0 (Enc.int .u8) Ap0 cp0 p0, slA Rp1 (Enc.int .u8) Ap1 cp1 p1] := hS.takeX 1
  replace hS : Own w0 D R _ [rowA (Enc.int .u8) A6 c7 v5] [] := hS.dropS forall0
  obtain rfl := Option.some.inj hM
  refine ret_v (.slice A6 v5.length c7) (by kernel_rfl) ⟨A6, c7, rfl, hS⟩

end Go.Proofs.Ytknkonhdbmeolaa
