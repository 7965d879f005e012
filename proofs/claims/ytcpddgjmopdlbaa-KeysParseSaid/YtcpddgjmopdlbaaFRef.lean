/- The Go functions come to what their models say (Ref). -/
import Derived.Test.YtcpddgjmopdlbaaTy
import Derived.Test.YtcpddgjmopdlbaaMRef
namespace Go.Proofs.Ytcpddgjmopdlbaa
open Go Go.Lift
set_option maxRecDepth 100000
set_option maxHeartbeats 4000000
set_option linter.unusedVariables false

theorem intaglioref01_Both_W {w0 w : World} {D R : Nat → Prop} {Rp0 : Nat → Prop} {Ap0 : Option Addr} {cp0 : Nat} {Rp1 : Nat → Prop} {Ap1 : Option Addr} {cp1 : Nat} {p0 : List Int} {p1 : List Int} {r0 : List Int} (hS : Own w0 D R w [] [slA Rp0 (Enc.int .u8) Ap0 cp0 p0, slA Rp1 (Enc.int .u8) Ap1 cp1 p1]) (hD : ∀ b, ¬ D b) (hM : intaglioref01_Both_M p0 p1 = some r0) :
    Calls Go.Proofs.Try.prog 26 #[.slice Ap0 p0.length cp0, .slice Ap1 p1.length cp1] w (fun e w' => ∃ (ZA1 : Option Addr) (Zc2 : Nat), e = .returned (.slice ZA1 r0.length Zc2) ∧ Own w0 D R w' [rowA (Enc.int .u8) ZA1 Zc2 r0] []) := by
  refine enter (fn := Go.Proofs.Try.f26) [.slice Ap0 p0.length cp0, .slice Ap1 p1.length cp1, undef, undef, undef, undef, undef, undef, undef, undef, undef, undef] (by kernel_rfl) rfl (by kernel_rfl) ?_
  unfold intaglioref01_Both_M at hM
  refine wp_seq ?_
  refine wp_reg ?_
  refine segEnd [.slice Ap0 p0.length cp0, .slice Ap1 p1.length cp1, undef, undef, .slice none 0 0, undef, undef, undef, undef, undef, undef, undef] (by kernel_rfl) ?_
  refine then_normal ?_
  refine wp_seq ?_
  refine wp_reg ?_
  refine segEnd [.slice Ap0 p0.length cp0, .slice Ap1 p1.length cp1, undef, undef, .slice none 0 0, .slice none 0 0, undef, undef, undef, undef, undef, undef] (by kernel_rfl) ?_
  refine then_normal ?_
  refine wp_seq ?_
  refine wp_reg ?_
  refine seg 2 [.slice Ap0 p0.length cp0, .slice Ap1 p1.length cp1, undef, undef, .slice none 0 0, .slice none 0 0, .slice none 0 0, .slice Ap0 p0.length cp0, undef, undef, undef, undef] (by kernel_rfl) ?_
  replace hM := bind_some hM
  obtain ⟨_, h1, hM⟩ := hM
  replace hS : Own w0 D R _ [rowA (Enc.int .u8) none 0 []] [slA Rp0 (Enc.int .u8) Ap0 cp0 p0, slA Rp1 (Enc.int .u8) Ap1 cp1 p1] := hS.addNil (Enc.int .u8)
  refine s_append (.tmp 6) (.tmp 7) 26 26 5 1 (.slice Ap0 p0.length cp0) (e := (Enc.int .u8)) (xs := []) (ys := p0) rfl u26 el5 (by kernel_rfl) (by kernel_rfl) (by kernel_rfl) hS ((SlR.of_sl (hS.sl_mem (List.Mem.head _))).src u26) (room_some h1).1 (room_some h1).2 (fun A2 c3 _ hS => ?_)
  refine segEnd [.slice Ap0 p0.length cp0, .slice Ap1 p1.length cp1, undef, undef, .slice none 0 0, .slice A2 (([] ++ p0).length) c3, .slice none 0 0, .slice Ap0 p0.length cp0, .slice A2 (([] ++ p0).length) c3, undef, undef, undef] (by kernel_rfl) ?_
  refine then_normal ?_
  refine wp_seq ?_
  refine wp_reg ?_
  refine seg 2 [.slice Ap0 p0.length cp0, .slice Ap1 p1.length cp1, undef, undef, .slice none 0 0, .slice A2 (([] ++ p0).length) c3, .slice none 0 0, .slice Ap0 p0.length cp0, .slice A2 (([] ++ p0).length) c3, .slice A2 (([] ++ p0).length) c3, .slice Ap1 p1.length cp1, undef] (by kernel_rfl) ?_
  replace hM := bind_some hM
  obtain ⟨_, h4, hM⟩ := hM
  refine s_append (.tmp 9) (.tmp 10) 26 26 5 1 (.slice Ap1 p1.length cp1) (e := (Enc.int .u8)) (xs := ([] ++ p0)) (ys := p1) rfl u26 el5 (by kernel_rfl) (by kernel_rfl) (by kernel_rfl) hS ((SlR.of_sl (hS.sl_mem (List.Mem.tail _ (List.Mem.head _)))).src u26) (room_some h4).1 (room_some h4).2 (fun A5 c6 _ hS => ?_)
  refine segEnd [.slice Ap0 p0.length cp0, .slice Ap1 p1.length cp1, undef, undef, .slice A5 ((([] ++ p0) ++ p1).length) c6, .slice A2 (([] ++ p0).length) c3, .slice none 0 0, .slice Ap0 p0.length cp0, .slice A2 (([] ++ p0).length) c3, .slice A2 (([] ++ p0).length) c3, .slice Ap1 p1.length cp1, .slice A5 ((([] ++ p0) ++ p1).length) c6] (by kernel_rfl) ?_
  refine then_normal ?_
  refine wp_ret ?_
  replace hS : Own w0 D R _ [rowA (Enc.int .u8) A5 c6 (([] ++ p0) ++ p1)] [] := hS.dropS forall0
  obtain rfl := Option.some.inj hM
  refine ret_v (.slice A5 ((([] ++ p0) ++ p1).length) c6) (by kernel_rfl) ⟨A5, c6, rfl, hS⟩

theorem intaglioref01_High_W {w0 w : World} {D R : Nat → Prop} {p0 : Int} {p1 : Int} {r0 : List Int} (hS : Own w0 D R w [] []) (hD : ∀ b, ¬ D b) (hM : intaglioref01_High_M p0 p1 = some r0) :
    Calls Go.Proofs.Try.prog 39 #[.int .u64 p0, .int .i64 p1] w (fun e w' => ∃ (ZA1 : Option Addr) (Zc2 : Nat), e = .returned (.slice ZA1 r0.length Zc2) ∧ Own w0 D R w' [rowA (Enc.int .u8) ZA1 Zc2 r0] []) := by
  refine enter (fn := Go.Proofs.Try.f39) [.int .u64 p0, .int .i64 p1, undef, undef, undef, undef, undef, undef, undef, undef, undef, undef, undef, undef, undef, undef, undef, undef, undef, undef, undef, undef, undef, undef, undef, undef] (by kernel_rfl) rfl (by kernel_rfl) ?_
  unfold intaglioref01_High_M at hM
  refine wp_seq ?_
  refine wp_reg ?_
  refine segEnd [.int .u64 p0, .int .i64 p1, undef, undef, .slice none 0 0, undef, undef, undef, undef, undef, undef, undef, undef, undef, undef, undef, undef, undef, undef, undef, undef, undef, undef, undef, undef, undef] (by kernel_rfl) ?_
  refine then_normal ?_
  refine wp_seq ?_
  refine wp_reg ?_
  refine seg 1 [.int .u64 p0, .int .i64 p1, undef, undef, .slice none 0 0, undef, undef, .int .i64 p1, undef, undef, undef, undef, undef, undef, undef, undef, undef, undef, undef, undef, undef, undef, undef, undef, undef, undef] (by kernel_rfl) ?_
  replace hM := bind_some hM
  obtain ⟨m1, h2, hM⟩ := hM
  refine s_make (e := (Enc.int .u8)) 26 5 1 (.tmp 7) (.tmp 7) .i64 .i64 p1 m1 (0 : Int) (.int .u8 0) rfl u26 (by kernel_rfl) rfl rfl rfl (by kernel_rfl) (by kernel_rfl) (by kernel_rfl) h2 hS (fun A3 c4 _ hS => ?_)
  refine segEnd [.int .u64 p0, .int .i64 p1, undef, undef, .slice none 0 0, .slice A3 ((List.replicate m1 (0 : Int)).length) c4, undef, .int .i64 p1, .slice A3 ((List.replicate m1 (0 : Int)).length) c4, undef, undef, undef, undef, undef, undef, undef, undef, undef, undef, undef, undef, undef, undef, undef, undef, undef] (by kernel_rfl) ?_
  refine then_normal ?_
  refine wp_join (fun a w => ∃ (A42 : Option Addr) (c43 : Nat) (G45 : Nat → Value) (l44 : List Int), a = Fr [(G45 0), (G45 1), undef, undef, (G45 2), .slice A42 l44.length c43, (G45 3), (G45 4), (G45 5), (G45 6), (G45 7), (G45 8), (G45 9), (G45 10), (G45 11), (G45 12), (G45 13), (G45 14), (G45 15), (G45 16), (G45 17), (G45 18), (G45 19), (G45 20), (G45 21), undef] ∧ Own w0 D R w [rowA (Enc.int .u8) A42 c43 l44] [] ∧ intaglioref01_High_J1 l44 = some r0) ?_ ?_
  ·
    refine wp_seq ?_
    refine wp_reg ?_
    refine segEnd [.int .u64 p0, .int .i64 p1, undef, undef, .slice none 0 0, .slice A3 ((List.replicate m1 (0 : Int)).length) c4, .int .i64 0, .int .i64 p1, .slice A3 ((List.replicate m1 (0 : Int)).length) c4, undef, undef, undef, undef, undef, undef, undef, undef, undef, undef, undef, undef, undef, undef, undef, undef, undef] (by kernel_rfl) ?_
    refine then_normal ?_
    refine wp_block ?_
    replace hM := bind_some hM
    obtain ⟨q28, hL29, hM⟩ := hM
    refine wp_loop_model (fun (s : (Int × (List Int) × Int)) a w => ∃ (A31 : Option Addr) (c32 : Nat) (G35 : Nat → Value) (x30 : Int) (l33 : List Int) (x34 : Int), s = (x30, l33, x34) ∧ a = Fr [.int .u64 x30, .int .i64 p1, undef, undef, (G35 0), .slice A31 l33.length c32, .int .i64 x34, (G35 1), (G35 2), (G35 3), (G35 4), (G35 5), (G35 6), (G35 7), (G35 8), (G35 9), (G35 10), (G35 11), (G35 12), (G35 13), (G35 14), (G35 15), (G35 16), (G35 17), (G35 18), undef] ∧ Own w0 D R w [rowA (Enc.int .u8) A31 c32 l33] []) ?_ hL29 ?_
    · rintro _ a w ⟨A31, c32, G35, x30, l33, x34, rfl, rfl, hS⟩ o26 hM1 hout27
      replace hM1 : intaglioref01_High_L1 p1 x30 l33 x34 = some o26 := hM1
      unfold intaglioref01_High_L1 at hM1
      refine wp_seq ?_
      refine wp_seq ?_
      refine wp_reg ?_
      refine segEnd [.int .u64 x30, .int .i64 p1, undef, undef, (G35 0), .slice A31 l33.length c32, .int .i64 x34, (G35 1), (G35 2), .int .i64 x34, .int .i64 p1, .bool (decide (x34 < p1)), (G35 6), (G35 7), (G35 8), (G35 9), (G35 10), (G35 11), (G35 12), (G35 13), (G35 14), (G35 15), (G35 16), (G35 17), (G35 18), undef] (by kernel_rfl) ?_
      refine then_normal ?_
      refine wp_cond_split (t := decide (x34 < p1)) (by kernel_rfl) (fun hc36 => ?_) (fun hc36 => ?_)
      · replace hM1 := (if_pos hc36).symm.trans hM1
        refine wp_skip ?_
        refine then_normal ?_
        refine wp_seq ?_
        refine wp_block ?_
        refine wp_seq ?_
        refine wp_reg ?_
        refine seg 8 [.int .u64 x30, .int .i64 p1, undef, undef, (G35 0), .slice A31 l33.length c32, .int .i64 x34, (G35 1), (G35 2), .int .i64 x34, .int .i64 p1, .bool (decide (x34 < p1)), (G35 6), (G35 7), .slice A31 l33.length c32, .int .i64 p1, .int .i64 (IntKind.i64.wrap (p1 - 1)), .int .i64 x34, .int .i64 (IntKind.i64.wrap ((IntKind.i64.wrap (p1 - 1)) - x34)), .int .u64 x30, .int .u64 (Int.tmod x30 256), .int .u8 (IntKind.u8.wrap ((Int.tmod x30 256))), (G35 16), (G35 17), (G35 18), undef] (by kernel_rfl) ?_
        replace hM1 := bind_some hM1
        obtain ⟨y37, h38, hM1⟩ := hM1
        have hi41 := ix_some h38
        refine s_index (A := A31) (cap := c32) (.tmp 14) (.tmp 18) 26 5 1 .i64 (IntKind.i64.wrap ((IntKind.i64.wrap (p1 - 1)) - x34)) rfl u26 el5 (by kernel_rfl) (by kernel_rfl) (by kernel_rfl) (SlR.of_row (hS.row_mem (List.Mem.head _))) hi41.1 hi41.2.1 (fun p39 hp40 => ?_)
        refine s_store_el (.tmp 22) (.tmp 21) 5 1 p39 _ (IntKind.u8.wrap ((Int.tmod x30 256))) rfl el5 (by kernel_rfl) (by kernel_rfl) (by kernel_rfl) hp40 (by have := hi41.1; have := hi41.2.1; omega) hS (fun _ hS => ?_)
        refine fr_eq [.int .u64 x30, .int .i64 p1, undef, undef, (G35 0), .slice A31 ((l33.set (Int.toNat (IntKind.i64.wrap ((IntKind.i64.wrap (p1 - 1)) - x34))) (IntKind.u8.wrap ((Int.tmod x30 256)))).length) c32, .int .i64 x34, (G35 1), (G35 2), .int .i64 x34, .int .i64 p1, .bool (decide (x34 < p1)), (G35 6), (G35 7), .slice A31 ((l33.set (Int.toNat (IntKind.i64.wrap ((IntKind.i64.wrap (p1 - 1)) - x34))) (IntKind.u8.wrap ((Int.tmod x30 256)))).length) c32, .int .i64 p1, .int .i64 (IntKind.i64.wrap (p1 - 1)), .int .i64 x34, .int .i64 (IntKind.i64.wrap ((IntKind.i64.wrap (p1 - 1)) - x34)), .int .u64 x30, .int .u64 (Int.tmod x30 256), .int .u8 (IntKind.u8.wrap ((Int.tmod x30 256))), .pointer (some p39), (G35 17), (G35 18), undef] [.int .u64 x30, .int .i64 p1, undef, undef, (G35 0), .slice A31 l33.length c32, .int .i64 x34, (G35 1), (G35 2), .int .i64 x34, .int .i64 p1, .bool (decide (x34 < p1)), (G35 6), (G35 7), .slice A31 l33.length c32, .int .i64 p1, .int .i64 (IntKind.i64.wrap (p1 - 1)), .int .i64 x34, .int .i64 (IntKind.i64.wrap ((IntKind.i64.wrap (p1 - 1)) - x34)), .int .u64 x30, .int .u64 (Int.tmod x30 256), .int .u8 (IntKind.u8.wrap ((Int.tmod x30 256))), .pointer (some p39), (G35 17), (G35 18), undef] (by kernel_rfl) (by simp only [List.length_set]) ?_
        refine wl_nil ?_
        refine then_normal ?_
        refine wp_reg ?_
        refine segEnd [.int .u64 (IntKind.u64.wrap (Int.tdiv x30 256)), .int .i64 p1, undef, undef, (G35 0), .slice A31 ((l33.set (Int.toNat (IntKind.i64.wrap ((IntKind.i64.wrap (p1 - 1)) - x34))) (IntKind.u8.wrap ((Int.tmod x30 256)))).length) c32, .int .i64 x34, (G35 1), (G35 2), .int .i64 x34, .int .i64 p1, .bool (decide (x34 < p1)), (G35 6), (G35 7), .slice A31 ((l33.set (Int.toNat (IntKind.i64.wrap ((IntKind.i64.wrap (p1 - 1)) - x34))) (IntKind.u8.wrap ((Int.tmod x30 256)))).length) c32, .int .i64 p1, .int .i64 (IntKind.i64.wrap (p1 - 1)), .int .i64 x34, .int .i64 (IntKind.i64.wrap ((IntKind.i64.wrap (p1 - 1)) - x34)), .int .u64 x30, .int .u64 (Int.tmod x30 256), .int .u8 (IntKind.u8.wrap ((Int.tmod x30 256))), .pointer (some p39), .int .u64 x30, .int .u64 (IntKind.u64.wrap (Int.tdiv x30 256)), undef] (by kernel_rfl) ?_
        refine in_normal ?_
        refine then_normal ?_
        refine wp_reg ?_
        refine segEnd [.int .u64 (IntKind.u64.wrap (Int.tdiv x30 256)), .int .i64 p1, undef, undef, (G35 0), .slice A31 ((l33.set (Int.toNat (IntKind.i64.wrap ((IntKind.i64.wrap (p1 - 1)) - x34))) (IntKind.u8.wrap ((Int.tmod x30 256)))).length) c32, .int .i64 (IntKind.i64.wrap (x34 + 1)), (G35 1), (G35 2), .int .i64 x34, .int .i64 p1, .bool (decide (x34 < p1)), .int .i64 x34, .int .i64 (IntKind.i64.wrap (x34 + 1)), .slice A31 ((l33.set (Int.toNat (IntKind.i64.wrap ((IntKind.i64.wrap (p1 - 1)) - x34))) (IntKind.u8.wrap ((Int.tmod x30 256)))).length) c32, .int .i64 p1, .int .i64 (IntKind.i64.wrap (p1 - 1)), .int .i64 x34, .int .i64 (IntKind.i64.wrap ((IntKind.i64.wrap (p1 - 1)) - x34)), .int .u64 x30, .int .u64 (Int.tmod x30 256), .int .u8 (IntKind.u8.wrap ((Int.tmod x30 256))), .pointer (some p39), .int .u64 x30, .int .u64 (IntKind.u64.wrap (Int.tdiv x30 256)), undef] (by kernel_rfl) ?_
        refine then_normal ?_
        exact ⟨((IntKind.u64.wrap (Int.tdiv x30 256)), (l33.set (Int.toNat (IntKind.i64.wrap ((IntKind.i64.wrap (p1 - 1)) - x34))) (IntKind.u8.wrap ((Int.tmod x30 256)))), (IntKind.i64.wrap (x34 + 1))), (Option.some.inj hM1).symm, A31, c32, (fun i => ([(G35 0), (G35 1), (G35 2), .int .i64 x34, .int .i64 p1, .bool (decide (x34 < p1)), .int .i64 x34, .int .i64 (IntKind.i64.wrap (x34 + 1)), .slice A31 ((l33.set (Int.toNat (IntKind.i64.wrap ((IntKind.i64.wrap (p1 - 1)) - x34))) (IntKind.u8.wrap ((Int.tmod x30 256)))).length) c32, .int .i64 p1, .int .i64 (IntKind.i64.wrap (p1 - 1)), .int .i64 x34, .int .i64 (IntKind.i64.wrap ((IntKind.i64.wrap (p1 - 1)) - x34)), .int .u64 x30, .int .u64 (Int.tmod x30 256), .int .u8 (IntKind.u8.wrap ((Int.tmod x30 256))), .pointer (some p39), .int .u64 x30, .int .u64 (IntKind.u64.wrap (Int.tdiv x30 256))] : List Value).getD i undef), (IntKind.u64.wrap (Int.tdiv x30 256)), (l33.set (Int.toNat (IntKind.i64.wrap ((IntKind.i64.wrap (p1 - 1)) - x34))) (IntKind.u8.wrap ((Int.tmod x30 256)))), (IntKind.i64.wrap (x34 + 1)), rfl, (by kernel_rfl), hS⟩
      · replace hM1 := (if_neg (Bool.eq_false_iff.1 hc36)).symm.trans hM1
        refine wp_exit ?_
        refine then_exit ?_
        refine then_exit ?_
        have hr47 := hout27 _ (Option.some.inj hM1).symm
        subst hr47
        refine in_exit_eq ?_
        refine then_normal ?_
        exact ⟨A31, c32, (fun i => ([.int .u64 x30, .int .i64 p1, (G35 0), .int .i64 x34, (G35 1), (G35 2), .int .i64 x34, .int .i64 p1, .bool (decide (x34 < p1)), (G35 6), (G35 7), (G35 8), (G35 9), (G35 10), (G35 11), (G35 12), (G35 13), (G35 14), (G35 15), (G35 16), (G35 17), (G35 18)] : List Value).getD i undef), l33, (by kernel_rfl), hS, hM⟩
    · exact ⟨A3, c4, (fun i => ([.slice none 0 0, .int .i64 p1, .slice A3 ((List.replicate m1 (0 : Int)).length) c4, undef, undef, undef, undef, undef, undef, undef, undef, undef, undef, undef, undef, undef, undef, undef, undef] : List Value).getD i undef), p0, (List.replicate m1 (0 : Int)), 0, rfl, (by kernel_rfl), hS⟩
  · rintro a w ⟨A42, c43, G45, l44, rfl, hS, hM⟩
    unfold intaglioref01_High_J1 at hM
    refine wp_seq ?_
    refine wp_reg ?_
    refine segEnd [(G45 0), (G45 1), undef, undef, .slice A42 l44.length c43, .slice A42 l44.length c43, (G45 3), (G45 4), (G45 5), (G45 6), (G45 7), (G45 8), (G45 9), (G45 10), (G45 11), (G45 12), (G45 13), (G45 14), (G45 15), (G45 16), (G45 17), (G45 18), (G45 19), (G45 20), (G45 21), .slice A42 l44.length c43] (by kernel_rfl) ?_
    refine then_normal ?_
    refine wp_ret ?_
    replace hS : Own w0 D R _ [rowA (Enc.int .u8) A42 c43 l44] [] := hS.dropS forall0
    obtain rfl := Option.some.inj hM
    refine ret_v (.slice A42 l44.length c43) (by kernel_rfl) ⟨A42, c43, rfl, hS⟩

theorem intaglioref01_Put64_W {w0 w : World} {D R : Nat → Prop} {Rp0 : Nat → Prop} {Ap0 : Option Addr} {cp0 : Nat} {p0 : List Int} {p1 : Int} {r0 : List Int} (hS : Own w0 D R w [] [slA Rp0 (Enc.int .u8) Ap0 cp0 p0]) (hD : ∀ b, ¬ D b) (hM : intaglioref01_Put64_M p0 p1 = some r0) :
    Calls Go.Proofs.Try.prog 30 #[.slice Ap0 p0.length cp0, .int .u64 p1] w (fun e w' => ∃ (ZA1 : Option Addr) (Zc2 : Nat), e = .returned (.slice ZA1 r0.length Zc2) ∧ Own w0 D R w' [rowA (Enc.int .u8) ZA1 Zc2 r0] []) := by
  refine enter (fn := Go.Proofs.Try.f30) [.slice Ap0 p0.length cp0, .int .u64 p1, undef, undef, undef, undef, undef, undef, undef] (by kernel_rfl) rfl (by kernel_rfl) ?_
  unfold intaglioref01_Put64_M at hM
  refine wp_seq ?_
  refine wp_reg ?_
  refine segEnd [.slice Ap0 p0.length cp0, .int .u64 p1, undef, undef, .slice none 0 0, undef, undef, undef, undef] (by kernel_rfl) ?_
  refine then_normal ?_
  refine wp_seq ?_
  refine wp_reg ?_
  refine seg 2 [.slice Ap0 p0.length cp0, .int .u64 p1, undef, undef, .slice none 0 0, .slice Ap0 p0.length cp0, .int .u64 p1, undef, undef] (by kernel_rfl) ?_
  replace hM := bind_some hM
  obtain ⟨v1, h4, hM⟩ := hM
  have hP := Own.pre (Xi := []) (X := []) (Si := []) hS forall0 forall0
  refine s_call 39 #[.int .u64 p1, .int .i64 8] (by kernel_rfl) (by kernel_rfl) ((intaglioref01_High_W hP doms_nil h4).mono ?_)
  rintro _ _ ⟨A2, c3, rfl, hQ⟩
  replace hS : Own w0 D R _ [rowA (Enc.int .u8) A2 c3 v1] [slA Rp0 (Enc.int .u8) Ap0 cp0 p0] := hS.post hQ (.inl rfl)
  clear hP hQ
  refine ⟨_, rfl, ?_⟩
  replace hM := bind_some hM
  obtain ⟨v5, h8, hM⟩ := hM
  have hP := Own.pre (Xi := []) (X := [rowA (Enc.int .u8) A2 c3 v1]) (Si := [slA Rp0 (Enc.int .u8) Ap0 cp0 p0, slA (blkOf A2) (Enc.int .u8) A2 c3 v1]) hS (forall2 (hS.sl_mem (List.Mem.head _)) (forall2 (sl_of_row (hS.row_mem (List.Mem.head _))) forall0)) (forall2 (fun _ h => .inl ⟨_, (List.Mem.head _), h⟩) (forall2 (fun _ h => .inr ⟨_, (List.Mem.head _), h⟩) forall0))
  refine s_call 26 #[.slice Ap0 p0.length cp0, .slice A2 v1.length c3] (by kernel_rfl) (by kernel_rfl) ((intaglioref01_Both_W hP doms_nil h8).mono ?_)
  rintro _ _ ⟨A6, c7, rfl, hQ⟩
  replace hS : Own w0 D R _ [rowA (Enc.int .u8) A6 c7 v5, rowA (Enc.int .u8) A2 c3 v1] [slA Rp0 (Enc.int .u8) Ap0 cp0 p0] := hS.post hQ (.inl rfl)
  clear hP hQ
  refine ⟨_, rfl, ?_⟩
  refine segEnd [.slice Ap0 p0.length cp0, .int .u64 p1, undef, undef, .slice A6 v5.length c7, .slice Ap0 p0.length cp0, .int .u64 p1, .slice A2 v1.length c3, .slice A6 v5.length c7] (by kernel_rfl) ?_
  refine then_normal ?_
  refine wp_ret ?_
  replace hS : Own w0 D R _ [rowA (Enc.int .u8) A6 c7 v5] [slA Rp0 (Enc.int .u8) Ap0 cp0 p0] := hS.takeX 1
  replace hS : Own w0 D R _ [rowA (Enc.int .u8) A6 c7 v5] [] := hS.dropS forall0
  obtain rfl := Option.some.inj hM
  refine ret_v (.slice A6 v5.length c7) (by kernel_rfl) ⟨A6, c7, rfl, hS⟩

theorem intaglioref01_PutNum_W {w0 w : World} {D R : Nat → Prop} {Rp0 : Nat → Prop} {Ap0 : Option Addr} {cp0 : Nat} {p0 : List Int} {p1 : Int} {r0 : List Int} (hS : Own w0 D R w [] [slA Rp0 (Enc.int .u8) Ap0 cp0 p0]) (hD : ∀ b, ¬ D b) (hM : intaglioref01_PutNum_M p0 p1 = some r0) :
    Calls Go.Proofs.Try.prog 22 #[.slice Ap0 p0.length cp0, .int .i64 p1] w (fun e w' => ∃ (ZA1 : Option Addr) (Zc2 : Nat), e = .returned (.slice ZA1 r0.length Zc2) ∧ Own w0 D R w' [rowA (Enc.int .u8) ZA1 Zc2 r0] []) := by
  refine enter (fn := Go.Proofs.Try.f22) [.slice Ap0 p0.length cp0, .int .i64 p1, undef, undef, undef, undef, undef, undef, undef, undef, undef] (by kernel_rfl) rfl (by kernel_rfl) ?_
  unfold intaglioref01_PutNum_M at hM
  refine wp_seq ?_
  refine wp_reg ?_
  refine segEnd [.slice Ap0 p0.length cp0, .int .i64 p1, undef, undef, .slice none 0 0, undef, undef, undef, undef, undef, undef] (by kernel_rfl) ?_
  refine then_normal ?_
  refine wp_seq ?_
  refine wp_seq ?_
  refine wp_reg ?_
  refine segEnd [.slice Ap0 p0.length cp0, .int .i64 p1, undef, undef, .slice none 0 0, .int .i64 p1, .bool (decide (p1 < 0)), undef, undef, undef, undef] (by kernel_rfl) ?_
  refine then_normal ?_
  refine wp_cond_split (t := decide (p1 < 0)) (by kernel_rfl) (fun hc1 => ?_) (fun hc1 => ?_)
  · replace hM := (if_pos hc1).symm.trans hM
    refine wp_reg ?_
    refine segEnd [.slice Ap0 p0.length cp0, .int .i64 0, undef, undef, .slice none 0 0, .int .i64 p1, .bool (decide (p1 < 0)), undef, undef, undef, undef] (by kernel_rfl) ?_
    refine then_normal ?_
    refine wp_seq ?_
    refine wp_reg ?_
    refine seg 3 [.slice Ap0 p0.length cp0, .int .i64 0, undef, undef, .slice none 0 0, .int .i64 p1, .bool (decide (p1 < 0)), .slice Ap0 p0.length cp0, .int .i64 0, .int .u64 (IntKind.u64.wrap (0)), undef] (by kernel_rfl) ?_
    replace hM := bind_some hM
    obtain ⟨v2, h5, hM⟩ := hM
    have hP := Own.pre (Xi := []) (X := []) (Si := [slA Rp0 (Enc.int .u8) Ap0 cp0 p0]) hS (forall2 (hS.sl_mem (List.Mem.head _)) forall0) (forall2 (fun _ h => .inl ⟨_, (List.Mem.head _), h⟩) forall0)
    refine s_call 30 #[.slice Ap0 p0.length cp0, .int .u64 (IntKind.u64.wrap (0))] (by kernel_rfl) (by kernel_rfl) ((intaglioref01_Put64_W hP doms_nil h5).mono ?_)
    rintro _ _ ⟨A3, c4, rfl, hQ⟩
    replace hS : Own w0 D R _ [rowA (Enc.int .u8) A3 c4 v2] [slA Rp0 (Enc.int .u8) Ap0 cp0 p0] := hS.post hQ (.inl rfl)
    clear hP hQ
    refine ⟨_, rfl, ?_⟩
    refine segEnd [.slice Ap0 p0.length cp0, .int .i64 0, undef, undef, .slice A3 v2.length c4, .int .i64 p1, .bool (decide (p1 < 0)), .slice Ap0 p0.length cp0, .int .i64 0, .int .u64 (IntKind.u64.wrap (0)), .slice A3 v2.length c4] (by kernel_rfl) ?_
    refine then_normal ?_
    refine wp_ret ?_
    replace hS : Own w0 D R _ [rowA (Enc.int .u8) A3 c4 v2] [] := hS.dropS forall0
    obtain rfl := Option.some.inj hM
    refine ret_v (.slice A3 v2.length c4) (by kernel_rfl) ⟨A3, c4, rfl, hS⟩
  · replace hM := (if_neg (Bool.eq_false_iff.1 hc1)).symm.trans hM
    refine wp_skip ?_
    refine then_normal ?_
    refine wp_seq ?_
    refine wp_reg ?_
    refine seg 3 [.slice Ap0 p0.length cp0, .int .i64 p1, undef, undef, .slice none 0 0, .int .i64 p1, .bool (decide (p1 < 0)), .slice Ap0 p0.length cp0, .int .i64 p1, .int .u64 (IntKind.u64.wrap (p1)), undef] (by kernel_rfl) ?_
    replace hM := bind_some hM
    obtain ⟨v6, h9, hM⟩ := hM
    have hP := Own.pre (Xi := []) (X := []) (Si := [slA Rp0 (Enc.int .u8) Ap0 cp0 p0]) hS (forall2 (hS.sl_mem (List.Mem.head _)) forall0) (forall2 (fun _ h => .inl ⟨_, (List.Mem.head _), h⟩) forall0)
    refine s_call 30 #[.slice Ap0 p0.length cp0, .int .u64 (IntKind.u64.wrap (p1))] (by kernel_rfl) (by kernel_rfl) ((intaglioref01_Put64_W hP doms_nil h9).mono ?_)
    rintro _ _ ⟨A7, c8, rfl, hQ⟩
    replace hS : Own w0 D R _ [rowA (Enc.int .u8) A7 c8 v6] [slA Rp0 (Enc.int .u8) Ap0 cp0 p0] := hS.post hQ (.inl rfl)
    clear hP hQ
    refine ⟨_, rfl, ?_⟩
    refine segEnd [.slice Ap0 p0.length cp0, .int .i64 p1, undef, undef, .slice A7 v6.length c8, .int .i64 p1, .bool (decide (p1 < 0)), .slice Ap0 p0.length cp0, .int .i64 p1, .int .u64 (IntKind.u64.wrap (p1)), .slice A7 v6.length c8] (by kernel_rfl) ?_
    refine then_normal ?_
    refine wp_ret ?_
    replace hS : Own w0 D R _ [rowA (Enc.int .u8) A7 c8 v6] [] := hS.dropS forall0
    obtain rfl := Option.some.inj hM
    refine ret_v (.slice A7 v6.length c8) (by kernel_rfl) ⟨A7, c8, rfl, hS⟩

end Go.Proofs.Ytcpddgjmopdlbaa
