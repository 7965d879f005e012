/- The Go functions come to what their models say (Put). -/
import Derived.Test.YtknkonhdbmeolaaTy
import Derived.Test.YtknkonhdbmeolaaMPut
namespace Go.Proofs.Ytknkonhdbmeolaa
open Go Go.Lift
set_option maxRecDepth 100000
set_option maxHeartbeats 4000000
set_option linter.unusedVariables false

theorem pack_high_uint32_W {w0 w : World} {D R : Nat → Prop} {Rp0 : Nat → Prop} {Ap0 : Option Addr} {cp0 : Nat} {p0 : List Int} {p1 : Int} {p2 : Int} {r0 : List Int} (hS : Own w0 D R w [] [slA Rp0 (Enc.int .u8) Ap0 cp0 p0]) (hD : ∀ b, ¬ D b) (hM : pack_high_uint32_M p0 p1 p2 = some r0) :
    Calls Go.Proofs.Try.prog 45 #[.slice Ap0 p0.length cp0, .int .u32 p1, .int .i64 p2] w (fun e w' => ∃ (ZA1 : Option Addr) (Zc2 : Nat), e = .returned (.slice ZA1 r0.length Zc2) ∧ Own w0 D R w' [rowA (Enc.int .u8) ZA1 Zc2 r0] []) := by
  refine enter (fn := Go.Proofs.Try.f45) [.slice Ap0 p0.length cp0, .int .u32 p1, .int .i64 p2, undef, undef, undef, undef, undef, undef, undef, undef, undef, undef, undef, undef, undef, undef, undef, undef, undef, undef, undef, undef, undef, undef, undef] (by kernel_rfl) rfl (by kernel_rfl) ?_
  unfold pack_high_uint32_M at hM
  refine wp_seq ?_
  refine wp_reg ?_
  refine segEnd [.slice Ap0 p0.length cp0, .int .u32 p1, .int .i64 p2, undef, undef, undef, .slice none 0 0, undef, undef, undef, undef, undef, undef, undef, undef, undef, undef, undef, undef, undef, undef, undef, undef, undef, undef, undef] (by kernel_rfl) ?_
  refine then_normal ?_
  refine wp_seq ?_
  refine wp_reg ?_
  refine seg 1 [.slice Ap0 p0.length cp0, .int .u32 p1, .int .i64 p2, undef, undef, undef, .slice none 0 0, undef, undef, .slice Ap0 p0.length cp0, undef, undef, undef, undef, undef, undef, undef, undef, undef, undef, undef, undef, undef, undef, undef, undef] (by kernel_rfl) ?_
  replace hM := bind_some hM
  obtain ⟨_, h1, hM⟩ := hM
  replace hS : Own w0 D R _ [rowA (Enc.int .u8) none 0 []] [slA Rp0 (Enc.int .u8) Ap0 cp0 p0] := hS.addNil (Enc.int .u8)
  refine s_append (.const (.slice none 0 0)) (.tmp 9) 22 22 5 1 (.slice Ap0 p0.length cp0) (e := (Enc.int .u8)) (xs := []) (ys := p0) rfl u22 el5 (by kernel_rfl) (by kernel_rfl) (by kernel_rfl) hS ((SlR.of_sl (hS.sl_mem (List.Mem.head _))).src u22) (room_some h1).1 (room_some h1).2 (fun A2 c3 _ hS => ?_)
  refine segEnd [.slice Ap0 p0.length cp0, .int .u32 p1, .int .i64 p2, undef, undef, undef, .slice none 0 0, .slice A2 (([] ++ p0).length) c3, undef, .slice Ap0 p0.length cp0, .slice A2 (([] ++ p0).length) c3, undef, undef, undef, undef, undef, undef, undef, undef, undef, undef, undef, undef, undef, undef, undef] (by kernel_rfl) ?_
  refine then_normal ?_
  refine wp_join (fun a w => ∃ (g98 : Value) (g99 : Value) (g100 : Value) (g101 : Value) (A102 : Option Addr) (c103 : Nat) (g105 : Value) (g106 : Value) (g107 : Value) (g108 : Value) (g109 : Value) (g110 : Value) (g111 : Value) (g112 : Value) (g113 : Value) (g114 : Value) (g115 : Value) (g116 : Value) (g117 : Value) (g118 : Value) (g119 : Value) (g120 : Value) (g121 : Value) (l104 : List Int), a = Fr [g98, g99, g100, undef, undef, undef, g101, .slice A102 l104.length c103, g105, g106, g107, g108, g109, g110, g111, g112, g113, g114, g115, g116, g117, g118, g119, g120, g121, undef] ∧ Own w0 D R w [rowA (Enc.int .u8) A102 c103 l104] [slA Rp0 (Enc.int .u8) Ap0 cp0 p0] ∧ pack_high_uint32_J1 l104 = some r0) ?_ ?_
  ·
    refine wp_seq ?_
    refine wp_reg ?_
    refine segEnd [.slice Ap0 p0.length cp0, .int .u32 p1, .int .i64 p2, undef, undef, undef, .slice none 0 0, .slice A2 (([] ++ p0).length) c3, .int .i64 (IntKind.i64.wrap (p2 - 1)), .slice Ap0 p0.length cp0, .slice A2 (([] ++ p0).length) c3, .int .i64 p2, .int .i64 (IntKind.i64.wrap (p2 - 1)), undef, undef, undef, undef, undef, undef, undef, undef, undef, undef, undef, undef, undef] (by kernel_rfl) ?_
    refine then_normal ?_
    refine wp_block ?_
    replace hM := bind_some hM
    obtain ⟨q65, hL66, hM⟩ := hM
    refine wp_loop_model (fun (s : ((List Int) × Int)) a w => ∃ (g67 : Value) (g68 : Value) (g69 : Value) (A70 : Option Addr) (c71 : Nat) (g74 : Value) (g75 : Value) (g76 : Value) (g77 : Value) (g78 : Value) (g79 : Value) (g80 : Value) (g81 : Value) (g82 : Value) (g83 : Value) (g84 : Value) (g85 : Value) (g86 : Value) (g87 : Value) (g88 : Value) (g89 : Value) (l72 : List Int) (x73 : Int), s = (l72, x73) ∧ a = Fr [g67, .int .u32 p1, g68, undef, undef, undef, g69, .slice A70 l72.length c71, .int .i64 x73, g74, g75, g76, g77, g78, g79, g80, g81, g82, g83, g84, g85, g86, g87, g88, g89, undef] ∧ Own w0 D R w [rowA (Enc.int .u8) A70 c71 l72] [slA Rp0 (Enc.int .u8) Ap0 cp0 p0]) ?_ hL66 ?_
    · rintro _ a w ⟨g67, g68, g69, A70, c71, g74, g75, g76, g77, g78, g79, g80, g81, g82, g83, g84, g85, g86, g87, g88, g89, l72, x73, rfl, rfl, hS⟩ o63 hM1 hout64
      replace hM1 : pack_high_uint32_L1 p1 l72 x73 = some o63 := hM1
      unfold pack_high_uint32_L1 at hM1
      refine wp_seq ?_
      refine wp_seq ?_
      refine wp_reg ?_
      refine segEnd [g67, .int .u32 p1, g68, undef, undef, undef, g69, .slice A70 l72.length c71, .int .i64 x73, g74, g75, g76, g77, .int .i64 x73, .bool (decide (x73 ≥ 0)), g80, g81, g82, g83, g84, g85, g86, g87, g88, g89, undef] (by kernel_rfl) ?_
      refine then_normal ?_
      refine wp_cond_split (t := decide (x73 ≥ 0)) (by kernel_rfl) (fun hc90 => ?_) (fun hc90 => ?_)
      · replace hM1 := (if_pos hc90).symm.trans hM1
        refine wp_skip ?_
        refine then_normal ?_
        refine wp_seq ?_
        refine wp_block ?_
        refine wp_reg ?_
        refine seg 4 [g67, .int .u32 p1, g68, undef, undef, undef, g69, .slice A70 l72.length c71, .int .i64 x73, g74, g75, g76, g77, .int .i64 x73, .bool (decide (x73 ≥ 0)), g80, g81, .slice A70 l72.length c71, .int .u32 p1, .int .i64 x73, .int .i64 (IntKind.i64.wrap (8 * x73)), g86, g87, g88, g89, undef] (by kernel_rfl) ?_
        replace hM1 := bind_some hM1
        obtain ⟨z91, h92, hM1⟩ := hM1
        refine s_gshr (.tmp 18) (.tmp 20) 31 .u32 .i64 p1 (IntKind.i64.wrap (8 * x73)) rfl (by kernel_rfl) (by kernel_rfl) (by kernel_rfl) h92 ?_
        refine seg 1 [g67, .int .u32 p1, g68, undef, undef, undef, g69, .slice A70 l72.length c71, .int .i64 x73, g74, g75, g76, g77, .int .i64 x73, .bool (decide (x73 ≥ 0)), g80, g81, .slice A70 l72.length c71, .int .u32 p1, .int .i64 x73, .int .i64 (IntKind.i64.wrap (8 * x73)), .int .u32 z91, .int .u8 (IntKind.u8.wrap (z91)), g88, g89, undef] (by kernel_rfl) ?_
        refine s_lit 22 5 1 1 #[(0, .tmp 22)] (e := (Enc.int .u8)) ([(IntKind.u8.wrap (z91))] : List Int) (.int .u8 0) rfl u22 (by kernel_rfl) (by decide) rfl (by kernel_rfl) (by kernel_rfl) hS (fun A93 c94 _ hS => ?_)
        replace hM1 := bind_some hM1
        obtain ⟨_, h95, hM1⟩ := hM1
        replace hS : Own w0 D R _ [rowA (Enc.int .u8) A70 c71 l72, rowA (Enc.int .u8) A93 c94 [(IntKind.u8.wrap (z91))]] [slA Rp0 (Enc.int .u8) Ap0 cp0 p0] := hS.pick 1 rfl
        refine s_append (.tmp 17) (.tmp 23) 22 22 5 1 (.slice A93 ([(IntKind.u8.wrap (z91))].length) c94) (e := (Enc.int .u8)) (xs := l72) (ys := [(IntKind.u8.wrap (z91))]) rfl u22 el5 (by kernel_rfl) (by kernel_rfl) (by kernel_rfl) hS ((SlR.of_row (hS.row_mem (List.Mem.tail _ (List.Mem.head _)))).src u22) (room_some h95).1 (room_some h95).2 (fun A96 c97 _ hS => ?_)
        refine segEnd [g67, .int .u32 p1, g68, undef, undef, undef, g69, .slice A96 ((l72 ++ [(IntKind.u8.wrap (z91))]).length) c97, .int .i64 x73, g74, g75, g76, g77, .int .i64 x73, .bool (decide (x73 ≥ 0)), g80, g81, .slice A70 l72.length c71, .int .u32 p1, .int .i64 x73, .int .i64 (IntKind.i64.wrap (8 * x73)), .int .u32 z91, .int .u8 (IntKind.u8.wrap (z91)), .slice A93 ([(IntKind.u8.wrap (z91))].length) c94, .slice A96 ((l72 ++ [(IntKind.u8.wrap (z91))]).length) c97, undef] (by kernel_rfl) ?_
        refine in_normal ?_
        refine then_normal ?_
        refine wp_reg ?_
        refine segEnd [g67, .int .u32 p1, g68, undef, undef, undef, g69, .slice A96 ((l72 ++ [(IntKind.u8.wrap (z91))]).length) c97, .int .i64 (IntKind.i64.wrap (x73 - 1)), g74, g75, g76, g77, .int .i64 x73, .bool (decide (x73 ≥ 0)), .int .i64 x73, .int .i64 (IntKind.i64.wrap (x73 - 1)), .slice A70 l72.length c71, .int .u32 p1, .int .i64 x73, .int .i64 (IntKind.i64.wrap (8 * x73)), .int .u32 z91, .int .u8 (IntKind.u8.wrap (z91)), .slice A93 ([(IntKind.u8.wrap (z91))].length) c94, .slice A96 ((l72 ++ [(IntKind.u8.wrap (z91))]).length) c97, undef] (by kernel_rfl) ?_
        refine then_normal ?_
        replace hS : Own w0 D R _ [rowA (Enc.int .u8) A96 c97 (l72 ++ [(IntKind.u8.wrap (z91))])] [slA Rp0 (Enc.int .u8) Ap0 cp0 p0] := hS.takeX 1
        exact ⟨((l72 ++ [(IntKind.u8.wrap (z91))]), (IntKind.i64.wrap (x73 - 1))), (Option.some.inj hM1).symm, g67, g68, g69, A96, c97, g74, g75, g76, g77, (.int .i64 x73), (.bool (decide (x73 ≥ 0))), (.int .i64 x73), (.int .i64 (IntKind.i64.wrap (x73 - 1))), (.slice A70 l72.length c71), (.int .u32 p1), (.int .i64 x73), (.int .i64 (IntKind.i64.wrap (8 * x73))), (.int .u32 z91), (.int .u8 (IntKind.u8.wrap (z91))), (.slice A93 ([(IntKind.u8.wrap (z91))].length) c94), (.slice A96 ((l72 ++ [(IntKind.u8.wrap (z91))]).length) c97), (l72 ++ [(IntKind.u8.wrap (z91))]), (IntKind.i64.wrap (x73 - 1)), rfl, (by kernel_rfl), hS⟩
      · replace hM1 := (if_neg (Bool.eq_false_iff.1 hc90)).symm.trans hM1
        refine wp_exit ?_
        refine then_exit ?_
        refine then_exit ?_
        have hr123 := hout64 _ (Option.some.inj hM1).symm
        subst hr123
        refine in_exit_eq ?_
        refine then_normal ?_
        exact ⟨g67, (.int .u32 p1), g68, g69, A70, c71, (.int .i64 x73), g74, g75, g76, g77, (.int .i64 x73), (.bool (decide (x73 ≥ 0))), g80, g81, g82, g83, g84, g85, g86, g87, g88, g89, l72, (by kernel_rfl), hS, hM⟩
    · exact ⟨(.slice Ap0 p0.length cp0), (.int .i64 p2), (.slice none 0 0), A2, c3, (.slice Ap0 p0.length cp0), (.slice A2 (([] ++ p0).length) c3), (.int .i64 p2), (.int .i64 (IntKind.i64.wrap (p2 - 1))), undef, undef, undef, undef, undef, undef, undef, undef, undef, undef, undef, undef, ([] ++ p0), (IntKind.i64.wrap (p2 - 1)), rfl, (by kernel_rfl), hS⟩
  · rintro a w ⟨g98, g99, g100, g101, A102, c103, g105, g106, g107, g108, g109, g110, g111, g112, g113, g114, g115, g116, g117, g118, g119, g120, g121, l104, rfl, hS, hM⟩
    unfold pack_high_uint32_J1 at hM
    refine wp_seq ?_
    refine wp_reg ?_
    refine segEnd [g98, g99, g100, undef, undef, undef, .slice A102 l104.length c103, .slice A102 l104.length c103, g105, g106, g107, g108, g109, g110, g111, g112, g113, g114, g115, g116, g117, g118, g119, g120, g121, .slice A102 l104.length c103] (by kernel_rfl) ?_
    refine then_normal ?_
    refine wp_ret ?_
    replace hS : Own w0 D R _ [rowA (Enc.int .u8) A102 c103 l104] [] := hS.dropS forall0
    obtain rfl := Option.some.inj hM
    refine ret_v (.slice A102 l104.length c103) (by kernel_rfl) ⟨A102, c103, rfl, hS⟩

theorem pack_high_uint64_W {w0 w : World} {D R : Nat → Prop} {Rp0 : Nat → Prop} {Ap0 : Option Addr} {cp0 : Nat} {p0 : List Int} {p1 : Int} {p2 : Int} {r0 : List Int} (hS : Own w0 D R w [] [slA Rp0 (Enc.int .u8) Ap0 cp0 p0]) (hD : ∀ b, ¬ D b) (hM : pack_high_uint64_M p0 p1 p2 = some r0) :
    Calls Go.Proofs.Try.prog 47 #[.slice Ap0 p0.length cp0, .int .u64 p1, .int .i64 p2] w (fun e w' => ∃ (ZA1 : Option Addr) (Zc2 : Nat), e = .returned (.slice ZA1 r0.length Zc2) ∧ Own w0 D R w' [rowA (Enc.int .u8) ZA1 Zc2 r0] []) := by
  refine enter (fn := Go.Proofs.Try.f47) [.slice Ap0 p0.length cp0, .int .u64 p1, .int .i64 p2, undef, undef, undef, undef, undef, undef, undef, undef, undef, undef, undef, undef, undef, undef, undef, undef, undef, undef, undef, undef, undef, undef, undef] (by kernel_rfl) rfl (by kernel_rfl) ?_
  unfold pack_high_uint64_M at hM
  refine wp_seq ?_
  refine wp_reg ?_
  refine segEnd [.slice Ap0 p0.length cp0, .int .u64 p1, .int .i64 p2, undef, undef, undef, .slice none 0 0, undef, undef, undef, undef, undef, undef, undef, undef, undef, undef, undef, undef, undef, undef, undef, undef, undef, undef, undef] (by kernel_rfl) ?_
  refine then_normal ?_
  refine wp_seq ?_
  refine wp_reg ?_
  refine seg 1 [.slice Ap0 p0.length cp0, .int .u64 p1, .int .i64 p2, undef, undef, undef, .slice none 0 0, undef, undef, .slice Ap0 p0.length cp0, undef, undef, undef, undef, undef, undef, undef, undef, undef, undef, undef, undef, undef, undef, undef, undef] (by kernel_rfl) ?_
  replace hM := bind_some hM
  obtain ⟨_, h1, hM⟩ := hM
  replace hS : Own w0 D R _ [rowA (Enc.int .u8) none 0 []] [slA Rp0 (Enc.int .u8) Ap0 cp0 p0] := hS.addNil (Enc.int .u8)
  refine s_append (.const (.slice none 0 0)) (.tmp 9) 22 22 5 1 (.slice Ap0 p0.length cp0) (e := (Enc.int .u8)) (xs := []) (ys := p0) rfl u22 el5 (by kernel_rfl) (by kernel_rfl) (by kernel_rfl) hS ((SlR.of_sl (hS.sl_mem (List.Mem.head _))).src u22) (room_some h1).1 (room_some h1).2 (fun A2 c3 _ hS => ?_)
  refine segEnd [.slice Ap0 p0.length cp0, .int .u64 p1, .int .i64 p2, undef, undef, undef, .slice none 0 0, .slice A2 (([] ++ p0).length) c3, undef, .slice Ap0 p0.length cp0, .slice A2 (([] ++ p0).length) c3, undef, undef, undef, undef, undef, undef, undef, undef, undef, undef, undef, undef, undef, undef, undef] (by kernel_rfl) ?_
  refine then_normal ?_
  refine wp_join (fun a w => ∃ (g98 : Value) (g99 : Value) (g100 : Value) (g101 : Value) (A102 : Option Addr) (c103 : Nat) (g105 : Value) (g106 : Value) (g107 : Value) (g108 : Value) (g109 : Value) (g110 : Value) (g111 : Value) (g112 : Value) (g113 : Value) (g114 : Value) (g115 : Value) (g116 : Value) (g117 : Value) (g118 : Value) (g119 : Value) (g120 : Value) (g121 : Value) (l104 : List Int), a = Fr [g98, g99, g100, undef, undef, undef, g101, .slice A102 l104.length c103, g105, g106, g107, g108, g109, g110, g111, g112, g113, g114, g115, g116, g117, g118, g119, g120, g121, undef] ∧ Own w0 D R w [rowA (Enc.int .u8) A102 c103 l104] [slA Rp0 (Enc.int .u8) Ap0 cp0 p0] ∧ pack_high_uint64_J1 l104 = some r0) ?_ ?_
  ·
    refine wp_seq ?_
    refine wp_reg ?_
    refine segEnd [.slice Ap0 p0.length cp0, .int .u64 p1, .int .i64 p2, undef, undef, undef, .slice none 0 0, .slice A2 (([] ++ p0).length) c3, .int .i64 (IntKind.i64.wrap (p2 - 1)), .slice Ap0 p0.length cp0, .slice A2 (([] ++ p0).length) c3, .int .i64 p2, .int .i64 (IntKind.i64.wrap (p2 - 1)), undef, undef, undef, undef, undef, undef, undef, undef, undef, undef, undef, undef, undef] (by kernel_rfl) ?_
    refine then_normal ?_
    refine wp_block ?_
    replace hM := bind_some hM
    obtain ⟨q65, hL66, hM⟩ := hM
    refine wp_loop_model (fun (s : ((List Int) × Int)) a w => ∃ (g67 : Value) (g68 : Value) (g69 : Value) (A70 : Option Addr) (c71 : Nat) (g74 : Value) (g75 : Value) (g76 : Value) (g77 : Value) (g78 : Value) (g79 : Value) (g80 : Value) (g81 : Value) (g82 : Value) (g83 : Value) (g84 : Value) (g85 : Value) (g86 : Value) (g87 : Value) (g88 : Value) (g89 : Value) (l72 : List Int) (x73 : Int), s = (l72, x73) ∧ a = Fr [g67, .int .u64 p1, g68, undef, undef, undef, g69, .slice A70 l72.length c71, .int .i64 x73, g74, g75, g76, g77, g78, g79, g80, g81, g82, g83, g84, g85, g86, g87, g88, g89, undef] ∧ Own w0 D R w [rowA (Enc.int .u8) A70 c71 l72] [slA Rp0 (Enc.int .u8) Ap0 cp0 p0]) ?_ hL66 ?_
    · rintro _ a w ⟨g67, g68, g69, A70, c71, g74, g75, g76, g77, g78, g79, g80, g81, g82, g83, g84, g85, g86, g87, g88, g89, l72, x73, rfl, rfl, hS⟩ o63 hM1 hout64
      replace hM1 : pack_high_uint64_L1 p1 l72 x73 = some o63 := hM1
      unfold pack_high_uint64_L1 at hM1
      refine wp_seq ?_
      refine wp_seq ?_
      refine wp_reg ?_
      refine segEnd [g67, .int .u64 p1, g68, undef, undef, undef, g69, .slice A70 l72.length c71, .int .i64 x73, g74, g75, g76, g77, .int .i64 x73, .bool (decide (x73 ≥ 0)), g80, g81, g82, g83, g84, g85, g86, g87, g88, g89, undef] (by kernel_rfl) ?_
      refine then_normal ?_
      refine wp_cond_split (t := decide (x73 ≥ 0)) (by kernel_rfl) (fun hc90 => ?_) (fun hc90 => ?_)
      · replace hM1 := (if_pos hc90).symm.trans hM1
        refine wp_skip ?_
        refine then_normal ?_
        refine wp_seq ?_
        refine wp_block ?_
        refine wp_reg ?_
        refine seg 4 [g67, .int .u64 p1, g68, undef, undef, undef, g69, .slice A70 l72.length c71, .int .i64 x73, g74, g75, g76, g77, .int .i64 x73, .bool (decide (x73 ≥ 0)), g80, g81, .slice A70 l72.length c71, .int .u64 p1, .int .i64 x73, .int .i64 (IntKind.i64.wrap (8 * x73)), g86, g87, g88, g89, undef] (by kernel_rfl) ?_
        replace hM1 := bind_some hM1
        obtain ⟨z91, h92, hM1⟩ := hM1
        refine s_gshr (.tmp 18) (.tmp 20) 30 .u64 .i64 p1 (IntKind.i64.wrap (8 * x73)) rfl (by kernel_rfl) (by kernel_rfl) (by kernel_rfl) h92 ?_
        refine seg 1 [g67, .int .u64 p1, g68, undef, undef, undef, g69, .slice A70 l72.length c71, .int .i64 x73, g74, g75, g76, g77, .int .i64 x73, .bool (decide (x73 ≥ 0)), g80, g81, .slice A70 l72.length c71, .int .u64 p1, .int .i64 x73, .int .i64 (IntKind.i64.wrap (8 * x73)), .int .u64 z91, .int .u8 (IntKind.u8.wrap (z91)), g88, g89, undef] (by kernel_rfl) ?_
        refine s_lit 22 5 1 1 #[(0, .tmp 22)] (e := (Enc.int .u8)) ([(IntKind.u8.wrap (z91))] : List Int) (.int .u8 0) rfl u22 (by kernel_rfl) (by decide) rfl (by kernel_rfl) (by kernel_rfl) hS (fun A93 c94 _ hS => ?_)
        replace hM1 := bind_some hM1
        obtain ⟨_, h95, hM1⟩ := hM1
        replace hS : Own w0 D R _ [rowA (Enc.int .u8) A70 c71 l72, rowA (Enc.int .u8) A93 c94 [(IntKind.u8.wrap (z91))]] [slA Rp0 (Enc.int .u8) Ap0 cp0 p0] := hS.pick 1 rfl
        refine s_append (.tmp 17) (.tmp 23) 22 22 5 1 (.slice A93 ([(IntKind.u8.wrap (z91))].length) c94) (e := (Enc.int .u8)) (xs := l72) (ys := [(IntKind.u8.wrap (z91))]) rfl u22 el5 (by kernel_rfl) (by kernel_rfl) (by kernel_rfl) hS ((SlR.of_row (hS.row_mem (List.Mem.tail _ (List.Mem.head _)))).src u22) (room_some h95).1 (room_some h95).2 (fun A96 c97 _ hS => ?_)
        refine segEnd [g67, .int .u64 p1, g68, undef, undef, undef, g69, .slice A96 ((l72 ++ [(IntKind.u8.wrap (z91))]).length) c97, .int .i64 x73, g74, g75, g76, g77, .int .i64 x73, .bool (decide (x73 ≥ 0)), g80, g81, .slice A70 l72.length c71, .int .u64 p1, .int .i64 x73, .int .i64 (IntKind.i64.wrap (8 * x73)), .int .u64 z91, .int .u8 (IntKind.u8.wrap (z91)), .slice A93 ([(IntKind.u8.wrap (z91))].length) c94, .slice A96 ((l72 ++ [(IntKind.u8.wrap (z91))]).length) c97, undef] (by kernel_rfl) ?_
        refine in_normal ?_
        refine then_normal ?_
        refine wp_reg ?_
        refine segEnd [g67, .int .u64 p1, g68, undef, undef, undef, g69, .slice A96 ((l72 ++ [(IntKind.u8.wrap (z91))]).length) c97, .int .i64 (IntKind.i64.wrap (x73 - 1)), g74, g75, g76, g77, .int .i64 x73, .bool (decide (x73 ≥ 0)), .int .i64 x73, .int .i64 (IntKind.i64.wrap (x73 - 1)), .slice A70 l72.length c71, .int .u64 p1, .int .i64 x73, .int .i64 (IntKind.i64.wrap (8 * x73)), .int .u64 z91, .int .u8 (IntKind.u8.wrap (z91)), .slice A93 ([(IntKind.u8.wrap (z91))].length) c94, .slice A96 ((l72 ++ [(IntKind.u8.wrap (z91))]).length) c97, undef] (by kernel_rfl) ?_
        refine then_normal ?_
        replace hS : Own w0 D R _ [rowA (Enc.int .u8) A96 c97 (l72 ++ [(IntKind.u8.wrap (z91))])] [slA Rp0 (Enc.int .u8) Ap0 cp0 p0] := hS.takeX 1
        exact ⟨((l72 ++ [(IntKind.u8.wrap (z91))]), (IntKind.i64.wrap (x73 - 1))), (Option.some.inj hM1).symm, g67, g68, g69, A96, c97, g74, g75, g76, g77, (.int .i64 x73), (.bool (decide (x73 ≥ 0))), (.int .i64 x73), (.int .i64 (IntKind.i64.wrap (x73 - 1))), (.slice A70 l72.length c71), (.int .u64 p1), (.int .i64 x73), (.int .i64 (IntKind.i64.wrap (8 * x73))), (.int .u64 z91), (.int .u8 (IntKind.u8.wrap (z91))), (.slice A93 ([(IntKind.u8.wrap (z91))].length) c94), (.slice A96 ((l72 ++ [(IntKind.u8.wrap (z91))]).length) c97), (l72 ++ [(IntKind.u8.wrap (z91))]), (IntKind.i64.wrap (x73 - 1)), rfl, (by kernel_rfl), hS⟩
      · replace hM1 := (if_neg (Bool.eq_false_iff.1 hc90)).symm.trans hM1
        refine wp_exit ?_
        refine then_exit ?_
        refine then_exit ?_
        have hr123 := hout64 _ (Option.some.inj hM1).symm
        subst hr123
        refine in_exit_eq ?_
        refine then_normal ?_
        exact ⟨g67, (.int .u64 p1), g68, g69, A70, c71, (.int .i64 x73), g74, g75, g76, g77, (.int .i64 x73), (.bool (decide (x73 ≥ 0))), g80, g81, g82, g83, g84, g85, g86, g87, g88, g89, l72, (by kernel_rfl), hS, hM⟩
    · exact ⟨(.slice Ap0 p0.length cp0), (.int .i64 p2), (.slice none 0 0), A2, c3, (.slice Ap0 p0.length cp0), (.slice A2 (([] ++ p0).length) c3), (.int .i64 p2), (.int .i64 (IntKind.i64.wrap (p2 - 1))), undef, undef, undef, undef, undef, undef, undef, undef, undef, undef, undef, undef, ([] ++ p0), (IntKind.i64.wrap (p2 - 1)), rfl, (by kernel_rfl), hS⟩
  · rintro a w ⟨g98, g99, g100, g101, A102, c103, g105, g106, g107, g108, g109, g110, g111, g112, g113, g114, g115, g116, g117, g118, g119, g120, g121, l104, rfl, hS, hM⟩
    unfold pack_high_uint64_J1 at hM
    refine wp_seq ?_
    refine wp_reg ?_
    refine segEnd [g98, g99, g100, undef, undef, undef, .slice A102 l104.length c103, .slice A102 l104.length c103, g105, g106, g107, g108, g109, g110, g111, g112, g113, g114, g115, g116, g117, g118, g119, g120, g121, .slice A102 l104.length c103] (by kernel_rfl) ?_
    refine then_normal ?_
    refine wp_ret ?_
    replace hS : Own w0 D R _ [rowA (Enc.int .u8) A102 c103 l104] [] := hS.dropS forall0
    obtain rfl := Option.some.inj hM
    refine ret_v (.slice A102 l104.length c103) (by kernel_rfl) ⟨A102, c103, rfl, hS⟩

theorem pack_Put32_W {w0 w : World} {D R : Nat → Prop} {Rp0 : Nat → Prop} {Ap0 : Option Addr} {cp0 : Nat} {p0 : List Int} {p1 : Int} {r0 : List Int} (hS : Own w0 D R w [] [slA Rp0 (Enc.int .u8) Ap0 cp0 p0]) (hD : ∀ b, ¬ D b) (hM : pack_Put32_M p0 p1 = some r0) :
    Calls Go.Proofs.Try.prog 15 #[.slice Ap0 p0.length cp0, .int .u32 p1] w (fun e w' => ∃ (ZA1 : Option Addr) (Zc2 : Nat), e = .returned (.slice ZA1 r0.length Zc2) ∧ Own w0 D R w' [rowA (Enc.int .u8) ZA1 Zc2 r0] []) := by
  refine enter (fn := Go.Proofs.Try.f15) [.slice Ap0 p0.length cp0, .int .u32 p1, undef, undef, undef, undef, undef, undef] (by kernel_rfl) rfl (by kernel_rfl) ?_
  unfold pack_Put32_M at hM
  refine wp_seq ?_
  refine wp_reg ?_
  refine segEnd [.slice Ap0 p0.length cp0, .int .u32 p1, undef, undef, .slice none 0 0, undef, undef, undef] (by kernel_rfl) ?_
  refine then_normal ?_
  refine wp_seq ?_
  refine wp_reg ?_
  refine seg 2 [.slice Ap0 p0.length cp0, .int .u32 p1, undef, undef, .slice none 0 0, .slice Ap0 p0.length cp0, .int .u32 p1, undef] (by kernel_rfl) ?_
  replace hM := bind_some hM
  obtain ⟨v1, h4, hM⟩ := hM
  have hP := Own.pre (Xi := []) (X := []) (Si := [slA Rp0 (Enc.int .u8) Ap0 cp0 p0]) hS (forall2 (hS.sl_mem (List.Mem.head _)) forall0) (forall2 (fun _ h => .inl ⟨_, (List.Mem.head _), h⟩) forall0)
  refine s_call 45 #[.slice Ap0 p0.length cp0, .int .u32 p1, .int .i64 4] (by kernel_rfl) (by kernel_rfl) ((pack_high_uint32_W hP doms_nil h4).mono ?_)
  rintro _ _ ⟨A2, c3, rfl, hQ⟩
  replace hS : Own w0 D R _ [rowA (Enc.int .u8) A2 c3 v1] [slA Rp0 (Enc.int .u8) Ap0 cp0 p0] := hS.post hQ (.inl rfl)
  clear hP hQ
  refine ⟨_, rfl, ?_⟩
  refine segEnd [.slice Ap0 p0.length cp0, .int .u32 p1, undef, undef, .slice A2 v1.length c3, .slice Ap0 p0.length cp0, .int .u32 p1, .slice A2 v1.length c3] (by kernel_rfl) ?_
  refine then_normal ?_
  refine wp_ret ?_
  replace hS : Own w0 D R _ [rowA (Enc.int .u8) A2 c3 v1] [] := hS.dropS forall0
  obtain rfl := Option.some.inj hM
  refine ret_v (.slice A2 v1.length c3) (by kernel_rfl) ⟨A2, c3, rfl, hS⟩

theorem pack_Put64_W {w0 w : World} {D R : Nat → Prop} {Rp0 : Nat → Prop} {Ap0 : Option Addr} {cp0 : Nat} {p0 : List Int} {p1 : Int} {r0 : List Int} (hS : Own w0 D R w [] [slA Rp0 (Enc.int .u8) Ap0 cp0 p0]) (hD : ∀ b, ¬ D b) (hM : pack_Put64_M p0 p1 = some r0) :
    Calls Go.Proofs.Try.prog 17 #[.slice Ap0 p0.length cp0, .int .u64 p1] w (fun e w' => ∃ (ZA1 : Option Addr) (Zc2 : Nat), e = .returned (.slice ZA1 r0.length Zc2) ∧ Own w0 D R w' [rowA (Enc.int .u8) ZA1 Zc2 r0] []) := by
  refine enter (fn := Go.Proofs.Try.f17) [.slice Ap0 p0.length cp0, .int .u64 p1, undef, undef, undef, undef, undef, undef] (by kernel_rfl) rfl (by kernel_rfl) ?_
  unfold pack_Put64_M at hM
  refine wp_seq ?_
  refine wp_reg ?_
  refine segEnd [.slice Ap0 p0.length cp0, .int .u64 p1, undef, undef, .slice none 0 0, undef, undef, undef] (by kernel_rfl) ?_
  refine then_normal ?_
  refine wp_seq ?_
  refine wp_reg ?_
  refine seg 2 [.slice Ap0 p0.length cp0, .int .u64 p1, undef, undef, .slice none 0 0, .slice Ap0 p0.length cp0, .int .u64 p1, undef] (by kernel_rfl) ?_
  replace hM := bind_some hM
  obtain ⟨v1, h4, hM⟩ := hM
  have hP := Own.pre (Xi := []) (X := []) (Si := [slA Rp0 (Enc.int .u8) Ap0 cp0 p0]) hS (forall2 (hS.sl_mem (List.Mem.head _)) forall0) (forall2 (fun _ h => .inl ⟨_, (List.Mem.head _), h⟩) forall0)
  refine s_call 47 #[.slice Ap0 p0.length cp0, .int .u64 p1, .int .i64 8] (by kernel_rfl) (by kernel_rfl) ((pack_high_uint64_W hP doms_nil h4).mono ?_)
  rintro _ _ ⟨A2, c3, rfl, hQ⟩
  replace hS : Own w0 D R _ [rowA (Enc.int .u8) A2 c3 v1] [slA Rp0 (Enc.int .u8) Ap0 cp0 p0] := hS.post hQ (.inl rfl)
  clear hP hQ
  refine ⟨_, rfl, ?_⟩
  refine segEnd [.slice Ap0 p0.length cp0, .int .u64 p1, undef, undef, .slice A2 v1.length c3, .slice Ap0 p0.length cp0, .int .u64 p1, .slice A2 v1.length c3] (by kernel_rfl) ?_
  refine then_normal ?_
  refine wp_ret ?_
  replace hS : Own w0 D R _ [rowA (Enc.int .u8) A2 c3 v1] [] := hS.dropS forall0
  obtain rfl := Option.some.inj hM
  refine ret_v (.slice A2 v1.length c3) (by kernel_rfl) ⟨A2, c3, rfl, hS⟩

theorem pack_PutNum_W {w0 w : World} {D R : Nat → Prop} {Rp0 : Nat → Prop} {Ap0 : Option Addr} {cp0 : Nat} {p0 : List Int} {p1 : Int} {r0 : List Int} (hS : Own w0 D R w [] [slA Rp0 (Enc.int .u8) Ap0 cp0 p0]) (hD : ∀ b, ¬ D b) (hM : pack_PutNum_M p0 p1 = some r0) :
    Calls Go.Proofs.Try.prog 19 #[.slice Ap0 p0.length cp0, .int .i64 p1] w (fun e w' => ∃ (ZA1 : Option Addr) (Zc2 : Nat), e = .returned (.slice ZA1 r0.length Zc2) ∧ Own w0 D R w' [rowA (Enc.int .u8) ZA1 Zc2 r0] []) := by
  refine enter (fn := Go.Proofs.Try.f19) [.slice Ap0 p0.length cp0, .int .i64 p1, undef, undef, undef, undef, undef, undef, undef, undef] (by kernel_rfl) rfl (by kernel_rfl) ?_
  unfold pack_PutNum_M at hM
  refine wp_seq ?_
  refine wp_reg ?_
  refine segEnd [.slice Ap0 p0.length cp0, .int .i64 p1, undef, undef, .slice none 0 0, undef, undef, undef, undef, undef] (by kernel_rfl) ?_
  refine then_normal ?_
  refine wp_seq ?_
  refine wp_reg ?_
  refine seg 4 [.slice Ap0 p0.length cp0, .int .i64 p1, undef, undef, .slice none 0 0, .slice Ap0 p0.length cp0, .int .i64 p1, .int .i64 (if 0 > p1 then 0 else p1), .int .u64 (IntKind.u64.wrap ((if 0 > p1 then 0 else p1))), undef] (by kernel_rfl) ?_
  replace hM := bind_some hM
  obtain ⟨v1, h4, hM⟩ := hM
  have hP := Own.pre (Xi := []) (X := []) (Si := [slA Rp0 (Enc.int .u8) Ap0 cp0 p0]) hS (forall2 (hS.sl_mem (List.Mem.head _)) forall0) (forall2 (fun _ h => .inl ⟨_, (List.Mem.head _), h⟩) forall0)
  refine s_call 17 #[.slice Ap0 p0.length cp0, .int .u64 (IntKind.u64.wrap ((if 0 > p1 then 0 else p1)))] (by kernel_rfl) (by kernel_rfl) ((pack_Put64_W hP doms_nil h4).mono ?_)
  rintro _ _ ⟨A2, c3, rfl, hQ⟩
  replace hS : Own w0 D R _ [rowA (Enc.int .u8) A2 c3 v1] [slA Rp0 (Enc.int .u8) Ap0 cp0 p0] := hS.post hQ (.inl rfl)
  clear hP hQ
  refine ⟨_, rfl, ?_⟩
  refine segEnd [.slice Ap0 p0.length cp0, .int .i64 p1, undef, undef, .slice A2 v1.length c3, .slice Ap0 p0.length cp0, .int .i64 p1, .int .i64 (if 0 > p1 then 0 else p1), .int .u64 (IntKind.u64.wrap ((if 0 > p1 then 0 else p1))), .slice A2 v1.length c3] (by kernel_rfl) ?_
  refine then_normal ?_
  refine wp_ret ?_
  replace hS : Own w0 D R _ [rowA (Enc.int .u8) A2 c3 v1] [] := hS.dropS forall0
  obtain rfl := Option.some.inj hM
  refine ret_v (.slice A2 v1.length c3) (by kernel_rfl) ⟨A2, c3, rfl, hS⟩

theorem pack_Put_W {w0 w : World} {D R : Nat → Prop} {Rp0 : Nat → Prop} {Ap0 : Option Addr} {cp0 : Nat} {Rp1 : Nat → Prop} {Ap1 : Option Addr} {cp1 : Nat} {p0 : List Int} {p1 : List Int} {r0 : List Int} (hS : Own w0 D R w [] [slA Rp0 (Enc.int .u8) Ap0 cp0 p0, slA Rp1 (Enc.int .u8) Ap1 cp1 p1]) (hD : ∀ b, ¬ D b) (hM : pack_Put_M p0 p1 = some r0) :
    Calls Go.Proofs.Try.prog 12 #[.slice Ap0 p0.length cp0, .slice Ap1 p1.length cp1] w (fun e w' => ∃ (ZA1 : Option Addr) (Zc2 : Nat), e = .returned (.slice ZA1 r0.length Zc2) ∧ Own w0 D R w' [rowA (Enc.int .u8) ZA1 Zc2 r0] []) := by
  refine enter (fn := Go.Proofs.Try.f12) [.slice Ap0 p0.length cp0, .slice Ap1 p1.length cp1, undef, undef, undef, undef, undef, undef, undef, undef, undef, undef] (by kernel_rfl) rfl (by kernel_rfl) ?_
  unfold pack_Put_M at hM
  refine wp_seq ?_
  refine wp_reg ?_
  refine segEnd [.slice Ap0 p0.length cp0, .slice Ap1 p1.length cp1, undef, undef, .slice none 0 0, undef, undef, undef, undef, undef, undef, undef] (by kernel_rfl) ?_
  refine then_normal ?_
  refine wp_seq ?_
  refine wp_reg ?_
  refine seg 4 [.slice Ap0 p0.length cp0, .slice Ap1 p1.length cp1, undef, undef, .slice none 0 0, .slice Ap0 p0.length cp0, .slice Ap1 p1.length cp1, .int .i64 (p1.length : Int), .int .u32 (IntKind.u32.wrap ((p1.length : Int))), undef, undef, undef] (by kernel_rfl) ?_
  replace hM := bind_some hM
  obtain ⟨v1, h4, hM⟩ := hM
  have hP := Own.pre (Xi := []) (X := []) (Si := [slA Rp0 (Enc.int .u8) Ap0 cp0 p0]) hS (forall2 (hS.sl_mem (List.Mem.head _)) forall0) (forall2 (fun _ h => .inl ⟨_, (List.Mem.head _), h⟩) forall0)
  refine s_call 15 #[.slice Ap0 p0.length cp0, .int .u32 (IntKind.u32.wrap ((p1.length : Int)))] (by kernel_rfl) (by kernel_rfl) ((pack_Put32_W hP doms_nil h4).mono ?_)
  rintro _ _ ⟨A2, c3, rfl, hQ⟩
  replace hS : Own w0 D R _ [rowA (Enc.int .u8) A2 c3 v1] [slA Rp0 (Enc.int .u8) Ap0 cp0 p0, slA Rp1 (Enc.int .u8) Ap1 cp1 p1] := hS.post hQ (.inl rfl)
  clear hP hQ
  refine ⟨_, rfl, ?_⟩
  refine seg 1 [.slice Ap0 p0.length cp0, .slice Ap1 p1.length cp1, undef, undef, .slice none 0 0, .slice Ap0 p0.length cp0, .slice Ap1 p1.length cp1, .int .i64 (p1.length : Int), .int .u32 (IntKind.u32.wrap ((p1.length : Int))), .slice A2 v1.length c3, .slice Ap1 p1.length cp1, undef] (by kernel_rfl) ?_
  replace hM := bind_some hM
  obtain ⟨_, h5, hM⟩ := hM
  refine s_append (.tmp 9) (.tmp 10) 22 22 5 1 (.slice Ap1 p1.length cp1) (e := (Enc.int .u8)) (xs := v1) (ys := p1) rfl u22 el5 (by kernel_rfl) (by kernel_rfl) (by kernel_rfl) hS ((SlR.of_sl (hS.sl_mem (List.Mem.tail _ (List.Mem.head _)))).src u22) (room_some h5).1 (room_some h5).2 (fun A6 c7 _ hS => ?_)
  refine segEnd [.slice Ap0 p0.length cp0, .slice Ap1 p1.length cp1, undef, undef, .slice A6 ((v1 ++ p1).length) c7, .slice Ap0 p0.length cp0, .slice Ap1 p1.length cp1, .int .i64 (p1.length : Int), .int .u32 (IntKind.u32.wrap ((p1.length : Int))), .slice A2 v1.length c3, .slice Ap1 p1.length cp1, .slice A6 ((v1 ++ p1).length) c7] (by kernel_rfl) ?_
  refine then_normal ?_
  refine wp_ret ?_
  replace hS : Own w0 D R _ [rowA (Enc.int .u8) A6 c7 (v1 ++ p1)] [] := hS.dropS forall0
  obtain rfl := Option.some.inj hM
  refine ret_v (.slice A6 ((v1 ++ p1).length) c7) (by kernel_rfl) ⟨A6, c7, rfl, hS⟩

theorem pack_low_uint32_W {w0 w : World} {D R : Nat → Prop} {Rp0 : Nat → Prop} {Ap0 : Option Addr} {cp0 : Nat} {p0 : List Int} {p1 : Int} {p2 : Int} {r0 : List Int} (hS : Own w0 D R w [] [slA Rp0 (Enc.int .u8) Ap0 cp0 p0]) (hD : ∀ b, ¬ D b) (hM : pack_low_uint32_M p0 p1 p2 = some r0) :
    Calls Go.Proofs.Try.prog 48 #[.slice Ap0 p0.length cp0, .int .u32 p1, .int .i64 p2] w (fun e w' => ∃ (ZA1 : Option Addr) (Zc2 : Nat), e = .returned (.slice ZA1 r0.length Zc2) ∧ Own w0 D R w' [rowA (Enc.int .u8) ZA1 Zc2 r0] []) := by
  refine enter (fn := Go.Proofs.Try.f48) [.slice Ap0 p0.length cp0, .int .u32 p1, .int .i64 p2, undef, undef, undef, undef, undef, undef, undef, undef, undef, undef, undef, undef, undef, undef, undef, undef, undef, undef, undef, undef, undef, undef] (by kernel_rfl) rfl (by kernel_rfl) ?_
  unfold pack_low_uint32_M at hM
  refine wp_seq ?_
  refine wp_reg ?_
  refine segEnd [.slice Ap0 p0.length cp0, .int .u32 p1, .int .i64 p2, undef, undef, undef, .slice none 0 0, undef, undef, undef, undef, undef, undef, undef, undef, undef, undef, undef, undef, undef, undef, undef, undef, undef, undef] (by kernel_rfl) ?_
  refine then_normal ?_
  refine wp_seq ?_
  refine wp_reg ?_
  refine seg 1 [.slice Ap0 p0.length cp0, .int .u32 p1, .int .i64 p2, undef, undef, undef, .slice none 0 0, undef, undef, .slice Ap0 p0.length cp0, undef, undef, undef, undef, undef, undef, undef, undef, undef, undef, undef, undef, undef, undef, undef] (by kernel_rfl) ?_
  replace hM := bind_some hM
  obtain ⟨_, h1, hM⟩ := hM
  replace hS : Own w0 D R _ [rowA (Enc.int .u8) none 0 []] [slA Rp0 (Enc.int .u8) Ap0 cp0 p0] := hS.addNil (Enc.int .u8)
  refine s_append (.const (.slice none 0 0)) (.tmp 9) 22 22 5 1 (.slice Ap0 p0.length cp0) (e := (Enc.int .u8)) (xs := []) (ys := p0) rfl u22 el5 (by kernel_rfl) (by kernel_rfl) (by kernel_rfl) hS ((SlR.of_sl (hS.sl_mem (List.Mem.head _))).src u22) (room_some h1).1 (room_some h1).2 (fun A2 c3 _ hS => ?_)
  refine segEnd [.slice Ap0 p0.length cp0, .int .u32 p1, .int .i64 p2, undef, undef, undef, .slice none 0 0, .slice A2 (([] ++ p0).length) c3, undef, .slice Ap0 p0.length cp0, .slice A2 (([] ++ p0).length) c3, undef, undef, undef, undef, undef, undef, undef, undef, undef, undef, undef, undef, undef, undef] (by kernel_rfl) ?_
  refine then_normal ?_
  refine wp_join (fun a w => ∃ (g92 : Value) (g93 : Value) (g94 : Value) (g95 : Value) (A96 : Option Addr) (c97 : Nat) (g99 : Value) (g100 : Value) (g101 : Value) (g102 : Value) (g103 : Value) (g104 : Value) (g105 : Value) (g106 : Value) (g107 : Value) (g108 : Value) (g109 : Value) (g110 : Value) (g111 : Value) (g112 : Value) (g113 : Value) (g114 : Value) (l98 : List Int), a = Fr [g92, g93, g94, undef, undef, undef, g95, .slice A96 l98.length c97, g99, g100, g101, g102, g103, g104, g105, g106, g107, g108, g109, g110, g111, g112, g113, g114, undef] ∧ Own w0 D R w [rowA (Enc.int .u8) A96 c97 l98] [slA Rp0 (Enc.int .u8) Ap0 cp0 p0] ∧ pack_low_uint32_J1 l98 = some r0) ?_ ?_
  ·
    refine wp_seq ?_
    refine wp_reg ?_
    refine segEnd [.slice Ap0 p0.length cp0, .int .u32 p1, .int .i64 p2, undef, undef, undef, .slice none 0 0, .slice A2 (([] ++ p0).length) c3, undef, .slice Ap0 p0.length cp0, .slice A2 (([] ++ p0).length) c3, .int .i64 p2, .int .i64 0, undef, undef, undef, undef, undef, undef, undef, undef, undef, undef, undef, undef] (by kernel_rfl) ?_
    refine then_normal ?_
    refine wp_block ?_
    replace hM := bind_some hM
    obtain ⟨q61, hL62, hM⟩ := hM
    refine wp_loop_model (fun (s : ((List Int) × Int)) a w => ∃ (g63 : Value) (g64 : Value) (g65 : Value) (A66 : Option Addr) (c67 : Nat) (g69 : Value) (g70 : Value) (g71 : Value) (g73 : Value) (g74 : Value) (g75 : Value) (g76 : Value) (g77 : Value) (g78 : Value) (g79 : Value) (g80 : Value) (g81 : Value) (g82 : Value) (g83 : Value) (l68 : List Int) (x72 : Int), s = (l68, x72) ∧ a = Fr [g63, .int .u32 p1, g64, undef, undef, undef, g65, .slice A66 l68.length c67, g69, g70, g71, .int .i64 p2, .int .i64 x72, g73, g74, g75, g76, g77, g78, g79, g80, g81, g82, g83, undef] ∧ Own w0 D R w [rowA (Enc.int .u8) A66 c67 l68] [slA Rp0 (Enc.int .u8) Ap0 cp0 p0]) ?_ hL62 ?_
    · rintro _ a w ⟨g63, g64, g65, A66, c67, g69, g70, g71, g73, g74, g75, g76, g77, g78, g79, g80, g81, g82, g83, l68, x72, rfl, rfl, hS⟩ o59 hM1 hout60
      replace hM1 : pack_low_uint32_L1 p1 p2 l68 x72 = some o59 := hM1
      unfold pack_low_uint32_L1 at hM1
      refine wp_seq ?_
      refine wp_reg ?_
      refine segEnd [g63, .int .u32 p1, g64, undef, undef, undef, g65, .slice A66 l68.length c67, g69, g70, g71, .int .i64 p2, .int .i64 x72, .bool (decide (x72 < p2)), g74, g75, g76, g77, g78, g79, g80, g81, g82, g83, undef] (by kernel_rfl) ?_
      refine then_normal ?_
      refine wp_seq ?_
      refine wp_cond_split (t := decide (x72 < p2)) (by kernel_rfl) (fun hc84 => ?_) (fun hc84 => ?_)
      · replace hM1 := (if_pos hc84).symm.trans hM1
        refine wp_skip ?_
        refine then_normal ?_
        refine wp_seq ?_
        refine wp_block ?_
        refine wp_seq ?_
        refine wp_reg ?_
        refine segEnd [g63, .int .u32 p1, g64, undef, undef, undef, g65, .slice A66 l68.length c67, .int .i64 x72, g70, g71, .int .i64 p2, .int .i64 x72, .bool (decide (x72 < p2)), .int .i64 x72, g75, g76, g77, g78, g79, g80, g81, g82, g83, undef] (by kernel_rfl) ?_
        refine then_normal ?_
        refine wp_reg ?_
        refine seg 4 [g63, .int .u32 p1, g64, undef, undef, undef, g65, .slice A66 l68.length c67, .int .i64 x72, g70, g71, .int .i64 p2, .int .i64 x72, .bool (decide (x72 < p2)), .int .i64 x72, .slice A66 l68.length c67, .int .u32 p1, .int .i64 x72, .int .i64 (IntKind.i64.wrap (8 * x72)), g79, g80, g81, g82, g83, undef] (by kernel_rfl) ?_
        replace hM1 := bind_some hM1
        obtain ⟨z85, h86, hM1⟩ := hM1
        refine s_gshr (.tmp 16) (.tmp 18) 31 .u32 .i64 p1 (IntKind.i64.wrap (8 * x72)) rfl (by kernel_rfl) (by kernel_rfl) (by kernel_rfl) h86 ?_
        refine seg 1 [g63, .int .u32 p1, g64, undef, undef, undef, g65, .slice A66 l68.length c67, .int .i64 x72, g70, g71, .int .i64 p2, .int .i64 x72, .bool (decide (x72 < p2)), .int .i64 x72, .slice A66 l68.length c67, .int .u32 p1, .int .i64 x72, .int .i64 (IntKind.i64.wrap (8 * x72)), .int .u32 z85, .int .u8 (IntKind.u8.wrap (z85)), g81, g82, g83, undef] (by kernel_rfl) ?_
        refine s_lit 22 5 1 1 #[(0, .tmp 20)] (e := (Enc.int .u8)) ([(IntKind.u8.wrap (z85))] : List Int) (.int .u8 0) rfl u22 (by kernel_rfl) (by decide) rfl (by kernel_rfl) (by kernel_rfl) hS (fun A87 c88 _ hS => ?_)
        replace hM1 := bind_some hM1
        obtain ⟨_, h89, hM1⟩ := hM1
        replace hS : Own w0 D R _ [rowA (Enc.int .u8) A66 c67 l68, rowA (Enc.int .u8) A87 c88 [(IntKind.u8.wrap (z85))]] [slA Rp0 (Enc.int .u8) Ap0 cp0 p0] := hS.pick 1 rfl
        refine s_append (.tmp 15) (.tmp 21) 22 22 5 1 (.slice A87 ([(IntKind.u8.wrap (z85))].length) c88) (e := (Enc.int .u8)) (xs := l68) (ys := [(IntKind.u8.wrap (z85))]) rfl u22 el5 (by kernel_rfl) (by kernel_rfl) (by kernel_rfl) hS ((SlR.of_row (hS.row_mem (List.Mem.tail _ (List.Mem.head _)))).src u22) (room_some h89).1 (room_some h89).2 (fun A90 c91 _ hS => ?_)
        refine segEnd [g63, .int .u32 p1, g64, undef, undef, undef, g65, .slice A90 ((l68 ++ [(IntKind.u8.wrap (z85))]).length) c91, .int .i64 x72, g70, g71, .int .i64 p2, .int .i64 x72, .bool (decide (x72 < p2)), .int .i64 x72, .slice A66 l68.length c67, .int .u32 p1, .int .i64 x72, .int .i64 (IntKind.i64.wrap (8 * x72)), .int .u32 z85, .int .u8 (IntKind.u8.wrap (z85)), .slice A87 ([(IntKind.u8.wrap (z85))].length) c88, .slice A90 ((l68 ++ [(IntKind.u8.wrap (z85))]).length) c91, g83, undef] (by kernel_rfl) ?_
        refine in_normal ?_
        refine then_normal ?_
        refine wp_reg ?_
        refine segEnd [g63, .int .u32 p1, g64, undef, undef, undef, g65, .slice A90 ((l68 ++ [(IntKind.u8.wrap (z85))]).length) c91, .int .i64 x72, g70, g71, .int .i64 p2, .int .i64 (IntKind.i64.wrap (x72 + 1)), .bool (decide (x72 < p2)), .int .i64 x72, .slice A66 l68.length c67, .int .u32 p1, .int .i64 x72, .int .i64 (IntKind.i64.wrap (8 * x72)), .int .u32 z85, .int .u8 (IntKind.u8.wrap (z85)), .slice A87 ([(IntKind.u8.wrap (z85))].length) c88, .slice A90 ((l68 ++ [(IntKind.u8.wrap (z85))]).length) c91, .int .i64 (IntKind.i64.wrap (x72 + 1)), undef] (by kernel_rfl) ?_
        refine then_normal ?_
        replace hS : Own w0 D R _ [rowA (Enc.int .u8) A90 c91 (l68 ++ [(IntKind.u8.wrap (z85))])] [slA Rp0 (Enc.int .u8) Ap0 cp0 p0] := hS.takeX 1
        exact ⟨((l68 ++ [(IntKind.u8.wrap (z85))]), (IntKind.i64.wrap (x72 + 1))), (Option.some.inj hM1).symm, g63, g64, g65, A90, c91, (.int .i64 x72), g70, g71, (.bool (decide (x72 < p2))), (.int .i64 x72), (.slice A66 l68.length c67), (.int .u32 p1), (.int .i64 x72), (.int .i64 (IntKind.i64.wrap (8 * x72))), (.int .u32 z85), (.int .u8 (IntKind.u8.wrap (z85))), (.slice A87 ([(IntKind.u8.wrap (z85))].length) c88), (.slice A90 ((l68 ++ [(IntKind.u8.wrap (z85))]).length) c91), (.int .i64 (IntKind.i64.wrap (x72 + 1))), (l68 ++ [(IntKind.u8.wrap (z85))]), (IntKind.i64.wrap (x72 + 1)), rfl, (by kernel_rfl), hS⟩
      · replace hM1 := (if_neg (Bool.eq_false_iff.1 hc84)).symm.trans hM1
        refine wp_exit ?_
        refine then_exit ?_
        refine then_exit ?_
        have hr116 := hout60 _ (Option.some.inj hM1).symm
        subst hr116
        refine in_exit_eq ?_
        refine then_normal ?_
        exact ⟨g63, (.int .u32 p1), g64, g65, A66, c67, g69, g70, g71, (.int .i64 p2), (.int .i64 x72), (.bool (decide (x72 < p2))), g74, g75, g76, g77, g78, g79, g80, g81, g82, g83, l68, (by kernel_rfl), hS, hM⟩
    · exact ⟨(.slice Ap0 p0.length cp0), (.int .i64 p2), (.slice none 0 0), A2, c3, undef, (.slice Ap0 p0.length cp0), (.slice A2 (([] ++ p0).length) c3), undef, undef, undef, undef, undef, undef, undef, undef, undef, undef, undef, ([] ++ p0), 0, rfl, (by kernel_rfl), hS⟩
  · rintro a w ⟨g92, g93, g94, g95, A96, c97, g99, g100, g101, g102, g103, g104, g105, g106, g107, g108, g109, g110, g111, g112, g113, g114, l98, rfl, hS, hM⟩
    unfold pack_low_uint32_J1 at hM
    refine wp_seq ?_
    refine wp_reg ?_
    refine segEnd [g92, g93, g94, undef, undef, undef, .slice A96 l98.length c97, .slice A96 l98.length c97, g99, g100, g101, g102, g103, g104, g105, g106, g107, g108, g109, g110, g111, g112, g113, g114, .slice A96 l98.length c97] (by kernel_rfl) ?_
    refine then_normal ?_
    refine wp_ret ?_
    replace hS : Own w0 D R _ [rowA (Enc.int .u8) A96 c97 l98] [] := hS.dropS forall0
    obtain rfl := Option.some.inj hM
    refine ret_v (.slice A96 l98.length c97) (by kernel_rfl) ⟨A96, c97, rfl, hS⟩

theorem pack_low_uint64_W {w0 w : World} {D R : Nat → Prop} {Rp0 : Nat → Prop} {Ap0 : Option Addr} {cp0 : Nat} {p0 : List Int} {p1 : Int} {p2 : Int} {r0 : List Int} (hS : Own w0 D R w [] [slA Rp0 (Enc.int .u8) Ap0 cp0 p0]) (hD : ∀ b, ¬ D b) (hM : pack_low_uint64_M p0 p1 p2 = some r0) :
    Calls Go.Proofs.Try.prog 49 #[.slice Ap0 p0.length cp0, .int .u64 p1, .int .i64 p2] w (fun e w' => ∃ (ZA1 : Option Addr) (Zc2 : Nat), e = .returned (.slice ZA1 r0.length Zc2) ∧ Own w0 D R w' [rowA (Enc.int .u8) ZA1 Zc2 r0] []) := by
  refine enter (fn := Go.Proofs.Try.f49) [.slice Ap0 p0.length cp0, .int .u64 p1, .int .i64 p2, undef, undef, undef, undef, undef, undef, undef, undef, undef, undef, undef, undef, undef, undef, undef, undef, undef, undef, undef, undef, undef, undef] (by kernel_rfl) rfl (by kernel_rfl) ?_
  unfold pack_low_uint64_M at hM
  refine wp_seq ?_
  refine wp_reg ?_
  refine segEnd [.slice Ap0 p0.length cp0, .int .u64 p1, .int .i64 p2, undef, undef, undef, .slice none 0 0, undef, undef, undef, undef, undef, undef, undef, undef, undef, undef, undef, undef, undef, undef, undef, undef, undef, undef] (by kernel_rfl) ?_
  refine then_normal ?_
  refine wp_seq ?_
  refine wp_reg ?_
  refine seg 1 [.slice Ap0 p0.length cp0, .int .u64 p1, .int .i64 p2, undef, undef, undef, .slice none 0 0, undef, undef, .slice Ap0 p0.length cp0, undef, undef, undef, undef, undef, undef, undef, undef, undef, undef, undef, undef, undef, undef, undef] (by kernel_rfl) ?_
  replace hM := bind_some hM
  obtain ⟨_, h1, hM⟩ := hM
  replace hS : Own w0 D R _ [rowA (Enc.int .u8) none 0 []] [slA Rp0 (Enc.int .u8) Ap0 cp0 p0] := hS.addNil (Enc.int .u8)
  refine s_append (.const (.slice none 0 0)) (.tmp 9) 22 22 5 1 (.slice Ap0 p0.length cp0) (e := (Enc.int .u8)) (xs := []) (ys := p0) rfl u22 el5 (by kernel_rfl) (by kernel_rfl) (by kernel_rfl) hS ((SlR.of_sl (hS.sl_mem (List.Mem.head _))).src u22) (room_some h1).1 (room_some h1).2 (fun A2 c3 _ hS => ?_)
  refine segEnd [.slice Ap0 p0.length cp0, .int .u64 p1, .int .i64 p2, undef, undef, undef, .slice none 0 0, .slice A2 (([] ++ p0).length) c3, undef, .slice Ap0 p0.length cp0, .slice A2 (([] ++ p0).length) c3, undef, undef, undef, undef, undef, undef, undef, undef, undef, undef, undef, undef, undef, undef] (by kernel_rfl) ?_
  refine then_normal ?_
  refine wp_join (fun a w => ∃ (g92 : Value) (g93 : Value) (g94 : Value) (g95 : Value) (A96 : Option Addr) (c97 : Nat) (g99 : Value) (g100 : Value) (g101 : Value) (g102 : Value) (g103 : Value) (g104 : Value) (g105 : Value) (g106 : Value) (g107 : Value) (g108 : Value) (g109 : Value) (g110 : Value) (g111 : Value) (g112 : Value) (g113 : Value) (g114 : Value) (l98 : List Int), a = Fr [g92, g93, g94, undef, undef, undef, g95, .slice A96 l98.length c97, g99, g100, g101, g102, g103, g104, g105, g106, g107, g108, g109, g110, g111, g112, g113, g114, undef] ∧ Own w0 D R w [rowA (Enc.int .u8) A96 c97 l98] [slA Rp0 (Enc.int .u8) Ap0 cp0 p0] ∧ pack_low_uint64_J1 l98 = some r0) ?_ ?_
  ·
    refine wp_seq ?_
    refine wp_reg ?_
    refine segEnd [.slice Ap0 p0.length cp0, .int .u64 p1, .int .i64 p2, undef, undef, undef, .slice none 0 0, .slice A2 (([] ++ p0).length) c3, undef, .slice Ap0 p0.length cp0, .slice A2 (([] ++ p0).length) c3, .int .i64 p2, .int .i64 0, undef, undef, undef, undef, undef, undef, undef, undef, undef, undef, undef, undef] (by kernel_rfl) ?_
    refine then_normal ?_
    refine wp_block ?_
    replace hM := bind_some hM
    obtain ⟨q61, hL62, hM⟩ := hM
    refine wp_loop_model (fun (s : ((List Int) × Int)) a w => ∃ (g63 : Value) (g64 : Value) (g65 : Value) (A66 : Option Addr) (c67 : Nat) (g69 : Value) (g70 : Value) (g71 : Value) (g73 : Value) (g74 : Value) (g75 : Value) (g76 : Value) (g77 : Value) (g78 : Value) (g79 : Value) (g80 : Value) (g81 : Value) (g82 : Value) (g83 : Value) (l68 : List Int) (x72 : Int), s = (l68, x72) ∧ a = Fr [g63, .int .u64 p1, g64, undef, undef, undef, g65, .slice A66 l68.length c67, g69, g70, g71, .int .i64 p2, .int .i64 x72, g73, g74, g75, g76, g77, g78, g79, g80, g81, g82, g83, undef] ∧ Own w0 D R w [rowA (Enc.int .u8) A66 c67 l68] [slA Rp0 (Enc.int .u8) Ap0 cp0 p0]) ?_ hL62 ?_
    · rintro _ a w ⟨g63, g64, g65, A66, c67, g69, g70, g71, g73, g74, g75, g76, g77, g78, g79, g80, g81, g82, g83, l68, x72, rfl, rfl, hS⟩ o59 hM1 hout60
      replace hM1 : pack_low_uint64_L1 p1 p2 l68 x72 = some o59 := hM1
      unfold pack_low_uint64_L1 at hM1
      refine wp_seq ?_
      refine wp_reg ?_
      refine segEnd [g63, .int .u64 p1, g64, undef, undef, undef, g65, .slice A66 l68.length c67, g69, g70, g71, .int .i64 p2, .int .i64 x72, .bool (decide (x72 < p2)), g74, g75, g76, g77, g78, g79, g80, g81, g82, g83, undef] (by kernel_rfl) ?_
      refine then_normal ?_
      refine wp_seq ?_
      refine wp_cond_split (t := decide (x72 < p2)) (by kernel_rfl) (fun hc84 => ?_) (fun hc84 => ?_)
      · replace hM1 := (if_pos hc84).symm.trans hM1
        refine wp_skip ?_
        refine then_normal ?_
        refine wp_seq ?_
        refine wp_block ?_
        refine wp_seq ?_
        refine wp_reg ?_
        refine segEnd [g63, .int .u64 p1, g64, undef, undef, undef, g65, .slice A66 l68.length c67, .int .i64 x72, g70, g71, .int .i64 p2, .int .i64 x72, .bool (decide (x72 < p2)), .int .i64 x72, g75, g76, g77, g78, g79, g80, g81, g82, g83, undef] (by kernel_rfl) ?_
        refine then_normal ?_
        refine wp_reg ?_
        refine seg 4 [g63, .int .u64 p1, g64, undef, undef, undef, g65, .slice A66 l68.length c67, .int .i64 x72, g70, g71, .int .i64 p2, .int .i64 x72, .bool (decide (x72 < p2)), .int .i64 x72, .slice A66 l68.length c67, .int .u64 p1, .int .i64 x72, .int .i64 (IntKind.i64.wrap (8 * x72)), g79, g80, g81, g82, g83, undef] (by kernel_rfl) ?_
        replace hM1 := bind_some hM1
        obtain ⟨z85, h86, hM1⟩ := hM1
        refine s_gshr (.tmp 16) (.tmp 18) 30 .u64 .i64 p1 (IntKind.i64.wrap (8 * x72)) rfl (by kernel_rfl) (by kernel_rfl) (by kernel_rfl) h86 ?_
        refine seg 1 [g63, .int .u64 p1, g64, undef, undef, undef, g65, .slice A66 l68.length c67, .int .i64 x72, g70, g71, .int .i64 p2, .int .i64 x72, .bool (decide (x72 < p2)), .int .i64 x72, .slice A66 l68.length c67, .int .u64 p1, .int .i64 x72, .int .i64 (IntKind.i64.wrap (8 * x72)), .int .u64 z85, .int .u8 (IntKind.u8.wrap (z85)), g81, g82, g83, undef] (by kernel_rfl) ?_
        refine s_lit 22 5 1 1 #[(0, .tmp 20)] (e := (Enc.int .u8)) ([(IntKind.u8.wrap (z85))] : List Int) (.int .u8 0) rfl u22 (by kernel_rfl) (by decide) rfl (by kernel_rfl) (by kernel_rfl) hS (fun A87 c88 _ hS => ?_)
        replace hM1 := bind_some hM1
        obtain ⟨_, h89, hM1⟩ := hM1
        replace hS : Own w0 D R _ [rowA (Enc.int .u8) A66 c67 l68, rowA (Enc.int .u8) A87 c88 [(IntKind.u8.wrap (z85))]] [slA Rp0 (Enc.int .u8) Ap0 cp0 p0] := hS.pick 1 rfl
        refine s_append (.tmp 15) (.tmp 21) 22 22 5 1 (.slice A87 ([(IntKind.u8.wrap (z85))].length) c88) (e := (Enc.int .u8)) (xs := l68) (ys := [(IntKind.u8.wrap (z85))]) rfl u22 el5 (by kernel_rfl) (by kernel_rfl) (by kernel_rfl) hS ((SlR.of_row (hS.row_mem (List.Mem.tail _ (List.Mem.head _)))).src u22) (room_some h89).1 (room_some h89).2 (fun A90 c91 _ hS => ?_)
        refine segEnd [g63, .int .u64 p1, g64, undef, undef, undef, g65, .slice A90 ((l68 ++ [(IntKind.u8.wrap (z85))]).length) c91, .int .i64 x72, g70, g71, .int .i64 p2, .int .i64 x72, .bool (decide (x72 < p2)), .int .i64 x72, .slice A66 l68.length c67, .int .u64 p1, .int .i64 x72, .int .i64 (IntKind.i64.wrap (8 * x72)), .int .u64 z85, .int .u8 (IntKind.u8.wrap (z85)), .slice A87 ([(IntKind.u8.wrap (z85))].length) c88, .slice A90 ((l68 ++ [(IntKind.u8.wrap (z85))]).length) c91, g83, undef] (by kernel_rfl) ?_
        refine in_normal ?_
        refine then_normal ?_
        refine wp_reg ?_
        refine segEnd [g63, .int .u64 p1, g64, undef, undef, undef, g65, .slice A90 ((l68 ++ [(IntKind.u8.wrap (z85))]).length) c91, .int .i64 x72, g70, g71, .int .i64 p2, .int .i64 (IntKind.i64.wrap (x72 + 1)), .bool (decide (x72 < p2)), .int .i64 x72, .slice A66 l68.length c67, .int .u64 p1, .int .i64 x72, .int .i64 (IntKind.i64.wrap (8 * x72)), .int .u64 z85, .int .u8 (IntKind.u8.wrap (z85)), .slice A87 ([(IntKind.u8.wrap (z85))].length) c88, .slice A90 ((l68 ++ [(IntKind.u8.wrap (z85))]).length) c91, .int .i64 (IntKind.i64.wrap (x72 + 1)), undef] (by kernel_rfl) ?_
        refine then_normal ?_
        replace hS : Own w0 D R _ [rowA (Enc.int .u8) A90 c91 (l68 ++ [(IntKind.u8.wrap (z85))])] [slA Rp0 (Enc.int .u8) Ap0 cp0 p0] := hS.takeX 1
        exact ⟨((l68 ++ [(IntKind.u8.wrap (z85))]), (IntKind.i64.wrap (x72 + 1))), (Option.some.inj hM1).symm, g63, g64, g65, A90, c91, (.int .i64 x72), g70, g71, (.bool (decide (x72 < p2))), (.int .i64 x72), (.slice A66 l68.length c67), (.int .u64 p1), (.int .i64 x72), (.int .i64 (IntKind.i64.wrap (8 * x72))), (.int .u64 z85), (.int .u8 (IntKind.u8.wrap (z85))), (.slice A87 ([(IntKind.u8.wrap (z85))].length) c88), (.slice A90 ((l68 ++ [(IntKind.u8.wrap (z85))]).length) c91), (.int .i64 (IntKind.i64.wrap (x72 + 1))), (l68 ++ [(IntKind.u8.wrap (z85))]), (IntKind.i64.wrap (x72 + 1)), rfl, (by kernel_rfl), hS⟩
      · replace hM1 := (if_neg (Bool.eq_false_iff.1 hc84)).symm.trans hM1
        refine wp_exit ?_
        refine then_exit ?_
        refine then_exit ?_
        have hr116 := hout60 _ (Option.some.inj hM1).symm
        subst hr116
        refine in_exit_eq ?_
        refine then_normal ?_
        exact ⟨g63, (.int .u64 p1), g64, g65, A66, c67, g69, g70, g71, (.int .i64 p2), (.int .i64 x72), (.bool (decide (x72 < p2))), g74, g75, g76, g77, g78, g79, g80, g81, g82, g83, l68, (by kernel_rfl), hS, hM⟩
    · exact ⟨(.slice Ap0 p0.length cp0), (.int .i64 p2), (.slice none 0 0), A2, c3, undef, (.slice Ap0 p0.length cp0), (.slice A2 (([] ++ p0).length) c3), undef, undef, undef, undef, undef, undef, undef, undef, undef, undef, undef, ([] ++ p0), 0, rfl, (by kernel_rfl), hS⟩
  · rintro a w ⟨g92, g93, g94, g95, A96, c97, g99, g100, g101, g102, g103, g104, g105, g106, g107, g108, g109, g110, g111, g112, g113, g114, l98, rfl, hS, hM⟩
    unfold pack_low_uint64_J1 at hM
    refine wp_seq ?_
    refine wp_reg ?_
    refine segEnd [g92, g93, g94, undef, undef, undef, .slice A96 l98.length c97, .slice A96 l98.length c97, g99, g100, g101, g102, g103, g104, g105, g106, g107, g108, g109, g110, g111, g112, g113, g114, .slice A96 l98.length c97] (by kernel_rfl) ?_
    refine then_normal ?_
    refine wp_ret ?_
    replace hS : Own w0 D R _ [rowA (Enc.int .u8) A96 c97 l98] [] := hS.dropS forall0
    obtain rfl := Option.some.inj hM
    refine ret_v (.slice A96 l98.length c97) (by kernel_rfl) ⟨A96, c97, rfl, hS⟩

theorem pack_PutLe32_W {w0 w : World} {D R : Nat → Prop} {Rp0 : Nat → Prop} {Ap0 : Option Addr} {cp0 : Nat} {p0 : List Int} {p1 : Int} {r0 : List Int} (hS : Own w0 D R w [] [slA Rp0 (Enc.int .u8) Ap0 cp0 p0]) (hD : ∀ b, ¬ D b) (hM : pack_PutLe32_M p0 p1 = some r0) :
    Calls Go.Proofs.Try.prog 21 #[.slice Ap0 p0.length cp0, .int .u32 p1] w (fun e w' => ∃ (ZA1 : Option Addr) (Zc2 : Nat), e = .returned (.slice ZA1 r0.length Zc2) ∧ Own w0 D R w' [rowA (Enc.int .u8) ZA1 Zc2 r0] []) := by
  refine enter (fn := Go.Proofs.Try.f21) [.slice Ap0 p0.length cp0, .int .u32 p1, undef, undef, undef, undef, undef, undef] (by kernel_rfl) rfl (by kernel_rfl) ?_
  unfold pack_PutLe32_M at hM
  refine wp_seq ?_
  refine wp_reg ?_
  refine segEnd [.slice Ap0 p0.length cp0, .int .u32 p1, undef, undef, .slice none 0 0, undef, undef, undef] (by kernel_rfl) ?_
  refine then_normal ?_
  refine wp_seq ?_
  refine wp_reg ?_
  refine seg 2 [.slice Ap0 p0.length cp0, .int .u32 p1, undef, undef, .slice none 0 0, .slice Ap0 p0.length cp0, .int .u32 p1, undef] (by kernel_rfl) ?_
  replace hM := bind_some hM
  obtain ⟨v1, h4, hM⟩ := hM
  have hP := Own.pre (Xi := []) (X := []) (Si := [slA Rp0 (Enc.int .u8) Ap0 cp0 p0]) hS (forall2 (hS.sl_mem (List.Mem.head _)) forall0) (forall2 (fun _ h => .inl ⟨_, (List.Mem.head _), h⟩) forall0)
  refine s_call 48 #[.slice Ap0 p0.length cp0, .int .u32 p1, .int .i64 4] (by kernel_rfl) (by kernel_rfl) ((pack_low_uint32_W hP doms_nil h4).mono ?_)
  rintro _ _ ⟨A2, c3, rfl, hQ⟩
  replace hS : Own w0 D R _ [rowA (Enc.int .u8) A2 c3 v1] [slA Rp0 (Enc.int .u8) Ap0 cp0 p0] := hS.post hQ (.inl rfl)
  clear hP hQ
  refine ⟨_, rfl, ?_⟩
  refine segEnd [.slice Ap0 p0.length cp0, .int .u32 p1, undef, undef, .slice A2 v1.length c3, .slice Ap0 p0.length cp0, .int .u32 p1, .slice A2 v1.length c3] (by kernel_rfl) ?_
  refine then_normal ?_
  refine wp_ret ?_
  replace hS : Own w0 D R _ [rowA (Enc.int .u8) A2 c3 v1] [] := hS.dropS forall0
  obtain rfl := Option.some.inj hM
  refine ret_v (.slice A2 v1.length c3) (by kernel_rfl) ⟨A2, c3, rfl, hS⟩

theorem pack_PutLe64_W {w0 w : World} {D R : Nat → Prop} {Rp0 : Nat → Prop} {Ap0 : Option Addr} {cp0 : Nat} {p0 : List Int} {p1 : Int} {r0 : List Int} (hS : Own w0 D R w [] [slA Rp0 (Enc.int .u8) Ap0 cp0 p0]) (hD : ∀ b, ¬ D b) (hM : pack_PutLe64_M p0 p1 = some r0) :
    Calls Go.Proofs.Try.prog 24 #[.slice Ap0 p0.length cp0, .int .u64 p1] w (fun e w' => ∃ (ZA1 : Option Addr) (Zc2 : Nat), e = .returned (.slice ZA1 r0.length Zc2) ∧ Own w0 D R w' [rowA (Enc.int .u8) ZA1 Zc2 r0] []) := by
  refine enter (fn := Go.Proofs.Try.f24) [.slice Ap0 p0.length cp0, .int .u64 p1, undef, undef, undef, undef, undef, undef] (by kernel_rfl) rfl (by kernel_rfl) ?_
  unfold pack_PutLe64_M at hM
  refine wp_seq ?_
  refine wp_reg ?_
  refine segEnd [.slice Ap0 p0.length cp0, .int .u64 p1, undef, undef, .slice none 0 0, undef, undef, undef] (by kernel_rfl) ?_
  refine then_normal ?_
  refine wp_seq ?_
  refine wp_reg ?_
  refine seg 2 [.slice Ap0 p0.length cp0, .int .u64 p1, undef, undef, .slice none 0 0, .slice Ap0 p0.length cp0, .int .u64 p1, undef] (by kernel_rfl) ?_
  replace hM := bind_some hM
  obtain ⟨v1, h4, hM⟩ := hM
  have hP := Own.pre (Xi := []) (X := []) (Si := [slA Rp0 (Enc.int .u8) Ap0 cp0 p0]) hS (forall2 (hS.sl_mem (List.Mem.head _)) forall0) (forall2 (fun _ h => .inl ⟨_, (List.Mem.head _), h⟩) forall0)
  refine s_call 49 #[.slice Ap0 p0.length cp0, .int .u64 p1, .int .i64 8] (by kernel_rfl) (by kernel_rfl) ((pack_low_uint64_W hP doms_nil h4).mono ?_)
  rintro _ _ ⟨A2, c3, rfl, hQ⟩
  replace hS : Own w0 D R _ [rowA (Enc.int .u8) A2 c3 v1] [slA Rp0 (Enc.int .u8) Ap0 cp0 p0] := hS.post hQ (.inl rfl)
  clear hP hQ
  refine ⟨_, rfl, ?_⟩
  refine segEnd [.slice Ap0 p0.length cp0, .int .u64 p1, undef, undef, .slice A2 v1.length c3, .slice Ap0 p0.length cp0, .int .u64 p1, .slice A2 v1.length c3] (by kernel_rfl) ?_
  refine then_normal ?_
  refine wp_ret ?_
  replace hS : Own w0 D R _ [rowA (Enc.int .u8) A2 c3 v1] [] := hS.dropS forall0
  obtain rfl := Option.some.inj hM
  refine ret_v (.slice A2 v1.length c3) (by kernel_rfl) ⟨A2, c3, rfl, hS⟩

theorem pack_take_W {w0 w : World} {D R : Nat → Prop} {Rp0 : Nat → Prop} {Ap0 : Option Addr} {cp0 : Nat} {p0 : List Int} {p1 : Int} {p2 : Int} {r0 : Int} (hS : Own w0 D R w [] [slA Rp0 (Enc.int .u8) Ap0 cp0 p0]) (hD : ∀ b, ¬ D b) (hM : pack_take_M p0 p1 p2 = some r0) :
    Calls Go.Proofs.Try.prog 53 #[.slice Ap0 p0.length cp0, .int .i64 p1, .int .i64 p2] w (fun e w' => e = .returned (.int .u64 r0) ∧ Own w0 D R w' [] []) := by
  refine enter (fn := Go.Proofs.Try.f53) [.slice Ap0 p0.length cp0, .int .i64 p1, .int .i64 p2, undef, undef, undef, undef, undef, undef, undef, undef, undef, undef, undef, undef, undef, undef, undef, undef, undef, undef, undef, undef, undef, undef, undef, undef, undef, undef, undef, undef, undef, undef, undef, undef, undef, undef] (by kernel_rfl) rfl (by kernel_rfl) ?_
  unfold pack_take_M at hM
  refine wp_seq ?_
  refine wp_reg ?_
  refine segEnd [.slice Ap0 p0.length cp0, .int .i64 p1, .int .i64 p2, undef, undef, undef, .int .u64 0, undef, undef, undef, undef, undef, undef, undef, undef, undef, undef, undef, undef, undef, undef, undef, undef, undef, undef, undef, undef, undef, undef, undef, undef, undef, undef, undef, undef, undef, undef] (by kernel_rfl) ?_
  refine then_normal ?_
  refine wp_seq ?_
  refine wp_reg ?_
  refine segEnd [.slice Ap0 p0.length cp0, .int .i64 p1, .int .i64 p2, undef, undef, undef, .int .u64 0, .int .u64 0, undef, undef, undef, undef, undef, undef, undef, undef, undef, undef, undef, undef, undef, undef, undef, undef, undef, undef, undef, undef, undef, undef, undef, undef, undef, undef, undef, undef, undef] (by kernel_rfl) ?_
  refine then_normal ?_
  refine wp_join (fun a w => ∃ (g109 : Value) (g110 : Value) (g111 : Value) (g112 : Value) (g114 : Value) (g115 : Value) (g116 : Value) (g117 : Value) (g118 : Value) (g119 : Value) (g120 : Value) (g121 : Value) (g122 : Value) (g123 : Value) (g124 : Value) (g125 : Value) (g126 : Value) (g127 : Value) (g128 : Value) (g129 : Value) (g130 : Value) (g131 : Value) (g132 : Value) (g133 : Value) (g134 : Value) (g135 : Value) (g136 : Value) (g137 : Value) (g138 : Value) (g139 : Value) (g140 : Value) (g141 : Value) (x113 : Int), a = Fr [g109, g110, g111, undef, undef, undef, g112, .int .u64 x113, g114, g115, g116, g117, g118, g119, g120, g121, g122, g123, g124, g125, g126, g127, g128, g129, g130, g131, g132, g133, g134, g135, g136, g137, g138, g139, g140, g141, undef] ∧ Own w0 D R w [] [slA Rp0 (Enc.int .u8) Ap0 cp0 p0] ∧ pack_take_J2 x113 = some r0) ?_ ?_
  ·
    refine wp_seq ?_
    refine wp_reg ?_
    refine segEnd [.slice Ap0 p0.length cp0, .int .i64 p1, .int .i64 p2, undef, undef, undef, .int .u64 0, .int .u64 0, undef, .int .i64 p2, .int .i64 0, undef, undef, undef, undef, undef, undef, undef, undef, undef, undef, undef, undef, undef, undef, undef, undef, undef, undef, undef, undef, undef, undef, undef, undef, undef, undef] (by kernel_rfl) ?_
    refine then_normal ?_
    refine wp_block ?_
    replace hM := bind_some hM
    obtain ⟨q55, hL56, hM⟩ := hM
    refine wp_loop_model (fun (s : (Int × Int)) a w => ∃ (g57 : Value) (g58 : Value) (g60 : Value) (g62 : Value) (g63 : Value) (g64 : Value) (g65 : Value) (g66 : Value) (g67 : Value) (g68 : Value) (g69 : Value) (g70 : Value) (g71 : Value) (g72 : Value) (g73 : Value) (g74 : Value) (g75 : Value) (g76 : Value) (g77 : Value) (g78 : Value) (g79 : Value) (g80 : Value) (g81 : Value) (g82 : Value) (g83 : Value) (g84 : Value) (g85 : Value) (g86 : Value) (x59 : Int) (x61 : Int), s = (x59, x61) ∧ a = Fr [.slice Ap0 p0.length cp0, .int .i64 p1, g57, undef, undef, undef, g58, .int .u64 x59, g60, .int .i64 p2, .int .i64 x61, g62, g63, g64, g65, g66, g67, g68, g69, g70, g71, g72, g73, g74, g75, g76, g77, g78, g79, g80, g81, g82, g83, g84, g85, g86, undef] ∧ Own w0 D R w [] [slA Rp0 (Enc.int .u8) Ap0 cp0 p0]) ?_ hL56 ?_
    · rintro _ a w ⟨g57, g58, g60, g62, g63, g64, g65, g66, g67, g68, g69, g70, g71, g72, g73, g74, g75, g76, g77, g78, g79, g80, g81, g82, g83, g84, g85, g86, x59, x61, rfl, rfl, hS⟩ o53 hM1 hout54
      replace hM1 : pack_take_L1 p0 p1 p2 x59 x61 = some o53 := hM1
      unfold pack_take_L1 at hM1
      refine wp_seq ?_
      refine wp_reg ?_
      refine segEnd [.slice Ap0 p0.length cp0, .int .i64 p1, g57, undef, undef, undef, g58, .int .u64 x59, g60, .int .i64 p2, .int .i64 x61, .bool (decide (x61 < p2)), g63, g64, g65, g66, g67, g68, g69, g70, g71, g72, g73, g74, g75, g76, g77, g78, g79, g80, g81, g82, g83, g84, g85, g86, undef] (by kernel_rfl) ?_
      refine then_normal ?_
      refine wp_seq ?_
      refine wp_cond_split (t := decide (x61 < p2)) (by kernel_rfl) (fun hc87 => ?_) (fun hc87 => ?_)
      · replace hM1 := (if_pos hc87).symm.trans hM1
        refine wp_skip ?_
        refine then_normal ?_
        refine wp_seq ?_
        refine wp_block ?_
        refine wp_seq ?_
        refine wp_reg ?_
        refine segEnd [.slice Ap0 p0.length cp0, .int .i64 p1, g57, undef, undef, undef, g58, .int .u64 x59, .int .i64 x61, .int .i64 p2, .int .i64 x61, .bool (decide (x61 < p2)), .int .i64 x61, g64, g65, g66, g67, g68, g69, g70, g71, g72, g73, g74, g75, g76, g77, g78, g79, g80, g81, g82, g83, g84, g85, g86, undef] (by kernel_rfl) ?_
        refine then_normal ?_
        refine wp_join (fun a w => ∃ (g89 : Value) (g90 : Value) (g91 : Value) (g92 : Value) (g93 : Value) (g94 : Value) (g95 : Value) (g96 : Value) (g97 : Value) (g98 : Value) (g99 : Value) (x100 : Bool), a = Fr [.slice Ap0 p0.length cp0, .int .i64 p1, g57, undef, undef, undef, g58, .int .u64 x59, .int .i64 x61, .int .i64 p2, .int .i64 x61, g89, g90, g91, g92, g93, g94, g95, g96, g97, g98, g99, .bool x100, g74, g75, g76, g77, g78, g79, g80, g81, g82, g83, g84, g85, g86, undef] ∧ Own w0 D R w [] [slA Rp0 (Enc.int .u8) Ap0 cp0 p0] ∧ pack_take_J1 p0 p1 x59 x61 x100 = some o53) ?_ ?_
        ·
          refine wp_reg ?_
          refine seg 3 [.slice Ap0 p0.length cp0, .int .i64 p1, g57, undef, undef, undef, g58, .int .u64 x59, .int .i64 x61, .int .i64 p2, .int .i64 x61, .bool (decide (x61 < p2)), .int .i64 x61, .int .i64 p1, .bool (decide (p1 ≥ 0)), .bool (decide (p1 ≥ 0)), g67, g68, g69, g70, g71, g72, g73, g74, g75, g76, g77, g78, g79, g80, g81, g82, g83, g84, g85, g86, undef] (by kernel_rfl) ?_
          rcases Bool.eq_false_or_eq_true (decide (p1 ≥ 0)) with hc88 | hc88
          · replace hM1 := (if_pos hc88).symm.trans hM1
            rw [hc88]
            refine segEnd [.slice Ap0 p0.length cp0, .int .i64 p1, g57, undef, undef, undef, g58, .int .u64 x59, .int .i64 x61, .int .i64 p2, .int .i64 x61, .bool (decide (x61 < p2)), .int .i64 x61, .int .i64 p1, .bool true, .bool true, .int .i64 p1, .slice Ap0 p0.length cp0, .int .i64 (p0.length : Int), .int .i64 x61, .int .i64 (IntKind.i64.wrap ((p0.length : Int) - x61)), .bool (decide (p1 < (IntKind.i64.wrap ((p0.length : Int) - x61)))), .bool (decide (p1 < (IntKind.i64.wrap ((p0.length : Int) - x61)))), g74, g75, g76, g77, g78, g79, g80, g81, g82, g83, g84, g85, g86, undef] (by kernel_rfl) ?_
            refine then_normal ?_
            exact ⟨(.bool (decide (x61 < p2))), (.int .i64 x61), (.int .i64 p1), (.bool true), (.bool true), (.int .i64 p1), (.slice Ap0 p0.length cp0), (.int .i64 (p0.length : Int)), (.int .i64 x61), (.int .i64 (IntKind.i64.wrap ((p0.length : Int) - x61))), (.bool (decide (p1 < (IntKind.i64.wrap ((p0.length : Int) - x61))))), (decide (p1 < (IntKind.i64.wrap ((p0.length : Int) - x61)))), (by kernel_rfl), hS, hM1⟩
          · replace hM1 := (if_neg (Bool.eq_false_iff.1 hc88)).symm.trans hM1
            rw [hc88]
            refine segEnd [.slice Ap0 p0.length cp0, .int .i64 p1, g57, undef, undef, undef, g58, .int .u64 x59, .int .i64 x61, .int .i64 p2, .int .i64 x61, .bool (decide (x61 < p2)), .int .i64 x61, .int .i64 p1, .bool false, .bool false, undef, undef, undef, undef, undef, undef, .bool false, g74, g75, g76, g77, g78, g79, g80, g81, g82, g83, g84, g85, g86, undef] (by kernel_rfl) ?_
            refine then_normal ?_
            exact ⟨(.bool (decide (x61 < p2))), (.int .i64 x61), (.int .i64 p1), (.bool false), (.bool false), undef, undef, undef, undef, undef, undef, false, (by kernel_rfl), hS, hM1⟩
        · rintro a w ⟨g89, g90, g91, g92, g93, g94, g95, g96, g97, g98, g99, x100, rfl, hS, hM1⟩
          unfold pack_take_J1 at hM1
          refine wp_cond_split (t := x100) (by kernel_rfl) (fun hc101 => ?_) (fun hc101 => ?_)
          · replace hM1 := (if_pos hc101).symm.trans hM1
            refine wp_reg ?_
            refine seg 5 [.slice Ap0 p0.length cp0, .int .i64 p1, g57, undef, undef, undef, g58, .int .u64 x59, .int .i64 x61, .int .i64 p2, .int .i64 x61, g89, g90, g91, g92, g93, g94, g95, g96, g97, g98, g99, .bool x100, .int .u64 x59, .slice Ap0 p0.length cp0, .int .i64 p1, .int .i64 x61, .int .i64 (IntKind.i64.wrap (p1 + x61)), g79, g80, g81, g82, g83, g84, g85, g86, undef] (by kernel_rfl) ?_
            replace hM1 := bind_some hM1
            obtain ⟨y102, h103, hM1⟩ := hM1
            have hi106 := ix_some h103
            refine s_index (A := Ap0) (cap := cp0) (.tmp 24) (.tmp 27) 22 5 1 .i64 (IntKind.i64.wrap (p1 + x61)) rfl u22 el5 (by kernel_rfl) (by kernel_rfl) (by kernel_rfl) (SlR.of_sl (hS.sl_mem (List.Mem.head _))) hi106.1 hi106.2.1 (fun p104 hp105 => ?_)
            refine s_load_el (.tmp 28) 5 1 p104 _ y102 rfl el5 (by kernel_rfl) (by kernel_rfl) hp105 (SlR.of_sl (hS.sl_mem (List.Mem.head _))) hi106.2.2 ?_
            refine seg 3 [.slice Ap0 p0.length cp0, .int .i64 p1, g57, undef, undef, undef, g58, .int .u64 x59, .int .i64 x61, .int .i64 p2, .int .i64 x61, g89, g90, g91, g92, g93, g94, g95, g96, g97, g98, g99, .bool x100, .int .u64 x59, .slice Ap0 p0.length cp0, .int .i64 p1, .int .i64 x61, .int .i64 (IntKind.i64.wrap (p1 + x61)), .pointer (some p104), .int .u8 y102, .int .u64 (IntKind.u64.wrap (y102)), .int .i64 x61, .int .i64 (IntKind.i64.wrap (8 * x61)), g84, g85, g86, undef] (by kernel_rfl) ?_
            replace hM1 := bind_some hM1
            obtain ⟨z107, h108, hM1⟩ := hM1
            refine s_gshl (.tmp 30) (.tmp 32) 30 .u64 .i64 (IntKind.u64.wrap (y102)) (IntKind.i64.wrap (8 * x61)) rfl (by kernel_rfl) (by kernel_rfl) (by kernel_rfl) h108 ?_
            refine segEnd [.slice Ap0 p0.length cp0, .int .i64 p1, g57, undef, undef, undef, g58, .int .u64 (bor .u64 x59 z107), .int .i64 x61, .int .i64 p2, .int .i64 x61, g89, g90, g91, g92, g93, g94, g95, g96, g97, g98, g99, .bool x100, .int .u64 x59, .slice Ap0 p0.length cp0, .int .i64 p1, .int .i64 x61, .int .i64 (IntKind.i64.wrap (p1 + x61)), .pointer (some p104), .int .u8 y102, .int .u64 (IntKind.u64.wrap (y102)), .int .i64 x61, .int .i64 (IntKind.i64.wrap (8 * x61)), .int .u64 z107, .int .u64 (bor .u64 x59 z107), g86, undef] (by kernel_rfl) ?_
            refine in_normal ?_
            refine then_normal ?_
            refine wp_reg ?_
            refine segEnd [.slice Ap0 p0.length cp0, .int .i64 p1, g57, undef, undef, undef, g58, .int .u64 (bor .u64 x59 z107), .int .i64 x61, .int .i64 p2, .int .i64 (IntKind.i64.wrap (x61 + 1)), g89, g90, g91, g92, g93, g94, g95, g96, g97, g98, g99, .bool x100, .int .u64 x59, .slice Ap0 p0.length cp0, .int .i64 p1, .int .i64 x61, .int .i64 (IntKind.i64.wrap (p1 + x61)), .pointer (some p104), .int .u8 y102, .int .u64 (IntKind.u64.wrap (y102)), .int .i64 x61, .int .i64 (IntKind.i64.wrap (8 * x61)), .int .u64 z107, .int .u64 (bor .u64 x59 z107), .int .i64 (IntKind.i64.wrap (x61 + 1)), undef] (by kernel_rfl) ?_
            refine then_normal ?_
            exact ⟨((bor .u64 x59 z107), (IntKind.i64.wrap (x61 + 1))), (Option.some.inj hM1).symm, g57, g58, (.int .i64 x61), g89, g90, g91, g92, g93, g94, g95, g96, g97, g98, g99, (.bool x100), (.int .u64 x59), (.slice Ap0 p0.length cp0), (.int .i64 p1), (.int .i64 x61), (.int .i64 (IntKind.i64.wrap (p1 + x61))), (.pointer (some p104)), (.int .u8 y102), (.int .u64 (IntKind.u64.wrap (y102))), (.int .i64 x61), (.int .i64 (IntKind.i64.wrap (8 * x61))), (.int .u64 z107), (.int .u64 (bor .u64 x59 z107)), (.int .i64 (IntKind.i64.wrap (x61 + 1))), (bor .u64 x59 z107), (IntKind.i64.wrap (x61 + 1)), rfl, (by kernel_rfl), hS⟩
          · replace hM1 := (if_neg (Bool.eq_false_iff.1 hc101)).symm.trans hM1
            refine wp_skip ?_
            refine in_normal ?_
            refine then_normal ?_
            refine wp_reg ?_
            refine segEnd [.slice Ap0 p0.length cp0, .int .i64 p1, g57, undef, undef, undef, g58, .int .u64 x59, .int .i64 x61, .int .i64 p2, .int .i64 (IntKind.i64.wrap (x61 + 1)), g89, g90, g91, g92, g93, g94, g95, g96, g97, g98, g99, .bool x100, g74, g75, g76, g77, g78, g79, g80, g81, g82, g83, g84, g85, .int .i64 (IntKind.i64.wrap (x61 + 1)), undef] (by kernel_rfl) ?_
            refine then_normal ?_
            exact ⟨(x59, (IntKind.i64.wrap (x61 + 1))), (Option.some.inj hM1).symm, g57, g58, (.int .i64 x61), g89, g90, g91, g92, g93, g94, g95, g96, g97, g98, g99, (.bool x100), g74, g75, g76, g77, g78, g79, g80, g81, g82, g83, g84, g85, (.int .i64 (IntKind.i64.wrap (x61 + 1))), x59, (IntKind.i64.wrap (x61 + 1)), rfl, (by kernel_rfl), hS⟩
      · replace hM1 := (if_neg (Bool.eq_false_iff.1 hc87)).symm.trans hM1
        refine wp_exit ?_
        refine then_exit ?_
        refine then_exit ?_
        have hr143 := hout54 _ (Option.some.inj hM1).symm
        subst hr143
        refine in_exit_eq ?_
        refine then_normal ?_
        exact ⟨(.slice Ap0 p0.length cp0), (.int .i64 p1), g57, g58, g60, (.int .i64 p2), (.int .i64 x61), (.bool (decide (x61 < p2))), g63, g64, g65, g66, g67, g68, g69, g70, g71, g72, g73, g74, g75, g76, g77, g78, g79, g80, g81, g82, g83, g84, g85, g86, x59, (by kernel_rfl), hS, hM⟩
    · exact ⟨(.int .i64 p2), (.int .u64 0), undef, undef, undef, undef, undef, undef, undef, undef, undef, undef, undef, undef, undef, undef, undef, undef, undef, undef, undef, undef, undef, undef, undef, undef, undef, undef, 0, 0, rfl, (by kernel_rfl), hS⟩
  · rintro a w ⟨g109, g110, g111, g112, g114, g115, g116, g117, g118, g119, g120, g121, g122, g123, g124, g125, g126, g127, g128, g129, g130, g131, g132, g133, g134, g135, g136, g137, g138, g139, g140, g141, x113, rfl, hS, hM⟩
    unfold pack_take_J2 at hM
    refine wp_seq ?_
    refine wp_reg ?_
    refine segEnd [g109, g110, g111, undef, undef, undef, .int .u64 x113, .int .u64 x113, g114, g115, g116, g117, g118, g119, g120, g121, g122, g123, g124, g125, g126, g127, g128, g129, g130, g131, g132, g133, g134, g135, g136, g137, g138, g139, g140, g141, .int .u64 x113] (by kernel_rfl) ?_
    refine then_normal ?_
    refine wp_ret ?_
    replace hS : Own w0 D R _ [] [] := hS.dropS forall0
    obtain rfl := Option.some.inj hM
    refine ret_v (.int .u64 x113) (by kernel_rfl) ⟨rfl, hS⟩

theorem pack_Le32_W {w0 w : World} {D R : Nat → Prop} {Rp0 : Nat → Prop} {Ap0 : Option Addr} {cp0 : Nat} {p0 : List Int} {p1 : Int} {r0 : Int} (hS : Own w0 D R w [] [slA Rp0 (Enc.int .u8) Ap0 cp0 p0]) (hD : ∀ b, ¬ D b) (hM : pack_Le32_M p0 p1 = some r0) :
    Calls Go.Proofs.Try.prog 29 #[.slice Ap0 p0.length cp0, .int .i64 p1] w (fun e w' => e = .returned (.int .u32 r0) ∧ Own w0 D R w' [] []) := by
  refine enter (fn := Go.Proofs.Try.f29) [.slice Ap0 p0.length cp0, .int .i64 p1, undef, undef, undef, undef, undef, undef, undef] (by kernel_rfl) rfl (by kernel_rfl) ?_
  unfold pack_Le32_M at hM
  refine wp_seq ?_
  refine wp_reg ?_
  refine segEnd [.slice Ap0 p0.length cp0, .int .i64 p1, undef, undef, .int .u32 0, undef, undef, undef, undef] (by kernel_rfl) ?_
  refine then_normal ?_
  refine wp_seq ?_
  refine wp_reg ?_
  refine seg 2 [.slice Ap0 p0.length cp0, .int .i64 p1, undef, undef, .int .u32 0, .slice Ap0 p0.length cp0, .int .i64 p1, undef, undef] (by kernel_rfl) ?_
  replace hM := bind_some hM
  obtain ⟨v1, h2, hM⟩ := hM
  have hP := Own.pre (Xi := []) (X := []) (Si := [slA Rp0 (Enc.int .u8) Ap0 cp0 p0]) hS (forall2 (hS.sl_mem (List.Mem.head _)) forall0) (forall2 (fun _ h => .inl ⟨_, (List.Mem.head _), h⟩) forall0)
  refine s_call 53 #[.slice Ap0 p0.length cp0, .int .i64 p1, .int .i64 4] (by kernel_rfl) (by kernel_rfl) ((pack_take_W hP doms_nil h2).mono ?_)
  rintro _ _ ⟨rfl, hQ⟩
  replace hS : Own w0 D R _ [] [slA Rp0 (Enc.int .u8) Ap0 cp0 p0] := hS.post hQ (.inl rfl)
  clear hP hQ
  refine ⟨_, rfl, ?_⟩
  refine segEnd [.slice Ap0 p0.length cp0, .int .i64 p1, undef, undef, .int .u32 (IntKind.u32.wrap (v1)), .slice Ap0 p0.length cp0, .int .i64 p1, .int .u64 v1, .int .u32 (IntKind.u32.wrap (v1))] (by kernel_rfl) ?_
  refine then_normal ?_
  refine wp_ret ?_
  replace hS : Own w0 D R _ [] [] := hS.dropS forall0
  obtain rfl := Option.some.inj hM
  refine ret_v (.int .u32 (IntKind.u32.wrap (v1))) (by kernel_rfl) ⟨rfl, hS⟩

theorem pack_Le64_W {w0 w : World} {D R : Nat → Prop} {Rp0 : Nat → Prop} {Ap0 : Option Addr} {cp0 : Nat} {p0 : List Int} {p1 : Int} {r0 : Int} (hS : Own w0 D R w [] [slA Rp0 (Enc.int .u8) Ap0 cp0 p0]) (hD : ∀ b, ¬ D b) (hM : pack_Le64_M p0 p1 = some r0) :
    Calls Go.Proofs.Try.prog 28 #[.slice Ap0 p0.length cp0, .int .i64 p1] w (fun e w' => e = .returned (.int .u64 r0) ∧ Own w0 D R w' [] []) := by
  refine enter (fn := Go.Proofs.Try.f28) [.slice Ap0 p0.length cp0, .int .i64 p1, undef, undef, undef, undef, undef, undef] (by kernel_rfl) rfl (by kernel_rfl) ?_
  unfold pack_Le64_M at hM
  refine wp_seq ?_
  refine wp_reg ?_
  refine segEnd [.slice Ap0 p0.length cp0, .int .i64 p1, undef, undef, .int .u64 0, undef, undef, undef] (by kernel_rfl) ?_
  refine then_normal ?_
  refine wp_seq ?_
  refine wp_reg ?_
  refine seg 2 [.slice Ap0 p0.length cp0, .int .i64 p1, undef, undef, .int .u64 0, .slice Ap0 p0.length cp0, .int .i64 p1, undef] (by kernel_rfl) ?_
  replace hM := bind_some hM
  obtain ⟨v1, h2, hM⟩ := hM
  have hP := Own.pre (Xi := []) (X := []) (Si := [slA Rp0 (Enc.int .u8) Ap0 cp0 p0]) hS (forall2 (hS.sl_mem (List.Mem.head _)) forall0) (forall2 (fun _ h => .inl ⟨_, (List.Mem.head _), h⟩) forall0)
  refine s_call 53 #[.slice Ap0 p0.length cp0, .int .i64 p1, .int .i64 8] (by kernel_rfl) (by kernel_rfl) ((pack_take_W hP doms_nil h2).mono ?_)
  rintro _ _ ⟨rfl, hQ⟩
  replace hS : Own w0 D R _ [] [slA Rp0 (Enc.int .u8) Ap0 cp0 p0] := hS.post hQ (.inl rfl)
  clear hP hQ
  refine ⟨_, rfl, ?_⟩
  refine segEnd [.slice Ap0 p0.length cp0, .int .i64 p1, undef, undef, .int .u64 v1, .slice Ap0 p0.length cp0, .int .i64 p1, .int .u64 v1] (by kernel_rfl) ?_
  refine then_normal ?_
  refine wp_ret ?_
  replace hS : Own w0 D R _ [] [] := hS.dropS forall0
  obtain rfl := Option.some.inj hM
  refine ret_v (.int .u64 v1) (by kernel_rfl) ⟨rfl, hS⟩

theorem pack_Join_W {w0 w : World} {D R : Nat → Prop} {Rp0 : Nat → Prop} {Ap0 : Option Addr} {cp0 : Nat} {p0 : List (List Int)} {r0 : List Int} (hS : Own w0 D R w [] [slsA Rp0 (Enc.int .u8) Ap0 cp0 p0]) (hD : ∀ b, ¬ D b) (hM : pack_Join_M p0 = some r0) :
    Calls Go.Proofs.Try.prog 14 #[.slice Ap0 p0.length cp0] w (fun e w' => ∃ (ZA1 : Option Addr) (Zc2 : Nat), e = .returned (.slice ZA1 r0.length Zc2) ∧ Own w0 D R w' [rowA (Enc.int .u8) ZA1 Zc2 r0] []) := by
  refine enter (fn := Go.Proofs.Try.f14) [.slice Ap0 p0.length cp0, undef, undef, undef, undef, undef, undef, undef, undef, undef, undef, undef, undef, undef, undef, undef, undef] (by kernel_rfl) rfl (by kernel_rfl) ?_
  unfold pack_Join_M at hM
  refine wp_seq ?_
  refine wp_reg ?_
  refine segEnd [.slice Ap0 p0.length cp0, undef, .slice none 0 0, undef, undef, undef, undef, undef, undef, undef, undef, undef, undef, undef, undef, undef, undef] (by kernel_rfl) ?_
  refine then_normal ?_
  refine wp_seq ?_
  refine wp_reg ?_
  refine segEnd [.slice Ap0 p0.length cp0, undef, .slice none 0 0, .slice none 0 0, undef, undef, undef, undef, undef, undef, undef, undef, undef, undef, undef, undef, undef] (by kernel_rfl) ?_
  refine then_normal ?_
  refine wp_join (fun a w => ∃ (g80 : Value) (g81 : Value) (A82 : Option Addr) (c83 : Nat) (g85 : Value) (g86 : Value) (g87 : Value) (g88 : Value) (g89 : Value) (g90 : Value) (g91 : Value) (g92 : Value) (g93 : Value) (g94 : Value) (g95 : Value) (l84 : List Int), a = Fr [g80, undef, g81, .slice A82 l84.length c83, undef, g85, g86, g87, g88, g89, g90, g91, g92, g93, g94, g95, undef] ∧ Own w0 D R w [rowA (Enc.int .u8) A82 c83 l84] [slsA Rp0 (Enc.int .u8) Ap0 cp0 p0] ∧ pack_Join_J1 l84 = some r0) ?_ ?_
  ·
    refine wp_seq ?_
    refine wp_reg ?_
    refine segEnd [.slice Ap0 p0.length cp0, undef, .slice none 0 0, .slice none 0 0, undef, undef, .slice Ap0 p0.length cp0, .int .i64 (p0.length : Int), .int .i64 0, undef, undef, undef, undef, undef, undef, undef, undef] (by kernel_rfl) ?_
    refine then_normal ?_
    refine wp_block ?_
    replace hM := bind_some hM
    obtain ⟨q52, hL53, hM⟩ := hM
    replace hS : Own w0 D R _ [rowA (Enc.int .u8) none 0 []] [slsA Rp0 (Enc.int .u8) Ap0 cp0 p0] := hS.addNil (Enc.int .u8)
    refine wp_loop_model (fun (s : ((List Int) × Int)) a w => ∃ (g54 : Value) (g55 : Value) (A56 : Option Addr) (c57 : Nat) (g59 : Value) (g61 : Value) (g62 : Value) (g63 : Value) (g64 : Value) (g65 : Value) (g66 : Value) (g67 : Value) (l58 : List Int) (x60 : Int), s = (l58, x60) ∧ a = Fr [g54, undef, g55, .slice A56 l58.length c57, undef, g59, .slice Ap0 p0.length cp0, .int .i64 (p0.length : Int), .int .i64 x60, g61, g62, g63, g64, g65, g66, g67, undef] ∧ Own w0 D R w [rowA (Enc.int .u8) A56 c57 l58] [slsA Rp0 (Enc.int .u8) Ap0 cp0 p0]) ?_ hL53 ?_
    · rintro _ a w ⟨g54, g55, A56, c57, g59, g61, g62, g63, g64, g65, g66, g67, l58, x60, rfl, rfl, hS⟩ o50 hM1 hout51
      replace hM1 : pack_Join_L1 p0 l58 x60 = some o50 := hM1
      unfold pack_Join_L1 at hM1
      refine wp_seq ?_
      refine wp_reg ?_
      refine segEnd [g54, undef, g55, .slice A56 l58.length c57, undef, g59, .slice Ap0 p0.length cp0, .int .i64 (p0.length : Int), .int .i64 x60, .bool (decide (x60 < (p0.length : Int))), g62, g63, g64, g65, g66, g67, undef] (by kernel_rfl) ?_
      refine then_normal ?_
      refine wp_seq ?_
      refine wp_cond_split (t := decide (x60 < (p0.length : Int))) (by kernel_rfl) (fun hc68 => ?_) (fun hc68 => ?_)
      · replace hM1 := (if_pos hc68).symm.trans hM1
        refine wp_skip ?_
        refine then_normal ?_
        refine wp_seq ?_
        refine wp_block ?_
        refine wp_seq ?_
        refine wp_reg ?_
        replace hM1 := bind_some hM1
        obtain ⟨y69, h70, hM1⟩ := hM1
        have hi73 := ix_some h70
        refine s_index_sls (A := Ap0) (cap := cp0) (.tmp 6) (.tmp 8) 23 22 .i64 x60 rfl u23 (by kernel_rfl) (by kernel_rfl) (by kernel_rfl) (by kernel_rfl) (hS.sls_mem (List.Mem.head _)) hi73.1 hi73.2.1 (fun p71 hp72 => ?_)
        refine s_load_sls (.tmp 10) 22 p71 _ rfl (by kernel_rfl) (by kernel_rfl) (by kernel_rfl) hp72 (hS.sls_mem (List.Mem.head _)) hi73.2.2 (fun A74 c75 hb76 => ?_)
        replace hS := hS.addEl (List.Mem.head _) hb76
        refine segEnd [g54, undef, g55, .slice A56 l58.length c57, undef, .slice A74 y69.length c75, .slice Ap0 p0.length cp0, .int .i64 (p0.length : Int), .int .i64 x60, .bool (decide (x60 < (p0.length : Int))), .pointer (some p71), .slice A74 y69.length c75, g64, g65, g66, g67, undef] (by kernel_rfl) ?_
        refine then_normal ?_
        refine wp_reg ?_
        refine seg 2 [g54, undef, g55, .slice A56 l58.length c57, undef, .slice A74 y69.length c75, .slice Ap0 p0.length cp0, .int .i64 (p0.length : Int), .int .i64 x60, .bool (decide (x60 < (p0.length : Int))), .pointer (some p71), .slice A74 y69.length c75, .slice A56 l58.length c57, .slice A74 y69.length c75, g66, g67, undef] (by kernel_rfl) ?_
        replace hM1 := bind_some hM1
        obtain ⟨_, h77, hM1⟩ := hM1
        refine s_append (.tmp 12) (.tmp 13) 22 22 5 1 (.slice A74 y69.length c75) (e := (Enc.int .u8)) (xs := l58) (ys := y69) rfl u22 el5 (by kernel_rfl) (by kernel_rfl) (by kernel_rfl) hS ((SlR.of_sl (hS.sl_mem (List.Mem.head _))).src u22) (room_some h77).1 (room_some h77).2 (fun A78 c79 _ hS => ?_)
        refine segEnd [g54, undef, g55, .slice A78 ((l58 ++ y69).length) c79, undef, .slice A74 y69.length c75, .slice Ap0 p0.length cp0, .int .i64 (p0.length : Int), .int .i64 x60, .bool (decide (x60 < (p0.length : Int))), .pointer (some p71), .slice A74 y69.length c75, .slice A56 l58.length c57, .slice A74 y69.length c75, .slice A78 ((l58 ++ y69).length) c79, g67, undef] (by kernel_rfl) ?_
        refine in_normal ?_
        refine then_normal ?_
        refine wp_reg ?_
        refine segEnd [g54, undef, g55, .slice A78 ((l58 ++ y69).length) c79, undef, .slice A74 y69.length c75, .slice Ap0 p0.length cp0, .int .i64 (p0.length : Int), .int .i64 (IntKind.i64.wrap (x60 + 1)), .bool (decide (x60 < (p0.length : Int))), .pointer (some p71), .slice A74 y69.length c75, .slice A56 l58.length c57, .slice A74 y69.length c75, .slice A78 ((l58 ++ y69).length) c79, .int .i64 (IntKind.i64.wrap (x60 + 1)), undef] (by kernel_rfl) ?_
        refine then_normal ?_
        replace hS : Own w0 D R _ [rowA (Enc.int .u8) A78 c79 (l58 ++ y69)] [slsA Rp0 (Enc.int .u8) Ap0 cp0 p0] := hS.dropS (forall2 (List.Mem.tail _ (List.Mem.head _)) forall0)
        exact ⟨((l58 ++ y69), (IntKind.i64.wrap (x60 + 1))), (Option.some.inj hM1).symm, g54, g55, A78, c79, (.slice A74 y69.length c75), (.bool (decide (x60 < (p0.length : Int)))), (.pointer (some p71)), (.slice A74 y69.length c75), (.slice A56 l58.length c57), (.slice A74 y69.length c75), (.slice A78 ((l58 ++ y69).length) c79), (.int .i64 (IntKind.i64.wrap (x60 + 1))), (l58 ++ y69), (IntKind.i64.wrap (x60 + 1)), rfl, (by kernel_rfl), hS⟩
      · replace hM1 := (if_neg (Bool.eq_false_iff.1 hc68)).symm.trans hM1
        refine wp_exit ?_
        refine then_exit ?_
        refine then_exit ?_
        have hr97 := hout51 _ (Option.some.inj hM1).symm
        subst hr97
        refine in_exit_eq ?_
        refine then_normal ?_
        exact ⟨g54, g55, A56, c57, g59, (.slice Ap0 p0.length cp0), (.int .i64 (p0.length : Int)), (.int .i64 x60), (.bool (decide (x60 < (p0.length : Int)))), g62, g63, g64, g65, g66, g67, l58, (by kernel_rfl), hS, hM⟩
    · exact ⟨(.slice Ap0 p0.length cp0), (.slice none 0 0), none, 0, undef, undef, undef, undef, undef, undef, undef, undef, [], 0, rfl, (by kernel_rfl), hS⟩
  · rintro a w ⟨g80, g81, A82, c83, g85, g86, g87, g88, g89, g90, g91, g92, g93, g94, g95, l84, rfl, hS, hM⟩
    unfold pack_Join_J1 at hM
    refine wp_seq ?_
    refine wp_reg ?_
    refine segEnd [g80, undef, .slice A82 l84.length c83, .slice A82 l84.length c83, undef, g85, g86, g87, g88, g89, g90, g91, g92, g93, g94, g95, .slice A82 l84.length c83] (by kernel_rfl) ?_
    refine then_normal ?_
    refine wp_ret ?_
    replace hS : Own w0 D R _ [rowA (Enc.int .u8) A82 c83 l84] [] := hS.dropS forall0
    obtain rfl := Option.some.inj hM
    refine ret_v (.slice A82 l84.length c83) (by kernel_rfl) ⟨A82, c83, rfl, hS⟩

end Go.Proofs.Ytknkonhdbmeolaa
