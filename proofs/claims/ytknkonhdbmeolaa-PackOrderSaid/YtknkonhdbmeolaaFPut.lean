/- The Go functions come to what their models say (Put). -/
import Derived.Test.YtknkonhdbmeolaaTy
import Derived.Test.YtknkonhdbmeolaaMPut
namespace Go.Proofs.Ytknkonhdbmeolaa
open Go Go.Lift
set_option maxRecDepth 100000
set_option maxHeartbeats 4000000
set_option linter.unusedVariables false

theorem pack_high_uint32_W {w0 w : World} {D R : Nat → Prop} {Rp0 : Nat → Prop} {Ap0 : Option Addr} {cp0 : Nat} {p0 : List Int} {p1 : Int} {p2 : Int} {r0 : List Int} (hS : Own w0 D R w [] [slA Rp0 (Enc.int .u8) Ap0 cp0 p0]) (hD : ∀ b, ¬ D b) (hM : pack_high_uint32_M p0 p1 p2 = some r0) :
    Calls Go.Proofs.Try.prog 45 #[.slice Ap0 p0.length cp0, .int .u32 p1, .int .i64 p2] w (fun e w' => ∃ (ZA1 : Option Addr) (Zc2 : Nat), e = .returned (.slice ZA1 r0.length Zc2) ∧ Own w0 D R w' [rowA (Enc.int .u8) ZA1 Zc2 r0] []) := by
  refine enter (fn := Go.Proofs.Try.f45) [.slice Ap0 p0.length cp0, .int .u32 p1, .int .i64 p2, undef, undef, undef, undef, undef, undef, undef, undef, undef, undef, undef, undef, undef, undef, undef, undef, undef, undef, undef, undef, undef, undef, undef] (by kernel_rfl) rfl (by kernel_rfl) ?_
  unfold pack_high_uint32_M at hM
  refine wp_seq ?_
  refine wp_reg ?_
  refine segEnd [.slice Ap0 p0.length cp0, .int .u32 p1, .int .i64 p2, undef, undef, undef, .slice none 0 0, undef, undef, undef, undef, undef, undef, undef, undef, undef, undef, undef, undef, undef, undef, undef, undef, undef, undef, undef] (by kernel_rfl) ?_
  refine then_normal ?_
  refine wp_seq ?_
  refine wp_reg ?_
  refine seg 1 [.slice Ap0 p0.length cp0, .int .u32 p1, .int .i64 p2, undef, undef, undef, .slice none 0 0, undef, undef, .slice Ap0 p0.length cp0, undef, undef, undef, undef, undef, undef, undef, undef, undef, undef, undef, undef, undef, undef, undef, undef] (by kernel_rfl) ?_
  replace hM := bind_some hM
  obtain ⟨_, h1, hM⟩ := hM
  replace hS : Own w0 D R _ [rowA (Enc.int .u8) none 0 []] [slA Rp0 (Enc.int .u8) Ap0 cp0 p0] := hS.addNil (Enc.int .u8)
  refine s_append (.const (.slice none 0 0)) (.tmp 9) 22 22 5 1 (.slice Ap0 p0.length cp0) (e := (Enc.int .u8)) (xs := []) (ys := p0) rfl u22 el5 (by kernel_rfl) (by kernel_rfl) (by kernel_rfl) hS ((SlR.of_sl (hS.sl_mem (List.Mem.head _))).src u22) (room_some h1).1 (room_some h1).2 (fun A2 c3 _ hS => ?_)
  refine segEnd [.slice Ap0 p0.length cp0, .int .u32 p1, .int .i64 p2, undef, undef, undef, .slice none 0 0, .slice A2 (([] ++ p0).length) c3, undef, .slice Ap0 p0.length cp0, .slice A2 (([] ++ p0).length) c3, undef, undef, undef, undef, undef, undef, undef, undef, undef, undef, undef, undef, undef, undef, undef] (by kernel_rfl) ?_
  refine then_normal ?_
  refine wp_join (fun a w => ∃ (A44 : Option Addr) (c45 : Nat) (G47 : Nat → Value) (l46 : List Int), a = Fr [(G47 0), (G47 1), (G47 2), undef, undef, undef, (G47 3), .slice A44 l46.length c45, (G47 4), (G47 5), (G47 6), (G47 7), (G47 8), (G47 9), (G47 10), (G47 11), (G47 12), (G47 13), (G47 14), (G47 15), (G47 16), (G47 17), (G47 18), (G47 19), (G47 20), undef] ∧ Own w0 D R w [rowA (Enc.int .u8) A44 c45 l46] [slA Rp0 (Enc.int .u8) Ap0 cp0 p0] ∧ pack_high_uint32_J1 l46 = some r0) ?_ ?_
  ·
    refine wp_seq ?_
    refine wp_reg ?_
    refine segEnd [.slice Ap0 p0.length cp0, .int .u32 p1, .int .i64 p2, undef, undef, undef, .slice none 0 0, .slice A2 (([] ++ p0).length) c3, .int .i64 (IntKind.i64.wrap (p2 - 1)), .slice Ap0 p0.length cp0, .slice A2 (([] ++ p0).length) c3, .int .i64 p2, .int .i64 (IntKind.i64.wrap (p2 - 1)), undef, undef, undef, undef, undef, undef, undef, undef, undef, undef, undef, undef, undef] (by kernel_rfl) ?_
    refine then_normal ?_
    refine wp_block ?_
    replace hM := bind_some hM
    obtain ⟨q29, hL30, hM⟩ := hM
    refine wp_loop_model (fun (s : ((List Int) × Int)) a w => ∃ (A31 : Option Addr) (c32 : Nat) (G35 : Nat → Value) (l33 : List Int) (x34 : Int), s = (l33, x34) ∧ a = Fr [(G35 0), .int .u32 p1, (G35 1), undef, undef, undef, (G35 2), .slice A31 l33.length c32, .int .i64 x34, (G35 3), (G35 4), (G35 5), (G35 6), (G35 7), (G35 8), (G35 9), (G35 10), (G35 11), (G35 12), (G35 13), (G35 14), (G35 15), (G35 16), (G35 17), (G35 18), undef] ∧ Own w0 D R w [rowA (Enc.int .u8) A31 c32 l33] [slA Rp0 (Enc.int .u8) Ap0 cp0 p0]) ?_ hL30 ?_
    · rintro _ a w ⟨A31, c32, G35, l33, x34, rfl, rfl, hS⟩ o27 hM1 hout28
      replace hM1 : pack_high_uint32_L1 p1 l33 x34 = some o27 := hM1
      unfold pack_high_uint32_L1 at hM1
      refine wp_seq ?_
      refine wp_seq ?_
      refine wp_reg ?_
      refine segEnd [(G35 0), .int .u32 p1, (G35 1), undef, undef, undef, (G35 2), .slice A31 l33.length c32, .int .i64 x34, (G35 3), (G35 4), (G35 5), (G35 6), .int .i64 x34, .bool (decide (x34 ≥ 0)), (G35 9), (G35 10), (G35 11), (G35 12), (G35 13), (G35 14), (G35 15), (G35 16), (G35 17), (G35 18), undef] (by kernel_rfl) ?_
      refine then_normal ?_
      refine wp_cond_split (t := decide (x34 ≥ 0)) (by kernel_rfl) (fun hc36 => ?_) (fun hc36 => ?_)
      · replace hM1 := (if_pos hc36).symm.trans hM1
        refine wp_skip ?_
        refine then_normal ?_
        refine wp_seq ?_
        refine wp_block ?_
        refine wp_reg ?_
        refine seg 4 [(G35 0), .int .u32 p1, (G35 1), undef, undef, undef, (G35 2), .slice A31 l33.length c32, .int .i64 x34, (G35 3), (G35 4), (G35 5), (G35 6), .int .i64 x34, .bool (decide (x34 ≥ 0)), (G35 9), (G35 10), .slice A31 l33.length c32, .int .u32 p1, .int .i64 x34, .int .i64 (IntKind.i64.wrap (8 * x34)), (G35 15), (G35 16), (G35 17), (G35 18), undef] (by kernel_rfl) ?_
        replace hM1 := bind_some hM1
        obtain ⟨z37, h38, hM1⟩ := hM1
        refine s_gshr (.tmp 18) (.tmp 20) 31 .u32 .i64 p1 (IntKind.i64.wrap (8 * x34)) rfl (by kernel_rfl) (by kernel_rfl) (by kernel_rfl) h38 ?_
        refine seg 1 [(G35 0), .int .u32 p1, (G35 1), undef, undef, undef, (G35 2), .slice A31 l33.length c32, .int .i64 x34, (G35 3), (G35 4), (G35 5), (G35 6), .int .i64 x34, .bool (decide (x34 ≥ 0)), (G35 9), (G35 10), .slice A31 l33.length c32, .int .u32 p1, .int .i64 x34, .int .i64 (IntKind.i64.wrap (8 * x34)), .int .u32 z37, .int .u8 (IntKind.u8.wrap (z37)), (G35 17), (G35 18), undef] (by kernel_rfl) ?_
        refine s_lit 22 5 1 1 #[(0, .tmp 22)] (e := (Enc.int .u8)) ([(IntKind.u8.wrap (z37))] : List Int) (.int .u8 0) rfl u22 (by kernel_rfl) (by decide) rfl (by kernel_rfl) (by kernel_rfl) hS (fun A39 c40 _ hS => ?_)
        replace hM1 := bind_some hM1
        obtain ⟨_, h41, hM1⟩ := hM1
        replace hS : Own w0 D R _ [rowA (Enc.int .u8) A31 c32 l33, rowA (Enc.int .u8) A39 c40 [(IntKind.u8.wrap (z37))]] [slA Rp0 (Enc.int .u8) Ap0 cp0 p0] := hS.pick 1 rfl
        refine s_append (.tmp 17) (.tmp 23) 22 22 5 1 (.slice A39 ([(IntKind.u8.wrap (z37))].length) c40) (e := (Enc.int .u8)) (xs := l33) (ys := [(IntKind.u8.wrap (z37))]) rfl u22 el5 (by kernel_rfl) (by kernel_rfl) (by kernel_rfl) hS ((SlR.of_row (hS.row_mem (List.Mem.tail _ (List.Mem.head _)))).src u22) (room_some h41).1 (room_some h41).2 (fun A42 c43 _ hS => ?_)
        refine segEnd [(G35 0), .int .u32 p1, (G35 1), undef, undef, undef, (G35 2), .slice A42 ((l33 ++ [(IntKind.u8.wrap (z37))]).length) c43, .int .i64 x34, (G35 3), (G35 4), (G35 5), (G35 6), .int .i64 x34, .bool (decide (x34 ≥ 0)), (G35 9), (G35 10), .slice A31 l33.length c32, .int .u32 p1, .int .i64 x34, .int .i64 (IntKind.i64.wrap (8 * x34)), .int .u32 z37, .int .u8 (IntKind.u8.wrap (z37)), .slice A39 ([(IntKind.u8.wrap (z37))].length) c40, .slice A42 ((l33 ++ [(IntKind.u8.wrap (z37))]).length) c43, undef] (by kernel_rfl) ?_
        refine in_normal ?_
        refine then_normal ?_
        refine wp_reg ?_
        refine segEnd [(G35 0), .int .u32 p1, (G35 1), undef, undef, undef, (G35 2), .slice A42 ((l33 ++ [(IntKind.u8.wrap (z37))]).length) c43, .int .i64 (IntKind.i64.wrap (x34 - 1)), (G35 3), (G35 4), (G35 5), (G35 6), .int .i64 x34, .bool (decide (x34 ≥ 0)), .int .i64 x34, .int .i64 (IntKind.i64.wrap (x34 - 1)), .slice A31 l33.length c32, .int .u32 p1, .int .i64 x34, .int .i64 (IntKind.i64.wrap (8 * x34)), .int .u32 z37, .int .u8 (IntKind.u8.wrap (z37)), .slice A39 ([(IntKind.u8.wrap (z37))].length) c40, .slice A42 ((l33 ++ [(IntKind.u8.wrap (z37))]).length) c43, undef] (by kernel_rfl) ?_
        refine then_normal ?_
        replace hS : Own w0 D R _ [rowA (Enc.int .u8) A42 c43 (l33 ++ [(IntKind.u8.wrap (z37))])] [slA Rp0 (Enc.int .u8) Ap0 cp0 p0] := hS.takeX 1
        exact ⟨((l33 ++ [(IntKind.u8.wrap (z37))]), (IntKind.i64.wrap (x34 - 1))), (Option.some.inj hM1).symm, A42, c43, (fun i => ([(G35 0), (G35 1), (G35 2), (G35 3), (G35 4), (G35 5), (G35 6), .int .i64 x34, .bool (decide (x34 ≥ 0)), .int .i64 x34, .int .i64 (IntKind.i64.wrap (x34 - 1)), .slice A31 l33.length c32, .int .u32 p1, .int .i64 x34, .int .i64 (IntKind.i64.wrap (8 * x34)), .int .u32 z37, .int .u8 (IntKind.u8.wrap (z37)), .slice A39 ([(IntKind.u8.wrap (z37))].length) c40, .slice A42 ((l33 ++ [(IntKind.u8.wrap (z37))]).length) c43] : List Value).getD i undef), (l33 ++ [(IntKind.u8.wrap (z37))]), (IntKind.i64.wrap (x34 - 1)), rfl, (by kernel_rfl), hS⟩
      · replace hM1 := (if_neg (Bool.eq_false_iff.1 hc36)).symm.trans hM1
        refine wp_exit ?_
        refine then_exit ?_
        refine then_exit ?_
        have hr49 := hout28 _ (Option.some.inj hM1).symm
        subst hr49
        refine in_exit_eq ?_
        refine then_normal ?_
        exact ⟨A31, c32, (fun i => ([(G35 0), .int .u32 p1, (G35 1), (G35 2), .int .i64 x34, (G35 3), (G35 4), (G35 5), (G35 6), .int .i64 x34, .bool (decide (x34 ≥ 0)), (G35 9), (G35 10), (G35 11), (G35 12), (G35 13), (G35 14), (G35 15), (G35 16), (G35 17), (G35 18)] : List Value).getD i undef), l33, (by kernel_rfl), hS, hM⟩
    · exact ⟨A2, c3, (fun i => ([.slice Ap0 p0.length cp0, .int .i64 p2, .slice none 0 0, .slice Ap0 p0.length cp0, .slice A2 (([] ++ p0).length) c3, .int .i64 p2, .int .i64 (IntKind.i64.wrap (p2 - 1)), undef, undef, undef, undef, undef, undef, undef, undef, undef, undef, undef, undef] : List Value).getD i undef), ([] ++ p0), (IntKind.i64.wrap (p2 - 1)), rfl, (by kernel_rfl), hS⟩
  · rintro a w ⟨A44, c45, G47, l46, rfl, hS, hM⟩
    unfold pack_high_uint32_J1 at hM
    refine wp_seq ?_
    refine wp_reg ?_
    refine segEnd [(G47 0), (G47 1), (G47 2), undef, undef, undef, .slice A44 l46.length c45, .slice A44 l46.length c45, (G47 4), (G47 5), (G47 6), (G47 7), (G47 8), (G47 9), (G47 10), (G47 11), (G47 12), (G47 13), (G47 14), (G47 15), (G47 16), (G47 17), (G47 18), (G47 19), (G47 20), .slice A44 l46.length c45] (by kernel_rfl) ?_
    refine then_normal ?_
    refine wp_ret ?_
    replace hS : Own w0 D R _ [rowA (Enc.int .u8) A44 c45 l46] [] := hS.dropS forall0
    obtain rfl := Option.some.inj hM
    refine ret_v (.slice A44 l46.length c45) (by kernel_rfl) ⟨A44, c45, rfl, hS⟩

theorem pack_high_uint64_W {w0 w : World} {D R : Nat → Prop} {Rp0 : Nat → Prop} {Ap0 : Option Addr} {cp0 : Nat} {p0 : List Int} {p1 : Int} {p2 : Int} {r0 : List Int} (hS : Own w0 D R w [] [slA Rp0 (Enc.int .u8) Ap0 cp0 p0]) (hD : ∀ b, ¬ D b) (hM : pack_high_uint64_M p0 p1 p2 = some r0) :
    Calls Go.Proofs.Try.prog 47 #[.slice Ap0 p0.length cp0, .int .u64 p1, .int .i64 p2] w (fun e w' => ∃ (ZA1 : Option Addr) (Zc2 : Nat), e = .returned (.slice ZA1 r0.length Zc2) ∧ Own w0 D R w' [rowA (Enc.int .u8) ZA1 Zc2 r0] []) := by
  refine enter (fn := Go.Proofs.Try.f47) [.slice Ap0 p0.length cp0, .int .u64 p1, .int .i64 p2, undef, undef, undef, undef, undef, undef, undef, undef, undef, undef, undef, undef, undef, undef, undef, undef, undef, undef, undef, undef, undef, undef, undef] (by kernel_rfl) rfl (by kernel_rfl) ?_
  unfold pack_high_uint64_M at hM
  refine wp_seq ?_
  refine wp_reg ?_
  refine segEnd [.slice Ap0 p0.length cp0, .int .u64 p1, .int .i64 p2, undef, undef, undef, .slice none 0 0, undef, undef, undef, undef, undef, undef, undef, undef, undef, undef, undef, undef, undef, undef, undef, undef, undef, undef, undef] (by kernel_rfl) ?_
  refine then_normal ?_
  refine wp_seq ?_
  refine wp_reg ?_
  refine seg 1 [.slice Ap0 p0.length cp0, .int .u64 p1, .int .i64 p2, undef, undef, undef, .slice none 0 0, undef, undef, .slice Ap0 p0.length cp0, undef, undef, undef, undef, undef, undef, undef, undef, undef, undef, undef, undef, undef, undef, undef, undef] (by kernel_rfl) ?_
  replace hM := bind_some hM
  obtain ⟨_, h1, hM⟩ := hM
  replace hS : Own w0 D R _ [rowA (Enc.int .u8) none 0 []] [slA Rp0 (Enc.int .u8) Ap0 cp0 p0] := hS.addNil (Enc.int .u8)
  refine s_append (.const (.slice none 0 0)) (.tmp 9) 22 22 5 1 (.slice Ap0 p0.length cp0) (e := (Enc.int .u8)) (xs := []) (ys := p0) rfl u22 el5 (by kernel_rfl) (by kernel_rfl) (by kernel_rfl) hS ((SlR.of_sl (hS.sl_mem (List.Mem.head _))).src u22) (room_some h1).1 (room_some h1).2 (fun A2 c3 _ hS => ?_)
  refine segEnd [.slice Ap0 p0.length cp0, .int .u64 p1, .int .i64 p2, undef, undef, undef, .slice none 0 0, .slice A2 (([] ++ p0).length) c3, undef, .slice Ap0 p0.length cp0, .slice A2 (([] ++ p0).length) c3, undef, undef, undef, undef, undef, undef, undef, undef, undef, undef, undef, undef, undef, undef, undef] (by kernel_rfl) ?_
  refine then_normal ?_
  refine wp_join (fun a w => ∃ (A44 : Option Addr) (c45 : Nat) (G47 : Nat → Value) (l46 : List Int), a = Fr [(G47 0), (G47 1), (G47 2), undef, undef, undef, (G47 3), .slice A44 l46.length c45, (G47 4), (G47 5), (G47 6), (G47 7), (G47 8), (G47 9), (G47 10), (G47 11), (G47 12), (G47 13), (G47 14), (G47 15), (G47 16), (G47 17), (G47 18), (G47 19), (G47 20), undef] ∧ Own w0 D R w [rowA (Enc.int .u8) A44 c45 l46] [slA Rp0 (Enc.int .u8) Ap0 cp0 p0] ∧ pack_high_uint64_J1 l46 = some r0) ?_ ?_
  ·
    refine wp_seq ?_
    refine wp_reg ?_
    refine segEnd [.slice Ap0 p0.length cp0, .int .u64 p1, .int .i64 p2, undef, undef, undef, .slice none 0 0, .slice A2 (([] ++ p0).length) c3, .int .i64 (IntKind.i64.wrap (p2 - 1)), .slice Ap0 p0.length cp0, .slice A2 (([] ++ p0).length) c3, .int .i64 p2, .int .i64 (IntKind.i64.wrap (p2 - 1)), undef, undef, undef, undef, undef, undef, undef, undef, undef, undef, undef, undef, undef] (by kernel_rfl) ?_
    refine then_normal ?_
    refine wp_block ?_
    replace hM := bind_some hM
    obtain ⟨q29, hL30, hM⟩ := hM
    refine wp_loop_model (fun (s : ((List Int) × Int)) a w => ∃ (A31 : Option Addr) (c32 : Nat) (G35 : Nat → Value) (l33 : List Int) (x34 : Int), s = (l33, x34) ∧ a = Fr [(G35 0), .int .u64 p1, (G35 1), undef, undef, undef, (G35 2), .slice A31 l33.length c32, .int .i64 x34, (G35 3), (G35 4), (G35 5), (G35 6), (G35 7), (G35 8), (G35 9), (G35 10), (G35 11), (G35 12), (G35 13), (G35 14), (G35 15), (G35 16), (G35 17), (G35 18), undef] ∧ Own w0 D R w [rowA (Enc.int .u8) A31 c32 l33] [slA Rp0 (Enc.int .u8) Ap0 cp0 p0]) ?_ hL30 ?_
    · rintro _ a w ⟨A31, c32, G35, l33, x34, rfl, rfl, hS⟩ o27 hM1 hout28
      replace hM1 : pack_high_uint64_L1 p1 l33 x34 = some o27 := hM1
      unfold pack_high_uint64_L1 at hM1
      refine wp_seq ?_
      refine wp_seq ?_
      refine wp_reg ?_
      refine segEnd [(G35 0), .int .u64 p1, (G35 1), undef, undef, undef, (G35 2), .slice A31 l33.length c32, .int .i64 x34, (G35 3), (G35 4), (G35 5), (G35 6), .int .i64 x34, .bool (decide (x34 ≥ 0)), (G35 9), (G35 10), (G35 11), (G35 12), (G35 13), (G35 14), (G35 15), (G35 16), (G35 17), (G35 18), undef] (by kernel_rfl) ?_
      refine then_normal ?_
      refine wp_cond_split (t := decide (x34 ≥ 0)) (by kernel_rfl) (fun hc36 => ?_) (fun hc36 => ?_)
      · replace hM1 := (if_pos hc36).symm.trans hM1
        refine wp_skip ?_
        refine then_normal ?_
        refine wp_seq ?_
        refine wp_block ?_
        refine wp_reg ?_
        refine seg 4 [(G35 0), .int .u64 p1, (G35 1), undef, undef, undef, (G35 2), .slice A31 l33.length c32, .int .i64 x34, (G35 3), (G35 4), (G35 5), (G35 6), .int .i64 x34, .bool (decide (x34 ≥ 0)), (G35 9), (G35 10), .slice A31 l33.length c32, .int .u64 p1, .int .i64 x34, .int .i64 (IntKind.i64.wrap (8 * x34)), (G35 15), (G35 16), (G35 17), (G35 18), undef] (by kernel_rfl) ?_
        replace hM1 := bind_some hM1
        obtain ⟨z37, h38, hM1⟩ := hM1
        refine s_gshr (.tmp 18) (.tmp 20) 30 .u64 .i64 p1 (IntKind.i64.wrap (8 * x34)) rfl (by kernel_rfl) (by kernel_rfl) (by kernel_rfl) h38 ?_
        refine seg 1 [(G35 0), .int .u64 p1, (G35 1), undef, undef, undef, (G35 2), .slice A31 l33.length c32, .int .i64 x34, (G35 3), (G35 4), (G35 5), (G35 6), .int .i64 x34, .bool (decide (x34 ≥ 0)), (G35 9), (G35 10), .slice A31 l33.length c32, .int .u64 p1, .int .i64 x34, .int .i64 (IntKind.i64.wrap (8 * x34)), .int .u64 z37, .int .u8 (IntKind.u8.wrap (z37)), (G35 17), (G35 18), undef] (by kernel_rfl) ?_
        refine s_lit 22 5 1 1 #[(0, .tmp 22)] (e := (Enc.int .u8)) ([(IntKind.u8.wrap (z37))] : List Int) (.int .u8 0) rfl u22 (by kernel_rfl) (by decide) rfl (by kernel_rfl) (by kernel_rfl) hS (fun A39 c40 _ hS => ?_)
        replace hM1 := bind_some hM1
        obtain ⟨_, h41, hM1⟩ := hM1
        replace hS : Own w0 D R _ [rowA (Enc.int .u8) A31 c32 l33, rowA (Enc.int .u8) A39 c40 [(IntKind.u8.wrap (z37))]] [slA Rp0 (Enc.int .u8) Ap0 cp0 p0] := hS.pick 1 rfl
        refine s_append (.tmp 17) (.tmp 23) 22 22 5 1 (.slice A39 ([(IntKind.u8.wrap (z37))].length) c40) (e := (Enc.int .u8)) (xs := l33) (ys := [(IntKind.u8.wrap (z37))]) rfl u22 el5 (by kernel_rfl) (by kernel_rfl) (by kernel_rfl) hS ((SlR.of_row (hS.row_mem (List.Mem.tail _ (List.Mem.head _)))).src u22) (room_some h41).1 (room_some h41).2 (fun A42 c43 _ hS => ?_)
        refine segEnd [(G35 0), .int .u64 p1, (G35 1), undef, undef, undef, (G35 2), .slice A42 ((l33 ++ [(IntKind.u8.wrap (z37))]).length) c43, .int .i64 x34, (G35 3), (G35 4), (G35 5), (G35 6), .int .i64 x34, .bool (decide (x34 ≥ 0)), (G35 9), (G35 10), .slice A31 l33.length c32, .int .u64 p1, .int .i64 x34, .int .i64 (IntKind.i64.wrap (8 * x34)), .int .u64 z37, .int .u8 (IntKind.u8.wrap (z37)), .slice A39 ([(IntKind.u8.wrap (z37))].length) c40, .slice A42 ((l33 ++ [(IntKind.u8.wrap (z37))]).length) c43, undef] (by kernel_rfl) ?_
        refine in_normal ?_
        refine then_normal ?_
        refine wp_reg ?_
        refine segEnd [(G35 0), .int .u64 p1, (G35 1), undef, undef, undef, (G35 2), .slice A42 ((l33 ++ [(IntKind.u8.wrap (z37))]).length) c43, .int .i64 (IntKind.i64.wrap (x34 - 1)), (G35 3), (G35 4), (G35 5), (G35 6), .int .i64 x34, .bool (decide (x34 ≥ 0)), .int .i64 x34, .int .i64 (IntKind.i64.wrap (x34 - 1)), .slice A31 l33.length c32, .int .u64 p1, .int .i64 x34, .int .i64 (IntKind.i64.wrap (8 * x34)), .int .u64 z37, .int .u8 (IntKind.u8.wrap (z37)), .slice A39 ([(IntKind.u8.wrap (z37))].length) c40, .slice A42 ((l33 ++ [(IntKind.u8.wrap (z37))]).length) c43, undef] (by kernel_rfl) ?_
        refine then_normal ?_
        replace hS : Own w0 D R _ [rowA (Enc.int .u8) A42 c43 (l33 ++ [(IntKind.u8.wrap (z37))])] [slA Rp0 (Enc.int .u8) Ap0 cp0 p0] := hS.takeX 1
        exact ⟨((l33 ++ [(IntKind.u8.wrap (z37))]), (IntKind.i64.wrap (x34 - 1))), (Option.some.inj hM1).symm, A42, c43, (fun i => ([(G35 0), (G35 1), (G35 2), (G35 3), (G35 4), (G35 5), (G35 6), .int .i64 x34, .bool (decide (x34 ≥ 0)), .int .i64 x34, .int .i64 (IntKind.i64.wrap (x34 - 1)), .slice A31 l33.length c32, .int .u64 p1, .int .i64 x34, .int .i64 (IntKind.i64.wrap (8 * x34)), .int .u64 z37, .int .u8 (IntKind.u8.wrap (z37)), .slice A39 ([(IntKind.u8.wrap (z37))].length) c40, .slice A42 ((l33 ++ [(IntKind.u8.wrap (z37))]).length) c43] : List Value).getD i undef), (l33 ++ [(IntKind.u8.wrap (z37))]), (IntKind.i64.wrap (x34 - 1)), rfl, (by kernel_rfl), hS⟩
      · replace hM1 := (if_neg (Bool.eq_false_iff.1 hc36)).symm.trans hM1
        refine wp_exit ?_
        refine then_exit ?_
        refine then_exit ?_
        have hr49 := hout28 _ (Option.some.inj hM1).symm
        subst hr49
        refine in_exit_eq ?_
        refine then_normal ?_
        exact ⟨A31, c32, (fun i => ([(G35 0), .int .u64 p1, (G35 1), (G35 2), .int .i64 x34, (G35 3), (G35 4), (G35 5), (G35 6), .int .i64 x34, .bool (decide (x34 ≥ 0)), (G35 9), (G35 10), (G35 11), (G35 12), (G35 13), (G35 14), (G35 15), (G35 16), (G35 17), (G35 18)] : List Value).getD i undef), l33, (by kernel_rfl), hS, hM⟩
    · exact ⟨A2, c3, (fun i => ([.slice Ap0 p0.length cp0, .int .i64 p2, .slice none 0 0, .slice Ap0 p0.length cp0, .slice A2 (([] ++ p0).length) c3, .int .i64 p2, .int .i64 (IntKind.i64.wrap (p2 - 1)), undef, undef, undef, undef, undef, undef, undef, undef, undef, undef, undef, undef] : List Value).getD i undef), ([] ++ p0), (IntKind.i64.wrap (p2 - 1)), rfl, (by kernel_rfl), hS⟩
  · rintro a w ⟨A44, c45, G47, l46, rfl, hS, hM⟩
    unfold pack_high_uint64_J1 at hM
    refine wp_seq ?_
    refine wp_reg ?_
    refine segEnd [(G47 0), (G47 1), (G47 2), undef, undef, undef, .slice A44 l46.length c45, .slice A44 l46.length c45, (G47 4), (G47 5), (G47 6), (G47 7), (G47 8), (G47 9), (G47 10), (G47 11), (G47 12), (G47 13), (G47 14), (G47 15), (G47 16), (G47 17), (G47 18), (G47 19), (G47 20), .slice A44 l46.length c45] (by kernel_rfl) ?_
    refine then_normal ?_
    refine wp_ret ?_
    replace hS : Own w0 D R _ [rowA (Enc.int .u8) A44 c45 l46] [] := hS.dropS forall0
    obtain rfl := Option.some.inj hM
    refine ret_v (.slice A44 l46.length c45) (by kernel_rfl) ⟨A44, c45, rfl, hS⟩

theorem pack_Put32_W {w0 w : World} {D R : Nat → Prop} {Rp0 : Nat → Prop} {Ap0 : Option Addr} {cp0 : Nat} {p0 : List Int} {p1 : Int} {r0 : List Int} (hS : Own w0 D R w [] [slA Rp0 (Enc.int .u8) Ap0 cp0 p0]) (hD : ∀ b, ¬ D b) (hM : pack_Put32_M p0 p1 = some r0) :
    Calls Go.Proofs.Try.prog 15 #[.slice Ap0 p0.length cp0, .int .u32 p1] w (fun e w' => ∃ (ZA1 : Option Addr) (Zc2 : Nat), e = .returned (.slice ZA1 r0.length Zc2) ∧ Own w0 D R w' [rowA (Enc.int .u8) ZA1 Zc2 r0] []) := by
  refine enter (fn := Go.Proofs.Try.f15) [.slice Ap0 p0.length cp0, .int .u32 p1, undef, undef, undef, undef, undef, undef] (by kernel_rfl) rfl (by kernel_rfl) ?_
  unfold pack_Put32_M at hM
  refine wp_seq ?_
  refine wp_reg ?_
  refine segEnd [.slice Ap0 p0.length cp0, .int .u32 p1, undef, undef, .slice none 0 0, undef, undef, undef] (by kernel_rfl) ?_
  refine then_normal ?_
  refine wp_seq ?_
  refine wp_reg ?_
  refine seg 2 [.slice Ap0 p0.length cp0, .int .u32 p1, undef, undef, .slice none 0 0, .slice Ap0 p0.length cp0, .int .u32 p1, undef] (by kernel_rfl) ?_
  replace hM := bind_some hM
  obtain ⟨v1, h4, hM⟩ := hM
  have hP := Own.pre (Xi := []) (X := []) (Si := [slA Rp0 (Enc.int .u8) Ap0 cp0 p0]) hS (forall2 (hS.sl_mem (List.Mem.head _)) forall0) (forall2 (fun _ h => .inl ⟨_, (List.Mem.head _), h⟩) forall0)
  refine s_call 45 #[.slice Ap0 p0.length cp0, .int .u32 p1, .int .i64 4] (by kernel_rfl) (by kernel_rfl) ((pack_high_uint32_W hP doms_nil h4).mono ?_)
  rintro _ _ ⟨A2, c3, rfl, hQ⟩
  replace hS : Own w0 D R _ [rowA (Enc.int .u8) A2 c3 v1] [slA Rp0 (Enc.int .u8) Ap0 cp0 p0] := hS.post hQ (.inl rfl)
  clear hP hQ
  refine ⟨_, rfl, ?_⟩
  refine segEnd [.slice Ap0 p0.length cp0, .int .u32 p1, undef, undef, .slice A2 v1.length c3, .slice Ap0 p0.length cp0, .int .u32 p1, .slice A2 v1.length c3] (by kernel_rfl) ?_
  refine then_normal ?_
  refine wp_ret ?_
  replace hS : Own w0 D R _ [rowA (Enc.int .u8) A2 c3 v1] [] := hS.dropS forall0
  obtain rfl := Option.some.inj hM
  refine ret_v (.slice A2 v1.length c3) (by kernel_rfl) ⟨A2, c3, rfl, hS⟩

theorem pack_Put64_W {w0 w : World} {D R : Nat → Prop} {Rp0 : Nat → Prop} {Ap0 : Option Addr} {cp0 : Nat} {p0 : List Int} {p1 : Int} {r0 : List Int} (hS : Own w0 D R w [] [slA Rp0 (Enc.int .u8) Ap0 cp0 p0]) (hD : ∀ b, ¬ D b) (hM : pack_Put64_M p0 p1 = some r0) :
    Calls Go.Proofs.Try.prog 17 #[.slice Ap0 p0.length cp0, .int .u64 p1] w (fun e w' => ∃ (ZA1 : Option Addr) (Zc2 : Nat), e = .returned (.slice ZA1 r0.length Zc2) ∧ Own w0 D R w' [rowA (Enc.int .u8) ZA1 Zc2 r0] []) := by
  refine enter (fn := Go.Proofs.Try.f17) [.slice Ap0 p0.length cp0, .int .u64 p1, undef, undef, undef, undef, undef, undef] (by kernel_rfl) rfl (by kernel_rfl) ?_
  unfold pack_Put64_M at hM
  refine wp_seq ?_
  refine wp_reg ?_
  refine segEnd [.slice Ap0 p0.length cp0, .int .u64 p1, undef, undef, .slice none 0 0, undef, undef, undef] (by kernel_rfl) ?_
  refine then_normal ?_
  refine wp_seq ?_
  refine wp_reg ?_
  refine seg 2 [.slice Ap0 p0.length cp0, .int .u64 p1, undef, undef, .slice none 0 0, .slice Ap0 p0.length cp0, .int .u64 p1, undef] (by kernel_rfl) ?_
  replace hM := bind_some hM
  obtain ⟨v1, h4, hM⟩ := hM
  have hP := Own.pre (Xi := []) (X := []) (Si := [slA Rp0 (Enc.int .u8) Ap0 cp0 p0]) hS (forall2 (hS.sl_mem (List.Mem.head _)) forall0) (forall2 (fun _ h => .inl ⟨_, (List.Mem.head _), h⟩) forall0)
  refine s_call 47 #[.slice Ap0 p0.length cp0, .int .u64 p1, .int .i64 8] (by kernel_rfl) (by kernel_rfl) ((pack_high_uint64_W hP doms_nil h4).mono ?_)
  rintro _ _ ⟨A2, c3, rfl, hQ⟩
  replace hS : Own w0 D R _ [rowA (Enc.int .u8) A2 c3 v1] [slA Rp0 (Enc.int .u8) Ap0 cp0 p0] := hS.post hQ (.inl rfl)
  clear hP hQ
  refine ⟨_, rfl, ?_⟩
  refine segEnd [.slice Ap0 p0.length cp0, .int .u64 p1, undef, undef, .slice A2 v1.length c3, .slice Ap0 p0.length cp0, .int .u64 p1, .slice A2 v1.length c3] (by kernel_rfl) ?_
  refine then_normal ?_
  refine wp_ret ?_
  replace hS : Own w0 D R _ [rowA (Enc.int .u8) A2 c3 v1] [] := hS.dropS forall0
  obtain rfl := Option.some.inj hM
  refine ret_v (.slice A2 v1.length c3) (by kernel_rfl) ⟨A2, c3, rfl, hS⟩

theorem pack_PutNum_W {w0 w : World} {D R : Nat → Prop} {Rp0 : Nat → Prop} {Ap0 : Option Addr} {cp0 : Nat} {p0 : List Int} {p1 : Int} {r0 : List Int} (hS : Own w0 D R w [] [slA Rp0 (Enc.int .u8) Ap0 cp0 p0]) (hD : ∀ b, ¬ D b) (hM : pack_PutNum_M p0 p1 = some r0) :
    Calls Go.Proofs.Try.prog 19 #[.slice Ap0 p0.length cp0, .int .i64 p1] w (fun e w' => ∃ (ZA1 : Option Addr) (Zc2 : Nat), e = .returned (.slice ZA1 r0.length Zc2) ∧ Own w0 D R w' [rowA (Enc.int .u8) ZA1 Zc2 r0] []) := by
  refine enter (fn := Go.Proofs.Try.f19) [.slice Ap0 p0.length cp0, .int .i64 p1, undef, undef, undef, undef, undef, undef, undef, undef] (by kernel_rfl) rfl (by kernel_rfl) ?_
  unfold pack_PutNum_M at hM
  refine wp_seq ?_
  refine wp_reg ?_
  refine segEnd [.slice Ap0 p0.length cp0, .int .i64 p1, undef, undef, .slice none 0 0, undef, undef, undef, undef, undef] (by kernel_rfl) ?_
  refine then_normal ?_
  refine wp_seq ?_
  refine wp_reg ?_
  refine seg 4 [.slice Ap0 p0.length cp0, .int .i64 p1, undef, undef, .slice none 0 0, .slice Ap0 p0.length cp0, .int .i64 p1, .int .i64 (if 0 > p1 then 0 else p1), .int .u64 (IntKind.u64.wrap ((if 0 > p1 then 0 else p1))), undef] (by kernel_rfl) ?_
  replace hM := bind_some hM
  obtain ⟨v1, h4, hM⟩ := hM
  have hP := Own.pre (Xi := []) (X := []) (Si := [slA Rp0 (Enc.int .u8) Ap0 cp0 p0]) hS (forall2 (hS.sl_mem (List.Mem.head _)) forall0) (forall2 (fun _ h => .inl ⟨_, (List.Mem.head _), h⟩) forall0)
  refine s_call 17 #[.slice Ap0 p0.length cp0, .int .u64 (IntKind.u64.wrap ((if 0 > p1 then 0 else p1)))] (by kernel_rfl) (by kernel_rfl) ((pack_Put64_W hP doms_nil h4).mono ?_)
  rintro _ _ ⟨A2, c3, rfl, hQ⟩
  replace hS : Own w0 D R _ [rowA (Enc.int .u8) A2 c3 v1] [slA Rp0 (Enc.int .u8) Ap0 cp0 p0] := hS.post hQ (.inl rfl)
  clear hP hQ
  refine ⟨_, rfl, ?_⟩
  refine segEnd [.slice Ap0 p0.length cp0, .int .i64 p1, undef, undef, .slice A2 v1.length c3, .slice Ap0 p0.length cp0, .int .i64 p1, .int .i64 (if 0 > p1 then 0 else p1), .int .u64 (IntKind.u64.wrap ((if 0 > p1 then 0 else p1))), .slice A2 v1.length c3] (by kernel_rfl) ?_
  refine then_normal ?_
  refine wp_ret ?_
  replace hS : Own w0 D R _ [rowA (Enc.int .u8) A2 c3 v1] [] := hS.dropS forall0
  obtain rfl := Option.some.inj hM
  refine ret_v (.slice A2 v1.length c3) (by kernel_rfl) ⟨A2, c3, rfl, hS⟩

theorem pack_Put_W {w0 w : World} {D R : Nat → Prop} {Rp0 : Nat → Prop} {Ap0 : Option Addr} {cp0 : Nat} {Rp1 : Nat → Prop} {Ap1 : Option Addr} {cp1 : Nat} {p0 : List Int} {p1 : List Int} {r0 : List Int} (hS : Own w0 D R w [] [slA Rp0 (Enc.int .u8) Ap0 cp0 p0, slA Rp1 (Enc.int .u8) Ap1 cp1 p1]) (hD : ∀ b, ¬ D b) (hM : pack_Put_M p0 p1 = some r0) :
    Calls Go.Proofs.Try.prog 12 #[.slice Ap0 p0.length cp0, .slice Ap1 p1.length cp1] w (fun e w' => ∃ (ZA1 : Option Addr) (Zc2 : Nat), e = .returned (.slice ZA1 r0.length Zc2) ∧ Own w0 D R w' [rowA (Enc.int .u8) ZA1 Zc2 r0] []) := by
  refine enter (fn := Go.Proofs.Try.f12) [.slice Ap0 p0.length cp0, .slice Ap1 p1.length cp1, undef, undef, undef, undef, undef, undef, undef, undef, undef, undef] (by kernel_rfl) rfl (by kernel_rfl) ?_
  unfold pack_Put_M at hM
  refine wp_seq ?_
  refine wp_reg ?_
  refine segEnd [.slice Ap0 p0.length cp0, .slice Ap1 p1.length cp1, undef, undef, .slice none 0 0, undef, undef, undef, undef, undef, undef, undef] (by kernel_rfl) ?_
  refine then_normal ?_
  refine wp_seq ?_
  refine wp_reg ?_
  refine seg 4 [.slice Ap0 p0.length cp0, .slice Ap1 p1.length cp1, undef, undef, .slice none 0 0, .slice Ap0 p0.length cp0, .slice Ap1 p1.length cp1, .int .i64 (p1.length : Int), .int .u32 (IntKind.u32.wrap ((p1.length : Int))), undef, undef, undef] (by kernel_rfl) ?_
  replace hM := bind_some hM
  obtain ⟨v1, h4, hM⟩ := hM
  have hP := Own.pre (Xi := []) (X := []) (Si := [slA Rp0 (Enc.int .u8) Ap0 cp0 p0]) hS (forall2 (hS.sl_mem (List.Mem.head _)) forall0) (forall2 (fun _ h => .inl ⟨_, (List.Mem.head _), h⟩) forall0)
  refine s_call 15 #[.slice Ap0 p0.length cp0, .int .u32 (IntKind.u32.wrap ((p1.length : Int)))] (by kernel_rfl) (by kernel_rfl) ((pack_Put32_W hP doms_nil h4).mono ?_)
  rintro _ _ ⟨A2, c3, rfl, hQ⟩
  replace hS : Own w0 D R _ [rowA (Enc.int .u8) A2 c3 v1] [slA Rp0 (Enc.int .u8) Ap0 cp0 p0, slA Rp1 (Enc.int .u8) Ap1 cp1 p1] := hS.post hQ (.inl rfl)
  clear hP hQ
  refine ⟨_, rfl, ?_⟩
  refine seg 1 [.slice Ap0 p0.length cp0, .slice Ap1 p1.length cp1, undef, undef, .slice none 0 0, .slice Ap0 p0.length cp0, .slice Ap1 p1.length cp1, .int .i64 (p1.length : Int), .int .u32 (IntKind.u32.wrap ((p1.length : Int))), .slice A2 v1.length c3, .slice Ap1 p1.length cp1, undef] (by kernel_rfl) ?_
  replace hM := bind_some hM
  obtain ⟨_, h5, hM⟩ := hM
  refine s_append (.tmp 9) (.tmp 10) 22 22 5 1 (.slice Ap1 p1.length cp1) (e := (Enc.int .u8)) (xs := v1) (ys := p1) rfl u22 el5 (by kernel_rfl) (by kernel_rfl) (by kernel_rfl) hS ((SlR.of_sl (hS.sl_mem (List.Mem.tail _ (List.Mem.head _)))).src u22) (room_some h5).1 (room_some h5).2 (fun A6 c7 _ hS => ?_)
  refine segEnd [.slice Ap0 p0.length cp0, .slice Ap1 p1.length cp1, undef, undef, .slice A6 ((v1 ++ p1).length) c7, .slice Ap0 p0.length cp0, .slice Ap1 p1.length cp1, .int .i64 (p1.length : Int), .int .u32 (IntKind.u32.wrap ((p1.length : Int))), .slice A2 v1.length c3, .slice Ap1 p1.length cp1, .slice A6 ((v1 ++ p1).length) c7] (by kernel_rfl) ?_
  refine then_normal ?_
  refine wp_ret ?_
  replace hS : Own w0 D R _ [rowA (Enc.int .u8) A6 c7 (v1 ++ p1)] [] := hS.dropS forall0
  obtain rfl := Option.some.inj hM
  refine ret_v (.slice A6 ((v1 ++ p1).length) c7) (by kernel_rfl) ⟨A6, c7, rfl, hS⟩

theorem pack_low_uint32_W {w0 w : World} {D R : Nat → Prop} {Rp0 : Nat → Prop} {Ap0 : Option Addr} {cp0 : Nat} {p0 : List Int} {p1 : Int} {p2 : Int} {r0 : List Int} (hS : Own w0 D R w [] [slA Rp0 (Enc.int .u8) Ap0 cp0 p0]) (hD : ∀ b, ¬ D b) (hM : pack_low_uint32_M p0 p1 p2 = some r0) :
    Calls Go.Proofs.Try.prog 48 #[.slice Ap0 p0.length cp0, .int .u32 p1, .int .i64 p2] w (fun e w' => ∃ (ZA1 : Option Addr) (Zc2 : Nat), e = .returned (.slice ZA1 r0.length Zc2) ∧ Own w0 D R w' [rowA (Enc.int .u8) ZA1 Zc2 r0] []) := by
  refine enter (fn := Go.Proofs.Try.f48) [.slice Ap0 p0.length cp0, .int .u32 p1, .int .i64 p2, undef, undef, undef, undef, undef, undef, undef, undef, undef, undef, undef, undef, undef, undef, undef, undef, undef, undef, undef, undef, undef, undef] (by kernel_rfl) rfl (by kernel_rfl) ?_
  unfold pack_low_uint32_M at hM
  refine wp_seq ?_
  refine wp_reg ?_
  refine segEnd [.slice Ap0 p0.length cp0, .int .u32 p1, .int .i64 p2, undef, undef, undef, .slice none 0 0, undef, undef, undef, undef, undef, undef, undef, undef, undef, undef, undef, undef, undef, undef, undef, undef, undef, undef] (by kernel_rfl) ?_
  refine then_normal ?_
  refine wp_seq ?_
  refine wp_reg ?_
  refine seg 1 [.slice Ap0 p0.length cp0, .int .u32 p1, .int .i64 p2, undef, undef, undef, .slice none 0 0, undef, undef, .slice Ap0 p0.length cp0, undef, undef, undef, undef, undef, undef, undef, undef, undef, undef, undef, undef, undef, undef, undef] (by kernel_rfl) ?_
  replace hM := bind_some hM
  obtain ⟨_, h1, hM⟩ := hM
  replace hS : Own w0 D R _ [rowA (Enc.int .u8) none 0 []] [slA Rp0 (Enc.int .u8) Ap0 cp0 p0] := hS.addNil (Enc.int .u8)
  refine s_append (.const (.slice none 0 0)) (.tmp 9) 22 22 5 1 (.slice Ap0 p0.length cp0) (e := (Enc.int .u8)) (xs := []) (ys := p0) rfl u22 el5 (by kernel_rfl) (by kernel_rfl) (by kernel_rfl) hS ((SlR.of_sl (hS.sl_mem (List.Mem.head _))).src u22) (room_some h1).1 (room_some h1).2 (fun A2 c3 _ hS => ?_)
  refine segEnd [.slice Ap0 p0.length cp0, .int .u32 p1, .int .i64 p2, undef, undef, undef, .slice none 0 0, .slice A2 (([] ++ p0).length) c3, undef, .slice Ap0 p0.length cp0, .slice A2 (([] ++ p0).length) c3, undef, undef, undef, undef, undef, undef, undef, undef, undef, undef, undef, undef, undef, undef] (by kernel_rfl) ?_
  refine then_normal ?_
  refine wp_join (fun a w => ∃ (A44 : Option Addr) (c45 : Nat) (G47 : Nat → Value) (l46 : List Int), a = Fr [(G47 0), (G47 1), (G47 2), undef, undef, undef, (G47 3), .slice A44 l46.length c45, (G47 4), (G47 5), (G47 6), (G47 7), (G47 8), (G47 9), (G47 10), (G47 11), (G47 12), (G47 13), (G47 14), (G47 15), (G47 16), (G47 17), (G47 18), (G47 19), undef] ∧ Own w0 D R w [rowA (Enc.int .u8) A44 c45 l46] [slA Rp0 (Enc.int .u8) Ap0 cp0 p0] ∧ pack_low_uint32_J1 l46 = some r0) ?_ ?_
  ·
    refine wp_seq ?_
    refine wp_reg ?_
    refine segEnd [.slice Ap0 p0.length cp0, .int .u32 p1, .int .i64 p2, undef, undef, undef, .slice none 0 0, .slice A2 (([] ++ p0).length) c3, undef, .slice Ap0 p0.length cp0, .slice A2 (([] ++ p0).length) c3, .int .i64 p2, .int .i64 0, undef, undef, undef, undef, undef, undef, undef, undef, undef, undef, undef, undef] (by kernel_rfl) ?_
    refine then_normal ?_
    refine wp_block ?_
    replace hM := bind_some hM
    obtain ⟨q29, hL30, hM⟩ := hM
    refine wp_loop_model (fun (s : ((List Int) × Int)) a w => ∃ (A31 : Option Addr) (c32 : Nat) (G35 : Nat → Value) (l33 : List Int) (x34 : Int), s = (l33, x34) ∧ a = Fr [(G35 0), .int .u32 p1, (G35 1), undef, undef, undef, (G35 2), .slice A31 l33.length c32, (G35 3), (G35 4), (G35 5), .int .i64 p2, .int .i64 x34, (G35 6), (G35 7), (G35 8), (G35 9), (G35 10), (G35 11), (G35 12), (G35 13), (G35 14), (G35 15), (G35 16), undef] ∧ Own w0 D R w [rowA (Enc.int .u8) A31 c32 l33] [slA Rp0 (Enc.int .u8) Ap0 cp0 p0]) ?_ hL30 ?_
    · rintro _ a w ⟨A31, c32, G35, l33, x34, rfl, rfl, hS⟩ o27 hM1 hout28
      replace hM1 : pack_low_uint32_L1 p1 p2 l33 x34 = some o27 := hM1
      unfold pack_low_uint32_L1 at hM1
      refine wp_seq ?_
      refine wp_reg ?_
      refine segEnd [(G35 0), .int .u32 p1, (G35 1), undef, undef, undef, (G35 2), .slice A31 l33.length c32, (G35 3), (G35 4), (G35 5), .int .i64 p2, .int .i64 x34, .bool (decide (x34 < p2)), (G35 7), (G35 8), (G35 9), (G35 10), (G35 11), (G35 12), (G35 13), (G35 14), (G35 15), (G35 16), undef] (by kernel_rfl) ?_
      refine then_normal ?_
      refine wp_seq ?_
      refine wp_cond_split (t := decide (x34 < p2)) (by kernel_rfl) (fun hc36 => ?_) (fun hc36 => ?_)
      · replace hM1 := (if_pos hc36).symm.trans hM1
        refine wp_skip ?_
        refine then_normal ?_
        refine wp_seq ?_
        refine wp_block ?_
        refine wp_seq ?_
        refine wp_reg ?_
        refine segEnd [(G35 0), .int .u32 p1, (G35 1), undef, undef, undef, (G35 2), .slice A31 l33.length c32, .int .i64 x34, (G35 4), (G35 5), .int .i64 p2, .int .i64 x34, .bool (decide (x34 < p2)), .int .i64 x34, (G35 8), (G35 9), (G35 10), (G35 11), (G35 12), (G35 13), (G35 14), (G35 15), (G35 16), undef] (by kernel_rfl) ?_
        refine then_normal ?_
        refine wp_reg ?_
        refine seg 4 [(G35 0), .int .u32 p1, (G35 1), undef, undef, undef, (G35 2), .slice A31 l33.length c32, .int .i64 x34, (G35 4), (G35 5), .int .i64 p2, .int .i64 x34, .bool (decide (x34 < p2)), .int .i64 x34, .slice A31 l33.length c32, .int .u32 p1, .int .i64 x34, .int .i64 (IntKind.i64.wrap (8 * x34)), (G35 12), (G35 13), (G35 14), (G35 15), (G35 16), undef] (by kernel_rfl) ?_
        replace hM1 := bind_some hM1
        obtain ⟨z37, h38, hM1⟩ := hM1
        refine s_gshr (.tmp 16) (.tmp 18) 31 .u32 .i64 p1 (IntKind.i64.wrap (8 * x34)) rfl (by kernel_rfl) (by kernel_rfl) (by kernel_rfl) h38 ?_
        refine seg 1 [(G35 0), .int .u32 p1, (G35 1), undef, undef, undef, (G35 2), .slice A31 l33.length c32, .int .i64 x34, (G35 4), (G35 5), .int .i64 p2, .int .i64 x34, .bool (decide (x34 < p2)), .int .i64 x34, .slice A31 l33.length c32, .int .u32 p1, .int .i64 x34, .int .i64 (IntKind.i64.wrap (8 * x34)), .int .u32 z37, .int .u8 (IntKind.u8.wrap (z37)), (G35 14), (G35 15), (G35 16), undef] (by kernel_rfl) ?_
        refine s_lit 22 5 1 1 #[(0, .tmp 20)] (e := (Enc.int .u8)) ([(IntKind.u8.wrap (z37))] : List Int) (.int .u8 0) rfl u22 (by kernel_rfl) (by decide) rfl (by kernel_rfl) (by kernel_rfl) hS (fun A39 c40 _ hS => ?_)
        replace hM1 := bind_some hM1
        obtain ⟨_, h41, hM1⟩ := hM1
        replace hS : Own w0 D R _ [rowA (Enc.int .u8) A31 c32 l33, rowA (Enc.int .u8) A39 c40 [(IntKind.u8.wrap (z37))]] [slA Rp0 (Enc.int .u8) Ap0 cp0 p0] := hS.pick 1 rfl
        refine s_append (.tmp 15) (.tmp 21) 22 22 5 1 (.slice A39 ([(IntKind.u8.wrap (z37))].length) c40) (e := (Enc.int .u8)) (xs := l33) (ys := [(IntKind.u8.wrap (z37))]) rfl u22 el5 (by kernel_rfl) (by kernel_rfl) (by kernel_rfl) hS ((SlR.of_row (hS.row_mem (List.Mem.tail _ (List.Mem.head _)))).src u22) (room_some h41).1 (room_some h41).2 (fun A42 c43 _ hS => ?_)
        refine segEnd [(G35 0), .int .u32 p1, (G35 1), undef, undef, undef, (G35 2), .slice A42 ((l33 ++ [(IntKind.u8.wrap (z37))]).length) c43, .int .i64 x34, (G35 4), (G35 5), .int .i64 p2, .int .i64 x34, .bool (decide (x34 < p2)), .int .i64 x34, .slice A31 l33.length c32, .int .u32 p1, .int .i64 x34, .int .i64 (IntKind.i64.wrap (8 * x34)), .int .u32 z37, .int .u8 (IntKind.u8.wrap (z37)), .slice A39 ([(IntKind.u8.wrap (z37))].length) c40, .slice A42 ((l33 ++ [(IntKind.u8.wrap (z37))]).length) c43, (G35 16), undef] (by kernel_rfl) ?_
        refine in_normal ?_
        refine then_normal ?_
        refine wp_reg ?_
        refine segEnd [(G35 0), .int .u32 p1, (G35 1), undef, undef, undef, (G35 2), .slice A42 ((l33 ++ [(IntKind.u8.wrap (z37))]).length) c43, .int .i64 x34, (G35 4), (G35 5), .int .i64 p2, .int .i64 (IntKind.i64.wrap (x34 + 1)), .bool (decide (x34 < p2)), .int .i64 x34, .slice A31 l33.length c32, .int .u32 p1, .int .i64 x34, .int .i64 (IntKind.i64.wrap (8 * x34)), .int .u32 z37, .int .u8 (IntKind.u8.wrap (z37)), .slice A39 ([(IntKind.u8.wrap (z37))].length) c40, .slice A42 ((l33 ++ [(IntKind.u8.wrap (z37))]).length) c43, .int .i64 (IntKind.i64.wrap (x34 + 1)), undef] (by kernel_rfl) ?_
        refine then_normal ?_
        replace hS : Own w0 D R _ [rowA (Enc.int .u8) A42 c43 (l33 ++ [(IntKind.u8.wrap (z37))])] [slA Rp0 (Enc.int .u8) Ap0 cp0 p0] := hS.takeX 1
        exact ⟨((l33 ++ [(IntKind.u8.wrap (z37))]), (IntKind.i64.wrap (x34 + 1))), (Option.some.inj hM1).symm, A42, c43, (fun i => ([(G35 0), (G35 1), (G35 2), .int .i64 x34, (G35 4), (G35 5), .bool (decide (x34 < p2)), .int .i64 x34, .slice A31 l33.length c32, .int .u32 p1, .int .i64 x34, .int .i64 (IntKind.i64.wrap (8 * x34)), .int .u32 z37, .int .u8 (IntKind.u8.wrap (z37)), .slice A39 ([(IntKind.u8.wrap (z37))].length) c40, .slice A42 ((l33 ++ [(IntKind.u8.wrap (z37))]).length) c43, .int .i64 (IntKind.i64.wrap (x34 + 1))] : List Value).getD i undef), (l33 ++ [(IntKind.u8.wrap (z37))]), (IntKind.i64.wrap (x34 + 1)), rfl, (by kernel_rfl), hS⟩
      · replace hM1 := (if_neg (Bool.eq_false_iff.1 hc36)).symm.trans hM1
        refine wp_exit ?_
        refine then_exit ?_
        refine then_exit ?_
        have hr49 := hout28 _ (Option.some.inj hM1).symm
        subst hr49
        refine in_exit_eq ?_
        refine then_normal ?_
        exact ⟨A31, c32, (fun i => ([(G35 0), .int .u32 p1, (G35 1), (G35 2), (G35 3), (G35 4), (G35 5), .int .i64 p2, .int .i64 x34, .bool (decide (x34 < p2)), (G35 7), (G35 8), (G35 9), (G35 10), (G35 11), (G35 12), (G35 13), (G35 14), (G35 15), (G35 16)] : List Value).getD i undef), l33, (by kernel_rfl), hS, hM⟩
    · exact ⟨A2, c3, (fun i => ([.slice Ap0 p0.length cp0, .int .i64 p2, .slice none 0 0, undef, .slice Ap0 p0.length cp0, .slice A2 (([] ++ p0).length) c3, undef, undef, undef, undef, undef, undef, undef, undef, undef, undef, undef] : List Value).getD i undef), ([] ++ p0), 0, rfl, (by kernel_rfl), hS⟩
  · rintro a w ⟨A44, c45, G47, l46, rfl, hS, hM⟩
    unfold pack_low_uint32_J1 at hM
    refine wp_seq ?_
    refine wp_reg ?_
    refine segEnd [(G47 0), (G47 1), (G47 2), undef, undef, undef, .slice A44 l46.length c45, .slice A44 l46.length c45, (G47 4), (G47 5), (G47 6), (G47 7), (G47 8), (G47 9), (G47 10), (G47 11), (G47 12), (G47 13), (G47 14), (G47 15), (G47 16), (G47 17), (G47 18), (G47 19), .slice A44 l46.length c45] (by kernel_rfl) ?_
    refine then_normal ?_
    refine wp_ret ?_
    replace hS : Own w0 D R _ [rowA (Enc.int .u8) A44 c45 l46] [] := hS.dropS forall0
    obtain rfl := Option.some.inj hM
    refine ret_v (.slice A44 l46.length c45) (by kernel_rfl) ⟨A44, c45, rfl, hS⟩

theorem pack_low_uint64_W {w0 w : World} {D R : Nat → Prop} {Rp0 : Nat → Prop} {Ap0 : Option Addr} {cp0 : Nat} {p0 : List Int} {p1 : Int} {p2 : Int} {r0 : List Int} (hS : Own w0 D R w [] [slA Rp0 (Enc.int .u8) Ap0 cp0 p0]) (hD : ∀ b, ¬ D b) (hM : pack_low_uint64_M p0 p1 p2 = some r0) :
    Calls Go.Proofs.Try.prog 49 #[.slice Ap0 p0.length cp0, .int .u64 p1, .int .i64 p2] w (fun e w' => ∃ (ZA1 : Option Addr) (Zc2 : Nat), e = .returned (.slice ZA1 r0.length Zc2) ∧ Own w0 D R w' [rowA (Enc.int .u8) ZA1 Zc2 r0] []) := by
  refine enter (fn := Go.Proofs.Try.f49) [.slice Ap0 p0.length cp0, .int .u64 p1, .int .i64 p2, undef, undef, undef, undef, undef, undef, undef, undef, undef, undef, undef, undef, undef, undef, undef, undef, undef, undef, undef, undef, undef, undef] (by kernel_rfl) rfl (by kernel_rfl) ?_
  unfold pack_low_uint64_M at hM
  refine wp_seq ?_
  refine wp_reg ?_
  refine segEnd [.slice Ap0 p0.length cp0, .int .u64 p1, .int .i64 p2, undef, undef, undef, .slice none 0 0, undef, undef, undef, undef, undef, undef, undef, undef, undef, undef, undef, undef, undef, undef, undef, undef, undef, undef] (by kernel_rfl) ?_
  refine then_normal ?_
  refine wp_seq ?_
  refine wp_reg ?_
  refine seg 1 [.slice Ap0 p0.length cp0, .int .u64 p1, .int .i64 p2, undef, undef, undef, .slice none 0 0, undef, undef, .slice Ap0 p0.length cp0, undef, undef, undef, undef, undef, undef, undef, undef, undef, undef, undef, undef, undef, undef, undef] (by kernel_rfl) ?_
  replace hM := bind_some hM
  obtain ⟨_, h1, hM⟩ := hM
  replace hS : Own w0 D R _ [rowA (Enc.int .u8) none 0 []] [slA Rp0 (Enc.int .u8) Ap0 cp0 p0] := hS.addNil (Enc.int .u8)
  refine s_append (.const (.slice none 0 0)) (.tmp 9) 22 22 5 1 (.slice Ap0 p0.length cp0) (e := (Enc.int .u8)) (xs := []) (ys := p0) rfl u22 el5 (by kernel_rfl) (by kernel_rfl) (by kernel_rfl) hS ((SlR.of_sl (hS.sl_mem (List.Mem.head _))).src u22) (room_some h1).1 (room_some h1).2 (fun A2 c3 _ hS => ?_)
  refine segEnd [.slice Ap0 p0.length cp0, .int .u64 p1, .int .i64 p2, undef, undef, undef, .slice none 0 0, .slice A2 (([] ++ p0).length) c3, undef, .slice Ap0 p0.length cp0, .slice A2 (([] ++ p0).length) c3, undef, undef, undef, undef, undef, undef, undef, undef, undef, undef, undef, undef, undef, undef] (by kernel_rfl) ?_
  refine then_normal ?_
  refine wp_join (fun a w => ∃ (A44 : Option Addr) (c45 : Nat) (G47 : Nat → Value) (l46 : List Int), a = Fr [(G47 0), (G47 1), (G47 2), undef, undef, undef, (G47 3), .slice A44 l46.length c45, (G47 4), (G47 5), (G47 6), (G47 7), (G47 8), (G47 9), (G47 10), (G47 11), (G47 12), (G47 13), (G47 14), (G47 15), (G47 16), (G47 17), (G47 18), (G47 19), undef] ∧ Own w0 D R w [rowA (Enc.int .u8) A44 c45 l46] [slA Rp0 (Enc.int .u8) Ap0 cp0 p0] ∧ pack_low_uint64_J1 l46 = some r0) ?_ ?_
  ·
    refine wp_seq ?_
    refine wp_reg ?_
    refine segEnd [.slice Ap0 p0.length cp0, .int .u64 p1, .int .i64 p2, undef, undef, undef, .slice none 0 0, .slice A2 (([] ++ p0).length) c3, undef, .slice Ap0 p0.length cp0, .slice A2 (([] ++ p0).length) c3, .int .i64 p2, .int .i64 0, undef, undef, undef, undef, undef, undef, undef, undef, undef, undef, undef, undef] (by kernel_rfl) ?_
    refine then_normal ?_
    refine wp_block ?_
    replace hM := bind_some hM
    obtain ⟨q29, hL30, hM⟩ := hM
    refine wp_loop_model (fun (s : ((List Int) × Int)) a w => ∃ (A31 : Option Addr) (c32 : Nat) (G35 : Nat → Value) (l33 : List Int) (x34 : Int), s = (l33, x34) ∧ a = Fr [(G35 0), .int .u64 p1, (G35 1), undef, undef, undef, (G35 2), .slice A31 l33.length c32, (G35 3), (G35 4), (G35 5), .int .i64 p2, .int .i64 x34, (G35 6), (G35 7), (G35 8), (G35 9), (G35 10), (G35 11), (G35 12), (G35 13), (G35 14), (G35 15), (G35 16), undef] ∧ Own w0 D R w [rowA (Enc.int .u8) A31 c32 l33] [slA Rp0 (Enc.int .u8) Ap0 cp0 p0]) ?_ hL30 ?_
    · rintro _ a w ⟨A31, c32, G35, l33, x34, rfl, rfl, hS⟩ o27 hM1 hout28
      replace hM1 : pack_low_uint64_L1 p1 p2 l33 x34 = some o27 := hM1
      unfold pack_low_uint64_L1 at hM1
      refine wp_seq ?_
      refine wp_reg ?_
      refine segEnd [(G35 0), .int .u64 p1, (G35 1), undef, undef, undef, (G35 2), .slice A31 l33.length c32, (G35 3), (G35 4), (G35 5), .int .i64 p2, .int .i64 x34, .bool (decide (x34 < p2)), (G35 7), (G35 8), (G35 9), (G35 10), (G35 11), (G35 12), (G35 13), (G35 14), (G35 15), (G35 16), undef] (by kernel_rfl) ?_
      refine then_normal ?_
      refine wp_seq ?_
      refine wp_cond_split (t := decide (x34 < p2)) (by kernel_rfl) (fun hc36 => ?_) (fun hc36 => ?_)
      · replace hM1 := (if_pos hc36).symm.trans hM1
        refine wp_skip ?_
        refine then_normal ?_
        refine wp_seq ?_
        refine wp_block ?_
        refine wp_seq ?_
        refine wp_reg ?_
        refine segEnd [(G35 0), .int .u64 p1, (G35 1), undef, undef, undef, (G35 2), .slice A31 l33.length c32, .int .i64 x34, (G35 4), (G35 5), .int .i64 p2, .int .i64 x34, .bool (decide (x34 < p2)), .int .i64 x34, (G35 8), (G35 9), (G35 10), (G35 11), (G35 12), (G35 13), (G35 14), (G35 15), (G35 16), undef] (by kernel_rfl) ?_
        refine then_normal ?_
        refine wp_reg ?_
        refine seg 4 [(G35 0), .int .u64 p1, (G35 1), undef, undef, undef, (G35 2), .slice A31 l33.length c32, .int .i64 x34, (G35 4), (G35 5), .int .i64 p2, .int .i64 x34, .bool (decide (x34 < p2)), .int .i64 x34, .slice A31 l33.length c32, .int .u64 p1, .int .i64 x34, .int .i64 (IntKind.i64.wrap (8 * x34)), (G35 12), (G35 13), (G35 14), (G35 15), (G35 16), undef] (by kernel_rfl) ?_
        replace hM1 := bind_some hM1
        obtain ⟨z37, h38, hM1⟩ := hM1
        refine s_gshr (.tmp 16) (.tmp 18) 30 .u64 .i64 p1 (IntKind.i64.wrap (8 * x34)) rfl (by kernel_rfl) (by kernel_rfl) (by kernel_rfl) h38 ?_
        refine seg 1 [(G35 0), .int .u64 p1, (G35 1), undef, undef, undef, (G35 2), .slice A31 l33.length c32, .int .i64 x34, (G35 4), (G35 5), .int .i64 p2, .int .i64 x34, .bool (decide (x34 < p2)), .int .i64 x34, .slice A31 l33.length c32, .int .u64 p1, .int .i64 x34, .int .i64 (IntKind.i64.wrap (8 * x34)), .int .u64 z37, .int .u8 (IntKind.u8.wrap (z37)), (G35 14), (G35 15), (G35 16), undef] (by kernel_rfl) ?_
        refine s_lit 22 5 1 1 #[(0, .tmp 20)] (e := (Enc.int .u8)) ([(IntKind.u8.wrap (z37))] : List Int) (.int .u8 0) rfl u22 (by kernel_rfl) (by decide) rfl (by kernel_rfl) (by kernel_rfl) hS (fun A39 c40 _ hS => ?_)
        replace hM1 := bind_some hM1
        obtain ⟨_, h41, hM1⟩ := hM1
        replace hS : Own w0 D R _ [rowA (Enc.int .u8) A31 c32 l33, rowA (Enc.int .u8) A39 c40 [(IntKind.u8.wrap (z37))]] [slA Rp0 (Enc.int .u8) Ap0 cp0 p0] := hS.pick 1 rfl
        refine s_append (.tmp 15) (.tmp 21) 22 22 5 1 (.slice A39 ([(IntKind.u8.wrap (z37))].length) c40) (e := (Enc.int .u8)) (xs := l33) (ys := [(IntKind.u8.wrap (z37))]) rfl u22 el5 (by kernel_rfl) (by kernel_rfl) (by kernel_rfl) hS ((SlR.of_row (hS.row_mem (List.Mem.tail _ (List.Mem.head _)))).src u22) (room_some h41).1 (room_some h41).2 (fun A42 c43 _ hS => ?_)
        refine segEnd [(G35 0), .int .u64 p1, (G35 1), undef, undef, undef, (G35 2), .slice A42 ((l33 ++ [(IntKind.u8.wrap (z37))]).length) c43, .int .i64 x34, (G35 4), (G35 5), .int .i64 p2, .int .i64 x34, .bool (decide (x34 < p2)), .int .i64 x34, .slice A31 l33.length c32, .int .u64 p1, .int .i64 x34, .int .i64 (IntKind.i64.wrap (8 * x34)), .int .u64 z37, .int .u8 (IntKind.u8.wrap (z37)), .slice A39 ([(IntKind.u8.wrap (z37))].length) c40, .slice A42 ((l33 ++ [(IntKind.u8.wrap (z37))]).length) c43, (G35 16), undef] (by kernel_rfl) ?_
        refine in_normal ?_
        refine then_normal ?_
        refine wp_reg ?_
        refine segEnd [(G35 0), .int .u64 p1, (G35 1), undef, undef, undef, (G35 2), .slice A42 ((l33 ++ [(IntKind.u8.wrap (z37))]).length) c43, .int .i64 x34, (G35 4), (G35 5), .int .i64 p2, .int .i64 (IntKind.i64.wrap (x34 + 1)), .bool (decide (x34 < p2)), .int .i64 x34, .slice A31 l33.length c32, .int .u64 p1, .int .i64 x34, .int .i64 (IntKind.i64.wrap (8 * x34)), .int .u64 z37, .int .u8 (IntKind.u8.wrap (z37)), .slice A39 ([(IntKind.u8.wrap (z37))].length) c40, .slice A42 ((l33 ++ [(IntKind.u8.wrap (z37))]).length) c43, .int .i64 (IntKind.i64.wrap (x34 + 1)), undef] (by kernel_rfl) ?_
        refine then_normal ?_
        replace hS : Own w0 D R _ [rowA (Enc.int .u8) A42 c43 (l33 ++ [(IntKind.u8.wrap (z37))])] [slA Rp0 (Enc.int .u8) Ap0 cp0 p0] := hS.takeX 1
        exact ⟨((l33 ++ [(IntKind.u8.wrap (z37))]), (IntKind.i64.wrap (x34 + 1))), (Option.some.inj hM1).symm, A42, c43, (fun i => ([(G35 0), (G35 1), (G35 2), .int .i64 x34, (G35 4), (G35 5), .bool (decide (x34 < p2)), .int .i64 x34, .slice A31 l33.length c32, .int .u64 p1, .int .i64 x34, .int .i64 (IntKind.i64.wrap (8 * x34)), .int .u64 z37, .int .u8 (IntKind.u8.wrap (z37)), .slice A39 ([(IntKind.u8.wrap (z37))].length) c40, .slice A42 ((l33 ++ [(IntKind.u8.wrap (z37))]).length) c43, .int .i64 (IntKind.i64.wrap (x34 + 1))] : List Value).getD i undef), (l33 ++ [(IntKind.u8.wrap (z37))]), (IntKind.i64.wrap (x34 + 1)), rfl, (by kernel_rfl), hS⟩
      · replace hM1 := (if_neg (Bool.eq_false_iff.1 hc36)).symm.trans hM1
        refine wp_exit ?_
        refine then_exit ?_
        refine then_exit ?_
        have hr49 := hout28 _ (Option.some.inj hM1).symm
        subst hr49
        refine in_exit_eq ?_
        refine then_normal ?_
        exact ⟨A31, c32, (fun i => ([(G35 0), .int .u64 p1, (G35 1), (G35 2), (G35 3), (G35 4), (G35 5), .int .i64 p2, .int .i64 x34, .bool (decide (x34 < p2)), (G35 7), (G35 8), (G35 9), (G35 10), (G35 11), (G35 12), (G35 13), (G35 14), (G35 15), (G35 16)] : List Value).getD i undef), l33, (by kernel_rfl), hS, hM⟩
    · exact ⟨A2, c3, (fun i => ([.slice Ap0 p0.length cp0, .int .i64 p2, .slice none 0 0, undef, .slice Ap0 p0.length cp0, .slice A2 (([] ++ p0).length) c3, undef, undef, undef, undef, undef, undef, undef, undef, undef, undef, undef] : List Value).getD i undef), ([] ++ p0), 0, rfl, (by kernel_rfl), hS⟩
  · rintro a w ⟨A44, c45, G47, l46, rfl, hS, hM⟩
    unfold pack_low_uint64_J1 at hM
    refine wp_seq ?_
    refine wp_reg ?_
    refine segEnd [(G47 0), (G47 1), (G47 2), undef, undef, undef, .slice A44 l46.length c45, .slice A44 l46.length c45, (G47 4), (G47 5), (G47 6), (G47 7), (G47 8), (G47 9), (G47 10), (G47 11), (G47 12), (G47 13), (G47 14), (G47 15), (G47 16), (G47 17), (G47 18), (G47 19), .slice A44 l46.length c45] (by kernel_rfl) ?_
    refine then_normal ?_
    refine wp_ret ?_
    replace hS : Own w0 D R _ [rowA (Enc.int .u8) A44 c45 l46] [] := hS.dropS forall0
    obtain rfl := Option.some.inj hM
    refine ret_v (.slice A44 l46.length c45) (by kernel_rfl) ⟨A44, c45, rfl, hS⟩

theorem pack_PutLe32_W {w0 w : World} {D R : Nat → Prop} {Rp0 : Nat → Prop} {Ap0 : Option Addr} {cp0 : Nat} {p0 : List Int} {p1 : Int} {r0 : List Int} (hS : Own w0 D R w [] [slA Rp0 (Enc.int .u8) Ap0 cp0 p0]) (hD : ∀ b, ¬ D b) (hM : pack_PutLe32_M p0 p1 = some r0) :
    Calls Go.Proofs.Try.prog 21 #[.slice Ap0 p0.length cp0, .int .u32 p1] w (fun e w' => ∃ (ZA1 : Option Addr) (Zc2 : Nat), e = .returned (.slice ZA1 r0.length Zc2) ∧ Own w0 D R w' [rowA (Enc.int .u8) ZA1 Zc2 r0] []) := by
  refine enter (fn := Go.Proofs.Try.f21) [.slice Ap0 p0.length cp0, .int .u32 p1, undef, undef, undef, undef, undef, undef] (by kernel_rfl) rfl (by kernel_rfl) ?_
  unfold pack_PutLe32_M at hM
  refine wp_seq ?_
  refine wp_reg ?_
  refine segEnd [.slice Ap0 p0.length cp0, .int .u32 p1, undef, undef, .slice none 0 0, undef, undef, undef] (by kernel_rfl) ?_
  refine then_normal ?_
  refine wp_seq ?_
  refine wp_reg ?_
  refine seg 2 [.slice Ap0 p0.length cp0, .int .u32 p1, undef, undef, .slice none 0 0, .slice Ap0 p0.length cp0, .int .u32 p1, undef] (by kernel_rfl) ?_
  replace hM := bind_some hM
  obtain ⟨v1, h4, hM⟩ := hM
  have hP := Own.pre (Xi := []) (X := []) (Si := [slA Rp0 (Enc.int .u8) Ap0 cp0 p0]) hS (forall2 (hS.sl_mem (List.Mem.head _)) forall0) (forall2 (fun _ h => .inl ⟨_, (List.Mem.head _), h⟩) forall0)
  refine s_call 48 #[.slice Ap0 p0.length cp0, .int .u32 p1, .int .i64 4] (by kernel_rfl) (by kernel_rfl) ((pack_low_uint32_W hP doms_nil h4).mono ?_)
  rintro _ _ ⟨A2, c3, rfl, hQ⟩
  replace hS : Own w0 D R _ [rowA (Enc.int .u8) A2 c3 v1] [slA Rp0 (Enc.int .u8) Ap0 cp0 p0] := hS.post hQ (.inl rfl)
  clear hP hQ
  refine ⟨_, rfl, ?_⟩
  refine segEnd [.slice Ap0 p0.length cp0, .int .u32 p1, undef, undef, .slice A2 v1.length c3, .slice Ap0 p0.length cp0, .int .u32 p1, .slice A2 v1.length c3] (by kernel_rfl) ?_
  refine then_normal ?_
  refine wp_ret ?_
  replace hS : Own w0 D R _ [rowA (Enc.int .u8) A2 c3 v1] [] := hS.dropS forall0
  obtain rfl := Option.some.inj hM
  refine ret_v (.slice A2 v1.length c3) (by kernel_rfl) ⟨A2, c3, rfl, hS⟩

theorem pack_PutLe64_W {w0 w : World} {D R : Nat → Prop} {Rp0 : Nat → Prop} {Ap0 : Option Addr} {cp0 : Nat} {p0 : List Int} {p1 : Int} {r0 : List Int} (hS : Own w0 D R w [] [slA Rp0 (Enc.int .u8) Ap0 cp0 p0]) (hD : ∀ b, ¬ D b) (hM : pack_PutLe64_M p0 p1 = some r0) :
    Calls Go.Proofs.Try.prog 24 #[.slice Ap0 p0.length cp0, .int .u64 p1] w (fun e w' => ∃ (ZA1 : Option Addr) (Zc2 : Nat), e = .returned (.slice ZA1 r0.length Zc2) ∧ Own w0 D R w' [rowA (Enc.int .u8) ZA1 Zc2 r0] []) := by
  refine enter (fn := Go.Proofs.Try.f24) [.slice Ap0 p0.length cp0, .int .u64 p1, undef, undef, undef, undef, undef, undef] (by kernel_rfl) rfl (by kernel_rfl) ?_
  unfold pack_PutLe64_M at hM
  refine wp_seq ?_
  refine wp_reg ?_
  refine segEnd [.slice Ap0 p0.length cp0, .int .u64 p1, undef, undef, .slice none 0 0, undef, undef, undef] (by kernel_rfl) ?_
  refine then_normal ?_
  refine wp_seq ?_
  refine wp_reg ?_
  refine seg 2 [.slice Ap0 p0.length cp0, .int .u64 p1, undef, undef, .slice none 0 0, .slice Ap0 p0.length cp0, .int .u64 p1, undef] (by kernel_rfl) ?_
  replace hM := bind_some hM
  obtain ⟨v1, h4, hM⟩ := hM
  have hP := Own.pre (Xi := []) (X := []) (Si := [slA Rp0 (Enc.int .u8) Ap0 cp0 p0]) hS (forall2 (hS.sl_mem (List.Mem.head _)) forall0) (forall2 (fun _ h => .inl ⟨_, (List.Mem.head _), h⟩) forall0)
  refine s_call 49 #[.slice Ap0 p0.length cp0, .int .u64 p1, .int .i64 8] (by kernel_rfl) (by kernel_rfl) ((pack_low_uint64_W hP doms_nil h4).mono ?_)
  rintro _ _ ⟨A2, c3, rfl, hQ⟩
  replace hS : Own w0 D R _ [rowA (Enc.int .u8) A2 c3 v1] [slA Rp0 (Enc.int .u8) Ap0 cp0 p0] := hS.post hQ (.inl rfl)
  clear hP hQ
  refine ⟨_, rfl, ?_⟩
  refine segEnd [.slice Ap0 p0.length cp0, .int .u64 p1, undef, undef, .slice A2 v1.length c3, .slice Ap0 p0.length cp0, .int .u64 p1, .slice A2 v1.length c3] (by kernel_rfl) ?_
  refine then_normal ?_
  refine wp_ret ?_
  replace hS : Own w0 D R _ [rowA (Enc.int .u8) A2 c3 v1] [] := hS.dropS forall0
  obtain rfl := Option.some.inj hM
  refine ret_v (.slice A2 v1.length c3) (by kernel_rfl) ⟨A2, c3, rfl, hS⟩

theorem pack_take_W {w0 w : World} {D R : Nat → Prop} {Rp0 : Nat → Prop} {Ap0 : Option Addr} {cp0 : Nat} {p0 : List Int} {p1 : Int} {p2 : Int} {r0 : Int} (hS : Own w0 D R w [] [slA Rp0 (Enc.int .u8) Ap0 cp0 p0]) (hD : ∀ b, ¬ D b) (hM : pack_take_M p0 p1 p2 = some r0) :
    Calls Go.Proofs.Try.prog 53 #[.slice Ap0 p0.length cp0, .int .i64 p1, .int .i64 p2] w (fun e w' => e = .returned (.int .u64 r0) ∧ Own w0 D R w' [] []) := by
  refine enter (fn := Go.Proofs.Try.f53) [.slice Ap0 p0.length cp0, .int .i64 p1, .int .i64 p2, undef, undef, undef, undef, undef, undef, undef, undef, undef, undef, undef, undef, undef, undef, undef, undef, undef, undef, undef, undef, undef, undef, undef, undef, undef, undef, undef, undef, undef, undef, undef, undef, undef, undef] (by kernel_rfl) rfl (by kernel_rfl) ?_
  unfold pack_take_M at hM
  refine wp_seq ?_
  refine wp_reg ?_
  refine segEnd [.slice Ap0 p0.length cp0, .int .i64 p1, .int .i64 p2, undef, undef, undef, .int .u64 0, undef, undef, undef, undef, undef, undef, undef, undef, undef, undef, undef, undef, undef, undef, undef, undef, undef, undef, undef, undef, undef, undef, undef, undef, undef, undef, undef, undef, undef, undef] (by kernel_rfl) ?_
  refine then_normal ?_
  refine wp_seq ?_
  refine wp_reg ?_
  refine segEnd [.slice Ap0 p0.length cp0, .int .i64 p1, .int .i64 p2, undef, undef, undef, .int .u64 0, .int .u64 0, undef, undef, undef, undef, undef, undef, undef, undef, undef, undef, undef, undef, undef, undef, undef, undef, undef, undef, undef, undef, undef, undef, undef, undef, undef, undef, undef, undef, undef] (by kernel_rfl) ?_
  refine then_normal ?_
  refine wp_join (fun a w => ∃ (G36 : Nat → Value) (x35 : Int), a = Fr [(G36 0), (G36 1), (G36 2), undef, undef, undef, (G36 3), .int .u64 x35, (G36 4), (G36 5), (G36 6), (G36 7), (G36 8), (G36 9), (G36 10), (G36 11), (G36 12), (G36 13), (G36 14), (G36 15), (G36 16), (G36 17), (G36 18), (G36 19), (G36 20), (G36 21), (G36 22), (G36 23), (G36 24), (G36 25), (G36 26), (G36 27), (G36 28), (G36 29), (G36 30), (G36 31), undef] ∧ Own w0 D R w [] [slA Rp0 (Enc.int .u8) Ap0 cp0 p0] ∧ pack_take_J2 x35 = some r0) ?_ ?_
  ·
    refine wp_seq ?_
    refine wp_reg ?_
    refine segEnd [.slice Ap0 p0.length cp0, .int .i64 p1, .int .i64 p2, undef, undef, undef, .int .u64 0, .int .u64 0, undef, .int .i64 p2, .int .i64 0, undef, undef, undef, undef, undef, undef, undef, undef, undef, undef, undef, undef, undef, undef, undef, undef, undef, undef, undef, undef, undef, undef, undef, undef, undef, undef] (by kernel_rfl) ?_
    refine then_normal ?_
    refine wp_block ?_
    replace hM := bind_some hM
    obtain ⟨q18, hL19, hM⟩ := hM
    refine wp_loop_model (fun (s : (Int × Int)) a w => ∃ (G22 : Nat → Value) (x20 : Int) (x21 : Int), s = (x20, x21) ∧ a = Fr [.slice Ap0 p0.length cp0, .int .i64 p1, (G22 0), undef, undef, undef, (G22 1), .int .u64 x20, (G22 2), .int .i64 p2, .int .i64 x21, (G22 3), (G22 4), (G22 5), (G22 6), (G22 7), (G22 8), (G22 9), (G22 10), (G22 11), (G22 12), (G22 13), (G22 14), (G22 15), (G22 16), (G22 17), (G22 18), (G22 19), (G22 20), (G22 21), (G22 22), (G22 23), (G22 24), (G22 25), (G22 26), (G22 27), undef] ∧ Own w0 D R w [] [slA Rp0 (Enc.int .u8) Ap0 cp0 p0]) ?_ hL19 ?_
    · rintro _ a w ⟨G22, x20, x21, rfl, rfl, hS⟩ o16 hM1 hout17
      replace hM1 : pack_take_L1 p0 p1 p2 x20 x21 = some o16 := hM1
      unfold pack_take_L1 at hM1
      refine wp_seq ?_
      refine wp_reg ?_
      refine segEnd [.slice Ap0 p0.length cp0, .int .i64 p1, (G22 0), undef, undef, undef, (G22 1), .int .u64 x20, (G22 2), .int .i64 p2, .int .i64 x21, .bool (decide (x21 < p2)), (G22 4), (G22 5), (G22 6), (G22 7), (G22 8), (G22 9), (G22 10), (G22 11), (G22 12), (G22 13), (G22 14), (G22 15), (G22 16), (G22 17), (G22 18), (G22 19), (G22 20), (G22 21), (G22 22), (G22 23), (G22 24), (G22 25), (G22 26), (G22 27), undef] (by kernel_rfl) ?_
      refine then_normal ?_
      refine wp_seq ?_
      refine wp_cond_split (t := decide (x21 < p2)) (by kernel_rfl) (fun hc23 => ?_) (fun hc23 => ?_)
      · replace hM1 := (if_pos hc23).symm.trans hM1
        refine wp_skip ?_
        refine then_normal ?_
        refine wp_seq ?_
        refine wp_block ?_
        refine wp_seq ?_
        refine wp_reg ?_
        refine segEnd [.slice Ap0 p0.length cp0, .int .i64 p1, (G22 0), undef, undef, undef, (G22 1), .int .u64 x20, .int .i64 x21, .int .i64 p2, .int .i64 x21, .bool (decide (x21 < p2)), .int .i64 x21, (G22 5), (G22 6), (G22 7), (G22 8), (G22 9), (G22 10), (G22 11), (G22 12), (G22 13), (G22 14), (G22 15), (G22 16), (G22 17), (G22 18), (G22 19), (G22 20), (G22 21), (G22 22), (G22 23), (G22 24), (G22 25), (G22 26), (G22 27), undef] (by kernel_rfl) ?_
        refine then_normal ?_
        refine wp_join (fun a w => ∃ (G26 : Nat → Value) (x25 : Bool), a = Fr [.slice Ap0 p0.length cp0, .int .i64 p1, (G22 0), undef, undef, undef, (G22 1), .int .u64 x20, .int .i64 x21, .int .i64 p2, .int .i64 x21, (G26 0), (G26 1), (G26 2), (G26 3), (G26 4), (G26 5), (G26 6), (G26 7), (G26 8), (G26 9), (G26 10), .bool x25, (G22 15), (G22 16), (G22 17), (G22 18), (G22 19), (G22 20), (G22 21), (G22 22), (G22 23), (G22 24), (G22 25), (G22 26), (G22 27), undef] ∧ Own w0 D R w [] [slA Rp0 (Enc.int .u8) Ap0 cp0 p0] ∧ pack_take_J1 p0 p1 x20 x21 x25 = some o16) ?_ ?_
        ·
          refine wp_reg ?_
          refine seg 3 [.slice Ap0 p0.length cp0, .int .i64 p1, (G22 0), undef, undef, undef, (G22 1), .int .u64 x20, .int .i64 x21, .int .i64 p2, .int .i64 x21, .bool (decide (x21 < p2)), .int .i64 x21, .int .i64 p1, .bool (decide (p1 ≥ 0)), .bool (decide (p1 ≥ 0)), (G22 8), (G22 9), (G22 10), (G22 11), (G22 12), (G22 13), (G22 14), (G22 15), (G22 16), (G22 17), (G22 18), (G22 19), (G22 20), (G22 21), (G22 22), (G22 23), (G22 24), (G22 25), (G22 26), (G22 27), undef] (by kernel_rfl) ?_
          rcases Bool.eq_false_or_eq_true (decide (p1 ≥ 0)) with hc24 | hc24
          · replace hM1 := (if_pos hc24).symm.trans hM1
            rw [hc24]
            refine segEnd [.slice Ap0 p0.length cp0, .int .i64 p1, (G22 0), undef, undef, undef, (G22 1), .int .u64 x20, .int .i64 x21, .int .i64 p2, .int .i64 x21, .bool (decide (x21 < p2)), .int .i64 x21, .int .i64 p1, .bool true, .bool true, .int .i64 p1, .slice Ap0 p0.length cp0, .int .i64 (p0.length : Int), .int .i64 x21, .int .i64 (IntKind.i64.wrap ((p0.length : Int) - x21)), .bool (decide (p1 < (IntKind.i64.wrap ((p0.length : Int) - x21)))), .bool (decide (p1 < (IntKind.i64.wrap ((p0.length : Int) - x21)))), (G22 15), (G22 16), (G22 17), (G22 18), (G22 19), (G22 20), (G22 21), (G22 22), (G22 23), (G22 24), (G22 25), (G22 26), (G22 27), undef] (by kernel_rfl) ?_
            refine then_normal ?_
            exact ⟨(fun i => ([.bool (decide (x21 < p2)), .int .i64 x21, .int .i64 p1, .bool true, .bool true, .int .i64 p1, .slice Ap0 p0.length cp0, .int .i64 (p0.length : Int), .int .i64 x21, .int .i64 (IntKind.i64.wrap ((p0.length : Int) - x21)), .bool (decide (p1 < (IntKind.i64.wrap ((p0.length : Int) - x21))))] : List Value).getD i undef), (decide (p1 < (IntKind.i64.wrap ((p0.length : Int) - x21)))), (by kernel_rfl), hS, hM1⟩
          · replace hM1 := (if_neg (Bool.eq_false_iff.1 hc24)).symm.trans hM1
            rw [hc24]
            refine segEnd [.slice Ap0 p0.length cp0, .int .i64 p1, (G22 0), undef, undef, undef, (G22 1), .int .u64 x20, .int .i64 x21, .int .i64 p2, .int .i64 x21, .bool (decide (x21 < p2)), .int .i64 x21, .int .i64 p1, .bool false, .bool false, undef, undef, undef, undef, undef, undef, .bool false, (G22 15), (G22 16), (G22 17), (G22 18), (G22 19), (G22 20), (G22 21), (G22 22), (G22 23), (G22 24), (G22 25), (G22 26), (G22 27), undef] (by kernel_rfl) ?_
            refine then_normal ?_
            exact ⟨(fun i => ([.bool (decide (x21 < p2)), .int .i64 x21, .int .i64 p1, .bool false, .bool false, undef, undef, undef, undef, undef, undef] : List Value).getD i undef), false, (by kernel_rfl), hS, hM1⟩
        · rintro a w ⟨G26, x25, rfl, hS, hM1⟩
          unfold pack_take_J1 at hM1
          refine wp_cond_split (t := x25) (by kernel_rfl) (fun hc27 => ?_) (fun hc27 => ?_)
          · replace hM1 := (if_pos hc27).symm.trans hM1
            refine wp_reg ?_
            refine seg 5 [.slice Ap0 p0.length cp0, .int .i64 p1, (G22 0), undef, undef, undef, (G22 1), .int .u64 x20, .int .i64 x21, .int .i64 p2, .int .i64 x21, (G26 0), (G26 1), (G26 2), (G26 3), (G26 4), (G26 5), (G26 6), (G26 7), (G26 8), (G26 9), (G26 10), .bool x25, .int .u64 x20, .slice Ap0 p0.length cp0, .int .i64 p1, .int .i64 x21, .int .i64 (IntKind.i64.wrap (p1 + x21)), (G22 20), (G22 21), (G22 22), (G22 23), (G22 24), (G22 25), (G22 26), (G22 27), undef] (by kernel_rfl) ?_
            replace hM1 := bind_some hM1
            obtain ⟨y28, h29, hM1⟩ := hM1
            have hi32 := ix_some h29
            refine s_index (A := Ap0) (cap := cp0) (.tmp 24) (.tmp 27) 22 5 1 .i64 (IntKind.i64.wrap (p1 + x21)) rfl u22 el5 (by kernel_rfl) (by kernel_rfl) (by kernel_rfl) (SlR.of_sl (hS.sl_mem (List.Mem.head _))) hi32.1 hi32.2.1 (fun p30 hp31 => ?_)
            refine s_load_el (.tmp 28) 5 1 p30 _ y28 rfl el5 (by kernel_rfl) (by kernel_rfl) hp31 (SlR.of_sl (hS.sl_mem (List.Mem.head _))) hi32.2.2 ?_
            refine seg 3 [.slice Ap0 p0.length cp0, .int .i64 p1, (G22 0), undef, undef, undef, (G22 1), .int .u64 x20, .int .i64 x21, .int .i64 p2, .int .i64 x21, (G26 0), (G26 1), (G26 2), (G26 3), (G26 4), (G26 5), (G26 6), (G26 7), (G26 8), (G26 9), (G26 10), .bool x25, .int .u64 x20, .slice Ap0 p0.length cp0, .int .i64 p1, .int .i64 x21, .int .i64 (IntKind.i64.wrap (p1 + x21)), .pointer (some p30), .int .u8 y28, .int .u64 (IntKind.u64.wrap (y28)), .int .i64 x21, .int .i64 (IntKind.i64.wrap (8 * x21)), (G22 25), (G22 26), (G22 27), undef] (by kernel_rfl) ?_
            replace hM1 := bind_some hM1
            obtain ⟨z33, h34, hM1⟩ := hM1
            refine s_gshl (.tmp 30) (.tmp 32) 30 .u64 .i64 (IntKind.u64.wrap (y28)) (IntKind.i64.wrap (8 * x21)) rfl (by kernel_rfl) (by kernel_rfl) (by kernel_rfl) h34 ?_
            refine segEnd [.slice Ap0 p0.length cp0, .int .i64 p1, (G22 0), undef, undef, undef, (G22 1), .int .u64 (bor .u64 x20 z33), .int .i64 x21, .int .i64 p2, .int .i64 x21, (G26 0), (G26 1), (G26 2), (G26 3), (G26 4), (G26 5), (G26 6), (G26 7), (G26 8), (G26 9), (G26 10), .bool x25, .int .u64 x20, .slice Ap0 p0.length cp0, .int .i64 p1, .int .i64 x21, .int .i64 (IntKind.i64.wrap (p1 + x21)), .pointer (some p30), .int .u8 y28, .int .u64 (IntKind.u64.wrap (y28)), .int .i64 x21, .int .i64 (IntKind.i64.wrap (8 * x21)), .int .u64 z33, .int .u64 (bor .u64 x20 z33), (G22 27), undef] (by kernel_rfl) ?_
            refine in_normal ?_
            refine then_normal ?_
            refine wp_reg ?_
            refine segEnd [.slice Ap0 p0.length cp0, .int .i64 p1, (G22 0), undef, undef, undef, (G22 1), .int .u64 (bor .u64 x20 z33), .int .i64 x21, .int .i64 p2, .int .i64 (IntKind.i64.wrap (x21 + 1)), (G26 0), (G26 1), (G26 2), (G26 3), (G26 4), (G26 5), (G26 6), (G26 7), (G26 8), (G26 9), (G26 10), .bool x25, .int .u64 x20, .slice Ap0 p0.length cp0, .int .i64 p1, .int .i64 x21, .int .i64 (IntKind.i64.wrap (p1 + x21)), .pointer (some p30), .int .u8 y28, .int .u64 (IntKind.u64.wrap (y28)), .int .i64 x21, .int .i64 (IntKind.i64.wrap (8 * x21)), .int .u64 z33, .int .u64 (bor .u64 x20 z33), .int .i64 (IntKind.i64.wrap (x21 + 1)), undef] (by kernel_rfl) ?_
            refine then_normal ?_
            exact ⟨((bor .u64 x20 z33), (IntKind.i64.wrap (x21 + 1))), (Option.some.inj hM1).symm, (fun i => ([(G22 0), (G22 1), .int .i64 x21, (G26 0), (G26 1), (G26 2), (G26 3), (G26 4), (G26 5), (G26 6), (G26 7), (G26 8), (G26 9), (G26 10), .bool x25, .int .u64 x20, .slice Ap0 p0.length cp0, .int .i64 p1, .int .i64 x21, .int .i64 (IntKind.i64.wrap (p1 + x21)), .pointer (some p30), .int .u8 y28, .int .u64 (IntKind.u64.wrap (y28)), .int .i64 x21, .int .i64 (IntKind.i64.wrap (8 * x21)), .int .u64 z33, .int .u64 (bor .u64 x20 z33), .int .i64 (IntKind.i64.wrap (x21 + 1))] : List Value).getD i undef), (bor .u64 x20 z33), (IntKind.i64.wrap (x21 + 1)), rfl, (by kernel_rfl), hS⟩
          · replace hM1 := (if_neg (Bool.eq_false_iff.1 hc27)).symm.trans hM1
            refine wp_skip ?_
            refine in_normal ?_
            refine then_normal ?_
            refine wp_reg ?_
            refine segEnd [.slice Ap0 p0.length cp0, .int .i64 p1, (G22 0), undef, undef, undef, (G22 1), .int .u64 x20, .int .i64 x21, .int .i64 p2, .int .i64 (IntKind.i64.wrap (x21 + 1)), (G26 0), (G26 1), (G26 2), (G26 3), (G26 4), (G26 5), (G26 6), (G26 7), (G26 8), (G26 9), (G26 10), .bool x25, (G22 15), (G22 16), (G22 17), (G22 18), (G22 19), (G22 20), (G22 21), (G22 22), (G22 23), (G22 24), (G22 25), (G22 26), .int .i64 (IntKind.i64.wrap (x21 + 1)), undef] (by kernel_rfl) ?_
            refine then_normal ?_
            exact ⟨(x20, (IntKind.i64.wrap (x21 + 1))), (Option.some.inj hM1).symm, (fun i => ([(G22 0), (G22 1), .int .i64 x21, (G26 0), (G26 1), (G26 2), (G26 3), (G26 4), (G26 5), (G26 6), (G26 7), (G26 8), (G26 9), (G26 10), .bool x25, (G22 15), (G22 16), (G22 17), (G22 18), (G22 19), (G22 20), (G22 21), (G22 22), (G22 23), (G22 24), (G22 25), (G22 26), .int .i64 (IntKind.i64.wrap (x21 + 1))] : List Value).getD i undef), x20, (IntKind.i64.wrap (x21 + 1)), rfl, (by kernel_rfl), hS⟩
      · replace hM1 := (if_neg (Bool.eq_false_iff.1 hc23)).symm.trans hM1
        refine wp_exit ?_
        refine then_exit ?_
        refine then_exit ?_
        have hr38 := hout17 _ (Option.some.inj hM1).symm
        subst hr38
        refine in_exit_eq ?_
        refine then_normal ?_
        exact ⟨(fun i => ([.slice Ap0 p0.length cp0, .int .i64 p1, (G22 0), (G22 1), (G22 2), .int .i64 p2, .int .i64 x21, .bool (decide (x21 < p2)), (G22 4), (G22 5), (G22 6), (G22 7), (G22 8), (G22 9), (G22 10), (G22 11), (G22 12), (G22 13), (G22 14), (G22 15), (G22 16), (G22 17), (G22 18), (G22 19), (G22 20), (G22 21), (G22 22), (G22 23), (G22 24), (G22 25), (G22 26), (G22 27)] : List Value).getD i undef), x20, (by kernel_rfl), hS, hM⟩
    · exact ⟨(fun i => ([.int .i64 p2, .int .u64 0, undef, undef, undef, undef, undef, undef, undef, undef, undef, undef, undef, undef, undef, undef, undef, undef, undef, undef, undef, undef, undef, undef, undef, undef, undef, undef] : List Value).getD i undef), 0, 0, rfl, (by kernel_rfl), hS⟩
  · rintro a w ⟨G36, x35, rfl, hS, hM⟩
    unfold pack_take_J2 at hM
    refine wp_seq ?_
    refine wp_reg ?_
    refine segEnd [(G36 0), (G36 1), (G36 2), undef, undef, undef, .int .u64 x35, .int .u64 x35, (G36 4), (G36 5), (G36 6), (G36 7), (G36 8), (G36 9), (G36 10), (G36 11), (G36 12), (G36 13), (G36 14), (G36 15), (G36 16), (G36 17), (G36 18), (G36 19), (G36 20), (G36 21), (G36 22), (G36 23), (G36 24), (G36 25), (G36 26), (G36 27), (G36 28), (G36 29), (G36 30), (G36 31), .int .u64 x35] (by kernel_rfl) ?_
    refine then_normal ?_
    refine wp_ret ?_
    replace hS : Own w0 D R _ [] [] := hS.dropS forall0
    obtain rfl := Option.some.inj hM
    refine ret_v (.int .u64 x35) (by kernel_rfl) ⟨rfl, hS⟩

theorem pack_Le32_W {w0 w : World} {D R : Nat → Prop} {Rp0 : Nat → Prop} {Ap0 : Option Addr} {cp0 : Nat} {p0 : List Int} {p1 : Int} {r0 : Int} (hS : Own w0 D R w [] [slA Rp0 (Enc.int .u8) Ap0 cp0 p0]) (hD : ∀ b, ¬ D b) (hM : pack_Le32_M p0 p1 = some r0) :
    Calls Go.Proofs.Try.prog 29 #[.slice Ap0 p0.length cp0, .int .i64 p1] w (fun e w' => e = .returned (.int .u32 r0) ∧ Own w0 D R w' [] []) := by
  refine enter (fn := Go.Proofs.Try.f29) [.slice Ap0 p0.length cp0, .int .i64 p1, undef, undef, undef, undef, undef, undef, undef] (by kernel_rfl) rfl (by kernel_rfl) ?_
  unfold pack_Le32_M at hM
  refine wp_seq ?_
  refine wp_reg ?_
  refine segEnd [.slice Ap0 p0.length cp0, .int .i64 p1, undef, undef, .int .u32 0, undef, undef, undef, undef] (by kernel_rfl) ?_
  refine then_normal ?_
  refine wp_seq ?_
  refine wp_reg ?_
  refine seg 2 [.slice Ap0 p0.length cp0, .int .i64 p1, undef, undef, .int .u32 0, .slice Ap0 p0.length cp0, .int .i64 p1, undef, undef] (by kernel_rfl) ?_
  replace hM := bind_some hM
  obtain ⟨v1, h2, hM⟩ := hM
  have hP := Own.pre (Xi := []) (X := []) (Si := [slA Rp0 (Enc.int .u8) Ap0 cp0 p0]) hS (forall2 (hS.sl_mem (List.Mem.head _)) forall0) (forall2 (fun _ h => .inl ⟨_, (List.Mem.head _), h⟩) forall0)
  refine s_call 53 #[.slice Ap0 p0.length cp0, .int .i64 p1, .int .i64 4] (by kernel_rfl) (by kernel_rfl) ((pack_take_W hP doms_nil h2).mono ?_)
  rintro _ _ ⟨rfl, hQ⟩
  replace hS : Own w0 D R _ [] [slA Rp0 (Enc.int .u8) Ap0 cp0 p0] := hS.post hQ (.inl rfl)
  clear hP hQ
  refine ⟨_, rfl, ?_⟩
  refine segEnd [.slice Ap0 p0.length cp0, .int .i64 p1, undef, undef, .int .u32 (IntKind.u32.wrap (v1)), .slice Ap0 p0.length cp0, .int .i64 p1, .int .u64 v1, .int .u32 (IntKind.u32.wrap (v1))] (by kernel_rfl) ?_
  refine then_normal ?_
  refine wp_ret ?_
  replace hS : Own w0 D R _ [] [] := hS.dropS forall0
  obtain rfl := Option.some.inj hM
  refine ret_v (.int .u32 (IntKind.u32.wrap (v1))) (by kernel_rfl) ⟨rfl, hS⟩

theorem pack_Le64_W {w0 w : World} {D R : Nat → Prop} {Rp0 : Nat → Prop} {Ap0 : Option Addr} {cp0 : Nat} {p0 : List Int} {p1 : Int} {r0 : Int} (hS : Own w0 D R w [] [slA Rp0 (Enc.int .u8) Ap0 cp0 p0]) (hD : ∀ b, ¬ D b) (hM : pack_Le64_M p0 p1 = some r0) :
    Calls Go.Proofs.Try.prog 28 #[.slice Ap0 p0.length cp0, .int .i64 p1] w (fun e w' => e = .returned (.int .u64 r0) ∧ Own w0 D R w' [] []) := by
  refine enter (fn := Go.Proofs.Try.f28) [.slice Ap0 p0.length cp0, .int .i64 p1, undef, undef, undef, undef, undef, undef] (by kernel_rfl) rfl (by kernel_rfl) ?_
  unfold pack_Le64_M at hM
  refine wp_seq ?_
  refine wp_reg ?_
  refine segEnd [.slice Ap0 p0.length cp0, .int .i64 p1, undef, undef, .int .u64 0, undef, undef, undef] (by kernel_rfl) ?_
  refine then_normal ?_
  refine wp_seq ?_
  refine wp_reg ?_
  refine seg 2 [.slice Ap0 p0.length cp0, .int .i64 p1, undef, undef, .int .u64 0, .slice Ap0 p0.length cp0, .int .i64 p1, undef] (by kernel_rfl) ?_
  replace hM := bind_some hM
  obtain ⟨v1, h2, hM⟩ := hM
  have hP := Own.pre (Xi := []) (X := []) (Si := [slA Rp0 (Enc.int .u8) Ap0 cp0 p0]) hS (forall2 (hS.sl_mem (List.Mem.head _)) forall0) (forall2 (fun _ h => .inl ⟨_, (List.Mem.head _), h⟩) forall0)
  refine s_call 53 #[.slice Ap0 p0.length cp0, .int .i64 p1, .int .i64 8] (by kernel_rfl) (by kernel_rfl) ((pack_take_W hP doms_nil h2).mono ?_)
  rintro _ _ ⟨rfl, hQ⟩
  replace hS : Own w0 D R _ [] [slA Rp0 (Enc.int .u8) Ap0 cp0 p0] := hS.post hQ (.inl rfl)
  clear hP hQ
  refine ⟨_, rfl, ?_⟩
  refine segEnd [.slice Ap0 p0.length cp0, .int .i64 p1, undef, undef, .int .u64 v1, .slice Ap0 p0.length cp0, .int .i64 p1, .int .u64 v1] (by kernel_rfl) ?_
  refine then_normal ?_
  refine wp_ret ?_
  replace hS : Own w0 D R _ [] [] := hS.dropS forall0
  obtain rfl := Option.some.inj hM
  refine ret_v (.int .u64 v1) (by kernel_rfl) ⟨rfl, hS⟩

theorem pack_Join_W {w0 w : World} {D R : Nat → Prop} {Rp0 : Nat → Prop} {Ap0 : Option Addr} {cp0 : Nat} {p0 : List (List Int)} {r0 : List Int} (hS : Own w0 D R w [] [slsA Rp0 (Enc.int .u8) Ap0 cp0 p0]) (hD : ∀ b, ¬ D b) (hM : pack_Join_M p0 = some r0) :
    Calls Go.Proofs.Try.prog 14 #[.slice Ap0 p0.length cp0] w (fun e w' => ∃ (ZA1 : Option Addr) (Zc2 : Nat), e = .returned (.slice ZA1 r0.length Zc2) ∧ Own w0 D R w' [rowA (Enc.int .u8) ZA1 Zc2 r0] []) := by
  refine enter (fn := Go.Proofs.Try.f14) [.slice Ap0 p0.length cp0, undef, undef, undef, undef, undef, undef, undef, undef, undef, undef, undef, undef, undef, undef, undef, undef] (by kernel_rfl) rfl (by kernel_rfl) ?_
  unfold pack_Join_M at hM
  refine wp_seq ?_
  refine wp_reg ?_
  refine segEnd [.slice Ap0 p0.length cp0, undef, .slice none 0 0, undef, undef, undef, undef, undef, undef, undef, undef, undef, undef, undef, undef, undef, undef] (by kernel_rfl) ?_
  refine then_normal ?_
  refine wp_seq ?_
  refine wp_reg ?_
  refine segEnd [.slice Ap0 p0.length cp0, undef, .slice none 0 0, .slice none 0 0, undef, undef, undef, undef, undef, undef, undef, undef, undef, undef, undef, undef, undef] (by kernel_rfl) ?_
  refine then_normal ?_
  refine wp_join (fun a w => ∃ (A53 : Option Addr) (c54 : Nat) (G56 : Nat → Value) (l55 : List Int), a = Fr [(G56 0), undef, (G56 1), .slice A53 l55.length c54, undef, (G56 2), (G56 3), (G56 4), (G56 5), (G56 6), (G56 7), (G56 8), (G56 9), (G56 10), (G56 11), (G56 12), undef] ∧ Own w0 D R w [rowA (Enc.int .u8) A53 c54 l55] [slsA Rp0 (Enc.int .u8) Ap0 cp0 p0] ∧ pack_Join_J1 l55 = some r0) ?_ ?_
  ·
    refine wp_seq ?_
    refine wp_reg ?_
    refine segEnd [.slice Ap0 p0.length cp0, undef, .slice none 0 0, .slice none 0 0, undef, undef, .slice Ap0 p0.length cp0, .int .i64 (p0.length : Int), .int .i64 0, undef, undef, undef, undef, undef, undef, undef, undef] (by kernel_rfl) ?_
    refine then_normal ?_
    refine wp_block ?_
    replace hM := bind_some hM
    obtain ⟨q34, hL35, hM⟩ := hM
    replace hS : Own w0 D R _ [rowA (Enc.int .u8) none 0 []] [slsA Rp0 (Enc.int .u8) Ap0 cp0 p0] := hS.addNil (Enc.int .u8)
    refine wp_loop_model (fun (s : ((List Int) × Int)) a w => ∃ (A36 : Option Addr) (c37 : Nat) (G40 : Nat → Value) (l38 : List Int) (x39 : Int), s = (l38, x39) ∧ a = Fr [(G40 0), undef, (G40 1), .slice A36 l38.length c37, undef, (G40 2), .slice Ap0 p0.length cp0, .int .i64 (p0.length : Int), .int .i64 x39, (G40 3), (G40 4), (G40 5), (G40 6), (G40 7), (G40 8), (G40 9), undef] ∧ Own w0 D R w [rowA (Enc.int .u8) A36 c37 l38] [slsA Rp0 (Enc.int .u8) Ap0 cp0 p0]) ?_ hL35 ?_
    · rintro _ a w ⟨A36, c37, G40, l38, x39, rfl, rfl, hS⟩ o32 hM1 hout33
      replace hM1 : pack_Join_L1 p0 l38 x39 = some o32 := hM1
      unfold pack_Join_L1 at hM1
      refine wp_seq ?_
      refine wp_reg ?_
      refine segEnd [(G40 0), undef, (G40 1), .slice A36 l38.length c37, undef, (G40 2), .slice Ap0 p0.length cp0, .int .i64 (p0.length : Int), .int .i64 x39, .bool (decide (x39 < (p0.length : Int))), (G40 4), (G40 5), (G40 6), (G40 7), (G40 8), (G40 9), undef] (by kernel_rfl) ?_
      refine then_normal ?_
      refine wp_seq ?_
      refine wp_cond_split (t := decide (x39 < (p0.length : Int))) (by kernel_rfl) (fun hc41 => ?_) (fun hc41 => ?_)
      · replace hM1 := (if_pos hc41).symm.trans hM1
        refine wp_skip ?_
        refine then_normal ?_
        refine wp_seq ?_
        refine wp_block ?_
        refine wp_seq ?_
        refine wp_reg ?_
        replace hM1 := bind_some hM1
        obtain ⟨y42, h43, hM1⟩ := hM1
        have hi46 := ix_some h43
        refine s_index_sls (A := Ap0) (cap := cp0) (.tmp 6) (.tmp 8) 23 22 .i64 x39 rfl u23 (by kernel_rfl) (by kernel_rfl) (by kernel_rfl) (by kernel_rfl) (hS.sls_mem (List.Mem.head _)) hi46.1 hi46.2.1 (fun p44 hp45 => ?_)
        refine s_load_sls (.tmp 10) 22 p44 _ rfl (by kernel_rfl) (by kernel_rfl) (by kernel_rfl) hp45 (hS.sls_mem (List.Mem.head _)) hi46.2.2 (fun A47 c48 hb49 => ?_)
        replace hS := hS.addEl (List.Mem.head _) hb49
        refine segEnd [(G40 0), undef, (G40 1), .slice A36 l38.length c37, undef, .slice A47 y42.length c48, .slice Ap0 p0.length cp0, .int .i64 (p0.length : Int), .int .i64 x39, .bool (decide (x39 < (p0.length : Int))), .pointer (some p44), .slice A47 y42.length c48, (G40 6), (G40 7), (G40 8), (G40 9), undef] (by kernel_rfl) ?_
        refine then_normal ?_
        refine wp_reg ?_
        refine seg 2 [(G40 0), undef, (G40 1), .slice A36 l38.length c37, undef, .slice A47 y42.length c48, .slice Ap0 p0.length cp0, .int .i64 (p0.length : Int), .int .i64 x39, .bool (decide (x39 < (p0.length : Int))), .pointer (some p44), .slice A47 y42.length c48, .slice A36 l38.length c37, .slice A47 y42.length c48, (G40 8), (G40 9), undef] (by kernel_rfl) ?_
        replace hM1 := bind_some hM1
        obtain ⟨_, h50, hM1⟩ := hM1
        refine s_append (.tmp 12) (.tmp 13) 22 22 5 1 (.slice A47 y42.length c48) (e := (Enc.int .u8)) (xs := l38) (ys := y42) rfl u22 el5 (by kernel_rfl) (by kernel_rfl) (by kernel_rfl) hS ((SlR.of_sl (hS.sl_mem (List.Mem.head _))).src u22) (room_some h50).1 (room_some h50).2 (fun A51 c52 _ hS => ?_)
        refine segEnd [(G40 0), undef, (G40 1), .slice A51 ((l38 ++ y42).length) c52, undef, .slice A47 y42.length c48, .slice Ap0 p0.length cp0, .int .i64 (p0.length : Int), .int .i64 x39, .bool (decide (x39 < (p0.length : Int))), .pointer (some p44), .slice A47 y42.length c48, .slice A36 l38.length c37, .slice A47 y42.length c48, .slice A51 ((l38 ++ y42).length) c52, (G40 9), undef] (by kernel_rfl) ?_
        refine in_normal ?_
        refine then_normal ?_
        refine wp_reg ?_
        refine segEnd [(G40 0), undef, (G40 1), .slice A51 ((l38 ++ y42).length) c52, undef, .slice A47 y42.length c48, .slice Ap0 p0.length cp0, .int .i64 (p0.length : Int), .int .i64 (IntKind.i64.wrap (x39 + 1)), .bool (decide (x39 < (p0.length : Int))), .pointer (some p44), .slice A47 y42.length c48, .slice A36 l38.length c37, .slice A47 y42.length c48, .slice A51 ((l38 ++ y42).length) c52, .int .i64 (IntKind.i64.wrap (x39 + 1)), undef] (by kernel_rfl) ?_
        refine then_normal ?_
        replace hS : Own w0 D R _ [rowA (Enc.int .u8) A51 c52 (l38 ++ y42)] [slsA Rp0 (Enc.int .u8) Ap0 cp0 p0] := hS.dropS (forall2 (List.Mem.tail _ (List.Mem.head _)) forall0)
        exact ⟨((l38 ++ y42), (IntKind.i64.wrap (x39 + 1))), (Option.some.inj hM1).symm, A51, c52, (fun i => ([(G40 0), (G40 1), .slice A47 y42.length c48, .bool (decide (x39 < (p0.length : Int))), .pointer (some p44), .slice A47 y42.length c48, .slice A36 l38.length c37, .slice A47 y42.length c48, .slice A51 ((l38 ++ y42).length) c52, .int .i64 (IntKind.i64.wrap (x39 + 1))] : List Value).getD i undef), (l38 ++ y42), (IntKind.i64.wrap (x39 + 1)), rfl, (by kernel_rfl), hS⟩
      · replace hM1 := (if_neg (Bool.eq_false_iff.1 hc41)).symm.trans hM1
        refine wp_exit ?_
        refine then_exit ?_
        refine then_exit ?_
        have hr58 := hout33 _ (Option.some.inj hM1).symm
        subst hr58
        refine in_exit_eq ?_
        refine then_normal ?_
        exact ⟨A36, c37, (fun i => ([(G40 0), (G40 1), (G40 2), .slice Ap0 p0.length cp0, .int .i64 (p0.length : Int), .int .i64 x39, .bool (decide (x39 < (p0.length : Int))), (G40 4), (G40 5), (G40 6), (G40 7), (G40 8), (G40 9)] : List Value).getD i undef), l38, (by kernel_rfl), hS, hM⟩
    · exact ⟨none, 0, (fun i => ([.slice Ap0 p0.length cp0, .slice none 0 0, undef, undef, undef, undef, undef, undef, undef, undef] : List Value).getD i undef), [], 0, rfl, (by kernel_rfl), hS⟩
  · rintro a w ⟨A53, c54, G56, l55, rfl, hS, hM⟩
    unfold pack_Join_J1 at hM
    refine wp_seq ?_
    refine wp_reg ?_
    refine segEnd [(G56 0), undef, .slice A53 l55.length c54, .slice A53 l55.length c54, undef, (G56 2), (G56 3), (G56 4), (G56 5), (G56 6), (G56 7), (G56 8), (G56 9), (G56 10), (G56 11), (G56 12), .slice A53 l55.length c54] (by kernel_rfl) ?_
    refine then_normal ?_
    refine wp_ret ?_
    replace hS : Own w0 D R _ [rowA (Enc.int .u8) A53 c54 l55] [] := hS.dropS forall0
    obtain rfl := Option.some.inj hM
    refine ret_v (.slice A53 l55.length c54) (by kernel_rfl) ⟨A53, c54, rfl, hS⟩

end Go.Proofs.Ytknkonhdbmeolaa
