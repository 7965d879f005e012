/- The Go functions come to what their models say (Put). -/
import Derived.Test.YtcpddgjmopdlbaaTy
import Derived.Test.YtcpddgjmopdlbaaMPut
namespace Go.Proofs.Ytcpddgjmopdlbaa
open Go Go.Lift
set_option maxRecDepth 100000
set_option maxHeartbeats 4000000
set_option linter.unusedVariables false

theorem pack_high_uint64_W {w0 w : World} {D R : Nat → Prop} {Rp0 : Nat → Prop} {Ap0 : Option Addr} {cp0 : Nat} {p0 : List Int} {p1 : Int} {p2 : Int} {r0 : List Int} (hS : Own w0 D R w [] [slA Rp0 (Enc.int .u8) Ap0 cp0 p0]) (hD : ∀ b, ¬ D b) (hM : pack_high_uint64_M p0 p1 p2 = some r0) :
    Calls Go.Proofs.Try.prog 38 #[.slice Ap0 p0.length cp0, .int .u64 p1, .int .i64 p2] w (fun e w' => ∃ (ZA1 : Option Addr) (Zc2 : Nat), e = .returned (.slice ZA1 r0.length Zc2) ∧ Own w0 D R w' [rowA (Enc.int .u8) ZA1 Zc2 r0] []) := by
  refine enter (fn := Go.Proofs.Try.f38) [.slice Ap0 p0.length cp0, .int .u64 p1, .int .i64 p2, undef, undef, undef, undef, undef, undef, undef, undef, undef, undef, undef, undef, undef, undef, undef, undef, undef, undef, undef, undef, undef, undef, undef] (by kernel_rfl) rfl (by kernel_rfl) ?_
  unfold pack_high_uint64_M at hM
  refine wp_seq ?_
  refine wp_reg ?_
  refine segEnd [.slice Ap0 p0.length cp0, .int .u64 p1, .int .i64 p2, undef, undef, undef, .slice none 0 0, undef, undef, undef, undef, undef, undef, undef, undef, undef, undef, undef, undef, undef, undef, undef, undef, undef, undef, undef] (by kernel_rfl) ?_
  refine then_normal ?_
  refine wp_seq ?_
  refine wp_reg ?_
  refine seg 1 [.slice Ap0 p0.length cp0, .int .u64 p1, .int .i64 p2, undef, undef, undef, .slice none 0 0, undef, undef, .slice Ap0 p0.length cp0, undef, undef, undef, undef, undef, undef, undef, undef, undef, undef, undef, undef, undef, undef, undef, undef] (by kernel_rfl) ?_
  replace hM := bind_some hM
  obtain ⟨_, h1, hM⟩ := hM
  replace hS : Own w0 D R _ [rowA (Enc.int .u8) none 0 []] [slA Rp0 (Enc.int .u8) Ap0 cp0 p0] := hS.addNil (Enc.int .u8)
  refine s_append (.const (.slice none 0 0)) (.tmp 9) 26 26 5 1 (.slice Ap0 p0.length cp0) (e := (Enc.int .u8)) (xs := []) (ys := p0) rfl u26 el5 (by kernel_rfl) (by kernel_rfl) (by kernel_rfl) hS ((SlR.of_sl (hS.sl_mem (List.Mem.head _))).src u26) (room_some h1).1 (room_some h1).2 (fun A2 c3 _ hS => ?_)
  refine segEnd [.slice Ap0 p0.length cp0, .int .u64 p1, .int .i64 p2, undef, undef, undef, .slice none 0 0, .slice A2 (([] ++ p0).length) c3, undef, .slice Ap0 p0.length cp0, .slice A2 (([] ++ p0).length) c3, undef, undef, undef, undef, undef, undef, undef, undef, undef, undef, undef, undef, undef, undef, undef] (by kernel_rfl) ?_
  refine then_normal ?_
  refine wp_join (fun a w => ∃ (A44 : Option Addr) (c45 : Nat) (G47 : Nat → Value) (l46 : List Int), a = Fr [(G47 0), (G47 1), (G47 2), undef, undef, undef, (G47 3), .slice A44 l46.length c45, (G47 4), (G47 5), (G47 6), (G47 7), (G47 8), (G47 9), (G47 10), (G47 11), (G47 12), (G47 13), (G47 14), (G47 15), (G47 16), (G47 17), (G47 18), (G47 19), (G47 20), undef] ∧ Own w0 D R w [rowA (Enc.int .u8) A44 c45 l46] [slA Rp0 (Enc.int .u8) Ap0 cp0 p0] ∧ pack_high_uint64_J1 l46 = some r0) ?_ ?_
  ·
    refine wp_seq ?_
    refine wp_reg ?_
    refine segEnd [.slice Ap0 p0.length cp0, .int .u64 p1, .int .i64 p2, undef, undef, undef, .slice none 0 0, .slice A2 (([] ++ p0).length) c3, .int .i64 (IntKind.i64.wrap (p2 - 1)), .slice Ap0 p0.length cp0, .slice A2 (([] ++ p0).length) c3, .int .i64 p2, .int .i64 (IntKind.i64.wrap (p2 - 1)), undef, undef, undef, undef, undef, undef, undef, undef, undef, undef, undef, undef, undef] (by kernel_rfl) ?_
    refine then_normal ?_
    refine wp_block ?_
    replace hM := bind_some hM
    obtain ⟨q29, hL30, hM⟩ := hM
    refine wp_loop_model (fun (s : ((List Int) × Int)) a w => ∃ (A31 : Option Addr) (c32 : Nat) (G35 : Nat → Value) (l33 : List Int) (x34 : Int), s = (l33, x34) ∧ a = Fr [(G35 0), .int .u64 p1, (G35 1), undef, undef, undef, (G35 2), .slice A31 l33.length c32, .int .i64 x34, (G35 3), (G35 4), (G35 5), (G35 6), (G35 7), (G35 8), (G35 9), (G35 10), (G35 11), (G35 12), (G35 13), (G35 14), (G35 15), (G35 16), (G35 17), (G35 18), undef] ∧ Own w0 D R w [rowA (Enc.int .u8) A31 c32 l33] [slA Rp0 (Enc.int .u8) Ap0 cp0 p0]) ?_ hL30 ?_
    · rintro _ a w ⟨A31, c32, G35, l33, x34, rfl, rfl, hS⟩ o27 hM1 hout28
      replace hM1 : pack_high_uint64_L1 p1 l33 x34 = some o27 := hM1
      unfold pack_high_uint64_L1 at hM1
      refine wp_seq ?_
      refine wp_seq ?_
      refine wp_reg ?_
      refine segEnd [(G35 0), .int .u64 p1, (G35 1), undef, undef, undef, (G35 2), .slice A31 l33.length c32, .int .i64 x34, (G35 3), (G35 4), (G35 5), (G35 6), .int .i64 x34, .bool (decide (x34 ≥ 0)), (G35 9), (G35 10), (G35 11), (G35 12), (G35 13), (G35 14), (G35 15), (G35 16), (G35 17), (G35 18), undef] (by kernel_rfl) ?_
      refine then_normal ?_
      refine wp_cond_split (t := decide (x34 ≥ 0)) (by kernel_rfl) (fun hc36 => ?_) (fun hc36 => ?_)
      · replace hM1 := (if_pos hc36).symm.trans hM1
        refine wp_skip ?_
        refine then_normal ?_
        refine wp_seq ?_
        refine wp_block ?_
        refine wp_reg ?_
        refine seg 4 [(G35 0), .int .u64 p1, (G35 1), undef, undef, undef, (G35 2), .slice A31 l33.length c32, .int .i64 x34, (G35 3), (G35 4), (G35 5), (G35 6), .int .i64 x34, .bool (decide (x34 ≥ 0)), (G35 9), (G35 10), .slice A31 l33.length c32, .int .u64 p1, .int .i64 x34, .int .i64 (IntKind.i64.wrap (8 * x34)), (G35 15), (G35 16), (G35 17), (G35 18), undef] (by kernel_rfl) ?_
        replace hM1 := bind_some hM1
        obtain ⟨z37, h38, hM1⟩ := hM1
        refine s_gshr (.tmp 18) (.tmp 20) 53 .u64 .i64 p1 (IntKind.i64.wrap (8 * x34)) rfl (by kernel_rfl) (by kernel_rfl) (by kernel_rfl) h38 ?_
        refine seg 1 [(G35 0), .int .u64 p1, (G35 1), undef, undef, undef, (G35 2), .slice A31 l33.length c32, .int .i64 x34, (G35 3), (G35 4), (G35 5), (G35 6), .int .i64 x34, .bool (decide (x34 ≥ 0)), (G35 9), (G35 10), .slice A31 l33.length c32, .int .u64 p1, .int .i64 x34, .int .i64 (IntKind.i64.wrap (8 * x34)), .int .u64 z37, .int .u8 (IntKind.u8.wrap (z37)), (G35 17), (G35 18), undef] (by kernel_rfl) ?_
        refine s_lit 26 5 1 1 #[(0, .tmp 22)] (e := (Enc.int .u8)) ([(IntKind.u8.wrap (z37))] : List Int) (.int .u8 0) rfl u26 (by kernel_rfl) (by decide) rfl (by kernel_rfl) (by kernel_rfl) hS (fun A39 c40 _ hS => ?_)
        replace hM1 := bind_some hM1
        obtain ⟨_, h41, hM1⟩ := hM1
        replace hS : Own w0 D R _ [rowA (Enc.int .u8) A31 c32 l33, rowA (Enc.int .u8) A39 c40 [(IntKind.u8.wrap (z37))]] [slA Rp0 (Enc.int .u8) Ap0 cp0 p0] := hS.pick 1 rfl
        refine s_append (.tmp 17) (.tmp 23) 26 26 5 1 (.slice A39 ([(IntKind.u8.wrap (z37))].length) c40) (e := (Enc.int .u8)) (xs := l33) (ys := [(IntKind.u8.wrap (z37))]) rfl u26 el5 (by kernel_rfl) (by kernel_rfl) (by kernel_rfl) hS ((SlR.of_row (hS.row_mem (List.Mem.tail _ (List.Mem.head _)))).src u26) (room_some h41).1 (room_some h41).2 (fun A42 c43 _ hS => ?_)
        refine segEnd [(G35 0), .int .u64 p1, (G35 1), undef, undef, undef, (G35 2), .slice A42 ((l33 ++ [(IntKind.u8.wrap (z37))]).length) c43, .int .i64 x34, (G35 3), (G35 4), (G35 5), (G35 6), .int .i64 x34, .bool (decide (x34 ≥ 0)), (G35 9), (G35 10), .slice A31 l33.length c32, .int .u64 p1, .int .i64 x34, .int .i64 (IntKind.i64.wrap (8 * x34)), .int .u64 z37, .int .u8 (IntKind.u8.wrap (z37)), .slice A39 ([(IntKind.u8.wrap (z37))].length) c40, .slice A42 ((l33 ++ [(IntKind.u8.wrap (z37))]).length) c43, undef] (by kernel_rfl) ?_
        refine in_normal ?_
        refine then_normal ?_
        refine wp_reg ?_
        refine segEnd [(G35 0), .int .u64 p1, (G35 1), undef, undef, undef, (G35 2), .slice A42 ((l33 ++ [(IntKind.u8.wrap (z37))]).length) c43, .int .i64 (IntKind.i64.wrap (x34 - 1)), (G35 3), (G35 4), (G35 5), (G35 6), .int .i64 x34, .bool (decide (x34 ≥ 0)), .int .i64 x34, .int .i64 (IntKind.i64.wrap (x34 - 1)), .slice A31 l33.length c32, .int .u64 p1, .int .i64 x34, .int .i64 (IntKind.i64.wrap (8 * x34)), .int .u64 z37, .int .u8 (IntKind.u8.wrap (z37)), .slice A39 ([(IntKind.u8.wrap (z37))].length) c40, .slice A42 ((l33 ++ [(IntKind.u8.wrap (z37))]).length) c43, undef] (by kernel_rfl) ?_
        refine then_normal ?_
        replace hS : Own w0 D R _ [rowA (Enc.int .u8) A42 c43 (l33 ++ [(IntKind.u8.wrap (z37))])] [slA Rp0 (Enc.int .u8) Ap0 cp0 p0] := hS.takeX 1
        exact ⟨((l33 ++ [(IntKind.u8.wrap (z37))]), (IntKind.i64.wrap (x34 - 1))), (Option.some.inj hM1).symm, A42, c43, (fun i => ([(G35 0), (G35 1), (G35 2), (G35 3), (G35 4), (G35 5), (G35 6), .int .i64 x34, .bool (decide (x34 ≥ 0)), .int .i64 x34, .int .i64 (IntKind.i64.wrap (x34 - 1)), .slice A31 l33.length c32, .int .u64 p1, .int .i64 x34, .int .i64 (IntKind.i64.wrap (8 * x34)), .int .u64 z37, .int .u8 (IntKind.u8.wrap (z37)), .slice A39 ([(IntKind.u8.wrap (z37))].length) c40, .slice A42 ((l33 ++ [(IntKind.u8.wrap (z37))]).length) c43] : List Value).getD i undef), (l33 ++ [(IntKind.u8.wrap (z37))]), (IntKind.i64.wrap (x34 - 1)), rfl, (by kernel_rfl), hS⟩
      · replace hM1 := (if_neg (Bool.eq_false_iff.1 hc36)).symm.trans hM1
        refine wp_exit ?_
        refine then_exit ?_
        refine then_exit ?_
        have hr49 := hout28 _ (Option.some.inj hM1).symm
        subst hr49
        refine in_exit_eq ?_
        refine then_normal ?_
        exact ⟨A31, c32, (fun i => ([(G35 0), .int .u64 p1, (G35 1), (G35 2), .int .i64 x34, (G35 3), (G35 4), (G35 5), (G35 6), .int .i64 x34, .bool (decide (x34 ≥ 0)), (G35 9), (G35 10), (G35 11), (G35 12), (G35 13), (G35 14), (G35 15), (G35 16), (G35 17), (G35 18)] : List Value).getD i undef), l33, (by kernel_rfl), hS, hM⟩
    · exact ⟨A2, c3, (fun i => ([.slice Ap0 p0.length cp0, .int .i64 p2, .slice none 0 0, .slice Ap0 p0.length cp0, .slice A2 (([] ++ p0).length) c3, .int .i64 p2, .int .i64 (IntKind.i64.wrap (p2 - 1)), undef, undef, undef, undef, undef, undef, undef, undef, undef, undef, undef, undef] : List Value).getD i undef), ([] ++ p0), (IntKind.i64.wrap (p2 - 1)), rfl, (by kernel_rfl), hS⟩
  · rintro a w ⟨A44, c45, G47, l46, rfl, hS, hM⟩
    unfold pack_high_uint64_J1 at hM
    refine wp_seq ?_
    refine wp_reg ?_
    refine segEnd [(G47 0), (G47 1), (G47 2), undef, undef, undef, .slice A44 l46.length c45, .slice A44 l46.length c45, (G47 4), (G47 5), (G47 6), (G47 7), (G47 8), (G47 9), (G47 10), (G47 11), (G47 12), (G47 13), (G47 14), (G47 15), (G47 16), (G47 17), (G47 18), (G47 19), (G47 20), .slice A44 l46.length c45] (by kernel_rfl) ?_
    refine then_normal ?_
    refine wp_ret ?_
    replace hS : Own w0 D R _ [rowA (Enc.int .u8) A44 c45 l46] [] := hS.dropS forall0
    obtain rfl := Option.some.inj hM
    refine ret_v (.slice A44 l46.length c45) (by kernel_rfl) ⟨A44, c45, rfl, hS⟩

theorem pack_Put64_W {w0 w : World} {D R : Nat → Prop} {Rp0 : Nat → Prop} {Ap0 : Option Addr} {cp0 : Nat} {p0 : List Int} {p1 : Int} {r0 : List Int} (hS : Own w0 D R w [] [slA Rp0 (Enc.int .u8) Ap0 cp0 p0]) (hD : ∀ b, ¬ D b) (hM : pack_Put64_M p0 p1 = some r0) :
    Calls Go.Proofs.Try.prog 29 #[.slice Ap0 p0.length cp0, .int .u64 p1] w (fun e w' => ∃ (ZA1 : Option Addr) (Zc2 : Nat), e = .returned (.slice ZA1 r0.length Zc2) ∧ Own w0 D R w' [rowA (Enc.int .u8) ZA1 Zc2 r0] []) := by
  refine enter (fn := Go.Proofs.Try.f29) [.slice Ap0 p0.length cp0, .int .u64 p1, undef, undef, undef, undef, undef, undef] (by kernel_rfl) rfl (by kernel_rfl) ?_
  unfold pack_Put64_M at hM
  refine wp_seq ?_
  refine wp_reg ?_
  refine segEnd [.slice Ap0 p0.length cp0, .int .u64 p1, undef, undef, .slice none 0 0, undef, undef, undef] (by kernel_rfl) ?_
  refine then_normal ?_
  refine wp_seq ?_
  refine wp_reg ?_
  refine seg 2 [.slice Ap0 p0.length cp0, .int .u64 p1, undef, undef, .slice none 0 0, .slice Ap0 p0.length cp0, .int .u64 p1, undef] (by kernel_rfl) ?_
  replace hM := bind_some hM
  obtain ⟨v1, h4, hM⟩ := hM
  have hP := Own.pre (Xi := []) (X := []) (Si := [slA Rp0 (Enc.int .u8) Ap0 cp0 p0]) hS (forall2 (hS.sl_mem (List.Mem.head _)) forall0) (forall2 (fun _ h => .inl ⟨_, (List.Mem.head _), h⟩) forall0)
  refine s_call 38 #[.slice Ap0 p0.length cp0, .int .u64 p1, .int .i64 8] (by kernel_rfl) (by kernel_rfl) ((pack_high_uint64_W hP doms_nil h4).mono ?_)
  rintro _ _ ⟨A2, c3, rfl, hQ⟩
  replace hS : Own w0 D R _ [rowA (Enc.int .u8) A2 c3 v1] [slA Rp0 (Enc.int .u8) Ap0 cp0 p0] := hS.post hQ (.inl rfl)
  clear hP hQ
  refine ⟨_, rfl, ?_⟩
  refine segEnd [.slice Ap0 p0.length cp0, .int .u64 p1, undef, undef, .slice A2 v1.length c3, .slice Ap0 p0.length cp0, .int .u64 p1, .slice A2 v1.length c3] (by kernel_rfl) ?_
  refine then_normal ?_
  refine wp_ret ?_
  replace hS : Own w0 D R _ [rowA (Enc.int .u8) A2 c3 v1] [] := hS.dropS forall0
  obtain rfl := Option.some.inj hM
  refine ret_v (.slice A2 v1.length c3) (by kernel_rfl) ⟨A2, c3, rfl, hS⟩

theorem pack_PutNum_W {w0 w : World} {D R : Nat → Prop} {Rp0 : Nat → Prop} {Ap0 : Option Addr} {cp0 : Nat} {p0 : List Int} {p1 : Int} {r0 : List Int} (hS : Own w0 D R w [] [slA Rp0 (Enc.int .u8) Ap0 cp0 p0]) (hD : ∀ b, ¬ D b) (hM : pack_PutNum_M p0 p1 = some r0) :
    Calls Go.Proofs.Try.prog 21 #[.slice Ap0 p0.length cp0, .int .i64 p1] w (fun e w' => ∃ (ZA1 : Option Addr) (Zc2 : Nat), e = .returned (.slice ZA1 r0.length Zc2) ∧ Own w0 D R w' [rowA (Enc.int .u8) ZA1 Zc2 r0] []) := by
  refine enter (fn := Go.Proofs.Try.f21) [.slice Ap0 p0.length cp0, .int .i64 p1, undef, undef, undef, undef, undef, undef, undef, undef] (by kernel_rfl) rfl (by kernel_rfl) ?_
  unfold pack_PutNum_M at hM
  refine wp_seq ?_
  refine wp_reg ?_
  refine segEnd [.slice Ap0 p0.length cp0, .int .i64 p1, undef, undef, .slice none 0 0, undef, undef, undef, undef, undef] (by kernel_rfl) ?_
  refine then_normal ?_
  refine wp_seq ?_
  refine wp_reg ?_
  refine seg 4 [.slice Ap0 p0.length cp0, .int .i64 p1, undef, undef, .slice none 0 0, .slice Ap0 p0.length cp0, .int .i64 p1, .int .i64 (if 0 > p1 then 0 else p1), .int .u64 (IntKind.u64.wrap ((if 0 > p1 then 0 else p1))), undef] (by kernel_rfl) ?_
  replace hM := bind_some hM
  obtain ⟨v1, h4, hM⟩ := hM
  have hP := Own.pre (Xi := []) (X := []) (Si := [slA Rp0 (Enc.int .u8) Ap0 cp0 p0]) hS (forall2 (hS.sl_mem (List.Mem.head _)) forall0) (forall2 (fun _ h => .inl ⟨_, (List.Mem.head _), h⟩) forall0)
  refine s_call 29 #[.slice Ap0 p0.length cp0, .int .u64 (IntKind.u64.wrap ((if 0 > p1 then 0 else p1)))] (by kernel_rfl) (by kernel_rfl) ((pack_Put64_W hP doms_nil h4).mono ?_)
  rintro _ _ ⟨A2, c3, rfl, hQ⟩
  replace hS : Own w0 D R _ [rowA (Enc.int .u8) A2 c3 v1] [slA Rp0 (Enc.int .u8) Ap0 cp0 p0] := hS.post hQ (.inl rfl)
  clear hP hQ
  refine ⟨_, rfl, ?_⟩
  refine segEnd [.slice Ap0 p0.length cp0, .int .i64 p1, undef, undef, .slice A2 v1.length c3, .slice Ap0 p0.length cp0, .int .i64 p1, .int .i64 (if 0 > p1 then 0 else p1), .int .u64 (IntKind.u64.wrap ((if 0 > p1 then 0 else p1))), .slice A2 v1.length c3] (by kernel_rfl) ?_
  refine then_normal ?_
  refine wp_ret ?_
  replace hS : Own w0 D R _ [rowA (Enc.int .u8) A2 c3 v1] [] := hS.dropS forall0
  obtain rfl := Option.some.inj hM
  refine ret_v (.slice A2 v1.length c3) (by kernel_rfl) ⟨A2, c3, rfl, hS⟩

end Go.Proofs.Ytcpddgjmopdlbaa
