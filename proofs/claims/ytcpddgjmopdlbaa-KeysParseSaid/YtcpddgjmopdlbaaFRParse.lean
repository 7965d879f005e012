/- The Go functions come to what their models say (RParse). -/
import Derived.Test.YtcpddgjmopdlbaaTy
import Derived.Test.YtcpddgjmopdlbaaMRParse
import Derived.Test.YtcpddgjmopdlbaaFIn
import Derived.Test.YtcpddgjmopdlbaaFRKeys
import Derived.Test.YtcpddgjmopdlbaaFRef
namespace Go.Proofs.Ytcpddgjmopdlbaa
open Go Go.Lift
set_option maxRecDepth 100000
set_option maxHeartbeats 4000000
set_option linter.unusedVariables false

theorem intaglioref07_Same_W {w0 w : World} {D R : Nat → Prop} {Rp0 : Nat → Prop} {Ap0 : Option Addr} {cp0 : Nat} {Rp1 : Nat → Prop} {Ap1 : Option Addr} {cp1 : Nat} {p0 : List Int} {p1 : List Int} {r0 : Bool} (hS : Own w0 D R w [] [slA Rp0 (Enc.int .u8) Ap0 cp0 p0, slA Rp1 (Enc.int .u8) Ap1 cp1 p1]) (hD : ∀ b, ¬ D b) (hM : intaglioref07_Same_M p0 p1 = some r0) :
    Calls Go.Proofs.Try.prog 28 #[.slice Ap0 p0.length cp0, .slice Ap1 p1.length cp1] w (fun e w' => e = .returned (.bool r0) ∧ Own w0 D R w' [] []) := by
  refine enter (fn := Go.Proofs.Try.f28) [.slice Ap0 p0.length cp0, .slice Ap1 p1.length cp1, undef, undef, undef, undef, undef, undef, undef, undef, undef, undef, undef, undef, undef, undef, undef, undef, undef, undef, undef, undef, undef, undef, undef, undef] (by kernel_rfl) rfl (by kernel_rfl) ?_
  unfold intaglioref07_Same_M at hM
  refine wp_seq ?_
  refine wp_reg ?_
  refine segEnd [.slice Ap0 p0.length cp0, .slice Ap1 p1.length cp1, undef, undef, .bool false, undef, undef, undef, undef, undef, undef, undef, undef, undef, undef, undef, undef, undef, undef, undef, undef, undef, undef, undef, undef, undef] (by kernel_rfl) ?_
  refine then_normal ?_
  refine wp_seq ?_
  refine wp_seq ?_
  refine wp_reg ?_
  refine segEnd [.slice Ap0 p0.length cp0, .slice Ap1 p1.length cp1, undef, undef, .bool false, undef, .slice Ap0 p0.length cp0, .int .i64 (p0.length : Int), .slice Ap1 p1.length cp1, .int .i64 (p1.length : Int), .bool ((p0.length : Int) != (p1.length : Int)), undef, undef, undef, undef, undef, undef, undef, undef, undef, undef, undef, undef, undef, undef, undef] (by kernel_rfl) ?_
  refine then_normal ?_
  refine wp_cond_split (t := ((p0.length : Int) != (p1.length : Int))) (by kernel_rfl) (fun hc1 => ?_) (fun hc1 => ?_)
  · replace hM := (if_pos hc1).symm.trans hM
    refine wp_seq ?_
    refine wp_reg ?_
    refine segEnd [.slice Ap0 p0.length cp0, .slice Ap1 p1.length cp1, undef, undef, .bool false, undef, .slice Ap0 p0.length cp0, .int .i64 (p0.length : Int), .slice Ap1 p1.length cp1, .int .i64 (p1.length : Int), .bool ((p0.length : Int) != (p1.length : Int)), undef, undef, undef, undef, undef, undef, undef, undef, undef, undef, undef, undef, undef, undef, undef] (by kernel_rfl) ?_
    refine then_normal ?_
    refine wp_ret ?_
    refine then_ret ?_
    replace hS : Own w0 D R _ [] [] := hS.dropS forall0
    obtain rfl := Option.some.inj hM
    refine ret_v (.bool false) (by kernel_rfl) ⟨rfl, hS⟩
  · replace hM := (if_neg (Bool.eq_false_iff.1 hc1)).symm.trans hM
    refine wp_skip ?_
    refine then_normal ?_
    refine wp_join (fun a w => ∃ (G54 : Nat → Value), a = Fr [(G54 0), (G54 1), undef, undef, (G54 2), (G54 3), (G54 4), (G54 5), (G54 6), (G54 7), (G54 8), (G54 9), (G54 10), (G54 11), (G54 12), (G54 13), (G54 14), (G54 15), (G54 16), (G54 17), (G54 18), (G54 19), (G54 20), (G54 21), (G54 22), (G54 23)] ∧ Own w0 D R w [] [slA Rp0 (Enc.int .u8) Ap0 cp0 p0, slA Rp1 (Enc.int .u8) Ap1 cp1 p1] ∧ intaglioref07_Same_J1 = some r0) ?_ ?_
    ·
      refine wp_seq ?_
      refine wp_reg ?_
      refine segEnd [.slice Ap0 p0.length cp0, .slice Ap1 p1.length cp1, undef, undef, .bool false, .int .i64 0, .slice Ap0 p0.length cp0, .int .i64 (p0.length : Int), .slice Ap1 p1.length cp1, .int .i64 (p1.length : Int), .bool ((p0.length : Int) != (p1.length : Int)), undef, undef, undef, undef, undef, undef, undef, undef, undef, undef, undef, undef, undef, undef, undef] (by kernel_rfl) ?_
      refine then_normal ?_
      refine wp_block ?_
      replace hM := bind_some hM
      obtain ⟨q28, hL29, hM⟩ := hM
      refine wp_loop_model (fun (s : Int) a w => ∃ (G31 : Nat → Value) (x30 : Int), s = x30 ∧ a = Fr [.slice Ap0 p0.length cp0, .slice Ap1 p1.length cp1, undef, undef, (G31 0), .int .i64 x30, (G31 1), (G31 2), (G31 3), (G31 4), (G31 5), (G31 6), (G31 7), (G31 8), (G31 9), (G31 10), (G31 11), (G31 12), (G31 13), (G31 14), (G31 15), (G31 16), (G31 17), (G31 18), (G31 19), (G31 20)] ∧ Own w0 D R w [] [slA Rp0 (Enc.int .u8) Ap0 cp0 p0, slA Rp1 (Enc.int .u8) Ap1 cp1 p1]) ?_ hL29 ?_
      · rintro x30 a w ⟨G31, _, rfl, rfl, hS⟩ o26 hM1 hout27
        replace hM1 : intaglioref07_Same_L1 p0 p1 x30 = some o26 := hM1
        unfold intaglioref07_Same_L1 at hM1
        refine wp_seq ?_
        refine wp_seq ?_
        refine wp_reg ?_
        refine segEnd [.slice Ap0 p0.length cp0, .slice Ap1 p1.length cp1, undef, undef, (G31 0), .int .i64 x30, (G31 1), (G31 2), (G31 3), (G31 4), (G31 5), .int .i64 x30, .slice Ap0 p0.length cp0, .int .i64 (p0.length : Int), .bool (decide (x30 < (p0.length : Int))), (G31 10), (G31 11), (G31 12), (G31 13), (G31 14), (G31 15), (G31 16), (G31 17), (G31 18), (G31 19), (G31 20)] (by kernel_rfl) ?_
        refine then_normal ?_
        refine wp_cond_split (t := decide (x30 < (p0.length : Int))) (by kernel_rfl) (fun hc32 => ?_) (fun hc32 => ?_)
        · replace hM1 := (if_pos hc32).symm.trans hM1
          refine wp_skip ?_
          refine then_normal ?_
          refine wp_seq ?_
          refine wp_block ?_
          refine wp_seq ?_
          refine region_chain [(true, 0), (true, 1), (true, 2), (true, 3), (true, 4), (true, 5), (true, 6), (true, 7), (true, 8)] (fun w => Has [] [slA Rp0 (Enc.int .u8) Ap0 cp0 p0, slA Rp1 (Enc.int .u8) Ap1 cp1 p1] w) (by kernel_rfl) (by kernel_rfl) hS (fun _ hS => ?_)
          refine Walk.seg (by kernel_rfl) 2 _ [.slice Ap0 p0.length cp0, .slice Ap1 p1.length cp1, undef, undef, (G31 0), .int .i64 x30, (G31 1), (G31 2), (G31 3), (G31 4), (G31 5), .int .i64 x30, .slice Ap0 p0.length cp0, .int .i64 (p0.length : Int), .bool (decide (x30 < (p0.length : Int))), (G31 10), (G31 11), .slice Ap0 p0.length cp0, .int .i64 x30, (G31 14), (G31 15), (G31 16), (G31 17), (G31 18), (G31 19), (G31 20)] (by kernel_rfl) (hS.has forall0 (forall2 (List.Mem.head _) (forall2 (List.Mem.tail _ (List.Mem.head _)) forall0))) ?_
          show Walk _ _ _ _ [(true, 2), (true, 3), (true, 4), (true, 5), (true, 6), (true, 7), (true, 8)] _ _
          replace hM1 := bind_some hM1
          obtain ⟨y43, h44, hM1⟩ := hM1
          have hi47 := ix_some h44
          obtain ⟨p45, hp46⟩ := SlR.elP (SlR.of_sl (hS.sl_mem (List.Mem.head _))) hi47.1 hi47.2.1
          refine Walk.float [.slice Ap0 p0.length cp0, .slice Ap1 p1.length cp1, undef, undef, (G31 0), .int .i64 x30, (G31 1), (G31 2), (G31 3), (G31 4), (G31 5), .int .i64 x30, .slice Ap0 p0.length cp0, .int .i64 (p0.length : Int), .bool (decide (x30 < (p0.length : Int))), (G31 10), (G31 11), .slice Ap0 p0.length cp0, .int .i64 x30, .pointer (some p45), (G31 15), (G31 16), (G31 17), (G31 18), (G31 19), (G31 20)] rfl (by kernel_rfl) (fun _ hS => ?_) ?_
          · replace hS : Has [] [slA Rp0 (Enc.int .u8) Ap0 cp0 p0, slA Rp1 (Enc.int .u8) Ap1 cp1 p1] _ := hS
            refine s_index (A := Ap0) (cap := cp0) (.tmp 17) (.tmp 18) 26 5 1 .i64 x30 rfl u26 el5 (by kernel_rfl) (by kernel_rfl) (by kernel_rfl) (SlR.of_sl (hS.sl_mem (List.Mem.head _))) hi47.1 hi47.2.1 (fun p45q hp46q => ?_)
            obtain rfl := ElP.uniq hp46 hp46q
            exact wl_nil ⟨rfl, by kernel_rfl, rfl⟩
          refine Walk.float [.slice Ap0 p0.length cp0, .slice Ap1 p1.length cp1, undef, undef, (G31 0), .int .i64 x30, (G31 1), (G31 2), (G31 3), (G31 4), (G31 5), .int .i64 x30, .slice Ap0 p0.length cp0, .int .i64 (p0.length : Int), .bool (decide (x30 < (p0.length : Int))), (G31 10), (G31 11), .slice Ap0 p0.length cp0, .int .i64 x30, .pointer (some p45), .int .u8 y43, (G31 16), (G31 17), (G31 18), (G31 19), (G31 20)] rfl (by kernel_rfl) (fun _ hS => ?_) ?_
          · replace hS : Has [] [slA Rp0 (Enc.int .u8) Ap0 cp0 p0, slA Rp1 (Enc.int .u8) Ap1 cp1 p1] _ := hS
            refine s_load_el (.tmp 19) 5 1 p45 _ y43 rfl el5 (by kernel_rfl) (by kernel_rfl) hp46 (SlR.of_sl (hS.sl_mem (List.Mem.head _))) hi47.2.2 ?_
            exact wl_nil ⟨rfl, by kernel_rfl, rfl⟩
          refine Walk.seg (by kernel_rfl) 2 _ [.slice Ap0 p0.length cp0, .slice Ap1 p1.length cp1, undef, undef, (G31 0), .int .i64 x30, (G31 1), (G31 2), (G31 3), (G31 4), (G31 5), .int .i64 x30, .slice Ap0 p0.length cp0, .int .i64 (p0.length : Int), .bool (decide (x30 < (p0.length : Int))), (G31 10), (G31 11), .slice Ap0 p0.length cp0, .int .i64 x30, .pointer (some p45), .int .u8 y43, .slice Ap1 p1.length cp1, .int .i64 x30, (G31 18), (G31 19), (G31 20)] (by kernel_rfl) (hS.has forall0 (forall2 (List.Mem.head _) (forall2 (List.Mem.tail _ (List.Mem.head _)) forall0))) ?_
          show Walk _ _ _ _ [(true, 6), (true, 7), (true, 8)] _ _
          replace hM1 := bind_some hM1
          obtain ⟨y48, h49, hM1⟩ := hM1
          have hi52 := ix_some h49
          obtain ⟨p50, hp51⟩ := SlR.elP (SlR.of_sl (hS.sl_mem (List.Mem.tail _ (List.Mem.head _)))) hi52.1 hi52.2.1
          refine Walk.float [.slice Ap0 p0.length cp0, .slice Ap1 p1.length cp1, undef, undef, (G31 0), .int .i64 x30, (G31 1), (G31 2), (G31 3), (G31 4), (G31 5), .int .i64 x30, .slice Ap0 p0.length cp0, .int .i64 (p0.length : Int), .bool (decide (x30 < (p0.length : Int))), (G31 10), (G31 11), .slice Ap0 p0.length cp0, .int .i64 x30, .pointer (some p45), .int .u8 y43, .slice Ap1 p1.length cp1, .int .i64 x30, .pointer (some p50), (G31 19), (G31 20)] rfl (by kernel_rfl) (fun _ hS => ?_) ?_
          · replace hS : Has [] [slA Rp0 (Enc.int .u8) Ap0 cp0 p0, slA Rp1 (Enc.int .u8) Ap1 cp1 p1] _ := hS
            refine s_index (A := Ap1) (cap := cp1) (.tmp 21) (.tmp 22) 26 5 1 .i64 x30 rfl u26 el5 (by kernel_rfl) (by kernel_rfl) (by kernel_rfl) (SlR.of_sl (hS.sl_mem (List.Mem.tail _ (List.Mem.head _)))) hi52.1 hi52.2.1 (fun p50q hp51q => ?_)
            obtain rfl := ElP.uniq hp51 hp51q
            exact wl_nil ⟨rfl, by kernel_rfl, rfl⟩
          refine Walk.float [.slice Ap0 p0.length cp0, .slice Ap1 p1.length cp1, undef, undef, (G31 0), .int .i64 x30, (G31 1), (G31 2), (G31 3), (G31 4), (G31 5), .int .i64 x30, .slice Ap0 p0.length cp0, .int .i64 (p0.length : Int), .bool (decide (x30 < (p0.length : Int))), (G31 10), (G31 11), .slice Ap0 p0.length cp0, .int .i64 x30, .pointer (some p45), .int .u8 y43, .slice Ap1 p1.length cp1, .int .i64 x30, .pointer (some p50), .int .u8 y48, (G31 20)] rfl (by kernel_rfl) (fun _ hS => ?_) ?_
          · replace hS : Has [] [slA Rp0 (Enc.int .u8) Ap0 cp0 p0, slA Rp1 (Enc.int .u8) Ap1 cp1 p1] _ := hS
            refine s_load_el (.tmp 23) 5 1 p50 _ y48 rfl el5 (by kernel_rfl) (by kernel_rfl) hp51 (SlR.of_sl (hS.sl_mem (List.Mem.tail _ (List.Mem.head _)))) hi52.2.2 ?_
            exact wl_nil ⟨rfl, by kernel_rfl, rfl⟩
          refine Walk.seg (by kernel_rfl) 1 _ [.slice Ap0 p0.length cp0, .slice Ap1 p1.length cp1, undef, undef, (G31 0), .int .i64 x30, (G31 1), (G31 2), (G31 3), (G31 4), (G31 5), .int .i64 x30, .slice Ap0 p0.length cp0, .int .i64 (p0.length : Int), .bool (decide (x30 < (p0.length : Int))), (G31 10), (G31 11), .slice Ap0 p0.length cp0, .int .i64 x30, .pointer (some p45), .int .u8 y43, .slice Ap1 p1.length cp1, .int .i64 x30, .pointer (some p50), .int .u8 y48, .bool (y43 != y48)] (by kernel_rfl) (hS.has forall0 (forall2 (List.Mem.head _) (forall2 (List.Mem.tail _ (List.Mem.head _)) forall0))) ?_
          show Walk _ _ _ _ [] _ _
          refine Walk.done (hS.has forall0 (forall2 (List.Mem.head _) (forall2 (List.Mem.tail _ (List.Mem.head _)) forall0))) ?_
          refine then_normal ?_
          refine wp_cond_split (t := (y43 != y48)) (by kernel_rfl) (fun hc53 => ?_) (fun hc53 => ?_)
          · replace hM1 := (if_pos hc53).symm.trans hM1
            refine wp_seq ?_
            refine wp_reg ?_
            refine segEnd [.slice Ap0 p0.length cp0, .slice Ap1 p1.length cp1, undef, undef, .bool false, .int .i64 x30, (G31 1), (G31 2), (G31 3), (G31 4), (G31 5), .int .i64 x30, .slice Ap0 p0.length cp0, .int .i64 (p0.length : Int), .bool (decide (x30 < (p0.length : Int))), (G31 10), (G31 11), .slice Ap0 p0.length cp0, .int .i64 x30, .pointer (some p45), .int .u8 y43, .slice Ap1 p1.length cp1, .int .i64 x30, .pointer (some p50), .int .u8 y48, .bool (y43 != y48)] (by kernel_rfl) ?_
            refine then_normal ?_
            refine wp_ret ?_
            refine in_ret ?_
            refine then_ret ?_
            refine then_ret ?_
            have hr56 := hout27 _ (Option.some.inj hM1).symm
            subst hr56
            refine in_ret ?_
            refine then_ret ?_
            replace hS : Own w0 D R _ [] [] := hS.dropS forall0
            obtain rfl := Option.some.inj hM
            refine ret_v (.bool false) (by kernel_rfl) ⟨rfl, hS⟩
          · replace hM1 := (if_neg (Bool.eq_false_iff.1 hc53)).symm.trans hM1
            refine wp_skip ?_
            refine in_normal ?_
            refine then_normal ?_
            refine wp_reg ?_
            refine segEnd [.slice Ap0 p0.length cp0, .slice Ap1 p1.length cp1, undef, undef, (G31 0), .int .i64 (IntKind.i64.wrap (x30 + 1)), (G31 1), (G31 2), (G31 3), (G31 4), (G31 5), .int .i64 x30, .slice Ap0 p0.length cp0, .int .i64 (p0.length : Int), .bool (decide (x30 < (p0.length : Int))), .int .i64 x30, .int .i64 (IntKind.i64.wrap (x30 + 1)), .slice Ap0 p0.length cp0, .int .i64 x30, .pointer (some p45), .int .u8 y43, .slice Ap1 p1.length cp1, .int .i64 x30, .pointer (some p50), .int .u8 y48, .bool (y43 != y48)] (by kernel_rfl) ?_
            refine then_normal ?_
            exact ⟨(IntKind.i64.wrap (x30 + 1)), (Option.some.inj hM1).symm, (fun i => ([(G31 0), (G31 1), (G31 2), (G31 3), (G31 4), (G31 5), .int .i64 x30, .slice Ap0 p0.length cp0, .int .i64 (p0.length : Int), .bool (decide (x30 < (p0.length : Int))), .int .i64 x30, .int .i64 (IntKind.i64.wrap (x30 + 1)), .slice Ap0 p0.length cp0, .int .i64 x30, .pointer (some p45), .int .u8 y43, .slice Ap1 p1.length cp1, .int .i64 x30, .pointer (some p50), .int .u8 y48, .bool (y43 != y48)] : List Value).getD i undef), (IntKind.i64.wrap (x30 + 1)), rfl, (by kernel_rfl), hS⟩
        · replace hM1 := (if_neg (Bool.eq_false_iff.1 hc32)).symm.trans hM1
          refine wp_exit ?_
          refine then_exit ?_
          refine then_exit ?_
          have hr57 := hout27 _ (Option.some.inj hM1).symm
          subst hr57
          refine in_exit_eq ?_
          refine then_normal ?_
          exact ⟨(fun i => ([.slice Ap0 p0.length cp0, .slice Ap1 p1.length cp1, (G31 0), .int .i64 x30, (G31 1), (G31 2), (G31 3), (G31 4), (G31 5), .int .i64 x30, .slice Ap0 p0.length cp0, .int .i64 (p0.length : Int), .bool (decide (x30 < (p0.length : Int))), (G31 10), (G31 11), (G31 12), (G31 13), (G31 14), (G31 15), (G31 16), (G31 17), (G31 18), (G31 19), (G31 20)] : List Value).getD i undef), (by kernel_rfl), hS, hM⟩
      · exact ⟨(fun i => ([.bool false, .slice Ap0 p0.length cp0, .int .i64 (p0.length : Int), .slice Ap1 p1.length cp1, .int .i64 (p1.length : Int), .bool ((p0.length : Int) != (p1.length : Int)), undef, undef, undef, undef, undef, undef, undef, undef, undef, undef, undef, undef, undef, undef, undef] : List Value).getD i undef), 0, rfl, (by kernel_rfl), hS⟩
    · rintro a w ⟨G54, rfl, hS, hM⟩
      unfold intaglioref07_Same_J1 at hM
      refine wp_seq ?_
      refine wp_reg ?_
      refine segEnd [(G54 0), (G54 1), undef, undef, .bool true, (G54 3), (G54 4), (G54 5), (G54 6), (G54 7), (G54 8), (G54 9), (G54 10), (G54 11), (G54 12), (G54 13), (G54 14), (G54 15), (G54 16), (G54 17), (G54 18), (G54 19), (G54 20), (G54 21), (G54 22), (G54 23)] (by kernel_rfl) ?_
      refine then_normal ?_
      refine wp_ret ?_
      replace hS : Own w0 D R _ [] [] := hS.dropS forall0
      obtain rfl := Option.some.inj hM
      refine ret_v (.bool true) (by kernel_rfl) ⟨rfl, hS⟩

theorem intaglioref07_Parse_W {w0 w : World} {D R : Nat → Prop} {Rp0 : Nat → Prop} {Ap0 : Option Addr} {cp0 : Nat} {p0 : List Int} {r0 : Int} {r1 : Int} {r2 : Int} {r3 : Int} {r4 : Int} {r5 : Int} {r6 : Bool} (hS : Own w0 D R w [] [slA Rp0 (Enc.int .u8) Ap0 cp0 p0]) (hD : ∀ b, ¬ D b) (hM : intaglioref07_Parse_M p0 = some (r0, r1, r2, r3, r4, r5, r6)) :
    Calls Go.Proofs.Try.prog 18 #[.slice Ap0 p0.length cp0] w (fun e w' => e = .returned (.tuple #[.agg #[.int .i64 r0, .int .i64 r1, .int .i64 r2, .int .i64 r3, .int .i64 r4, .int .i64 r5], .bool r6]) ∧ Own w0 D R w' [] []) := by
  refine enter (fn := Go.Proofs.Try.f18) [.slice Ap0 p0.length cp0, undef, undef, undef, undef, undef, undef, undef, undef, undef, undef, undef, undef, undef, undef, undef, undef, undef, undef, undef, undef, undef, undef, undef, undef, undef, undef, undef, undef, undef, undef, undef, undef, undef, undef, undef, undef, undef, undef, undef, undef] (by kernel_rfl) rfl (by kernel_rfl) ?_
  unfold intaglioref07_Parse_M at hM
  refine wp_seq ?_
  refine wp_reg ?_
  refine s_alloc 23 [.int .i64 0, .int .i64 0, .int .i64 0, .int .i64 0, .int .i64 0, .int .i64 0] rfl ⟨.agg #[.int .i64 0, .int .i64 0, .int .i64 0, .int .i64 0, .int .i64 0, .int .i64 0], by kernel_rfl, rfl⟩ (by kernel_rfl) hS (fun b1 _ hS => ?_)
  refine segEnd [.slice Ap0 p0.length cp0, undef, .pointer (some ⟨b1, 0, none⟩), .bool false, undef, undef, undef, undef, undef, undef, undef, undef, undef, undef, undef, undef, undef, undef, undef, undef, undef, undef, undef, undef, undef, undef, undef, undef, undef, undef, undef, undef, undef, undef, undef, undef, undef, undef, undef, undef, undef] (by kernel_rfl) ?_
  refine then_normal ?_
  refine wp_seq ?_
  refine wp_reg ?_
  refine seg 1 [.slice Ap0 p0.length cp0, undef, .pointer (some ⟨b1, 0, none⟩), .bool false, undef, undef, .slice Ap0 p0.length cp0, undef, undef, undef, undef, undef, undef, undef, undef, undef, undef, undef, undef, undef, undef, undef, undef, undef, undef, undef, undef, undef, undef, undef, undef, undef, undef, undef, undef, undef, undef, undef, undef, undef, undef] (by kernel_rfl) ?_
  replace hM := bind_some hM
  obtain ⟨v2, h5, hM⟩ := hM
  have hP := Own.pre (Xi := []) (X := [boxA b1 [.int .i64 0, .int .i64 0, .int .i64 0, .int .i64 0, .int .i64 0, .int .i64 0]]) (Si := [slA (fun _ => False) (Enc.int .u8) none 0 [], slA Rp0 (Enc.int .u8) Ap0 cp0 p0]) hS (forall2 (sl_nil (fun _ => False) (Enc.int .u8) 0 _) (forall2 (hS.sl_mem (List.Mem.head _)) forall0)) (forall2 (fun _ h => h.elim) (forall2 (fun _ h => .inl ⟨_, (List.Mem.head _), h⟩) forall0))
  refine s_call 26 #[.slice none 0 0, .slice Ap0 p0.length cp0] (by kernel_rfl) (by kernel_rfl) ((intaglioref01_Both_W hP doms_nil h5).mono ?_)
  rintro _ _ ⟨A3, c4, rfl, hQ⟩
  replace hS : Own w0 D R _ [rowA (Enc.int .u8) A3 c4 v2, boxA b1 [.int .i64 0, .int .i64 0, .int .i64 0, .int .i64 0, .int .i64 0, .int .i64 0]] [slA Rp0 (Enc.int .u8) Ap0 cp0 p0] := hS.post hQ (.inl rfl)
  clear hP hQ
  refine ⟨_, rfl, ?_⟩
  refine seg 1 [.slice Ap0 p0.length cp0, undef, .pointer (some ⟨b1, 0, none⟩), .bool false, undef, undef, .slice Ap0 p0.length cp0, .slice A3 v2.length c4, .agg #[.slice A3 v2.length c4, .int .i64 0], undef, undef, undef, undef, undef, undef, undef, undef, undef, undef, undef, undef, undef, undef, undef, undef, undef, undef, undef, undef, undef, undef, undef, undef, undef, undef, undef, undef, undef, undef, undef, undef] (by kernel_rfl) ?_
  refine s_box (.tmp 8) 51 [.slice A3 v2.length c4, .int .i64 0] (.agg #[.slice A3 v2.length c4, .int .i64 0]) rfl (by kernel_rfl) rfl (by kernel_rfl) hS (fun b6 _ hS => ?_)
  refine segEnd [.slice Ap0 p0.length cp0, undef, .pointer (some ⟨b1, 0, none⟩), .bool false, .pointer (some ⟨b6, 0, none⟩), undef, .slice Ap0 p0.length cp0, .slice A3 v2.length c4, .agg #[.slice A3 v2.length c4, .int .i64 0], .pointer (some ⟨b6, 0, none⟩), undef, undef, undef, undef, undef, undef, undef, undef, undef, undef, undef, undef, undef, undef, undef, undef, undef, undef, undef, undef, undef, undef, undef, undef, undef, undef, undef, undef, undef, undef, undef] (by kernel_rfl) ?_
  refine then_normal ?_
  refine wp_seq ?_
  refine wp_reg ?_
  refine seg 1 [.slice Ap0 p0.length cp0, undef, .pointer (some ⟨b1, 0, none⟩), .bool false, .pointer (some ⟨b6, 0, none⟩), undef, .slice Ap0 p0.length cp0, .slice A3 v2.length c4, .agg #[.slice A3 v2.length c4, .int .i64 0], .pointer (some ⟨b6, 0, none⟩), .agg #[.int .i64 0, .int .i64 0, .int .i64 0, .int .i64 0, .int .i64 0, .int .i64 0], undef, undef, undef, undef, undef, undef, undef, undef, undef, undef, undef, undef, undef, undef, undef, undef, undef, undef, undef, undef, undef, undef, undef, undef, undef, undef, undef, undef, undef, undef] (by kernel_rfl) ?_
  refine s_alloc 23 [.int .i64 0, .int .i64 0, .int .i64 0, .int .i64 0, .int .i64 0, .int .i64 0] rfl ⟨.agg #[.int .i64 0, .int .i64 0, .int .i64 0, .int .i64 0, .int .i64 0, .int .i64 0], by kernel_rfl, rfl⟩ (by kernel_rfl) hS (fun b7 _ hS => ?_)
  refine s_store_box (.tmp 5) (.tmp 10) 23 b7 0 [.int .i64 0, .int .i64 0, .int .i64 0, .int .i64 0, .int .i64 0, .int .i64 0] [.int .i64 0, .int .i64 0, .int .i64 0, .int .i64 0, .int .i64 0, .int .i64 0] [.int .i64 0, .int .i64 0, .int .i64 0, .int .i64 0, .int .i64 0, .int .i64 0] (.agg #[.int .i64 0, .int .i64 0, .int .i64 0, .int .i64 0, .int .i64 0, .int .i64 0]) rfl (by kernel_rfl) (by kernel_rfl) (by kernel_rfl) rfl (by kernel_rfl) (forall2 rfl (forall2 rfl (forall2 rfl (forall2 rfl (forall2 rfl (forall2 rfl forall0)))))) (Nat.le_of_ble_eq_true (by kernel_rfl)) rfl hS (fun _ hS => ?_)
  refine wl_nil ?_
  refine then_normal ?_
  refine wp_seq ?_
  refine wp_reg ?_
  refine seg 1 [.slice Ap0 p0.length cp0, undef, .pointer (some ⟨b1, 0, none⟩), .bool false, .pointer (some ⟨b6, 0, none⟩), .pointer (some ⟨b7, 0, none⟩), .slice Ap0 p0.length cp0, .slice A3 v2.length c4, .agg #[.slice A3 v2.length c4, .int .i64 0], .pointer (some ⟨b6, 0, none⟩), .agg #[.int .i64 0, .int .i64 0, .int .i64 0, .int .i64 0, .int .i64 0, .int .i64 0], .pointer (some ⟨b6, 0, none⟩), undef, undef, undef, undef, undef, undef, undef, undef, undef, undef, undef, undef, undef, undef, undef, undef, undef, undef, undef, undef, undef, undef, undef, undef, undef, undef, undef, undef, undef] (by kernel_rfl) ?_
  replace hM := bind_some hM
  obtain ⟨⟨v8, v9, v12⟩, h13, hM⟩ := hM
  replace hS : Own w0 D R _ [rowA (Enc.int .u8) A3 c4 v2, boxA b7 [.int .i64 0, .int .i64 0, .int .i64 0, .int .i64 0, .int .i64 0, .int .i64 0], boxA b6 [.slice A3 v2.length c4, .int .i64 0], boxA b1 [.int .i64 0, .int .i64 0, .int .i64 0, .int .i64 0, .int .i64 0, .int .i64 0]] [slA Rp0 (Enc.int .u8) Ap0 cp0 p0] := hS.pick 2 rfl
  replace hS : Own w0 D R _ [boxA b7 [.int .i64 0, .int .i64 0, .int .i64 0, .int .i64 0, .int .i64 0, .int .i64 0], boxA b6 [.slice A3 v2.length c4, .int .i64 0], boxA b1 [.int .i64 0, .int .i64 0, .int .i64 0, .int .i64 0, .int .i64 0, .int .i64 0]] [slA (blkOf A3) (Enc.int .u8) A3 c4 v2, slA Rp0 (Enc.int .u8) Ap0 cp0 p0] := hS.freezeRow hD
  replace hS : Own w0 D R _ [boxA b6 [.slice A3 v2.length c4, .int .i64 0], boxA b7 [.int .i64 0, .int .i64 0, .int .i64 0, .int .i64 0, .int .i64 0, .int .i64 0], boxA b1 [.int .i64 0, .int .i64 0, .int .i64 0, .int .i64 0, .int .i64 0, .int .i64 0]] [slA (blkOf A3) (Enc.int .u8) A3 c4 v2, slA Rp0 (Enc.int .u8) Ap0 cp0 p0] := hS.pick 1 rfl
  have hP := Own.pre (Xi := [boxA b6 [.slice A3 v2.length c4, .int .i64 0]]) (X := [boxA b7 [.int .i64 0, .int .i64 0, .int .i64 0, .int .i64 0, .int .i64 0, .int .i64 0], boxA b1 [.int .i64 0, .int .i64 0, .int .i64 0, .int .i64 0, .int .i64 0, .int .i64 0]]) (Si := [slA (blkOf A3) (Enc.int .u8) A3 c4 v2]) hS (forall2 (hS.sl_mem (List.Mem.head _)) forall0) (forall2 (fun _ h => .inl ⟨_, (List.Mem.head _), h⟩) forall0)
  refine s_call 27 #[.pointer (some ⟨b6, 0, none⟩), .int .i64 1099511627776] (by kernel_rfl) (by kernel_rfl) ((intaglioref01_In_Num_W hP h13).mono ?_)
  rintro _ _ ⟨A10, c11, rfl, hQ⟩
  replace hS : Own w0 D R _ [boxA b6 [.slice A10 v9.length c11, .int .i64 v12], boxA b7 [.int .i64 0, .int .i64 0, .int .i64 0, .int .i64 0, .int .i64 0, .int .i64 0], boxA b1 [.int .i64 0, .int .i64 0, .int .i64 0, .int .i64 0, .int .i64 0, .int .i64 0]] [slA (blkOf A3) (Enc.int .u8) A10 c11 v9, slA (blkOf A3) (Enc.int .u8) A3 c4 v2, slA Rp0 (Enc.int .u8) Ap0 cp0 p0] := hS.post hQ (.inr (doms_sub (fun _ h => ⟨_, (List.Mem.head _), h⟩) doms_sub0))
  clear hP hQ
  refine ⟨_, rfl, ?_⟩
  refine seg 1 [.slice Ap0 p0.length cp0, undef, .pointer (some ⟨b1, 0, none⟩), .bool false, .pointer (some ⟨b6, 0, none⟩), .pointer (some ⟨b7, 0, none⟩), .slice Ap0 p0.length cp0, .slice A3 v2.length c4, .agg #[.slice A3 v2.length c4, .int .i64 0], .pointer (some ⟨b6, 0, none⟩), .agg #[.int .i64 0, .int .i64 0, .int .i64 0, .int .i64 0, .int .i64 0, .int .i64 0], .pointer (some ⟨b6, 0, none⟩), .int .i64 v8, .pointer (some ⟨b7, 0, none⟩), undef, undef, undef, undef, undef, undef, undef, undef, undef, undef, undef, undef, undef, undef, undef, undef, undef, undef, undef, undef, undef, undef, undef, undef, undef, undef, undef] (by kernel_rfl) ?_
  replace hS : Own w0 D R _ [boxA b7 [.int .i64 0, .int .i64 0, .int .i64 0, .int .i64 0, .int .i64 0, .int .i64 0], boxA b6 [.slice A10 v9.length c11, .int .i64 v12], boxA b1 [.int .i64 0, .int .i64 0, .int .i64 0, .int .i64 0, .int .i64 0, .int .i64 0]] [slA (blkOf A3) (Enc.int .u8) A10 c11 v9, slA (blkOf A3) (Enc.int .u8) A3 c4 v2, slA Rp0 (Enc.int .u8) Ap0 cp0 p0] := hS.pick 1 rfl
  refine s_store_box (.tmp 13) (.tmp 12) 3 b7 0 [.int .i64 0, .int .i64 0, .int .i64 0, .int .i64 0, .int .i64 0, .int .i64 0] [.int .i64 v8, .int .i64 0, .int .i64 0, .int .i64 0, .int .i64 0, .int .i64 0] [.int .i64 v8] (.int .i64 v8) rfl (by kernel_rfl) (by kernel_rfl) (by kernel_rfl) rfl (by kernel_rfl) (forall2 rfl forall0) (Nat.le_of_ble_eq_true (by kernel_rfl)) rfl hS (fun _ hS => ?_)
  refine wl_nil ?_
  refine then_normal ?_
  refine wp_seq ?_
  refine wp_reg ?_
  refine seg 1 [.slice Ap0 p0.length cp0, undef, .pointer (some ⟨b1, 0, none⟩), .bool false, .pointer (some ⟨b6, 0, none⟩), .pointer (some ⟨b7, 0, none⟩), .slice Ap0 p0.length cp0, .slice A3 v2.length c4, .agg #[.slice A3 v2.length c4, .int .i64 0], .pointer (some ⟨b6, 0, none⟩), .agg #[.int .i64 0, .int .i64 0, .int .i64 0, .int .i64 0, .int .i64 0, .int .i64 0], .pointer (some ⟨b6, 0, none⟩), .int .i64 v8, .pointer (some ⟨b7, 0, none⟩), .pointer (some ⟨b6, 0, none⟩), undef, undef, undef, undef, undef, undef, undef, undef, undef, undef, undef, undef, undef, undef, undef, undef, undef, undef, undef, undef, undef, undef, undef, undef, undef, undef] (by kernel_rfl) ?_
  replace hM := bind_some hM
  obtain ⟨⟨v14, v15, v18⟩, h19, hM⟩ := hM
  replace hS : Own w0 D R _ [boxA b6 [.slice A10 v9.length c11, .int .i64 v12], boxA b7 [.int .i64 v8, .int .i64 0, .int .i64 0, .int .i64 0, .int .i64 0, .int .i64 0], boxA b1 [.int .i64 0, .int .i64 0, .int .i64 0, .int .i64 0, .int .i64 0, .int .i64 0]] [slA (blkOf A3) (Enc.int .u8) A10 c11 v9, slA (blkOf A3) (Enc.int .u8) A3 c4 v2, slA Rp0 (Enc.int .u8) Ap0 cp0 p0] := hS.pick 1 rfl
  have hP := Own.pre (Xi := [boxA b6 [.slice A10 v9.length c11, .int .i64 v12]]) (X := [boxA b7 [.int .i64 v8, .int .i64 0, .int .i64 0, .int .i64 0, .int .i64 0, .int .i64 0], boxA b1 [.int .i64 0, .int .i64 0, .int .i64 0, .int .i64 0, .int .i64 0, .int .i64 0]]) (Si := [slA (blkOf A3) (Enc.int .u8) A10 c11 v9]) hS (forall2 (hS.sl_mem (List.Mem.head _)) forall0) (forall2 (fun _ h => .inl ⟨_, (List.Mem.head _), h⟩) forall0)
  refine s_call 27 #[.pointer (some ⟨b6, 0, none⟩), .int .i64 1099511627776] (by kernel_rfl) (by kernel_rfl) ((intaglioref01_In_Num_W hP h19).mono ?_)
  rintro _ _ ⟨A16, c17, rfl, hQ⟩
  replace hS : Own w0 D R _ [boxA b6 [.slice A16 v15.length c17, .int .i64 v18], boxA b7 [.int .i64 v8, .int .i64 0, .int .i64 0, .int .i64 0, .int .i64 0, .int .i64 0], boxA b1 [.int .i64 0, .int .i64 0, .int .i64 0, .int .i64 0, .int .i64 0, .int .i64 0]] [slA (blkOf A3) (Enc.int .u8) A16 c17 v15, slA (blkOf A3) (Enc.int .u8) A10 c11 v9, slA (blkOf A3) (Enc.int .u8) A3 c4 v2, slA Rp0 (Enc.int .u8) Ap0 cp0 p0] := hS.post hQ (.inr (doms_sub (fun _ h => ⟨_, (List.Mem.head _), h⟩) doms_sub0))
  clear hP hQ
  refine ⟨_, rfl, ?_⟩
  refine seg 1 [.slice Ap0 p0.length cp0, undef, .pointer (some ⟨b1, 0, none⟩), .bool false, .pointer (some ⟨b6, 0, none⟩), .pointer (some ⟨b7, 0, none⟩), .slice Ap0 p0.length cp0, .slice A3 v2.length c4, .agg #[.slice A3 v2.length c4, .int .i64 0], .pointer (some ⟨b6, 0, none⟩), .agg #[.int .i64 0, .int .i64 0, .int .i64 0, .int .i64 0, .int .i64 0, .int .i64 0], .pointer (some ⟨b6, 0, none⟩), .int .i64 v8, .pointer (some ⟨b7, 0, none⟩), .pointer (some ⟨b6, 0, none⟩), .int .i64 v14, .pointer (some ⟨b7, 1, none⟩), undef, undef, undef, undef, undef, undef, undef, undef, undef, undef, undef, undef, undef, undef, undef, undef, undef, undef, undef, undef, undef, undef, undef, undef] (by kernel_rfl) ?_
  replace hS : Own w0 D R _ [boxA b7 [.int .i64 v8, .int .i64 0, .int .i64 0, .int .i64 0, .int .i64 0, .int .i64 0], boxA b6 [.slice A16 v15.length c17, .int .i64 v18], boxA b1 [.int .i64 0, .int .i64 0, .int .i64 0, .int .i64 0, .int .i64 0, .int .i64 0]] [slA (blkOf A3) (Enc.int .u8) A16 c17 v15, slA (blkOf A3) (Enc.int .u8) A10 c11 v9, slA (blkOf A3) (Enc.int .u8) A3 c4 v2, slA Rp0 (Enc.int .u8) Ap0 cp0 p0] := hS.pick 1 rfl
  refine s_store_box (.tmp 16) (.tmp 15) 3 b7 1 [.int .i64 v8, .int .i64 0, .int .i64 0, .int .i64 0, .int .i64 0, .int .i64 0] [.int .i64 v8, .int .i64 v14, .int .i64 0, .int .i64 0, .int .i64 0, .int .i64 0] [.int .i64 v14] (.int .i64 v14) rfl (by kernel_rfl) (by kernel_rfl) (by kernel_rfl) rfl (by kernel_rfl) (forall2 rfl forall0) (Nat.le_of_ble_eq_true (by kernel_rfl)) rfl hS (fun _ hS => ?_)
  refine wl_nil ?_
  refine then_normal ?_
  refine wp_seq ?_
  refine wp_reg ?_
  refine seg 1 [.slice Ap0 p0.length cp0, undef, .pointer (some ⟨b1, 0, none⟩), .bool false, .pointer (some ⟨b6, 0, none⟩), .pointer (some ⟨b7, 0, none⟩), .slice Ap0 p0.length cp0, .slice A3 v2.length c4, .agg #[.slice A3 v2.length c4, .int .i64 0], .pointer (some ⟨b6, 0, none⟩), .agg #[.int .i64 0, .int .i64 0, .int .i64 0, .int .i64 0, .int .i64 0, .int .i64 0], .pointer (some ⟨b6, 0, none⟩), .int .i64 v8, .pointer (some ⟨b7, 0, none⟩), .pointer (some ⟨b6, 0, none⟩), .int .i64 v14, .pointer (some ⟨b7, 1, none⟩), .pointer (some ⟨b6, 0, none⟩), undef, undef, undef, undef, undef, undef, undef, undef, undef, undef, undef, undef, undef, undef, undef, undef, undef, undef, undef, undef, undef, undef, undef] (by kernel_rfl) ?_
  replace hM := bind_some hM
  obtain ⟨⟨v20, v21, v24⟩, h25, hM⟩ := hM
  replace hS : Own w0 D R _ [boxA b6 [.slice A16 v15.length c17, .int .i64 v18], boxA b7 [.int .i64 v8, .int .i64 v14, .int .i64 0, .int .i64 0, .int .i64 0, .int .i64 0], boxA b1 [.int .i64 0, .int .i64 0, .int .i64 0, .int .i64 0, .int .i64 0, .int .i64 0]] [slA (blkOf A3) (Enc.int .u8) A16 c17 v15, slA (blkOf A3) (Enc.int .u8) A10 c11 v9, slA (blkOf A3) (Enc.int .u8) A3 c4 v2, slA Rp0 (Enc.int .u8) Ap0 cp0 p0] := hS.pick 1 rfl
  have hP := Own.pre (Xi := [boxA b6 [.slice A16 v15.length c17, .int .i64 v18]]) (X := [boxA b7 [.int .i64 v8, .int .i64 v14, .int .i64 0, .int .i64 0, .int .i64 0, .int .i64 0], boxA b1 [.int .i64 0, .int .i64 0, .int .i64 0, .int .i64 0, .int .i64 0, .int .i64 0]]) (Si := [slA (blkOf A3) (Enc.int .u8) A16 c17 v15]) hS (forall2 (hS.sl_mem (List.Mem.head _)) forall0) (forall2 (fun _ h => .inl ⟨_, (List.Mem.head _), h⟩) forall0)
  refine s_call 27 #[.pointer (some ⟨b6, 0, none⟩), .int .i64 1099511627776] (by kernel_rfl) (by kernel_rfl) ((intaglioref01_In_Num_W hP h25).mono ?_)
  rintro _ _ ⟨A22, c23, rfl, hQ⟩
  replace hS : Own w0 D R _ [boxA b6 [.slice A22 v21.length c23, .int .i64 v24], boxA b7 [.int .i64 v8, .int .i64 v14, .int .i64 0, .int .i64 0, .int .i64 0, .int .i64 0], boxA b1 [.int .i64 0, .int .i64 0, .int .i64 0, .int .i64 0, .int .i64 0, .int .i64 0]] [slA (blkOf A3) (Enc.int .u8) A22 c23 v21, slA (blkOf A3) (Enc.int .u8) A16 c17 v15, slA (blkOf A3) (Enc.int .u8) A10 c11 v9, slA (blkOf A3) (Enc.int .u8) A3 c4 v2, slA Rp0 (Enc.int .u8) Ap0 cp0 p0] := hS.post hQ (.inr (doms_sub (fun _ h => ⟨_, (List.Mem.head _), h⟩) doms_sub0))
  clear hP hQ
  refine ⟨_, rfl, ?_⟩
  refine seg 1 [.slice Ap0 p0.length cp0, undef, .pointer (some ⟨b1, 0, none⟩), .bool false, .pointer (some ⟨b6, 0, none⟩), .pointer (some ⟨b7, 0, none⟩), .slice Ap0 p0.length cp0, .slice A3 v2.length c4, .agg #[.slice A3 v2.length c4, .int .i64 0], .pointer (some ⟨b6, 0, none⟩), .agg #[.int .i64 0, .int .i64 0, .int .i64 0, .int .i64 0, .int .i64 0, .int .i64 0], .pointer (some ⟨b6, 0, none⟩), .int .i64 v8, .pointer (some ⟨b7, 0, none⟩), .pointer (some ⟨b6, 0, none⟩), .int .i64 v14, .pointer (some ⟨b7, 1, none⟩), .pointer (some ⟨b6, 0, none⟩), .int .i64 v20, .pointer (some ⟨b7, 2, none⟩), undef, undef, undef, undef, undef, undef, undef, undef, undef, undef, undef, undef, undef, undef, undef, undef, undef, undef, undef, undef, undef] (by kernel_rfl) ?_
  replace hS : Own w0 D R _ [boxA b7 [.int .i64 v8, .int .i64 v14, .int .i64 0, .int .i64 0, .int .i64 0, .int .i64 0], boxA b6 [.slice A22 v21.length c23, .int .i64 v24], boxA b1 [.int .i64 0, .int .i64 0, .int .i64 0, .int .i64 0, .int .i64 0, .int .i64 0]] [slA (blkOf A3) (Enc.int .u8) A22 c23 v21, slA (blkOf A3) (Enc.int .u8) A16 c17 v15, slA (blkOf A3) (Enc.int .u8) A10 c11 v9, slA (blkOf A3) (Enc.int .u8) A3 c4 v2, slA Rp0 (Enc.int .u8) Ap0 cp0 p0] := hS.pick 1 rfl
  refine s_store_box (.tmp 19) (.tmp 18) 3 b7 2 [.int .i64 v8, .int .i64 v14, .int .i64 0, .int .i64 0, .int .i64 0, .int .i64 0] [.int .i64 v8, .int .i64 v14, .int .i64 v20, .int .i64 0, .int .i64 0, .int .i64 0] [.int .i64 v20] (.int .i64 v20) rfl (by kernel_rfl) (by kernel_rfl) (by kernel_rfl) rfl (by kernel_rfl) (forall2 rfl forall0) (Nat.le_of_ble_eq_true (by kernel_rfl)) rfl hS (fun _ hS => ?_)
  refine wl_nil ?_
  refine then_normal ?_
  refine wp_seq ?_
  refine wp_reg ?_
  refine seg 1 [.slice Ap0 p0.length cp0, undef, .pointer (some ⟨b1, 0, none⟩), .bool false, .pointer (some ⟨b6, 0, none⟩), .pointer (some ⟨b7, 0, none⟩), .slice Ap0 p0.length cp0, .slice A3 v2.length c4, .agg #[.slice A3 v2.length c4, .int .i64 0], .pointer (some ⟨b6, 0, none⟩), .agg #[.int .i64 0, .int .i64 0, .int .i64 0, .int .i64 0, .int .i64 0, .int .i64 0], .pointer (some ⟨b6, 0, none⟩), .int .i64 v8, .pointer (some ⟨b7, 0, none⟩), .pointer (some ⟨b6, 0, none⟩), .int .i64 v14, .pointer (some ⟨b7, 1, none⟩), .pointer (some ⟨b6, 0, none⟩), .int .i64 v20, .pointer (some ⟨b7, 2, none⟩), .pointer (some ⟨b6, 0, none⟩), undef, undef, undef, undef, undef, undef, undef, undef, undef, undef, undef, undef, undef, undef, undef, undef, undef, undef, undef, undef] (by kernel_rfl) ?_
  replace hM := bind_some hM
  obtain ⟨⟨v26, v27, v30⟩, h31, hM⟩ := hM
  replace hS : Own w0 D R _ [boxA b6 [.slice A22 v21.length c23, .int .i64 v24], boxA b7 [.int .i64 v8, .int .i64 v14, .int .i64 v20, .int .i64 0, .int .i64 0, .int .i64 0], boxA b1 [.int .i64 0, .int .i64 0, .int .i64 0, .int .i64 0, .int .i64 0, .int .i64 0]] [slA (blkOf A3) (Enc.int .u8) A22 c23 v21, slA (blkOf A3) (Enc.int .u8) A16 c17 v15, slA (blkOf A3) (Enc.int .u8) A10 c11 v9, slA (blkOf A3) (Enc.int .u8) A3 c4 v2, slA Rp0 (Enc.int .u8) Ap0 cp0 p0] := hS.pick 1 rfl
  have hP := Own.pre (Xi := [boxA b6 [.slice A22 v21.length c23, .int .i64 v24]]) (X := [boxA b7 [.int .i64 v8, .int .i64 v14, .int .i64 v20, .int .i64 0, .int .i64 0, .int .i64 0], boxA b1 [.int .i64 0, .int .i64 0, .int .i64 0, .int .i64 0, .int .i64 0, .int .i64 0]]) (Si := [slA (blkOf A3) (Enc.int .u8) A22 c23 v21]) hS (forall2 (hS.sl_mem (List.Mem.head _)) forall0) (forall2 (fun _ h => .inl ⟨_, (List.Mem.head _), h⟩) forall0)
  refine s_call 27 #[.pointer (some ⟨b6, 0, none⟩), .int .i64 1099511627776] (by kernel_rfl) (by kernel_rfl) ((intaglioref01_In_Num_W hP h31).mono ?_)
  rintro _ _ ⟨A28, c29, rfl, hQ⟩
  replace hS : Own w0 D R _ [boxA b6 [.slice A28 v27.length c29, .int .i64 v30], boxA b7 [.int .i64 v8, .int .i64 v14, .int .i64 v20, .int .i64 0, .int .i64 0, .int .i64 0], boxA b1 [.int .i64 0, .int .i64 0, .int .i64 0, .int .i64 0, .int .i64 0, .int .i64 0]] [slA (blkOf A3) (Enc.int .u8) A28 c29 v27, slA (blkOf A3) (Enc.int .u8) A22 c23 v21, slA (blkOf A3) (Enc.int .u8) A16 c17 v15, slA (blkOf A3) (Enc.int .u8) A10 c11 v9, slA (blkOf A3) (Enc.int .u8) A3 c4 v2, slA Rp0 (Enc.int .u8) Ap0 cp0 p0] := hS.post hQ (.inr (doms_sub (fun _ h => ⟨_, (List.Mem.head _), h⟩) doms_sub0))
  clear hP hQ
  refine ⟨_, rfl, ?_⟩
  refine seg 1 [.slice Ap0 p0.length cp0, undef, .pointer (some ⟨b1, 0, none⟩), .bool false, .pointer (some ⟨b6, 0, none⟩), .pointer (some ⟨b7, 0, none⟩), .slice Ap0 p0.length cp0, .slice A3 v2.length c4, .agg #[.slice A3 v2.length c4, .int .i64 0], .pointer (some ⟨b6, 0, none⟩), .agg #[.int .i64 0, .int .i64 0, .int .i64 0, .int .i64 0, .int .i64 0, .int .i64 0], .pointer (some ⟨b6, 0, none⟩), .int .i64 v8, .pointer (some ⟨b7, 0, none⟩), .pointer (some ⟨b6, 0, none⟩), .int .i64 v14, .pointer (some ⟨b7, 1, none⟩), .pointer (some ⟨b6, 0, none⟩), .int .i64 v20, .pointer (some ⟨b7, 2, none⟩), .pointer (some ⟨b6, 0, none⟩), .int .i64 v26, .pointer (some ⟨b7, 3, none⟩), undef, undef, undef, undef, undef, undef, undef, undef, undef, undef, undef, undef, undef, undef, undef, undef, undef, undef] (by kernel_rfl) ?_
  replace hS : Own w0 D R _ [boxA b7 [.int .i64 v8, .int .i64 v14, .int .i64 v20, .int .i64 0, .int .i64 0, .int .i64 0], boxA b6 [.slice A28 v27.length c29, .int .i64 v30], boxA b1 [.int .i64 0, .int .i64 0, .int .i64 0, .int .i64 0, .int .i64 0, .int .i64 0]] [slA (blkOf A3) (Enc.int .u8) A28 c29 v27, slA (blkOf A3) (Enc.int .u8) A22 c23 v21, slA (blkOf A3) (Enc.int .u8) A16 c17 v15, slA (blkOf A3) (Enc.int .u8) A10 c11 v9, slA (blkOf A3) (Enc.int .u8) A3 c4 v2, slA Rp0 (Enc.int .u8) Ap0 cp0 p0] := hS.pick 1 rfl
  refine s_store_box (.tmp 22) (.tmp 21) 3 b7 3 [.int .i64 v8, .int .i64 v14, .int .i64 v20, .int .i64 0, .int .i64 0, .int .i64 0] [.int .i64 v8, .int .i64 v14, .int .i64 v20, .int .i64 v26, .int .i64 0, .int .i64 0] [.int .i64 v26] (.int .i64 v26) rfl (by kernel_rfl) (by kernel_rfl) (by kernel_rfl) rfl (by kernel_rfl) (forall2 rfl forall0) (Nat.le_of_ble_eq_true (by kernel_rfl)) rfl hS (fun _ hS => ?_)
  refine wl_nil ?_
  refine then_normal ?_
  refine wp_seq ?_
  refine wp_reg ?_
  refine seg 1 [.slice Ap0 p0.length cp0, undef, .pointer (some ⟨b1, 0, none⟩), .bool false, .pointer (some ⟨b6, 0, none⟩), .pointer (some ⟨b7, 0, none⟩), .slice Ap0 p0.length cp0, .slice A3 v2.length c4, .agg #[.slice A3 v2.length c4, .int .i64 0], .pointer (some ⟨b6, 0, none⟩), .agg #[.int .i64 0, .int .i64 0, .int .i64 0, .int .i64 0, .int .i64 0, .int .i64 0], .pointer (some ⟨b6, 0, none⟩), .int .i64 v8, .pointer (some ⟨b7, 0, none⟩), .pointer (some ⟨b6, 0, none⟩), .int .i64 v14, .pointer (some ⟨b7, 1, none⟩), .pointer (some ⟨b6, 0, none⟩), .int .i64 v20, .pointer (some ⟨b7, 2, none⟩), .pointer (some ⟨b6, 0, none⟩), .int .i64 v26, .pointer (some ⟨b7, 3, none⟩), .pointer (some ⟨b6, 0, none⟩), undef, undef, undef, undef, undef, undef, undef, undef, undef, undef, undef, undef, undef, undef, undef, undef, undef] (by kernel_rfl) ?_
  replace hM := bind_some hM
  obtain ⟨⟨v32, v33, v36⟩, h37, hM⟩ := hM
  replace hS : Own w0 D R _ [boxA b6 [.slice A28 v27.length c29, .int .i64 v30], boxA b7 [.int .i64 v8, .int .i64 v14, .int .i64 v20, .int .i64 v26, .int .i64 0, .int .i64 0], boxA b1 [.int .i64 0, .int .i64 0, .int .i64 0, .int .i64 0, .int .i64 0, .int .i64 0]] [slA (blkOf A3) (Enc.int .u8) A28 c29 v27, slA (blkOf A3) (Enc.int .u8) A22 c23 v21, slA (blkOf A3) (Enc.int .u8) A16 c17 v15, slA (blkOf A3) (Enc.int .u8) A10 c11 v9, slA (blkOf A3) (Enc.int .u8) A3 c4 v2, slA Rp0 (Enc.int .u8) Ap0 cp0 p0] := hS.pick 1 rfl
  have hP := Own.pre (Xi := [boxA b6 [.slice A28 v27.length c29, .int .i64 v30]]) (X := [boxA b7 [.int .i64 v8, .int .i64 v14, .int .i64 v20, .int .i64 v26, .int .i64 0, .int .i64 0], boxA b1 [.int .i64 0, .int .i64 0, .int .i64 0, .int .i64 0, .int .i64 0, .int .i64 0]]) (Si := [slA (blkOf A3) (Enc.int .u8) A28 c29 v27]) hS (forall2 (hS.sl_mem (List.Mem.head _)) forall0) (forall2 (fun _ h => .inl ⟨_, (List.Mem.head _), h⟩) forall0)
  refine s_call 27 #[.pointer (some ⟨b6, 0, none⟩), .int .i64 1099511627776] (by kernel_rfl) (by kernel_rfl) ((intaglioref01_In_Num_W hP h37).mono ?_)
  rintro _ _ ⟨A34, c35, rfl, hQ⟩
  replace hS : Own w0 D R _ [boxA b6 [.slice A34 v33.length c35, .int .i64 v36], boxA b7 [.int .i64 v8, .int .i64 v14, .int .i64 v20, .int .i64 v26, .int .i64 0, .int .i64 0], boxA b1 [.int .i64 0, .int .i64 0, .int .i64 0, .int .i64 0, .int .i64 0, .int .i64 0]] [slA (blkOf A3) (Enc.int .u8) A34 c35 v33, slA (blkOf A3) (Enc.int .u8) A28 c29 v27, slA (blkOf A3) (Enc.int .u8) A22 c23 v21, slA (blkOf A3) (Enc.int .u8) A16 c17 v15, slA (blkOf A3) (Enc.int .u8) A10 c11 v9, slA (blkOf A3) (Enc.int .u8) A3 c4 v2, slA Rp0 (Enc.int .u8) Ap0 cp0 p0] := hS.post hQ (.inr (doms_sub (fun _ h => ⟨_, (List.Mem.head _), h⟩) doms_sub0))
  clear hP hQ
  refine ⟨_, rfl, ?_⟩
  refine seg 1 [.slice Ap0 p0.length cp0, undef, .pointer (some ⟨b1, 0, none⟩), .bool false, .pointer (some ⟨b6, 0, none⟩), .pointer (some ⟨b7, 0, none⟩), .slice Ap0 p0.length cp0, .slice A3 v2.length c4, .agg #[.slice A3 v2.length c4, .int .i64 0], .pointer (some ⟨b6, 0, none⟩), .agg #[.int .i64 0, .int .i64 0, .int .i64 0, .int .i64 0, .int .i64 0, .int .i64 0], .pointer (some ⟨b6, 0, none⟩), .int .i64 v8, .pointer (some ⟨b7, 0, none⟩), .pointer (some ⟨b6, 0, none⟩), .int .i64 v14, .pointer (some ⟨b7, 1, none⟩), .pointer (some ⟨b6, 0, none⟩), .int .i64 v20, .pointer (some ⟨b7, 2, none⟩), .pointer (some ⟨b6, 0, none⟩), .int .i64 v26, .pointer (some ⟨b7, 3, none⟩), .pointer (some ⟨b6, 0, none⟩), .int .i64 v32, .pointer (some ⟨b7, 4, none⟩), undef, undef, undef, undef, undef, undef, undef, undef, undef, undef, undef, undef, undef, undef, undef] (by kernel_rfl) ?_
  replace hS : Own w0 D R _ [boxA b7 [.int .i64 v8, .int .i64 v14, .int .i64 v20, .int .i64 v26, .int .i64 0, .int .i64 0], boxA b6 [.slice A34 v33.length c35, .int .i64 v36], boxA b1 [.int .i64 0, .int .i64 0, .int .i64 0, .int .i64 0, .int .i64 0, .int .i64 0]] [slA (blkOf A3) (Enc.int .u8) A34 c35 v33, slA (blkOf A3) (Enc.int .u8) A28 c29 v27, slA (blkOf A3) (Enc.int .u8) A22 c23 v21, slA (blkOf A3) (Enc.int .u8) A16 c17 v15, slA (blkOf A3) (Enc.int .u8) A10 c11 v9, slA (blkOf A3) (Enc.int .u8) A3 c4 v2, slA Rp0 (Enc.int .u8) Ap0 cp0 p0] := hS.pick 1 rfl
  refine s_store_box (.tmp 25) (.tmp 24) 3 b7 4 [.int .i64 v8, .int .i64 v14, .int .i64 v20, .int .i64 v26, .int .i64 0, .int .i64 0] [.int .i64 v8, .int .i64 v14, .int .i64 v20, .int .i64 v26, .int .i64 v32, .int .i64 0] [.int .i64 v32] (.int .i64 v32) rfl (by kernel_rfl) (by kernel_rfl) (by kernel_rfl) rfl (by kernel_rfl) (forall2 rfl forall0) (Nat.le_of_ble_eq_true (by kernel_rfl)) rfl hS (fun _ hS => ?_)
  refine wl_nil ?_
  refine then_normal ?_
  refine wp_seq ?_
  refine wp_reg ?_
  refine seg 1 [.slice Ap0 p0.length cp0, undef, .pointer (some ⟨b1, 0, none⟩), .bool false, .pointer (some ⟨b6, 0, none⟩), .pointer (some ⟨b7, 0, none⟩), .slice Ap0 p0.length cp0, .slice A3 v2.length c4, .agg #[.slice A3 v2.length c4, .int .i64 0], .pointer (some ⟨b6, 0, none⟩), .agg #[.int .i64 0, .int .i64 0, .int .i64 0, .int .i64 0, .int .i64 0, .int .i64 0], .pointer (some ⟨b6, 0, none⟩), .int .i64 v8, .pointer (some ⟨b7, 0, none⟩), .pointer (some ⟨b6, 0, none⟩), .int .i64 v14, .pointer (some ⟨b7, 1, none⟩), .pointer (some ⟨b6, 0, none⟩), .int .i64 v20, .pointer (some ⟨b7, 2, none⟩), .pointer (some ⟨b6, 0, none⟩), .int .i64 v26, .pointer (some ⟨b7, 3, none⟩), .pointer (some ⟨b6, 0, none⟩), .int .i64 v32, .pointer (some ⟨b7, 4, none⟩), .pointer (some ⟨b6, 0, none⟩), undef, undef, undef, undef, undef, undef, undef, undef, undef, undef, undef, undef, undef, undef] (by kernel_rfl) ?_
  replace hM := bind_some hM
  obtain ⟨⟨v38, v39, v42⟩, h43, hM⟩ := hM
  replace hS : Own w0 D R _ [boxA b6 [.slice A34 v33.length c35, .int .i64 v36], boxA b7 [.int .i64 v8, .int .i64 v14, .int .i64 v20, .int .i64 v26, .int .i64 v32, .int .i64 0], boxA b1 [.int .i64 0, .int .i64 0, .int .i64 0, .int .i64 0, .int .i64 0, .int .i64 0]] [slA (blkOf A3) (Enc.int .u8) A34 c35 v33, slA (blkOf A3) (Enc.int .u8) A28 c29 v27, slA (blkOf A3) (Enc.int .u8) A22 c23 v21, slA (blkOf A3) (Enc.int .u8) A16 c17 v15, slA (blkOf A3) (Enc.int .u8) A10 c11 v9, slA (blkOf A3) (Enc.int .u8) A3 c4 v2, slA Rp0 (Enc.int .u8) Ap0 cp0 p0] := hS.pick 1 rfl
  have hP := Own.pre (Xi := [boxA b6 [.slice A34 v33.length c35, .int .i64 v36]]) (X := [boxA b7 [.int .i64 v8, .int .i64 v14, .int .i64 v20, .int .i64 v26, .int .i64 v32, .int .i64 0], boxA b1 [.int .i64 0, .int .i64 0, .int .i64 0, .int .i64 0, .int .i64 0, .int .i64 0]]) (Si := [slA (blkOf A3) (Enc.int .u8) A34 c35 v33]) hS (forall2 (hS.sl_mem (List.Mem.head _)) forall0) (forall2 (fun _ h => .inl ⟨_, (List.Mem.head _), h⟩) forall0)
  refine s_call 27 #[.pointer (some ⟨b6, 0, none⟩), .int .i64 1099511627776] (by kernel_rfl) (by kernel_rfl) ((intaglioref01_In_Num_W hP h43).mono ?_)
  rintro _ _ ⟨A40, c41, rfl, hQ⟩
  replace hS : Own w0 D R _ [boxA b6 [.slice A40 v39.length c41, .int .i64 v42], boxA b7 [.int .i64 v8, .int .i64 v14, .int .i64 v20, .int .i64 v26, .int .i64 v32, .int .i64 0], boxA b1 [.int .i64 0, .int .i64 0, .int .i64 0, .int .i64 0, .int .i64 0, .int .i64 0]] [slA (blkOf A3) (Enc.int .u8) A40 c41 v39, slA (blkOf A3) (Enc.int .u8) A34 c35 v33, slA (blkOf A3) (Enc.int .u8) A28 c29 v27, slA (blkOf A3) (Enc.int .u8) A22 c23 v21, slA (blkOf A3) (Enc.int .u8) A16 c17 v15, slA (blkOf A3) (Enc.int .u8) A10 c11 v9, slA (blkOf A3) (Enc.int .u8) A3 c4 v2, slA Rp0 (Enc.int .u8) Ap0 cp0 p0] := hS.post hQ (.inr (doms_sub (fun _ h => ⟨_, (List.Mem.head _), h⟩) doms_sub0))
  clear hP hQ
  refine ⟨_, rfl, ?_⟩
  refine seg 1 [.slice Ap0 p0.length cp0, undef, .pointer (some ⟨b1, 0, none⟩), .bool false, .pointer (some ⟨b6, 0, none⟩), .pointer (some ⟨b7, 0, none⟩), .slice Ap0 p0.length cp0, .slice A3 v2.length c4, .agg #[.slice A3 v2.length c4, .int .i64 0], .pointer (some ⟨b6, 0, none⟩), .agg #[.int .i64 0, .int .i64 0, .int .i64 0, .int .i64 0, .int .i64 0, .int .i64 0], .pointer (some ⟨b6, 0, none⟩), .int .i64 v8, .pointer (some ⟨b7, 0, none⟩), .pointer (some ⟨b6, 0, none⟩), .int .i64 v14, .pointer (some ⟨b7, 1, none⟩), .pointer (some ⟨b6, 0, none⟩), .int .i64 v20, .pointer (some ⟨b7, 2, none⟩), .pointer (some ⟨b6, 0, none⟩), .int .i64 v26, .pointer (some ⟨b7, 3, none⟩), .pointer (some ⟨b6, 0, none⟩), .int .i64 v32, .pointer (some ⟨b7, 4, none⟩), .pointer (some ⟨b6, 0, none⟩), .int .i64 v38, .pointer (some ⟨b7, 5, none⟩), undef, undef, undef, undef, undef, undef, undef, undef, undef, undef, undef, undef] (by kernel_rfl) ?_
  replace hS : Own w0 D R _ [boxA b7 [.int .i64 v8, .int .i64 v14, .int .i64 v20, .int .i64 v26, .int .i64 v32, .int .i64 0], boxA b6 [.slice A40 v39.length c41, .int .i64 v42], boxA b1 [.int .i64 0, .int .i64 0, .int .i64 0, .int .i64 0, .int .i64 0, .int .i64 0]] [slA (blkOf A3) (Enc.int .u8) A40 c41 v39, slA (blkOf A3) (Enc.int .u8) A34 c35 v33, slA (blkOf A3) (Enc.int .u8) A28 c29 v27, slA (blkOf A3) (Enc.int .u8) A22 c23 v21, slA (blkOf A3) (Enc.int .u8) A16 c17 v15, slA (blkOf A3) (Enc.int .u8) A10 c11 v9, slA (blkOf A3) (Enc.int .u8) A3 c4 v2, slA Rp0 (Enc.int .u8) Ap0 cp0 p0] := hS.pick 1 rfl
  refine s_store_box (.tmp 28) (.tmp 27) 3 b7 5 [.int .i64 v8, .int .i64 v14, .int .i64 v20, .int .i64 v26, .int .i64 v32, .int .i64 0] [.int .i64 v8, .int .i64 v14, .int .i64 v20, .int .i64 v26, .int .i64 v32, .int .i64 v38] [.int .i64 v38] (.int .i64 v38) rfl (by kernel_rfl) (by kernel_rfl) (by kernel_rfl) rfl (by kernel_rfl) (forall2 rfl forall0) (Nat.le_of_ble_eq_true (by kernel_rfl)) rfl hS (fun _ hS => ?_)
  refine wl_nil ?_
  refine then_normal ?_
  refine wp_seq ?_
  refine wp_seq ?_
  refine wp_reg ?_
  refine s_load_box (.tmp 5) 23 b7 0 6 [.int .i64 v8, .int .i64 v14, .int .i64 v20, .int .i64 v26, .int .i64 v32, .int .i64 v38] [.int .i64 v8, .int .i64 v14, .int .i64 v20, .int .i64 v26, .int .i64 v32, .int .i64 v38] (.agg #[.int .i64 v8, .int .i64 v14, .int .i64 v20, .int .i64 v26, .int .i64 v32, .int .i64 v38]) rfl (by kernel_rfl) (by kernel_rfl) (hS.box_mem (List.Mem.head _)) rfl rfl (Or.inl ⟨by kernel_rfl, by kernel_rfl, rfl⟩) ?_
  replace hM := bind_some hM
  obtain ⟨v44, h45, hM⟩ := hM
  have hP := Own.pre (Xi := []) (X := [boxA b7 [.int .i64 v8, .int .i64 v14, .int .i64 v20, .int .i64 v26, .int .i64 v32, .int .i64 v38], boxA b6 [.slice A40 v39.length c41, .int .i64 v42], boxA b1 [.int .i64 0, .int .i64 0, .int .i64 0, .int .i64 0, .int .i64 0, .int .i64 0]]) (Si := []) hS forall0 forall0
  refine s_call 9 #[.agg #[.int .i64 v8, .int .i64 v14, .int .i64 v20, .int .i64 v26, .int .i64 v32, .int .i64 v38]] (by kernel_rfl) (by kernel_rfl) ((intaglioref07_Valid_W hP doms_nil h45).mono ?_)
  rintro _ _ ⟨rfl, hQ⟩
  replace hS : Own w0 D R _ [boxA b7 [.int .i64 v8, .int .i64 v14, .int .i64 v20, .int .i64 v26, .int .i64 v32, .int .i64 v38], boxA b6 [.slice A40 v39.length c41, .int .i64 v42], boxA b1 [.int .i64 0, .int .i64 0, .int .i64 0, .int .i64 0, .int .i64 0, .int .i64 0]] [slA (blkOf A3) (Enc.int .u8) A40 c41 v39, slA (blkOf A3) (Enc.int .u8) A34 c35 v33, slA (blkOf A3) (Enc.int .u8) A28 c29 v27, slA (blkOf A3) (Enc.int .u8) A22 c23 v21, slA (blkOf A3) (Enc.int .u8) A16 c17 v15, slA (blkOf A3) (Enc.int .u8) A10 c11 v9, slA (blkOf A3) (Enc.int .u8) A3 c4 v2, slA Rp0 (Enc.int .u8) Ap0 cp0 p0] := hS.post hQ (.inl rfl)
  clear hP hQ
  refine ⟨_, rfl, ?_⟩
  refine seg 2 [.slice Ap0 p0.length cp0, undef, .pointer (some ⟨b1, 0, none⟩), .bool false, .pointer (some ⟨b6, 0, none⟩), .pointer (some ⟨b7, 0, none⟩), .slice Ap0 p0.length cp0, .slice A3 v2.length c4, .agg #[.slice A3 v2.length c4, .int .i64 0], .pointer (some ⟨b6, 0, none⟩), .agg #[.int .i64 0, .int .i64 0, .int .i64 0, .int .i64 0, .int .i64 0, .int .i64 0], .pointer (some ⟨b6, 0, none⟩), .int .i64 v8, .pointer (some ⟨b7, 0, none⟩), .pointer (some ⟨b6, 0, none⟩), .int .i64 v14, .pointer (some ⟨b7, 1, none⟩), .pointer (some ⟨b6, 0, none⟩), .int .i64 v20, .pointer (some ⟨b7, 2, none⟩), .pointer (some ⟨b6, 0, none⟩), .int .i64 v26, .pointer (some ⟨b7, 3, none⟩), .pointer (some ⟨b6, 0, none⟩), .int .i64 v32, .pointer (some ⟨b7, 4, none⟩), .pointer (some ⟨b6, 0, none⟩), .int .i64 v38, .pointer (some ⟨b7, 5, none⟩), .agg #[.int .i64 v8, .int .i64 v14, .int .i64 v20, .int .i64 v26, .int .i64 v32, .int .i64 v38], .bool v44, .bool (!v44), .bool (!v44), undef, undef, undef, undef, undef, undef, undef, undef] (by kernel_rfl) ?_
  rcases Bool.eq_false_or_eq_true (!v44) with hc46 | hc46
  · replace hM := (if_pos hc46).symm.trans hM
    rw [hc46]
    refine segEnd [.slice Ap0 p0.length cp0, undef, .pointer (some ⟨b1, 0, none⟩), .bool false, .pointer (some ⟨b6, 0, none⟩), .pointer (some ⟨b7, 0, none⟩), .slice Ap0 p0.length cp0, .slice A3 v2.length c4, .agg #[.slice A3 v2.length c4, .int .i64 0], .pointer (some ⟨b6, 0, none⟩), .agg #[.int .i64 0, .int .i64 0, .int .i64 0, .int .i64 0, .int .i64 0, .int .i64 0], .pointer (some ⟨b6, 0, none⟩), .int .i64 v8, .pointer (some ⟨b7, 0, none⟩), .pointer (some ⟨b6, 0, none⟩), .int .i64 v14, .pointer (some ⟨b7, 1, none⟩), .pointer (some ⟨b6, 0, none⟩), .int .i64 v20, .pointer (some ⟨b7, 2, none⟩), .pointer (some ⟨b6, 0, none⟩), .int .i64 v26, .pointer (some ⟨b7, 3, none⟩), .pointer (some ⟨b6, 0, none⟩), .int .i64 v32, .pointer (some ⟨b7, 4, none⟩), .pointer (some ⟨b6, 0, none⟩), .int .i64 v38, .pointer (some ⟨b7, 5, none⟩), .agg #[.int .i64 v8, .int .i64 v14, .int .i64 v20, .int .i64 v26, .int .i64 v32, .int .i64 v38], .bool v44, .bool true, .bool true, undef, undef, undef, undef, undef, .bool true, undef, undef] (by kernel_rfl) ?_
    refine then_normal ?_
    refine wp_cond_true (by kernel_rfl) ?_
    refine wp_seq ?_
    refine wp_reg ?_
    refine seg 1 [.slice Ap0 p0.length cp0, undef, .pointer (some ⟨b1, 0, none⟩), .bool false, .pointer (some ⟨b6, 0, none⟩), .pointer (some ⟨b7, 0, none⟩), .slice Ap0 p0.length cp0, .slice A3 v2.length c4, .agg #[.slice A3 v2.length c4, .int .i64 0], .pointer (some ⟨b6, 0, none⟩), .agg #[.int .i64 0, .int .i64 0, .int .i64 0, .int .i64 0, .int .i64 0, .int .i64 0], .pointer (some ⟨b6, 0, none⟩), .int .i64 v8, .pointer (some ⟨b7, 0, none⟩), .pointer (some ⟨b6, 0, none⟩), .int .i64 v14, .pointer (some ⟨b7, 1, none⟩), .pointer (some ⟨b6, 0, none⟩), .int .i64 v20, .pointer (some ⟨b7, 2, none⟩), .pointer (some ⟨b6, 0, none⟩), .int .i64 v26, .pointer (some ⟨b7, 3, none⟩), .pointer (some ⟨b6, 0, none⟩), .int .i64 v32, .pointer (some ⟨b7, 4, none⟩), .pointer (some ⟨b6, 0, none⟩), .int .i64 v38, .pointer (some ⟨b7, 5, none⟩), .agg #[.int .i64 v8, .int .i64 v14, .int .i64 v20, .int .i64 v26, .int .i64 v32, .int .i64 v38], .bool v44, .bool true, .bool true, undef, undef, undef, undef, undef, .bool true, .agg #[.int .i64 0, .int .i64 0, .int .i64 0, .int .i64 0, .int .i64 0, .int .i64 0], undef] (by kernel_rfl) ?_
    replace hS : Own w0 D R _ [boxA b1 [.int .i64 0, .int .i64 0, .int .i64 0, .int .i64 0, .int .i64 0, .int .i64 0], boxA b7 [.int .i64 v8, .int .i64 v14, .int .i64 v20, .int .i64 v26, .int .i64 v32, .int .i64 v38], boxA b6 [.slice A40 v39.length c41, .int .i64 v42]] [slA (blkOf A3) (Enc.int .u8) A40 c41 v39, slA (blkOf A3) (Enc.int .u8) A34 c35 v33, slA (blkOf A3) (Enc.int .u8) A28 c29 v27, slA (blkOf A3) (Enc.int .u8) A22 c23 v21, slA (blkOf A3) (Enc.int .u8) A16 c17 v15, slA (blkOf A3) (Enc.int .u8) A10 c11 v9, slA (blkOf A3) (Enc.int .u8) A3 c4 v2, slA Rp0 (Enc.int .u8) Ap0 cp0 p0] := hS.pick 2 rfl
    refine s_store_box (.tmp 2) (.tmp 39) 23 b1 0 [.int .i64 0, .int .i64 0, .int .i64 0, .int .i64 0, .int .i64 0, .int .i64 0] [.int .i64 0, .int .i64 0, .int .i64 0, .int .i64 0, .int .i64 0, .int .i64 0] [.int .i64 0, .int .i64 0, .int .i64 0, .int .i64 0, .int .i64 0, .int .i64 0] (.agg #[.int .i64 0, .int .i64 0, .int .i64 0, .int .i64 0, .int .i64 0, .int .i64 0]) rfl (by kernel_rfl) (by kernel_rfl) (by kernel_rfl) rfl (by kernel_rfl) (forall2 rfl (forall2 rfl (forall2 rfl (forall2 rfl (forall2 rfl (forall2 rfl forall0)))))) (Nat.le_of_ble_eq_true (by kernel_rfl)) rfl hS (fun _ hS => ?_)
    refine segEnd [.slice Ap0 p0.length cp0, undef, .pointer (some ⟨b1, 0, none⟩), .bool false, .pointer (some ⟨b6, 0, none⟩), .pointer (some ⟨b7, 0, none⟩), .slice Ap0 p0.length cp0, .slice A3 v2.length c4, .agg #[.slice A3 v2.length c4, .int .i64 0], .pointer (some ⟨b6, 0, none⟩), .agg #[.int .i64 0, .int .i64 0, .int .i64 0, .int .i64 0, .int .i64 0, .int .i64 0], .pointer (some ⟨b6, 0, none⟩), .int .i64 v8, .pointer (some ⟨b7, 0, none⟩), .pointer (some ⟨b6, 0, none⟩), .int .i64 v14, .pointer (some ⟨b7, 1, none⟩), .pointer (some ⟨b6, 0, none⟩), .int .i64 v20, .pointer (some ⟨b7, 2, none⟩), .pointer (some ⟨b6, 0, none⟩), .int .i64 v26, .pointer (some ⟨b7, 3, none⟩), .pointer (some ⟨b6, 0, none⟩), .int .i64 v32, .pointer (some ⟨b7, 4, none⟩), .pointer (some ⟨b6, 0, none⟩), .int .i64 v38, .pointer (some ⟨b7, 5, none⟩), .agg #[.int .i64 v8, .int .i64 v14, .int .i64 v20, .int .i64 v26, .int .i64 v32, .int .i64 v38], .bool v44, .bool true, .bool true, undef, undef, undef, undef, undef, .bool true, .agg #[.int .i64 0, .int .i64 0, .int .i64 0, .int .i64 0, .int .i64 0, .int .i64 0], undef] (by kernel_rfl) ?_
    refine then_normal ?_
    refine wp_ret ?_
    refine then_ret ?_
    have hbx0 := hS.box_mem (List.Mem.head _)
    replace hS : Own w0 D R _ [] [slA (blkOf A3) (Enc.int .u8) A40 c41 v39, slA (blkOf A3) (Enc.int .u8) A34 c35 v33, slA (blkOf A3) (Enc.int .u8) A28 c29 v27, slA (blkOf A3) (Enc.int .u8) A22 c23 v21, slA (blkOf A3) (Enc.int .u8) A16 c17 v15, slA (blkOf A3) (Enc.int .u8) A10 c11 v9, slA (blkOf A3) (Enc.int .u8) A3 c4 v2, slA Rp0 (Enc.int .u8) Ap0 cp0 p0] := hS.takeX 0
    replace hS : Own w0 D R _ [] [] := hS.dropS forall0
    simp only [Option.some.injEq, Prod.mk.injEq] at hM
    obtain ⟨rfl, rfl, rfl, rfl, rfl, rfl, rfl⟩ := hM
    refine ret_b (.tuple #[.agg #[.int .i64 0, .int .i64 0, .int .i64 0, .int .i64 0, .int .i64 0, .int .i64 0], .bool false]) [(b1, [.int .i64 0, .int .i64 0, .int .i64 0, .int .i64 0, .int .i64 0, .int .i64 0], 0), (b1, [.int .i64 0, .int .i64 0, .int .i64 0, .int .i64 0, .int .i64 0, .int .i64 0], 1), (b1, [.int .i64 0, .int .i64 0, .int .i64 0, .int .i64 0, .int .i64 0, .int .i64 0], 2), (b1, [.int .i64 0, .int .i64 0, .int .i64 0, .int .i64 0, .int .i64 0, .int .i64 0], 3), (b1, [.int .i64 0, .int .i64 0, .int .i64 0, .int .i64 0, .int .i64 0, .int .i64 0], 4), (b1, [.int .i64 0, .int .i64 0, .int .i64 0, .int .i64 0, .int .i64 0, .int .i64 0], 5)] (by kernel_rfl) (forall2 hbx0 (forall2 hbx0 (forall2 hbx0 (forall2 hbx0 (forall2 hbx0 (forall2 hbx0 forall0)))))) ⟨rfl, hS⟩
  · replace hM := (if_neg (Bool.eq_false_iff.1 hc46)).symm.trans hM
    rw [hc46]
    refine s_load_box (.tmp 5) 23 b7 0 6 [.int .i64 v8, .int .i64 v14, .int .i64 v20, .int .i64 v26, .int .i64 v32, .int .i64 v38] [.int .i64 v8, .int .i64 v14, .int .i64 v20, .int .i64 v26, .int .i64 v32, .int .i64 v38] (.agg #[.int .i64 v8, .int .i64 v14, .int .i64 v20, .int .i64 v26, .int .i64 v32, .int .i64 v38]) rfl (by kernel_rfl) (by kernel_rfl) (hS.box_mem (List.Mem.head _)) rfl rfl (Or.inl ⟨by kernel_rfl, by kernel_rfl, rfl⟩) ?_
    replace hM := bind_some hM
    obtain ⟨v47, h50, hM⟩ := hM
    have hP := Own.pre (Xi := []) (X := [boxA b7 [.int .i64 v8, .int .i64 v14, .int .i64 v20, .int .i64 v26, .int .i64 v32, .int .i64 v38], boxA b6 [.slice A40 v39.length c41, .int .i64 v42], boxA b1 [.int .i64 0, .int .i64 0, .int .i64 0, .int .i64 0, .int .i64 0, .int .i64 0]]) (Si := []) hS forall0 forall0
    refine s_call 12 #[.agg #[.int .i64 v8, .int .i64 v14, .int .i64 v20, .int .i64 v26, .int .i64 v32, .int .i64 v38]] (by kernel_rfl) (by kernel_rfl) ((intaglioref07_Bytes_W hP doms_nil h50).mono ?_)
    rintro _ _ ⟨A48, c49, rfl, hQ⟩
    replace hS : Own w0 D R _ [rowA (Enc.int .u8) A48 c49 v47, boxA b7 [.int .i64 v8, .int .i64 v14, .int .i64 v20, .int .i64 v26, .int .i64 v32, .int .i64 v38], boxA b6 [.slice A40 v39.length c41, .int .i64 v42], boxA b1 [.int .i64 0, .int .i64 0, .int .i64 0, .int .i64 0, .int .i64 0, .int .i64 0]] [slA (blkOf A3) (Enc.int .u8) A40 c41 v39, slA (blkOf A3) (Enc.int .u8) A34 c35 v33, slA (blkOf A3) (Enc.int .u8) A28 c29 v27, slA (blkOf A3) (Enc.int .u8) A22 c23 v21, slA (blkOf A3) (Enc.int .u8) A16 c17 v15, slA (blkOf A3) (Enc.int .u8) A10 c11 v9, slA (blkOf A3) (Enc.int .u8) A3 c4 v2, slA Rp0 (Enc.int .u8) Ap0 cp0 p0] := hS.post hQ (.inl rfl)
    clear hP hQ
    refine ⟨_, rfl, ?_⟩
    refine seg 1 [.slice Ap0 p0.length cp0, undef, .pointer (some ⟨b1, 0, none⟩), .bool false, .pointer (some ⟨b6, 0, none⟩), .pointer (some ⟨b7, 0, none⟩), .slice Ap0 p0.length cp0, .slice A3 v2.length c4, .agg #[.slice A3 v2.length c4, .int .i64 0], .pointer (some ⟨b6, 0, none⟩), .agg #[.int .i64 0, .int .i64 0, .int .i64 0, .int .i64 0, .int .i64 0, .int .i64 0], .pointer (some ⟨b6, 0, none⟩), .int .i64 v8, .pointer (some ⟨b7, 0, none⟩), .pointer (some ⟨b6, 0, none⟩), .int .i64 v14, .pointer (some ⟨b7, 1, none⟩), .pointer (some ⟨b6, 0, none⟩), .int .i64 v20, .pointer (some ⟨b7, 2, none⟩), .pointer (some ⟨b6, 0, none⟩), .int .i64 v26, .pointer (some ⟨b7, 3, none⟩), .pointer (some ⟨b6, 0, none⟩), .int .i64 v32, .pointer (some ⟨b7, 4, none⟩), .pointer (some ⟨b6, 0, none⟩), .int .i64 v38, .pointer (some ⟨b7, 5, none⟩), .agg #[.int .i64 v8, .int .i64 v14, .int .i64 v20, .int .i64 v26, .int .i64 v32, .int .i64 v38], .bool v44, .bool false, .bool false, .agg #[.int .i64 v8, .int .i64 v14, .int .i64 v20, .int .i64 v26, .int .i64 v32, .int .i64 v38], .slice A48 v47.length c49, .slice Ap0 p0.length cp0, undef, undef, undef, undef, undef] (by kernel_rfl) ?_
    replace hM := bind_some hM
    obtain ⟨v51, h52, hM⟩ := hM
    have hP := Own.pre (Xi := []) (X := [rowA (Enc.int .u8) A48 c49 v47, boxA b7 [.int .i64 v8, .int .i64 v14, .int .i64 v20, .int .i64 v26, .int .i64 v32, .int .i64 v38], boxA b6 [.slice A40 v39.length c41, .int .i64 v42], boxA b1 [.int .i64 0, .int .i64 0, .int .i64 0, .int .i64 0, .int .i64 0, .int .i64 0]]) (Si := [slA (blkOf A48) (Enc.int .u8) A48 c49 v47, slA Rp0 (Enc.int .u8) Ap0 cp0 p0]) hS (forall2 (sl_of_row (hS.row_mem (List.Mem.head _))) (forall2 (hS.sl_mem (List.Mem.tail _ (List.Mem.tail _ (List.Mem.tail _ (List.Mem.tail _ (List.Mem.tail _ (List.Mem.tail _ (List.Mem.tail _ (List.Mem.head _))))))))) forall0)) (forall2 (fun _ h => .inr ⟨_, (List.Mem.head _), h⟩) (forall2 (fun _ h => .inl ⟨_, (List.Mem.tail _ (List.Mem.tail _ (List.Mem.tail _ (List.Mem.tail _ (List.Mem.tail _ (List.Mem.tail _ (List.Mem.tail _ (List.Mem.head _)))))))), h⟩) forall0))
    refine s_call 28 #[.slice A48 v47.length c49, .slice Ap0 p0.length cp0] (by kernel_rfl) (by kernel_rfl) ((intaglioref07_Same_W hP doms_nil h52).mono ?_)
    rintro _ _ ⟨rfl, hQ⟩
    replace hS : Own w0 D R _ [rowA (Enc.int .u8) A48 c49 v47, boxA b7 [.int .i64 v8, .int .i64 v14, .int .i64 v20, .int .i64 v26, .int .i64 v32, .int .i64 v38], boxA b6 [.slice A40 v39.length c41, .int .i64 v42], boxA b1 [.int .i64 0, .int .i64 0, .int .i64 0, .int .i64 0, .int .i64 0, .int .i64 0]] [slA (blkOf A3) (Enc.int .u8) A40 c41 v39, slA (blkOf A3) (Enc.int .u8) A34 c35 v33, slA (blkOf A3) (Enc.int .u8) A28 c29 v27, slA (blkOf A3) (Enc.int .u8) A22 c23 v21, slA (blkOf A3) (Enc.int .u8) A16 c17 v15, slA (blkOf A3) (Enc.int .u8) A10 c11 v9, slA (blkOf A3) (Enc.int .u8) A3 c4 v2, slA Rp0 (Enc.int .u8) Ap0 cp0 p0] := hS.post hQ (.inl rfl)
    clear hP hQ
    refine ⟨_, rfl, ?_⟩
    refine segEnd [.slice Ap0 p0.length cp0, undef, .pointer (some ⟨b1, 0, none⟩), .bool false, .pointer (some ⟨b6, 0, none⟩), .pointer (some ⟨b7, 0, none⟩), .slice Ap0 p0.length cp0, .slice A3 v2.length c4, .agg #[.slice A3 v2.length c4, .int .i64 0], .pointer (some ⟨b6, 0, none⟩), .agg #[.int .i64 0, .int .i64 0, .int .i64 0, .int .i64 0, .int .i64 0, .int .i64 0], .pointer (some ⟨b6, 0, none⟩), .int .i64 v8, .pointer (some ⟨b7, 0, none⟩), .pointer (some ⟨b6, 0, none⟩), .int .i64 v14, .pointer (some ⟨b7, 1, none⟩), .pointer (some ⟨b6, 0, none⟩), .int .i64 v20, .pointer (some ⟨b7, 2, none⟩), .pointer (some ⟨b6, 0, none⟩), .int .i64 v26, .pointer (some ⟨b7, 3, none⟩), .pointer (some ⟨b6, 0, none⟩), .int .i64 v32, .pointer (some ⟨b7, 4, none⟩), .pointer (some ⟨b6, 0, none⟩), .int .i64 v38, .pointer (some ⟨b7, 5, none⟩), .agg #[.int .i64 v8, .int .i64 v14, .int .i64 v20, .int .i64 v26, .int .i64 v32, .int .i64 v38], .bool v44, .bool false, .bool false, .agg #[.int .i64 v8, .int .i64 v14, .int .i64 v20, .int .i64 v26, .int .i64 v32, .int .i64 v38], .slice A48 v47.length c49, .slice Ap0 p0.length cp0, .bool v51, .bool (!v51), .bool (!v51), undef, undef] (by kernel_rfl) ?_
    refine then_normal ?_
    refine wp_cond_split (t := !v51) (by kernel_rfl) (fun hc53 => ?_) (fun hc53 => ?_)
    · replace hM := (if_pos hc53).symm.trans hM
      refine wp_seq ?_
      refine wp_reg ?_
      refine seg 1 [.slice Ap0 p0.length cp0, undef, .pointer (some ⟨b1, 0, none⟩), .bool false, .pointer (some ⟨b6, 0, none⟩), .pointer (some ⟨b7, 0, none⟩), .slice Ap0 p0.length cp0, .slice A3 v2.length c4, .agg #[.slice A3 v2.length c4, .int .i64 0], .pointer (some ⟨b6, 0, none⟩), .agg #[.int .i64 0, .int .i64 0, .int .i64 0, .int .i64 0, .int .i64 0, .int .i64 0], .pointer (some ⟨b6, 0, none⟩), .int .i64 v8, .pointer (some ⟨b7, 0, none⟩), .pointer (some ⟨b6, 0, none⟩), .int .i64 v14, .pointer (some ⟨b7, 1, none⟩), .pointer (some ⟨b6, 0, none⟩), .int .i64 v20, .pointer (some ⟨b7, 2, none⟩), .pointer (some ⟨b6, 0, none⟩), .int .i64 v26, .pointer (some ⟨b7, 3, none⟩), .pointer (some ⟨b6, 0, none⟩), .int .i64 v32, .pointer (some ⟨b7, 4, none⟩), .pointer (some ⟨b6, 0, none⟩), .int .i64 v38, .pointer (some ⟨b7, 5, none⟩), .agg #[.int .i64 v8, .int .i64 v14, .int .i64 v20, .int .i64 v26, .int .i64 v32, .int .i64 v38], .bool v44, .bool false, .bool false, .agg #[.int .i64 v8, .int .i64 v14, .int .i64 v20, .int .i64 v26, .int .i64 v32, .int .i64 v38], .slice A48 v47.length c49, .slice Ap0 p0.length cp0, .bool v51, .bool (!v51), .bool (!v51), .agg #[.int .i64 0, .int .i64 0, .int .i64 0, .int .i64 0, .int .i64 0, .int .i64 0], undef] (by kernel_rfl) ?_
      replace hS : Own w0 D R _ [boxA b1 [.int .i64 0, .int .i64 0, .int .i64 0, .int .i64 0, .int .i64 0, .int .i64 0], rowA (Enc.int .u8) A48 c49 v47, boxA b7 [.int .i64 v8, .int .i64 v14, .int .i64 v20, .int .i64 v26, .int .i64 v32, .int .i64 v38], boxA b6 [.slice A40 v39.length c41, .int .i64 v42]] [slA (blkOf A3) (Enc.int .u8) A40 c41 v39, slA (blkOf A3) (Enc.int .u8) A34 c35 v33, slA (blkOf A3) (Enc.int .u8) A28 c29 v27, slA (blkOf A3) (Enc.int .u8) A22 c23 v21, slA (blkOf A3) (Enc.int .u8) A16 c17 v15, slA (blkOf A3) (Enc.int .u8) A10 c11 v9, slA (blkOf A3) (Enc.int .u8) A3 c4 v2, slA Rp0 (Enc.int .u8) Ap0 cp0 p0] := hS.pick 3 rfl
      refine s_store_box (.tmp 2) (.tmp 39) 23 b1 0 [.int .i64 0, .int .i64 0, .int .i64 0, .int .i64 0, .int .i64 0, .int .i64 0] [.int .i64 0, .int .i64 0, .int .i64 0, .int .i64 0, .int .i64 0, .int .i64 0] [.int .i64 0, .int .i64 0, .int .i64 0, .int .i64 0, .int .i64 0, .int .i64 0] (.agg #[.int .i64 0, .int .i64 0, .int .i64 0, .int .i64 0, .int .i64 0, .int .i64 0]) rfl (by kernel_rfl) (by kernel_rfl) (by kernel_rfl) rfl (by kernel_rfl) (forall2 rfl (forall2 rfl (forall2 rfl (forall2 rfl (forall2 rfl (forall2 rfl forall0)))))) (Nat.le_of_ble_eq_true (by kernel_rfl)) rfl hS (fun _ hS => ?_)
      refine segEnd [.slice Ap0 p0.length cp0, undef, .pointer (some ⟨b1, 0, none⟩), .bool false, .pointer (some ⟨b6, 0, none⟩), .pointer (some ⟨b7, 0, none⟩), .slice Ap0 p0.length cp0, .slice A3 v2.length c4, .agg #[.slice A3 v2.length c4, .int .i64 0], .pointer (some ⟨b6, 0, none⟩), .agg #[.int .i64 0, .int .i64 0, .int .i64 0, .int .i64 0, .int .i64 0, .int .i64 0], .pointer (some ⟨b6, 0, none⟩), .int .i64 v8, .pointer (some ⟨b7, 0, none⟩), .pointer (some ⟨b6, 0, none⟩), .int .i64 v14, .pointer (some ⟨b7, 1, none⟩), .pointer (some ⟨b6, 0, none⟩), .int .i64 v20, .pointer (some ⟨b7, 2, none⟩), .pointer (some ⟨b6, 0, none⟩), .int .i64 v26, .pointer (some ⟨b7, 3, none⟩), .pointer (some ⟨b6, 0, none⟩), .int .i64 v32, .pointer (some ⟨b7, 4, none⟩), .pointer (some ⟨b6, 0, none⟩), .int .i64 v38, .pointer (some ⟨b7, 5, none⟩), .agg #[.int .i64 v8, .int .i64 v14, .int .i64 v20, .int .i64 v26, .int .i64 v32, .int .i64 v38], .bool v44, .bool false, .bool false, .agg #[.int .i64 v8, .int .i64 v14, .int .i64 v20, .int .i64 v26, .int .i64 v32, .int .i64 v38], .slice A48 v47.length c49, .slice Ap0 p0.length cp0, .bool v51, .bool (!v51), .bool (!v51), .agg #[.int .i64 0, .int .i64 0, .int .i64 0, .int .i64 0, .int .i64 0, .int .i64 0], undef] (by kernel_rfl) ?_
      refine then_normal ?_
      refine wp_ret ?_
      refine then_ret ?_
      have hbx0 := hS.box_mem (List.Mem.head _)
      replace hS : Own w0 D R _ [] [slA (blkOf A3) (Enc.int .u8) A40 c41 v39, slA (blkOf A3) (Enc.int .u8) A34 c35 v33, slA (blkOf A3) (Enc.int .u8) A28 c29 v27, slA (blkOf A3) (Enc.int .u8) A22 c23 v21, slA (blkOf A3) (Enc.int .u8) A16 c17 v15, slA (blkOf A3) (Enc.int .u8) A10 c11 v9, slA (blkOf A3) (Enc.int .u8) A3 c4 v2, slA Rp0 (Enc.int .u8) Ap0 cp0 p0] := hS.takeX 0
      replace hS : Own w0 D R _ [] [] := hS.dropS forall0
      simp only [Option.some.injEq, Prod.mk.injEq] at hM
      obtain ⟨rfl, rfl, rfl, rfl, rfl, rfl, rfl⟩ := hM
      refine ret_b (.tuple #[.agg #[.int .i64 0, .int .i64 0, .int .i64 0, .int .i64 0, .int .i64 0, .int .i64 0], .bool false]) [(b1, [.int .i64 0, .int .i64 0, .int .i64 0, .int .i64 0, .int .i64 0, .int .i64 0], 0), (b1, [.int .i64 0, .int .i64 0, .int .i64 0, .int .i64 0, .int .i64 0, .int .i64 0], 1), (b1, [.int .i64 0, .int .i64 0, .int .i64 0, .int .i64 0, .int .i64 0, .int .i64 0], 2), (b1, [.int .i64 0, .int .i64 0, .int .i64 0, .int .i64 0, .int .i64 0, .int .i64 0], 3), (b1, [.int .i64 0, .int .i64 0, .int .i64 0, .int .i64 0, .int .i64 0, .int .i64 0], 4), (b1, [.int .i64 0, .int .i64 0, .int .i64 0, .int .i64 0, .int .i64 0, .int .i64 0], 5)] (by kernel_rfl) (forall2 hbx0 (forall2 hbx0 (forall2 hbx0 (forall2 hbx0 (forall2 hbx0 (forall2 hbx0 forall0)))))) ⟨rfl, hS⟩
    · replace hM := (if_neg (Bool.eq_false_iff.1 hc53)).symm.trans hM
      refine wp_skip ?_
      refine then_normal ?_
      refine wp_seq ?_
      refine wp_reg ?_
      refine s_load_box (.tmp 5) 23 b7 0 6 [.int .i64 v8, .int .i64 v14, .int .i64 v20, .int .i64 v26, .int .i64 v32, .int .i64 v38] [.int .i64 v8, .int .i64 v14, .int .i64 v20, .int .i64 v26, .int .i64 v32, .int .i64 v38] (.agg #[.int .i64 v8, .int .i64 v14, .int .i64 v20, .int .i64 v26, .int .i64 v32, .int .i64 v38]) rfl (by kernel_rfl) (by kernel_rfl) (hS.box_mem (List.Mem.tail _ (List.Mem.head _))) rfl rfl (Or.inl ⟨by kernel_rfl, by kernel_rfl, rfl⟩) ?_
      replace hS : Own w0 D R _ [boxA b1 [.int .i64 0, .int .i64 0, .int .i64 0, .int .i64 0, .int .i64 0, .int .i64 0], rowA (Enc.int .u8) A48 c49 v47, boxA b7 [.int .i64 v8, .int .i64 v14, .int .i64 v20, .int .i64 v26, .int .i64 v32, .int .i64 v38], boxA b6 [.slice A40 v39.length c41, .int .i64 v42]] [slA (blkOf A3) (Enc.int .u8) A40 c41 v39, slA (blkOf A3) (Enc.int .u8) A34 c35 v33, slA (blkOf A3) (Enc.int .u8) A28 c29 v27, slA (blkOf A3) (Enc.int .u8) A22 c23 v21, slA (blkOf A3) (Enc.int .u8) A16 c17 v15, slA (blkOf A3) (Enc.int .u8) A10 c11 v9, slA (blkOf A3) (Enc.int .u8) A3 c4 v2, slA Rp0 (Enc.int .u8) Ap0 cp0 p0] := hS.pick 3 rfl
      refine s_store_box (.tmp 2) (.tmp 40) 23 b1 0 [.int .i64 0, .int .i64 0, .int .i64 0, .int .i64 0, .int .i64 0, .int .i64 0] [.int .i64 v8, .int .i64 v14, .int .i64 v20, .int .i64 v26, .int .i64 v32, .int .i64 v38] [.int .i64 v8, .int .i64 v14, .int .i64 v20, .int .i64 v26, .int .i64 v32, .int .i64 v38] (.agg #[.int .i64 v8, .int .i64 v14, .int .i64 v20, .int .i64 v26, .int .i64 v32, .int .i64 v38]) rfl (by kernel_rfl) (by kernel_rfl) (by kernel_rfl) rfl (by kernel_rfl) (forall2 rfl (forall2 rfl (forall2 rfl (forall2 rfl (forall2 rfl (forall2 rfl forall0)))))) (Nat.le_of_ble_eq_true (by kernel_rfl)) rfl hS (fun _ hS => ?_)
      refine segEnd [.slice Ap0 p0.length cp0, undef, .pointer (some ⟨b1, 0, none⟩), .bool true, .pointer (some ⟨b6, 0, none⟩), .pointer (some ⟨b7, 0, none⟩), .slice Ap0 p0.length cp0, .slice A3 v2.length c4, .agg #[.slice A3 v2.length c4, .int .i64 0], .pointer (some ⟨b6, 0, none⟩), .agg #[.int .i64 0, .int .i64 0, .int .i64 0, .int .i64 0, .int .i64 0, .int .i64 0], .pointer (some ⟨b6, 0, none⟩), .int .i64 v8, .pointer (some ⟨b7, 0, none⟩), .pointer (some ⟨b6, 0, none⟩), .int .i64 v14, .pointer (some ⟨b7, 1, none⟩), .pointer (some ⟨b6, 0, none⟩), .int .i64 v20, .pointer (some ⟨b7, 2, none⟩), .pointer (some ⟨b6, 0, none⟩), .int .i64 v26, .pointer (some ⟨b7, 3, none⟩), .pointer (some ⟨b6, 0, none⟩), .int .i64 v32, .pointer (some ⟨b7, 4, none⟩), .pointer (some ⟨b6, 0, none⟩), .int .i64 v38, .pointer (some ⟨b7, 5, none⟩), .agg #[.int .i64 v8, .int .i64 v14, .int .i64 v20, .int .i64 v26, .int .i64 v32, .int .i64 v38], .bool v44, .bool false, .bool false, .agg #[.int .i64 v8, .int .i64 v14, .int .i64 v20, .int .i64 v26, .int .i64 v32, .int .i64 v38], .slice A48 v47.length c49, .slice Ap0 p0.length cp0, .bool v51, .bool (!v51), .bool (!v51), undef, .agg #[.int .i64 v8, .int .i64 v14, .int .i64 v20, .int .i64 v26, .int .i64 v32, .int .i64 v38]] (by kernel_rfl) ?_
      refine then_normal ?_
      refine wp_ret ?_
      have hbx0 := hS.box_mem (List.Mem.head _)
      replace hS : Own w0 D R _ [] [slA (blkOf A3) (Enc.int .u8) A40 c41 v39, slA (blkOf A3) (Enc.int .u8) A34 c35 v33, slA (blkOf A3) (Enc.int .u8) A28 c29 v27, slA (blkOf A3) (Enc.int .u8) A22 c23 v21, slA (blkOf A3) (Enc.int .u8) A16 c17 v15, slA (blkOf A3) (Enc.int .u8) A10 c11 v9, slA (blkOf A3) (Enc.int .u8) A3 c4 v2, slA Rp0 (Enc.int .u8) Ap0 cp0 p0] := hS.takeX 0
      replace hS : Own w0 D R _ [] [] := hS.dropS forall0
      simp only [Option.some.injEq, Prod.mk.injEq] at hM
      obtain ⟨rfl, rfl, rfl, rfl, rfl, rfl, rfl⟩ := hM
      refine ret_b (.tuple #[.agg #[.int .i64 v8, .int .i64 v14, .int .i64 v20, .int .i64 v26, .int .i64 v32, .int .i64 v38], .bool true]) [(b1, [.int .i64 v8, .int .i64 v14, .int .i64 v20, .int .i64 v26, .int .i64 v32, .int .i64 v38], 0), (b1, [.int .i64 v8, .int .i64 v14, .int .i64 v20, .int .i64 v26, .int .i64 v32, .int .i64 v38], 1), (b1, [.int .i64 v8, .int .i64 v14, .int .i64 v20, .int .i64 v26, .int .i64 v32, .int .i64 v38], 2), (b1, [.int .i64 v8, .int .i64 v14, .int .i64 v20, .int .i64 v26, .int .i64 v32, .int .i64 v38], 3), (b1, [.int .i64 v8, .int .i64 v14, .int .i64 v20, .int .i64 v26, .int .i64 v32, .int .i64 v38], 4), (b1, [.int .i64 v8, .int .i64 v14, .int .i64 v20, .int .i64 v26, .int .i64 v32, .int .i64 v38], 5)] (by kernel_rfl) (forall2 hbx0 (forall2 hbx0 (forall2 hbx0 (forall2 hbx0 (forall2 hbx0 (forall2 hbx0 forall0)))))) ⟨rfl, hS⟩

end Go.Proofs.Ytcpddgjmopdlbaa
