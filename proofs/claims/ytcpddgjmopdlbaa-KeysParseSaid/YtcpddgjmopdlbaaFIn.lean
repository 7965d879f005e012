/- The Go functions come to what their models say (In). -/
import Derived.Test.YtcpddgjmopdlbaaTy
import Derived.Test.YtcpddgjmopdlbaaMIn
namespace Go.Proofs.Ytcpddgjmopdlbaa
open Go Go.Lift
set_option maxRecDepth 100000
set_option maxHeartbeats 4000000
set_option linter.unusedVariables false

theorem intaglioref01_In_fail_W {w0 w : World} {D R : Nat → Prop} {b0 : Nat} {Rp0_0 : Nat → Prop} {Ap0_0 : Option Addr} {cp0_0 : Nat} {p0_0 : List Int} {p0_1 : Int} {p1 : Int} {r0 : List Int} {r1 : Int} (hS : Own w0 D R w [boxA b0 [.slice Ap0_0 p0_0.length cp0_0, .int .i64 p0_1]] [slA Rp0_0 (Enc.int .u8) Ap0_0 cp0_0 p0_0]) (hM : intaglioref01_In_fail_M p0_0 p0_1 p1 = some (r0, r1)) :
    Calls Go.Proofs.Try.prog 37 #[.pointer (some ⟨b0, 0, none⟩), .int .i64 p1] w (fun e w' => ∃ (ZA1 : Option Addr) (Zc2 : Nat), e = .returned (.tuple #[]) ∧ Own w0 D R w' [boxA b0 [.slice ZA1 r0.length Zc2, .int .i64 r1]] [slA Rp0_0 (Enc.int .u8) ZA1 Zc2 r0]) := by
  refine enter (fn := Go.Proofs.Try.f37) [.pointer (some ⟨b0, 0, none⟩), .int .i64 p1, undef, undef, undef, undef, undef, undef, undef, undef, undef, undef, undef, undef, undef, undef] (by kernel_rfl) rfl (by kernel_rfl) ?_
  unfold intaglioref01_In_fail_M at hM
  refine wp_seq ?_
  refine wp_seq ?_
  refine wp_reg ?_
  refine seg 3 [.pointer (some ⟨b0, 0, none⟩), .int .i64 p1, undef, undef, .pointer (some ⟨b0, 0, none⟩), .pointer (some ⟨b0, 0, none⟩), .pointer (some ⟨b0, 1, none⟩), undef, undef, undef, undef, undef, undef, undef, undef, undef] (by kernel_rfl) ?_
  refine s_load_box (.tmp 6) 3 b0 1 1 [.slice Ap0_0 p0_0.length cp0_0, .int .i64 p0_1] [.int .i64 p0_1] (.int .i64 p0_1) rfl (by kernel_rfl) (by kernel_rfl) (hS.box_mem (List.Mem.head _)) rfl rfl (Or.inr ⟨by kernel_rfl, rfl⟩) ?_
  refine segEnd [.pointer (some ⟨b0, 0, none⟩), .int .i64 p1, undef, undef, .pointer (some ⟨b0, 0, none⟩), .pointer (some ⟨b0, 0, none⟩), .pointer (some ⟨b0, 1, none⟩), .int .i64 p0_1, .bool (p0_1 == 0), undef, undef, undef, undef, undef, undef, undef] (by kernel_rfl) ?_
  refine then_normal ?_
  refine wp_cond_split (t := (p0_1 == 0)) (by kernel_rfl) (fun hc1 => ?_) (fun hc1 => ?_)
  · replace hM := (if_pos hc1).symm.trans hM
    refine wp_reg ?_
    refine seg 4 [.pointer (some ⟨b0, 0, none⟩), .int .i64 p1, undef, undef, .pointer (some ⟨b0, 0, none⟩), .pointer (some ⟨b0, 0, none⟩), .pointer (some ⟨b0, 1, none⟩), .int .i64 p0_1, .bool (p0_1 == 0), .pointer (some ⟨b0, 0, none⟩), .int .i64 p1, .pointer (some ⟨b0, 0, none⟩), .pointer (some ⟨b0, 1, none⟩), undef, undef, undef] (by kernel_rfl) ?_
    refine s_store_box (.tmp 12) (.tmp 10) 3 b0 1 [.slice Ap0_0 p0_0.length cp0_0, .int .i64 p0_1] [.slice Ap0_0 p0_0.length cp0_0, .int .i64 p1] [.int .i64 p1] (.int .i64 p1) rfl (by kernel_rfl) (by kernel_rfl) (by kernel_rfl) rfl (by kernel_rfl) (forall2 rfl forall0) (Nat.le_of_ble_eq_true (by kernel_rfl)) rfl hS (fun _ hS => ?_)
    refine wl_nil ?_
    refine then_normal ?_
    refine wp_reg ?_
    refine seg 3 [.pointer (some ⟨b0, 0, none⟩), .int .i64 p1, undef, undef, .pointer (some ⟨b0, 0, none⟩), .pointer (some ⟨b0, 0, none⟩), .pointer (some ⟨b0, 1, none⟩), .int .i64 p0_1, .bool (p0_1 == 0), .pointer (some ⟨b0, 0, none⟩), .int .i64 p1, .pointer (some ⟨b0, 0, none⟩), .pointer (some ⟨b0, 1, none⟩), .pointer (some ⟨b0, 0, none⟩), .pointer (some ⟨b0, 0, none⟩), .pointer (some ⟨b0, 0, none⟩)] (by kernel_rfl) ?_
    refine s_store_box (.tmp 15) (.const (.slice none 0 0)) 26 b0 0 [.slice Ap0_0 p0_0.length cp0_0, .int .i64 p1] [.slice none 0 0, .int .i64 p1] [.slice none 0 0] (.slice none 0 0) rfl (by kernel_rfl) (by kernel_rfl) (by kernel_rfl) rfl (by kernel_rfl) (forall2 rfl forall0) (Nat.le_of_ble_eq_true (by kernel_rfl)) rfl hS (fun _ hS => ?_)
    refine wl_nil ?_
    replace hS := hS.addNilS Rp0_0 (Enc.int .u8) (fun _ h => ⟨_, (List.Mem.head _), h⟩)
    replace hS : Own w0 D R _ [boxA b0 [.slice none 0 0, .int .i64 p1]] [slA Rp0_0 (Enc.int .u8) none 0 []] := hS.dropS (forall2 (List.Mem.head _) forall0)
    simp only [Option.some.injEq, Prod.mk.injEq] at hM
    obtain ⟨rfl, rfl⟩ := hM
    refine end_v (.tuple #[]) (by kernel_rfl) ⟨none, 0, rfl, hS⟩
  · replace hM := (if_neg (Bool.eq_false_iff.1 hc1)).symm.trans hM
    refine wp_skip ?_
    refine then_normal ?_
    refine wp_reg ?_
    refine seg 3 [.pointer (some ⟨b0, 0, none⟩), .int .i64 p1, undef, undef, .pointer (some ⟨b0, 0, none⟩), .pointer (some ⟨b0, 0, none⟩), .pointer (some ⟨b0, 1, none⟩), .int .i64 p0_1, .bool (p0_1 == 0), undef, undef, undef, undef, .pointer (some ⟨b0, 0, none⟩), .pointer (some ⟨b0, 0, none⟩), .pointer (some ⟨b0, 0, none⟩)] (by kernel_rfl) ?_
    refine s_store_box (.tmp 15) (.const (.slice none 0 0)) 26 b0 0 [.slice Ap0_0 p0_0.length cp0_0, .int .i64 p0_1] [.slice none 0 0, .int .i64 p0_1] [.slice none 0 0] (.slice none 0 0) rfl (by kernel_rfl) (by kernel_rfl) (by kernel_rfl) rfl (by kernel_rfl) (forall2 rfl forall0) (Nat.le_of_ble_eq_true (by kernel_rfl)) rfl hS (fun _ hS => ?_)
    refine wl_nil ?_
    replace hS := hS.addNilS Rp0_0 (Enc.int .u8) (fun _ h => ⟨_, (List.Mem.head _), h⟩)
    replace hS : Own w0 D R _ [boxA b0 [.slice none 0 0, .int .i64 p0_1]] [slA Rp0_0 (Enc.int .u8) none 0 []] := hS.dropS (forall2 (List.Mem.head _) forall0)
    simp only [Option.some.injEq, Prod.mk.injEq] at hM
    obtain ⟨rfl, rfl⟩ := hM
    refine end_v (.tuple #[]) (by kernel_rfl) ⟨none, 0, rfl, hS⟩

theorem intaglioref01_In_U_W {w0 w : World} {D R : Nat → Prop} {b0 : Nat} {Rp0_0 : Nat → Prop} {Ap0_0 : Option Addr} {cp0_0 : Nat} {p0_0 : List Int} {p0_1 : Int} {p1 : Int} {r0 : Int} {r1 : List Int} {r2 : Int} (hS : Own w0 D R w [boxA b0 [.slice Ap0_0 p0_0.length cp0_0, .int .i64 p0_1]] [slA Rp0_0 (Enc.int .u8) Ap0_0 cp0_0 p0_0]) (hM : intaglioref01_In_U_M p0_0 p0_1 p1 = some (r0, r1, r2)) :
    Calls Go.Proofs.Try.prog 36 #[.pointer (some ⟨b0, 0, none⟩), .int .i64 p1] w (fun e w' => ∃ (ZA1 : Option Addr) (Zc2 : Nat), e = .returned (.int .u64 r0) ∧ Own w0 D R w' [boxA b0 [.slice ZA1 r1.length Zc2, .int .i64 r2]] [slA Rp0_0 (Enc.int .u8) ZA1 Zc2 r1]) := by
  refine enter (fn := Go.Proofs.Try.f36) [.pointer (some ⟨b0, 0, none⟩), .int .i64 p1, undef, undef, undef, undef, undef, undef, undef, undef, undef, undef, undef, undef, undef, undef, undef, undef, undef, undef, undef, undef, undef, undef, undef, undef, undef, undef, undef, undef, undef, undef, undef, undef, undef, undef, undef, undef, undef, undef, undef, undef] (by kernel_rfl) rfl (by kernel_rfl) ?_
  unfold intaglioref01_In_U_M at hM
  refine wp_seq ?_
  refine wp_reg ?_
  refine segEnd [.pointer (some ⟨b0, 0, none⟩), .int .i64 p1, undef, undef, .int .u64 0, undef, undef, undef, undef, undef, undef, undef, undef, undef, undef, undef, undef, undef, undef, undef, undef, undef, undef, undef, undef, undef, undef, undef, undef, undef, undef, undef, undef, undef, undef, undef, undef, undef, undef, undef, undef, undef] (by kernel_rfl) ?_
  refine then_normal ?_
  refine wp_seq ?_
  refine wp_seq ?_
  refine wp_reg ?_
  refine seg 3 [.pointer (some ⟨b0, 0, none⟩), .int .i64 p1, undef, undef, .int .u64 0, undef, undef, .pointer (some ⟨b0, 0, none⟩), .pointer (some ⟨b0, 0, none⟩), .pointer (some ⟨b0, 0, none⟩), undef, undef, undef, undef, undef, undef, undef, undef, undef, undef, undef, undef, undef, undef, undef, undef, undef, undef, undef, undef, undef, undef, undef, undef, undef, undef, undef, undef, undef, undef, undef, undef] (by kernel_rfl) ?_
  refine s_load_box (.tmp 9) 26 b0 0 1 [.slice Ap0_0 p0_0.length cp0_0, .int .i64 p0_1] [.slice Ap0_0 p0_0.length cp0_0] (.slice Ap0_0 p0_0.length cp0_0) rfl (by kernel_rfl) (by kernel_rfl) (hS.box_mem (List.Mem.head _)) rfl rfl (Or.inr ⟨by kernel_rfl, rfl⟩) ?_
  refine segEnd [.pointer (some ⟨b0, 0, none⟩), .int .i64 p1, undef, undef, .int .u64 0, undef, undef, .pointer (some ⟨b0, 0, none⟩), .pointer (some ⟨b0, 0, none⟩), .pointer (some ⟨b0, 0, none⟩), .slice Ap0_0 p0_0.length cp0_0, .int .i64 (p0_0.length : Int), .int .i64 p1, .bool (decide ((p0_0.length : Int) < p1)), undef, undef, undef, undef, undef, undef, undef, undef, undef, undef, undef, undef, undef, undef, undef, undef, undef, undef, undef, undef, undef, undef, undef, undef, undef, undef, undef, undef] (by kernel_rfl) ?_
  refine then_normal ?_
  refine wp_cond_split (t := decide ((p0_0.length : Int) < p1)) (by kernel_rfl) (fun hc1 => ?_) (fun hc1 => ?_)
  · replace hM := (if_pos hc1).symm.trans hM
    refine wp_seq ?_
    refine wp_reg ?_
    refine seg 1 [.pointer (some ⟨b0, 0, none⟩), .int .i64 p1, undef, undef, .int .u64 0, undef, undef, .pointer (some ⟨b0, 0, none⟩), .pointer (some ⟨b0, 0, none⟩), .pointer (some ⟨b0, 0, none⟩), .slice Ap0_0 p0_0.length cp0_0, .int .i64 (p0_0.length : Int), .int .i64 p1, .bool (decide ((p0_0.length : Int) < p1)), .pointer (some ⟨b0, 0, none⟩), undef, undef, undef, undef, undef, undef, undef, undef, undef, undef, undef, undef, undef, undef, undef, undef, undef, undef, undef, undef, undef, undef, undef, undef, undef, undef, undef] (by kernel_rfl) ?_
    replace hM := bind_some hM
    obtain ⟨⟨v2, v5⟩, h6, hM⟩ := hM
    have hP := Own.pre (Xi := [boxA b0 [.slice Ap0_0 p0_0.length cp0_0, .int .i64 p0_1]]) (X := []) (Si := [slA Rp0_0 (Enc.int .u8) Ap0_0 cp0_0 p0_0]) hS (forall2 (hS.sl_mem (List.Mem.head _)) forall0) (forall2 (fun _ h => .inl ⟨_, (List.Mem.head _), h⟩) forall0)
    refine s_call 37 #[.pointer (some ⟨b0, 0, none⟩), .int .i64 4] (by kernel_rfl) (by kernel_rfl) ((intaglioref01_In_fail_W hP h6).mono ?_)
    rintro _ _ ⟨A3, c4, rfl, hQ⟩
    replace hS : Own w0 D R _ [boxA b0 [.slice A3 v2.length c4, .int .i64 v5]] [slA Rp0_0 (Enc.int .u8) A3 c4 v2, slA Rp0_0 (Enc.int .u8) Ap0_0 cp0_0 p0_0] := hS.post hQ (.inr (doms_sub (fun _ h => ⟨_, (List.Mem.head _), h⟩) doms_sub0))
    clear hP hQ
    refine ⟨_, rfl, ?_⟩
    refine wl_nil ?_
    refine then_normal ?_
    refine wp_seq ?_
    refine wp_reg ?_
    refine segEnd [.pointer (some ⟨b0, 0, none⟩), .int .i64 p1, undef, undef, .int .u64 0, undef, undef, .pointer (some ⟨b0, 0, none⟩), .pointer (some ⟨b0, 0, none⟩), .pointer (some ⟨b0, 0, none⟩), .slice Ap0_0 p0_0.length cp0_0, .int .i64 (p0_0.length : Int), .int .i64 p1, .bool (decide ((p0_0.length : Int) < p1)), .pointer (some ⟨b0, 0, none⟩), .tuple #[], undef, undef, undef, undef, undef, undef, undef, undef, undef, undef, undef, undef, undef, undef, undef, undef, undef, undef, undef, undef, undef, undef, undef, undef, undef, undef] (by kernel_rfl) ?_
    refine then_normal ?_
    refine wp_ret ?_
    refine then_ret ?_
    replace hS : Own w0 D R _ [boxA b0 [.slice A3 v2.length c4, .int .i64 v5]] [slA Rp0_0 (Enc.int .u8) A3 c4 v2] := hS.dropS (forall2 (List.Mem.head _) forall0)
    simp only [Option.some.injEq, Prod.mk.injEq] at hM
    obtain ⟨rfl, rfl, rfl⟩ := hM
    refine ret_v (.int .u64 0) (by kernel_rfl) ⟨A3, c4, rfl, hS⟩
  · replace hM := (if_neg (Bool.eq_false_iff.1 hc1)).symm.trans hM
    refine wp_skip ?_
    refine then_normal ?_
    refine wp_seq ?_
    refine wp_reg ?_
    refine segEnd [.pointer (some ⟨b0, 0, none⟩), .int .i64 p1, undef, undef, .int .u64 0, .int .u64 0, undef, .pointer (some ⟨b0, 0, none⟩), .pointer (some ⟨b0, 0, none⟩), .pointer (some ⟨b0, 0, none⟩), .slice Ap0_0 p0_0.length cp0_0, .int .i64 (p0_0.length : Int), .int .i64 p1, .bool (decide ((p0_0.length : Int) < p1)), undef, undef, undef, undef, undef, undef, undef, undef, undef, undef, undef, undef, undef, undef, undef, undef, undef, undef, undef, undef, undef, undef, undef, undef, undef, undef, undef, undef] (by kernel_rfl) ?_
    refine then_normal ?_
    refine wp_join (fun a w => ∃ (G30 : Nat → Value) (x29 : Int), a = Fr [.pointer (some ⟨b0, 0, none⟩), .int .i64 p1, undef, undef, (G30 0), .int .u64 x29, (G30 1), (G30 2), (G30 3), (G30 4), (G30 5), (G30 6), (G30 7), (G30 8), undef, undef, (G30 9), (G30 10), (G30 11), (G30 12), (G30 13), (G30 14), (G30 15), (G30 16), (G30 17), (G30 18), (G30 19), (G30 20), (G30 21), (G30 22), (G30 23), (G30 24), undef, undef, undef, undef, undef, undef, undef, undef, undef, undef] ∧ Own w0 D R w [boxA b0 [.slice Ap0_0 p0_0.length cp0_0, .int .i64 p0_1]] [slA Rp0_0 (Enc.int .u8) Ap0_0 cp0_0 p0_0] ∧ intaglioref01_In_U_J1 p0_0 p0_1 p1 x29 = some (r0, r1, r2)) ?_ ?_
    ·
      refine wp_seq ?_
      refine wp_reg ?_
      refine segEnd [.pointer (some ⟨b0, 0, none⟩), .int .i64 p1, undef, undef, .int .u64 0, .int .u64 0, .int .i64 0, .pointer (some ⟨b0, 0, none⟩), .pointer (some ⟨b0, 0, none⟩), .pointer (some ⟨b0, 0, none⟩), .slice Ap0_0 p0_0.length cp0_0, .int .i64 (p0_0.length : Int), .int .i64 p1, .bool (decide ((p0_0.length : Int) < p1)), undef, undef, undef, undef, undef, undef, undef, undef, undef, undef, undef, undef, undef, undef, undef, undef, undef, undef, undef, undef, undef, undef, undef, undef, undef, undef, undef, undef] (by kernel_rfl) ?_
      refine then_normal ?_
      refine wp_block ?_
      replace hM := bind_some hM
      obtain ⟨q18, hL19, hM⟩ := hM
      refine wp_loop_model (fun (s : (Int × Int)) a w => ∃ (G22 : Nat → Value) (x20 : Int) (x21 : Int), s = (x20, x21) ∧ a = Fr [.pointer (some ⟨b0, 0, none⟩), .int .i64 p1, undef, undef, (G22 0), .int .u64 x20, .int .i64 x21, (G22 1), (G22 2), (G22 3), (G22 4), (G22 5), (G22 6), (G22 7), undef, undef, (G22 8), (G22 9), (G22 10), (G22 11), (G22 12), (G22 13), (G22 14), (G22 15), (G22 16), (G22 17), (G22 18), (G22 19), (G22 20), (G22 21), (G22 22), (G22 23), undef, undef, undef, undef, undef, undef, undef, undef, undef, undef] ∧ Own w0 D R w [boxA b0 [.slice Ap0_0 p0_0.length cp0_0, .int .i64 p0_1]] [slA Rp0_0 (Enc.int .u8) Ap0_0 cp0_0 p0_0]) ?_ hL19 ?_
      · rintro _ a w ⟨G22, x20, x21, rfl, rfl, hS⟩ o16 hM1 hout17
        replace hM1 : intaglioref01_In_U_L1 p0_0 p1 x20 x21 = some o16 := hM1
        unfold intaglioref01_In_U_L1 at hM1
        refine wp_seq ?_
        refine wp_seq ?_
        refine wp_reg ?_
        refine segEnd [.pointer (some ⟨b0, 0, none⟩), .int .i64 p1, undef, undef, (G22 0), .int .u64 x20, .int .i64 x21, (G22 1), (G22 2), (G22 3), (G22 4), (G22 5), (G22 6), (G22 7), undef, undef, .int .i64 x21, .int .i64 p1, .bool (decide (x21 < p1)), (G22 11), (G22 12), (G22 13), (G22 14), (G22 15), (G22 16), (G22 17), (G22 18), (G22 19), (G22 20), (G22 21), (G22 22), (G22 23), undef, undef, undef, undef, undef, undef, undef, undef, undef, undef] (by kernel_rfl) ?_
        refine then_normal ?_
        refine wp_cond_split (t := decide (x21 < p1)) (by kernel_rfl) (fun hc23 => ?_) (fun hc23 => ?_)
        · replace hM1 := (if_pos hc23).symm.trans hM1
          refine wp_skip ?_
          refine then_normal ?_
          refine wp_seq ?_
          refine wp_block ?_
          refine wp_reg ?_
          refine seg 5 [.pointer (some ⟨b0, 0, none⟩), .int .i64 p1, undef, undef, (G22 0), .int .u64 x20, .int .i64 x21, (G22 1), (G22 2), (G22 3), (G22 4), (G22 5), (G22 6), (G22 7), undef, undef, .int .i64 x21, .int .i64 p1, .bool (decide (x21 < p1)), (G22 11), (G22 12), .int .u64 x20, .int .u64 (IntKind.u64.wrap (256 * x20)), .pointer (some ⟨b0, 0, none⟩), .pointer (some ⟨b0, 0, none⟩), .pointer (some ⟨b0, 0, none⟩), (G22 18), (G22 19), (G22 20), (G22 21), (G22 22), (G22 23), undef, undef, undef, undef, undef, undef, undef, undef, undef, undef] (by kernel_rfl) ?_
          refine s_load_box (.tmp 25) 26 b0 0 1 [.slice Ap0_0 p0_0.length cp0_0, .int .i64 p0_1] [.slice Ap0_0 p0_0.length cp0_0] (.slice Ap0_0 p0_0.length cp0_0) rfl (by kernel_rfl) (by kernel_rfl) (hS.box_mem (List.Mem.head _)) rfl rfl (Or.inr ⟨by kernel_rfl, rfl⟩) ?_
          refine seg 1 [.pointer (some ⟨b0, 0, none⟩), .int .i64 p1, undef, undef, (G22 0), .int .u64 x20, .int .i64 x21, (G22 1), (G22 2), (G22 3), (G22 4), (G22 5), (G22 6), (G22 7), undef, undef, .int .i64 x21, .int .i64 p1, .bool (decide (x21 < p1)), (G22 11), (G22 12), .int .u64 x20, .int .u64 (IntKind.u64.wrap (256 * x20)), .pointer (some ⟨b0, 0, none⟩), .pointer (some ⟨b0, 0, none⟩), .pointer (some ⟨b0, 0, none⟩), .slice Ap0_0 p0_0.length cp0_0, .int .i64 x21, (G22 20), (G22 21), (G22 22), (G22 23), undef, undef, undef, undef, undef, undef, undef, undef, undef, undef] (by kernel_rfl) ?_
          replace hM1 := bind_some hM1
          obtain ⟨y24, h25, hM1⟩ := hM1
          have hi28 := ix_some h25
          refine s_index (A := Ap0_0) (cap := cp0_0) (.tmp 26) (.tmp 27) 26 5 1 .i64 x21 rfl u26 el5 (by kernel_rfl) (by kernel_rfl) (by kernel_rfl) (SlR.of_sl (hS.sl_mem (List.Mem.head _))) hi28.1 hi28.2.1 (fun p26 hp27 => ?_)
          refine s_load_el (.tmp 28) 5 1 p26 _ y24 rfl el5 (by kernel_rfl) (by kernel_rfl) hp27 (SlR.of_sl (hS.sl_mem (List.Mem.head _))) hi28.2.2 ?_
          refine segEnd [.pointer (some ⟨b0, 0, none⟩), .int .i64 p1, undef, undef, (G22 0), .int .u64 (IntKind.u64.wrap ((IntKind.u64.wrap (256 * x20)) + (IntKind.u64.wrap (y24)))), .int .i64 x21, (G22 1), (G22 2), (G22 3), (G22 4), (G22 5), (G22 6), (G22 7), undef, undef, .int .i64 x21, .int .i64 p1, .bool (decide (x21 < p1)), (G22 11), (G22 12), .int .u64 x20, .int .u64 (IntKind.u64.wrap (256 * x20)), .pointer (some ⟨b0, 0, none⟩), .pointer (some ⟨b0, 0, none⟩), .pointer (some ⟨b0, 0, none⟩), .slice Ap0_0 p0_0.length cp0_0, .int .i64 x21, .pointer (some p26), .int .u8 y24, .int .u64 (IntKind.u64.wrap (y24)), .int .u64 (IntKind.u64.wrap ((IntKind.u64.wrap (256 * x20)) + (IntKind.u64.wrap (y24)))), undef, undef, undef, undef, undef, undef, undef, undef, undef, undef] (by kernel_rfl) ?_
          refine in_normal ?_
          refine then_normal ?_
          refine wp_reg ?_
          refine segEnd [.pointer (some ⟨b0, 0, none⟩), .int .i64 p1, undef, undef, (G22 0), .int .u64 (IntKind.u64.wrap ((IntKind.u64.wrap (256 * x20)) + (IntKind.u64.wrap (y24)))), .int .i64 (IntKind.i64.wrap (x21 + 1)), (G22 1), (G22 2), (G22 3), (G22 4), (G22 5), (G22 6), (G22 7), undef, undef, .int .i64 x21, .int .i64 p1, .bool (decide (x21 < p1)), .int .i64 x21, .int .i64 (IntKind.i64.wrap (x21 + 1)), .int .u64 x20, .int .u64 (IntKind.u64.wrap (256 * x20)), .pointer (some ⟨b0, 0, none⟩), .pointer (some ⟨b0, 0, none⟩), .pointer (some ⟨b0, 0, none⟩), .slice Ap0_0 p0_0.length cp0_0, .int .i64 x21, .pointer (some p26), .int .u8 y24, .int .u64 (IntKind.u64.wrap (y24)), .int .u64 (IntKind.u64.wrap ((IntKind.u64.wrap (256 * x20)) + (IntKind.u64.wrap (y24)))), undef, undef, undef, undef, undef, undef, undef, undef, undef, undef] (by kernel_rfl) ?_
          refine then_normal ?_
          exact ⟨((IntKind.u64.wrap ((IntKind.u64.wrap (256 * x20)) + (IntKind.u64.wrap (y24)))), (IntKind.i64.wrap (x21 + 1))), (Option.some.inj hM1).symm, (fun i => ([(G22 0), (G22 1), (G22 2), (G22 3), (G22 4), (G22 5), (G22 6), (G22 7), .int .i64 x21, .int .i64 p1, .bool (decide (x21 < p1)), .int .i64 x21, .int .i64 (IntKind.i64.wrap (x21 + 1)), .int .u64 x20, .int .u64 (IntKind.u64.wrap (256 * x20)), .pointer (some ⟨b0, 0, none⟩), .pointer (some ⟨b0, 0, none⟩), .pointer (some ⟨b0, 0, none⟩), .slice Ap0_0 p0_0.length cp0_0, .int .i64 x21, .pointer (some p26), .int .u8 y24, .int .u64 (IntKind.u64.wrap (y24)), .int .u64 (IntKind.u64.wrap ((IntKind.u64.wrap (256 * x20)) + (IntKind.u64.wrap (y24))))] : List Value).getD i undef), (IntKind.u64.wrap ((IntKind.u64.wrap (256 * x20)) + (IntKind.u64.wrap (y24)))), (IntKind.i64.wrap (x21 + 1)), rfl, (by kernel_rfl), hS⟩
        · replace hM1 := (if_neg (Bool.eq_false_iff.1 hc23)).symm.trans hM1
          refine wp_exit ?_
          refine then_exit ?_
          refine then_exit ?_
          have hr37 := hout17 _ (Option.some.inj hM1).symm
          subst hr37
          refine in_exit_eq ?_
          refine then_normal ?_
          exact ⟨(fun i => ([(G22 0), .int .i64 x21, (G22 1), (G22 2), (G22 3), (G22 4), (G22 5), (G22 6), (G22 7), .int .i64 x21, .int .i64 p1, .bool (decide (x21 < p1)), (G22 11), (G22 12), (G22 13), (G22 14), (G22 15), (G22 16), (G22 17), (G22 18), (G22 19), (G22 20), (G22 21), (G22 22), (G22 23)] : List Value).getD i undef), x20, (by kernel_rfl), hS, hM⟩
      · exact ⟨(fun i => ([.int .u64 0, .pointer (some ⟨b0, 0, none⟩), .pointer (some ⟨b0, 0, none⟩), .pointer (some ⟨b0, 0, none⟩), .slice Ap0_0 p0_0.length cp0_0, .int .i64 (p0_0.length : Int), .int .i64 p1, .bool (decide ((p0_0.length : Int) < p1)), undef, undef, undef, undef, undef, undef, undef, undef, undef, undef, undef, undef, undef, undef, undef, undef] : List Value).getD i undef), 0, 0, rfl, (by kernel_rfl), hS⟩
    · rintro a w ⟨G30, x29, rfl, hS, hM⟩
      unfold intaglioref01_In_U_J1 at hM
      refine wp_seq ?_
      refine wp_reg ?_
      refine seg 4 [.pointer (some ⟨b0, 0, none⟩), .int .i64 p1, undef, undef, (G30 0), .int .u64 x29, (G30 1), (G30 2), (G30 3), (G30 4), (G30 5), (G30 6), (G30 7), (G30 8), undef, undef, (G30 9), (G30 10), (G30 11), (G30 12), (G30 13), (G30 14), (G30 15), (G30 16), (G30 17), (G30 18), (G30 19), (G30 20), (G30 21), (G30 22), (G30 23), (G30 24), .pointer (some ⟨b0, 0, none⟩), .pointer (some ⟨b0, 0, none⟩), .pointer (some ⟨b0, 0, none⟩), .pointer (some ⟨b0, 0, none⟩), undef, undef, undef, undef, undef, undef] (by kernel_rfl) ?_
      refine s_load_box (.tmp 35) 26 b0 0 1 [.slice Ap0_0 p0_0.length cp0_0, .int .i64 p0_1] [.slice Ap0_0 p0_0.length cp0_0] (.slice Ap0_0 p0_0.length cp0_0) rfl (by kernel_rfl) (by kernel_rfl) (hS.box_mem (List.Mem.head _)) rfl rfl (Or.inr ⟨by kernel_rfl, rfl⟩) ?_
      refine seg 1 [.pointer (some ⟨b0, 0, none⟩), .int .i64 p1, undef, undef, (G30 0), .int .u64 x29, (G30 1), (G30 2), (G30 3), (G30 4), (G30 5), (G30 6), (G30 7), (G30 8), undef, undef, (G30 9), (G30 10), (G30 11), (G30 12), (G30 13), (G30 14), (G30 15), (G30 16), (G30 17), (G30 18), (G30 19), (G30 20), (G30 21), (G30 22), (G30 23), (G30 24), .pointer (some ⟨b0, 0, none⟩), .pointer (some ⟨b0, 0, none⟩), .pointer (some ⟨b0, 0, none⟩), .pointer (some ⟨b0, 0, none⟩), .slice Ap0_0 p0_0.length cp0_0, .int .i64 p1, undef, undef, undef, undef] (by kernel_rfl) ?_
      replace hM := bind_some hM
      obtain ⟨y31, h32, hM⟩ := hM
      refine s_slice (A := Ap0_0) (cap := cp0_0) (.tmp 36) (some (.tmp 37)) none 26 5 1 p1 (p0_0.length : Int) rfl u26 el5 (by kernel_rfl) (Or.inr ⟨_, .i64, rfl, by kernel_rfl⟩) (Or.inl ⟨rfl, rfl⟩) (by kernel_rfl) ((hS.sl_mem (List.Mem.head _))).1 h32 (fun A33 c34 hp35 => ?_)
      replace hS := hS.addPart (List.Mem.head _) hp35
      refine seg 2 [.pointer (some ⟨b0, 0, none⟩), .int .i64 p1, undef, undef, (G30 0), .int .u64 x29, (G30 1), (G30 2), (G30 3), (G30 4), (G30 5), (G30 6), (G30 7), (G30 8), undef, undef, (G30 9), (G30 10), (G30 11), (G30 12), (G30 13), (G30 14), (G30 15), (G30 16), (G30 17), (G30 18), (G30 19), (G30 20), (G30 21), (G30 22), (G30 23), (G30 24), .pointer (some ⟨b0, 0, none⟩), .pointer (some ⟨b0, 0, none⟩), .pointer (some ⟨b0, 0, none⟩), .pointer (some ⟨b0, 0, none⟩), .slice Ap0_0 p0_0.length cp0_0, .int .i64 p1, .slice A33 y31.length c34, .pointer (some ⟨b0, 0, none⟩), .pointer (some ⟨b0, 0, none⟩), undef] (by kernel_rfl) ?_
      refine s_store_box (.tmp 40) (.tmp 38) 26 b0 0 [.slice Ap0_0 p0_0.length cp0_0, .int .i64 p0_1] [.slice A33 y31.length c34, .int .i64 p0_1] [.slice A33 y31.length c34] (.slice A33 y31.length c34) rfl (by kernel_rfl) (by kernel_rfl) (by kernel_rfl) rfl (by kernel_rfl) (forall2 rfl forall0) (Nat.le_of_ble_eq_true (by kernel_rfl)) rfl hS (fun _ hS => ?_)
      refine wl_nil ?_
      refine then_normal ?_
      refine wp_seq ?_
      refine wp_reg ?_
      refine segEnd [.pointer (some ⟨b0, 0, none⟩), .int .i64 p1, undef, undef, .int .u64 x29, .int .u64 x29, (G30 1), (G30 2), (G30 3), (G30 4), (G30 5), (G30 6), (G30 7), (G30 8), undef, undef, (G30 9), (G30 10), (G30 11), (G30 12), (G30 13), (G30 14), (G30 15), (G30 16), (G30 17), (G30 18), (G30 19), (G30 20), (G30 21), (G30 22), (G30 23), (G30 24), .pointer (some ⟨b0, 0, none⟩), .pointer (some ⟨b0, 0, none⟩), .pointer (some ⟨b0, 0, none⟩), .pointer (some ⟨b0, 0, none⟩), .slice Ap0_0 p0_0.length cp0_0, .int .i64 p1, .slice A33 y31.length c34, .pointer (some ⟨b0, 0, none⟩), .pointer (some ⟨b0, 0, none⟩), .int .u64 x29] (by kernel_rfl) ?_
      refine then_normal ?_
      refine wp_ret ?_
      replace hS : Own w0 D R _ [boxA b0 [.slice A33 y31.length c34, .int .i64 p0_1]] [slA Rp0_0 (Enc.int .u8) A33 c34 y31] := hS.dropS (forall2 (List.Mem.head _) forall0)
      simp only [Option.some.injEq, Prod.mk.injEq] at hM
      obtain ⟨rfl, rfl, rfl⟩ := hM
      refine ret_v (.int .u64 x29) (by kernel_rfl) ⟨A33, c34, rfl, hS⟩

theorem intaglioref01_In_Num_W {w0 w : World} {D R : Nat → Prop} {b0 : Nat} {Rp0_0 : Nat → Prop} {Ap0_0 : Option Addr} {cp0_0 : Nat} {p0_0 : List Int} {p0_1 : Int} {p1 : Int} {r0 : Int} {r1 : List Int} {r2 : Int} (hS : Own w0 D R w [boxA b0 [.slice Ap0_0 p0_0.length cp0_0, .int .i64 p0_1]] [slA Rp0_0 (Enc.int .u8) Ap0_0 cp0_0 p0_0]) (hM : intaglioref01_In_Num_M p0_0 p0_1 p1 = some (r0, r1, r2)) :
    Calls Go.Proofs.Try.prog 27 #[.pointer (some ⟨b0, 0, none⟩), .int .i64 p1] w (fun e w' => ∃ (ZA1 : Option Addr) (Zc2 : Nat), e = .returned (.int .i64 r0) ∧ Own w0 D R w' [boxA b0 [.slice ZA1 r1.length Zc2, .int .i64 r2]] [slA Rp0_0 (Enc.int .u8) ZA1 Zc2 r1]) := by
  refine enter (fn := Go.Proofs.Try.f27) [.pointer (some ⟨b0, 0, none⟩), .int .i64 p1, undef, undef, undef, undef, undef, undef, undef, undef, undef, undef, undef, undef, undef, undef, undef, undef, undef, undef, undef, undef, undef, undef, undef, undef, undef] (by kernel_rfl) rfl (by kernel_rfl) ?_
  unfold intaglioref01_In_Num_M at hM
  refine wp_seq ?_
  refine wp_reg ?_
  refine segEnd [.pointer (some ⟨b0, 0, none⟩), .int .i64 p1, undef, undef, .int .i64 0, undef, undef, undef, undef, undef, undef, undef, undef, undef, undef, undef, undef, undef, undef, undef, undef, undef, undef, undef, undef, undef, undef] (by kernel_rfl) ?_
  refine then_normal ?_
  refine wp_seq ?_
  refine wp_reg ?_
  refine seg 1 [.pointer (some ⟨b0, 0, none⟩), .int .i64 p1, undef, undef, .int .i64 0, undef, .pointer (some ⟨b0, 0, none⟩), undef, undef, undef, undef, undef, undef, undef, undef, undef, undef, undef, undef, undef, undef, undef, undef, undef, undef, undef, undef] (by kernel_rfl) ?_
  replace hM := bind_some hM
  obtain ⟨⟨v1, v2, v5⟩, h6, hM⟩ := hM
  have hP := Own.pre (Xi := [boxA b0 [.slice Ap0_0 p0_0.length cp0_0, .int .i64 p0_1]]) (X := []) (Si := [slA Rp0_0 (Enc.int .u8) Ap0_0 cp0_0 p0_0]) hS (forall2 (hS.sl_mem (List.Mem.head _)) forall0) (forall2 (fun _ h => .inl ⟨_, (List.Mem.head _), h⟩) forall0)
  refine s_call 36 #[.pointer (some ⟨b0, 0, none⟩), .int .i64 8] (by kernel_rfl) (by kernel_rfl) ((intaglioref01_In_U_W hP h6).mono ?_)
  rintro _ _ ⟨A3, c4, rfl, hQ⟩
  replace hS : Own w0 D R _ [boxA b0 [.slice A3 v2.length c4, .int .i64 v5]] [slA Rp0_0 (Enc.int .u8) A3 c4 v2, slA Rp0_0 (Enc.int .u8) Ap0_0 cp0_0 p0_0] := hS.post hQ (.inr (doms_sub (fun _ h => ⟨_, (List.Mem.head _), h⟩) doms_sub0))
  clear hP hQ
  refine ⟨_, rfl, ?_⟩
  refine segEnd [.pointer (some ⟨b0, 0, none⟩), .int .i64 p1, undef, undef, .int .i64 0, .int .u64 v1, .pointer (some ⟨b0, 0, none⟩), .int .u64 v1, undef, undef, undef, undef, undef, undef, undef, undef, undef, undef, undef, undef, undef, undef, undef, undef, undef, undef, undef] (by kernel_rfl) ?_
  refine then_normal ?_
  refine wp_seq ?_
  refine wp_seq ?_
  refine wp_reg ?_
  refine seg 3 [.pointer (some ⟨b0, 0, none⟩), .int .i64 p1, undef, undef, .int .i64 0, .int .u64 v1, .pointer (some ⟨b0, 0, none⟩), .int .u64 v1, .pointer (some ⟨b0, 0, none⟩), .pointer (some ⟨b0, 0, none⟩), .pointer (some ⟨b0, 1, none⟩), undef, undef, undef, undef, undef, undef, undef, undef, undef, undef, undef, undef, undef, undef, undef, undef] (by kernel_rfl) ?_
  refine s_load_box (.tmp 10) 3 b0 1 1 [.slice A3 v2.length c4, .int .i64 v5] [.int .i64 v5] (.int .i64 v5) rfl (by kernel_rfl) (by kernel_rfl) (hS.box_mem (List.Mem.head _)) rfl rfl (Or.inr ⟨by kernel_rfl, rfl⟩) ?_
  refine seg 2 [.pointer (some ⟨b0, 0, none⟩), .int .i64 p1, undef, undef, .int .i64 0, .int .u64 v1, .pointer (some ⟨b0, 0, none⟩), .int .u64 v1, .pointer (some ⟨b0, 0, none⟩), .pointer (some ⟨b0, 0, none⟩), .pointer (some ⟨b0, 1, none⟩), .int .i64 v5, .bool (v5 == 0), .bool (v5 == 0), undef, undef, undef, undef, undef, undef, undef, undef, undef, undef, undef, undef, undef] (by kernel_rfl) ?_
  rcases Bool.eq_false_or_eq_true (v5 == 0) with hc7 | hc7
  · replace hM := (if_pos hc7).symm.trans hM
    rw [hc7]
    refine seg 3 [.pointer (some ⟨b0, 0, none⟩), .int .i64 p1, undef, undef, .int .i64 0, .int .u64 v1, .pointer (some ⟨b0, 0, none⟩), .int .u64 v1, .pointer (some ⟨b0, 0, none⟩), .pointer (some ⟨b0, 0, none⟩), .pointer (some ⟨b0, 1, none⟩), .int .i64 v5, .bool true, .bool true, .int .u64 v1, .bool (decide (v1 ≥ 9223372036854775808)), .bool (decide (v1 ≥ 9223372036854775808)), undef, undef, undef, undef, undef, undef, undef, undef, undef, undef] (by kernel_rfl) ?_
    rcases Bool.eq_false_or_eq_true (decide (v1 ≥ 9223372036854775808)) with hc8 | hc8
    · replace hM := (if_pos hc8).symm.trans hM
      rw [hc8]
      refine segEnd [.pointer (some ⟨b0, 0, none⟩), .int .i64 p1, undef, undef, .int .i64 0, .int .u64 v1, .pointer (some ⟨b0, 0, none⟩), .int .u64 v1, .pointer (some ⟨b0, 0, none⟩), .pointer (some ⟨b0, 0, none⟩), .pointer (some ⟨b0, 1, none⟩), .int .i64 v5, .bool true, .bool true, .int .u64 v1, .bool true, .bool true, undef, undef, undef, undef, .bool true, .bool true, undef, undef, undef, undef] (by kernel_rfl) ?_
      refine then_normal ?_
      refine wp_cond_true (by kernel_rfl) ?_
      refine wp_seq ?_
      refine wp_reg ?_
      refine seg 1 [.pointer (some ⟨b0, 0, none⟩), .int .i64 p1, undef, undef, .int .i64 0, .int .u64 v1, .pointer (some ⟨b0, 0, none⟩), .int .u64 v1, .pointer (some ⟨b0, 0, none⟩), .pointer (some ⟨b0, 0, none⟩), .pointer (some ⟨b0, 1, none⟩), .int .i64 v5, .bool true, .bool true, .int .u64 v1, .bool true, .bool true, undef, undef, undef, undef, .bool true, .bool true, .pointer (some ⟨b0, 0, none⟩), undef, undef, undef] (by kernel_rfl) ?_
      replace hM := bind_some hM
      obtain ⟨⟨v9, v12⟩, h13, hM⟩ := hM
      have hP := Own.pre (Xi := [boxA b0 [.slice A3 v2.length c4, .int .i64 v5]]) (X := []) (Si := [slA Rp0_0 (Enc.int .u8) A3 c4 v2]) hS (forall2 (hS.sl_mem (List.Mem.head _)) forall0) (forall2 (fun _ h => .inl ⟨_, (List.Mem.head _), h⟩) forall0)
      refine s_call 37 #[.pointer (some ⟨b0, 0, none⟩), .int .i64 5] (by kernel_rfl) (by kernel_rfl) ((intaglioref01_In_fail_W hP h13).mono ?_)
      rintro _ _ ⟨A10, c11, rfl, hQ⟩
      replace hS : Own w0 D R _ [boxA b0 [.slice A10 v9.length c11, .int .i64 v12]] [slA Rp0_0 (Enc.int .u8) A10 c11 v9, slA Rp0_0 (Enc.int .u8) A3 c4 v2, slA Rp0_0 (Enc.int .u8) Ap0_0 cp0_0 p0_0] := hS.post hQ (.inr (doms_sub (fun _ h => ⟨_, (List.Mem.head _), h⟩) doms_sub0))
      clear hP hQ
      refine ⟨_, rfl, ?_⟩
      refine wl_nil ?_
      refine then_normal ?_
      refine wp_seq ?_
      refine wp_reg ?_
      refine segEnd [.pointer (some ⟨b0, 0, none⟩), .int .i64 p1, undef, undef, .int .i64 0, .int .u64 v1, .pointer (some ⟨b0, 0, none⟩), .int .u64 v1, .pointer (some ⟨b0, 0, none⟩), .pointer (some ⟨b0, 0, none⟩), .pointer (some ⟨b0, 1, none⟩), .int .i64 v5, .bool true, .bool true, .int .u64 v1, .bool true, .bool true, undef, undef, undef, undef, .bool true, .bool true, .pointer (some ⟨b0, 0, none⟩), .tuple #[], undef, undef] (by kernel_rfl) ?_
      refine then_normal ?_
      refine wp_ret ?_
      refine then_ret ?_
      replace hS : Own w0 D R _ [boxA b0 [.slice A10 v9.length c11, .int .i64 v12]] [slA Rp0_0 (Enc.int .u8) A10 c11 v9] := hS.dropS (forall2 (List.Mem.head _) forall0)
      simp only [Option.some.injEq, Prod.mk.injEq] at hM
      obtain ⟨rfl, rfl, rfl⟩ := hM
      refine ret_v (.int .i64 0) (by kernel_rfl) ⟨A10, c11, rfl, hS⟩
    · replace hM := (if_neg (Bool.eq_false_iff.1 hc8)).symm.trans hM
      rw [hc8]
      refine segEnd [.pointer (some ⟨b0, 0, none⟩), .int .i64 p1, undef, undef, .int .i64 0, .int .u64 v1, .pointer (some ⟨b0, 0, none⟩), .int .u64 v1, .pointer (some ⟨b0, 0, none⟩), .pointer (some ⟨b0, 0, none⟩), .pointer (some ⟨b0, 1, none⟩), .int .i64 v5, .bool true, .bool true, .int .u64 v1, .bool false, .bool false, .int .u64 v1, .int .i64 (IntKind.i64.wrap (v1)), .int .i64 p1, .bool (decide ((IntKind.i64.wrap (v1)) > p1)), .bool (decide ((IntKind.i64.wrap (v1)) > p1)), .bool (decide ((IntKind.i64.wrap (v1)) > p1)), undef, undef, undef, undef] (by kernel_rfl) ?_
      refine then_normal ?_
      refine wp_cond_split (t := decide ((IntKind.i64.wrap (v1)) > p1)) (by kernel_rfl) (fun hc14 => ?_) (fun hc14 => ?_)
      · replace hM := (if_pos hc14).symm.trans hM
        refine wp_seq ?_
        refine wp_reg ?_
        refine seg 1 [.pointer (some ⟨b0, 0, none⟩), .int .i64 p1, undef, undef, .int .i64 0, .int .u64 v1, .pointer (some ⟨b0, 0, none⟩), .int .u64 v1, .pointer (some ⟨b0, 0, none⟩), .pointer (some ⟨b0, 0, none⟩), .pointer (some ⟨b0, 1, none⟩), .int .i64 v5, .bool true, .bool true, .int .u64 v1, .bool false, .bool false, .int .u64 v1, .int .i64 (IntKind.i64.wrap (v1)), .int .i64 p1, .bool (decide ((IntKind.i64.wrap (v1)) > p1)), .bool (decide ((IntKind.i64.wrap (v1)) > p1)), .bool (decide ((IntKind.i64.wrap (v1)) > p1)), .pointer (some ⟨b0, 0, none⟩), undef, undef, undef] (by kernel_rfl) ?_
        replace hM := bind_some hM
        obtain ⟨⟨v15, v18⟩, h19, hM⟩ := hM
        have hP := Own.pre (Xi := [boxA b0 [.slice A3 v2.length c4, .int .i64 v5]]) (X := []) (Si := [slA Rp0_0 (Enc.int .u8) A3 c4 v2]) hS (forall2 (hS.sl_mem (List.Mem.head _)) forall0) (forall2 (fun _ h => .inl ⟨_, (List.Mem.head _), h⟩) forall0)
        refine s_call 37 #[.pointer (some ⟨b0, 0, none⟩), .int .i64 5] (by kernel_rfl) (by kernel_rfl) ((intaglioref01_In_fail_W hP h19).mono ?_)
        rintro _ _ ⟨A16, c17, rfl, hQ⟩
        replace hS : Own w0 D R _ [boxA b0 [.slice A16 v15.length c17, .int .i64 v18]] [slA Rp0_0 (Enc.int .u8) A16 c17 v15, slA Rp0_0 (Enc.int .u8) A3 c4 v2, slA Rp0_0 (Enc.int .u8) Ap0_0 cp0_0 p0_0] := hS.post hQ (.inr (doms_sub (fun _ h => ⟨_, (List.Mem.head _), h⟩) doms_sub0))
        clear hP hQ
        refine ⟨_, rfl, ?_⟩
        refine wl_nil ?_
        refine then_normal ?_
        refine wp_seq ?_
        refine wp_reg ?_
        refine segEnd [.pointer (some ⟨b0, 0, none⟩), .int .i64 p1, undef, undef, .int .i64 0, .int .u64 v1, .pointer (some ⟨b0, 0, none⟩), .int .u64 v1, .pointer (some ⟨b0, 0, none⟩), .pointer (some ⟨b0, 0, none⟩), .pointer (some ⟨b0, 1, none⟩), .int .i64 v5, .bool true, .bool true, .int .u64 v1, .bool false, .bool false, .int .u64 v1, .int .i64 (IntKind.i64.wrap (v1)), .int .i64 p1, .bool (decide ((IntKind.i64.wrap (v1)) > p1)), .bool (decide ((IntKind.i64.wrap (v1)) > p1)), .bool (decide ((IntKind.i64.wrap (v1)) > p1)), .pointer (some ⟨b0, 0, none⟩), .tuple #[], undef, undef] (by kernel_rfl) ?_
        refine then_normal ?_
        refine wp_ret ?_
        refine then_ret ?_
        replace hS : Own w0 D R _ [boxA b0 [.slice A16 v15.length c17, .int .i64 v18]] [slA Rp0_0 (Enc.int .u8) A16 c17 v15] := hS.dropS (forall2 (List.Mem.head _) forall0)
        simp only [Option.some.injEq, Prod.mk.injEq] at hM
        obtain ⟨rfl, rfl, rfl⟩ := hM
        refine ret_v (.int .i64 0) (by kernel_rfl) ⟨A16, c17, rfl, hS⟩
      · replace hM := (if_neg (Bool.eq_false_iff.1 hc14)).symm.trans hM
        refine wp_skip ?_
        refine then_normal ?_
        refine wp_seq ?_
        refine wp_reg ?_
        refine segEnd [.pointer (some ⟨b0, 0, none⟩), .int .i64 p1, undef, undef, .int .i64 (IntKind.i64.wrap (v1)), .int .u64 v1, .pointer (some ⟨b0, 0, none⟩), .int .u64 v1, .pointer (some ⟨b0, 0, none⟩), .pointer (some ⟨b0, 0, none⟩), .pointer (some ⟨b0, 1, none⟩), .int .i64 v5, .bool true, .bool true, .int .u64 v1, .bool false, .bool false, .int .u64 v1, .int .i64 (IntKind.i64.wrap (v1)), .int .i64 p1, .bool (decide ((IntKind.i64.wrap (v1)) > p1)), .bool (decide ((IntKind.i64.wrap (v1)) > p1)), .bool (decide ((IntKind.i64.wrap (v1)) > p1)), undef, undef, .int .u64 v1, .int .i64 (IntKind.i64.wrap (v1))] (by kernel_rfl) ?_
        refine then_normal ?_
        refine wp_ret ?_
        replace hS : Own w0 D R _ [boxA b0 [.slice A3 v2.length c4, .int .i64 v5]] [slA Rp0_0 (Enc.int .u8) A3 c4 v2] := hS.dropS (forall2 (List.Mem.head _) forall0)
        simp only [Option.some.injEq, Prod.mk.injEq] at hM
        obtain ⟨rfl, rfl, rfl⟩ := hM
        refine ret_v (.int .i64 (IntKind.i64.wrap (v1))) (by kernel_rfl) ⟨A3, c4, rfl, hS⟩
  · replace hM := (if_neg (Bool.eq_false_iff.1 hc7)).symm.trans hM
    rw [hc7]
    refine segEnd [.pointer (some ⟨b0, 0, none⟩), .int .i64 p1, undef, undef, .int .i64 0, .int .u64 v1, .pointer (some ⟨b0, 0, none⟩), .int .u64 v1, .pointer (some ⟨b0, 0, none⟩), .pointer (some ⟨b0, 0, none⟩), .pointer (some ⟨b0, 1, none⟩), .int .i64 v5, .bool false, .bool false, undef, undef, undef, undef, undef, undef, undef, undef, .bool false, undef, undef, undef, undef] (by kernel_rfl) ?_
    refine then_normal ?_
    refine wp_cond_false (by kernel_rfl) ?_
    refine wp_skip ?_
    refine then_normal ?_
    refine wp_seq ?_
    refine wp_reg ?_
    refine segEnd [.pointer (some ⟨b0, 0, none⟩), .int .i64 p1, undef, undef, .int .i64 (IntKind.i64.wrap (v1)), .int .u64 v1, .pointer (some ⟨b0, 0, none⟩), .int .u64 v1, .pointer (some ⟨b0, 0, none⟩), .pointer (some ⟨b0, 0, none⟩), .pointer (some ⟨b0, 1, none⟩), .int .i64 v5, .bool false, .bool false, undef, undef, undef, undef, undef, undef, undef, undef, .bool false, undef, undef, .int .u64 v1, .int .i64 (IntKind.i64.wrap (v1))] (by kernel_rfl) ?_
    refine then_normal ?_
    refine wp_ret ?_
    replace hS : Own w0 D R _ [boxA b0 [.slice A3 v2.length c4, .int .i64 v5]] [slA Rp0_0 (Enc.int .u8) A3 c4 v2] := hS.dropS (forall2 (List.Mem.head _) forall0)
    simp only [Option.some.injEq, Prod.mk.injEq] at hM
    obtain ⟨rfl, rfl, rfl⟩ := hM
    refine ret_v (.int .i64 (IntKind.i64.wrap (v1))) (by kernel_rfl) ⟨A3, c4, rfl, hS⟩

end Go.Proofs.Ytcpddgjmopdlbaa
