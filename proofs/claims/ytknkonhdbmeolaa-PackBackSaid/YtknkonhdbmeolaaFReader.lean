/- The Go functions come to what their models say (Reader). -/
import Derived.Test.YtknkonhdbmeolaaTy
import Derived.Test.YtknkonhdbmeolaaMReader
namespace Go.Proofs.Ytknkonhdbmeolaa
open Go Go.Lift
set_option maxRecDepth 100000
set_option maxHeartbeats 4000000
set_option linter.unusedVariables false

theorem pack_Reader_ok_W {w0 w : World} {D R : Nat → Prop} {b0 : Nat} {Rp0_0 : Nat → Prop} {Ap0_0 : Option Addr} {cp0_0 : Nat} {p0_0 : List Int} {p0_1 : Int} {p0_2 : Bool} {r0 : Bool} {r1 : List Int} {r2 : Int} {r3 : Bool} (hS : Own w0 D R w [boxA b0 [.slice Ap0_0 p0_0.length cp0_0, .int .i64 p0_1, .bool p0_2]] [slA Rp0_0 (Enc.int .u8) Ap0_0 cp0_0 p0_0]) (hM : pack_Reader_ok_M p0_0 p0_1 p0_2 = some (r0, r1, r2, r3)) :
    Calls Go.Proofs.Try.prog 55 #[.pointer (some ⟨b0, 0, none⟩)] w (fun e w' => ∃ (ZA1 : Option Addr) (Zc2 : Nat), e = .returned (.bool r0) ∧ Own w0 D R w' [boxA b0 [.slice ZA1 r1.length Zc2, .int .i64 r2, .bool r3]] [slA Rp0_0 (Enc.int .u8) ZA1 Zc2 r1]) := by
  refine enter (fn := Go.Proofs.Try.f55) [.pointer (some ⟨b0, 0, none⟩), undef, undef, undef, undef, undef, undef, undef, undef, undef, undef, undef, undef, undef, undef, undef, undef, undef] (by kernel_rfl) rfl (by kernel_rfl) ?_
  unfold pack_Reader_ok_M at hM
  refine wp_seq ?_
  refine wp_reg ?_
  refine segEnd [.pointer (some ⟨b0, 0, none⟩), undef, .bool false, undef, undef, undef, undef, undef, undef, undef, undef, undef, undef, undef, undef, undef, undef, undef] (by kernel_rfl) ?_
  refine then_normal ?_
  refine wp_seq ?_
  refine wp_reg ?_
  refine seg 6 [.pointer (some ⟨b0, 0, none⟩), undef, .bool false, .pointer (some ⟨b0, 0, none⟩), .bool true, .bool true, .pointer (some ⟨b0, 0, none⟩), .pointer (some ⟨b0, 0, none⟩), .pointer (some ⟨b0, 2, none⟩), undef, undef, undef, undef, undef, undef, undef, undef, undef] (by kernel_rfl) ?_
  refine s_load_box (.tmp 8) 4 b0 2 1 [.slice Ap0_0 p0_0.length cp0_0, .int .i64 p0_1, .bool p0_2] [.bool p0_2] (.bool p0_2) rfl (by kernel_rfl) (by kernel_rfl) (hS.box_mem (List.Mem.head _)) rfl rfl (Or.inr ⟨by kernel_rfl, rfl⟩) ?_
  refine seg 2 [.pointer (some ⟨b0, 0, none⟩), undef, .bool false, .pointer (some ⟨b0, 0, none⟩), .bool true, .bool true, .pointer (some ⟨b0, 0, none⟩), .pointer (some ⟨b0, 0, none⟩), .pointer (some ⟨b0, 2, none⟩), .bool p0_2, .bool p0_2, .bool p0_2, undef, undef, undef, undef, undef, undef] (by kernel_rfl) ?_
  rcases Bool.eq_false_or_eq_true p0_2 with hc1 | hc1
  · replace hM := (if_pos hc1).symm.trans hM
    rw [hc1]
    refine seg 3 [.pointer (some ⟨b0, 0, none⟩), undef, .bool false, .pointer (some ⟨b0, 0, none⟩), .bool true, .bool true, .pointer (some ⟨b0, 0, none⟩), .pointer (some ⟨b0, 0, none⟩), .pointer (some ⟨b0, 2, none⟩), .bool true, .bool true, .bool true, .pointer (some ⟨b0, 0, none⟩), .pointer (some ⟨b0, 0, none⟩), .pointer (some ⟨b0, 1, none⟩), undef, undef, undef] (by kernel_rfl) ?_
    refine s_load_box (.tmp 14) 44 b0 1 1 [.slice Ap0_0 p0_0.length cp0_0, .int .i64 p0_1, .bool p0_2] [.int .i64 p0_1] (.int .i64 p0_1) rfl (by kernel_rfl) (by kernel_rfl) (hS.box_mem (List.Mem.head _)) rfl rfl (Or.inr ⟨by kernel_rfl, rfl⟩) ?_
    refine segEnd [.pointer (some ⟨b0, 0, none⟩), undef, .bool (p0_1 == 0), .pointer (some ⟨b0, 0, none⟩), .bool true, .bool true, .pointer (some ⟨b0, 0, none⟩), .pointer (some ⟨b0, 0, none⟩), .pointer (some ⟨b0, 2, none⟩), .bool true, .bool true, .bool true, .pointer (some ⟨b0, 0, none⟩), .pointer (some ⟨b0, 0, none⟩), .pointer (some ⟨b0, 1, none⟩), .int .i64 p0_1, .bool (p0_1 == 0), .bool (p0_1 == 0)] (by kernel_rfl) ?_
    refine then_normal ?_
    refine wp_ret ?_
    replace hS : Own w0 D R _ [boxA b0 [.slice Ap0_0 p0_0.length cp0_0, .int .i64 p0_1, .bool p0_2]] [slA Rp0_0 (Enc.int .u8) Ap0_0 cp0_0 p0_0] := hS.dropS (forall2 (List.Mem.head _) forall0)
    simp only [Option.some.injEq, Prod.mk.injEq] at hM
    obtain ⟨rfl, rfl, rfl, rfl⟩ := hM
    refine ret_v (.bool (p0_1 == 0)) (by kernel_rfl) ⟨Ap0_0, cp0_0, rfl, hS⟩
  · replace hM := (if_neg (Bool.eq_false_iff.1 hc1)).symm.trans hM
    rw [hc1]
    refine segEnd [.pointer (some ⟨b0, 0, none⟩), undef, .bool false, .pointer (some ⟨b0, 0, none⟩), .bool true, .bool true, .pointer (some ⟨b0, 0, none⟩), .pointer (some ⟨b0, 0, none⟩), .pointer (some ⟨b0, 2, none⟩), .bool false, .bool false, .bool false, undef, undef, undef, undef, undef, .bool false] (by kernel_rfl) ?_
    refine then_normal ?_
    refine wp_ret ?_
    replace hS : Own w0 D R _ [boxA b0 [.slice Ap0_0 p0_0.length cp0_0, .int .i64 p0_1, .bool p0_2]] [slA Rp0_0 (Enc.int .u8) Ap0_0 cp0_0 p0_0] := hS.dropS (forall2 (List.Mem.head _) forall0)
    simp only [Option.some.injEq, Prod.mk.injEq] at hM
    obtain ⟨rfl, rfl, rfl, rfl⟩ := hM
    refine ret_v (.bool false) (by kernel_rfl) ⟨Ap0_0, cp0_0, rfl, hS⟩

theorem pack_Reader_fail_W {w0 w : World} {D R : Nat → Prop} {b0 : Nat} {Rp0_0 : Nat → Prop} {Ap0_0 : Option Addr} {cp0_0 : Nat} {p0_0 : List Int} {p0_1 : Int} {p0_2 : Bool} {p1 : Int} {r0 : List Int} {r1 : Int} {r2 : Bool} (hS : Own w0 D R w [boxA b0 [.slice Ap0_0 p0_0.length cp0_0, .int .i64 p0_1, .bool p0_2]] [slA Rp0_0 (Enc.int .u8) Ap0_0 cp0_0 p0_0]) (hM : pack_Reader_fail_M p0_0 p0_1 p0_2 p1 = some (r0, r1, r2)) :
    Calls Go.Proofs.Try.prog 56 #[.pointer (some ⟨b0, 0, none⟩), .int .i64 p1] w (fun e w' => ∃ (ZA1 : Option Addr) (Zc2 : Nat), e = .returned (.tuple #[]) ∧ Own w0 D R w' [boxA b0 [.slice ZA1 r0.length Zc2, .int .i64 r1, .bool r2]] [slA Rp0_0 (Enc.int .u8) ZA1 Zc2 r0]) := by
  refine enter (fn := Go.Proofs.Try.f56) [.pointer (some ⟨b0, 0, none⟩), .int .i64 p1, undef, undef, undef, undef, undef, undef, undef, undef, undef] (by kernel_rfl) rfl (by kernel_rfl) ?_
  unfold pack_Reader_fail_M at hM
  refine wp_reg ?_
  refine seg 5 [.pointer (some ⟨b0, 0, none⟩), .int .i64 p1, undef, undef, .pointer (some ⟨b0, 0, none⟩), .pointer (some ⟨b0, 0, none⟩), .int .i64 p1, .pointer (some ⟨b0, 0, none⟩), .pointer (some ⟨b0, 1, none⟩), undef, undef] (by kernel_rfl) ?_
  refine s_store_box (.tmp 8) (.tmp 6) 44 b0 1 [.slice Ap0_0 p0_0.length cp0_0, .int .i64 p0_1, .bool p0_2] [.slice Ap0_0 p0_0.length cp0_0, .int .i64 p1, .bool p0_2] [.int .i64 p1] (.int .i64 p1) rfl (by kernel_rfl) (by kernel_rfl) (by kernel_rfl) rfl (by kernel_rfl) (forall2 rfl forall0) (Nat.le_of_ble_eq_true (by kernel_rfl)) rfl hS (fun _ hS => ?_)
  refine seg 2 [.pointer (some ⟨b0, 0, none⟩), .int .i64 p1, undef, undef, .pointer (some ⟨b0, 0, none⟩), .pointer (some ⟨b0, 0, none⟩), .int .i64 p1, .pointer (some ⟨b0, 0, none⟩), .pointer (some ⟨b0, 1, none⟩), .pointer (some ⟨b0, 0, none⟩), .pointer (some ⟨b0, 0, none⟩)] (by kernel_rfl) ?_
  refine s_store_box (.tmp 10) (.const (.slice none 0 0)) 22 b0 0 [.slice Ap0_0 p0_0.length cp0_0, .int .i64 p1, .bool p0_2] [.slice none 0 0, .int .i64 p1, .bool p0_2] [.slice none 0 0] (.slice none 0 0) rfl (by kernel_rfl) (by kernel_rfl) (by kernel_rfl) rfl (by kernel_rfl) (forall2 rfl forall0) (Nat.le_of_ble_eq_true (by kernel_rfl)) rfl hS (fun _ hS => ?_)
  refine wl_nil ?_
  replace hS := hS.addNilS Rp0_0 (Enc.int .u8) (fun _ h => ⟨_, (List.Mem.head _), h⟩)
  replace hS : Own w0 D R _ [boxA b0 [.slice none 0 0, .int .i64 p1, .bool p0_2]] [slA Rp0_0 (Enc.int .u8) none 0 []] := hS.dropS (forall2 (List.Mem.head _) forall0)
  simp only [Option.some.injEq, Prod.mk.injEq] at hM
  obtain ⟨rfl, rfl, rfl⟩ := hM
  refine end_v (.tuple #[]) (by kernel_rfl) ⟨none, 0, rfl, hS⟩

theorem pack_Reader_next_W {w0 w : World} {D R : Nat → Prop} {b0 : Nat} {Rp0_0 : Nat → Prop} {Ap0_0 : Option Addr} {cp0_0 : Nat} {p0_0 : List Int} {p0_1 : Int} {p0_2 : Bool} {p1 : Int} {r0 : List Int} {r1 : Bool} {r2 : List Int} {r3 : Int} {r4 : Bool} (hS : Own w0 D R w [boxA b0 [.slice Ap0_0 p0_0.length cp0_0, .int .i64 p0_1, .bool p0_2]] [slA Rp0_0 (Enc.int .u8) Ap0_0 cp0_0 p0_0]) (hM : pack_Reader_next_M p0_0 p0_1 p0_2 p1 = some (r0, r1, r2, r3, r4)) :
    Calls Go.Proofs.Try.prog 57 #[.pointer (some ⟨b0, 0, none⟩), .int .i64 p1] w (fun e w' => ∃ (ZA1 : Option Addr) (Zc2 : Nat) (ZA3 : Option Addr) (Zc4 : Nat), e = .returned (.tuple #[.slice ZA1 r0.length Zc2, .bool r1]) ∧ Own w0 D R w' [boxA b0 [.slice ZA3 r2.length Zc4, .int .i64 r3, .bool r4]] [slA Rp0_0 (Enc.int .u8) ZA1 Zc2 r0, slA Rp0_0 (Enc.int .u8) ZA3 Zc4 r2]) := by
  refine enter (fn := Go.Proofs.Try.f57) [.pointer (some ⟨b0, 0, none⟩), .int .i64 p1, undef, undef, undef, undef, undef, undef, undef, undef, undef, undef, undef, undef, undef, undef, undef, undef, undef, undef, undef, undef, undef, undef, undef, undef, undef, undef, undef, undef, undef, undef, undef, undef, undef] (by kernel_rfl) rfl (by kernel_rfl) ?_
  unfold pack_Reader_next_M at hM
  refine wp_seq ?_
  refine wp_reg ?_
  refine segEnd [.pointer (some ⟨b0, 0, none⟩), .int .i64 p1, undef, undef, .slice none 0 0, .bool false, undef, undef, undef, undef, undef, undef, undef, undef, undef, undef, undef, undef, undef, undef, undef, undef, undef, undef, undef, undef, undef, undef, undef, undef, undef, undef, undef, undef, undef] (by kernel_rfl) ?_
  refine then_normal ?_
  refine wp_seq ?_
  refine wp_seq ?_
  refine wp_reg ?_
  refine seg 1 [.pointer (some ⟨b0, 0, none⟩), .int .i64 p1, undef, undef, .slice none 0 0, .bool false, undef, .pointer (some ⟨b0, 0, none⟩), undef, undef, undef, undef, undef, undef, undef, undef, undef, undef, undef, undef, undef, undef, undef, undef, undef, undef, undef, undef, undef, undef, undef, undef, undef, undef, undef] (by kernel_rfl) ?_
  replace hM := bind_some hM
  obtain ⟨⟨v1, v2, v5, v6⟩, h7, hM⟩ := hM
  have hP := Own.pre (Xi := [boxA b0 [.slice Ap0_0 p0_0.length cp0_0, .int .i64 p0_1, .bool p0_2]]) (X := []) (Si := [slA Rp0_0 (Enc.int .u8) Ap0_0 cp0_0 p0_0]) hS (forall2 (hS.sl_mem (List.Mem.head _)) forall0) (forall2 (fun _ h => .inl ⟨_, (List.Mem.head _), h⟩) forall0)
  refine s_call 55 #[.pointer (some ⟨b0, 0, none⟩)] (by kernel_rfl) (by kernel_rfl) ((pack_Reader_ok_W hP h7).mono ?_)
  rintro _ _ ⟨A3, c4, rfl, hQ⟩
  replace hS : Own w0 D R _ [boxA b0 [.slice A3 v2.length c4, .int .i64 v5, .bool v6]] [slA Rp0_0 (Enc.int .u8) A3 c4 v2, slA Rp0_0 (Enc.int .u8) Ap0_0 cp0_0 p0_0] := hS.post hQ (.inr (doms_sub (fun _ h => ⟨_, (List.Mem.head _), h⟩) doms_sub0))
  clear hP hQ
  refine ⟨_, rfl, ?_⟩
  refine segEnd [.pointer (some ⟨b0, 0, none⟩), .int .i64 p1, undef, undef, .slice none 0 0, .bool false, undef, .pointer (some ⟨b0, 0, none⟩), .bool v1, .bool (!v1), undef, undef, undef, undef, undef, undef, undef, undef, undef, undef, undef, undef, undef, undef, undef, undef, undef, undef, undef, undef, undef, undef, undef, undef, undef] (by kernel_rfl) ?_
  refine then_normal ?_
  refine wp_cond_split (t := !v1) (by kernel_rfl) (fun hc8 => ?_) (fun hc8 => ?_)
  · replace hM := (if_pos hc8).symm.trans hM
    refine wp_seq ?_
    refine wp_reg ?_
    refine segEnd [.pointer (some ⟨b0, 0, none⟩), .int .i64 p1, undef, undef, .slice none 0 0, .bool false, undef, .pointer (some ⟨b0, 0, none⟩), .bool v1, .bool (!v1), undef, undef, undef, undef, undef, undef, undef, undef, undef, undef, undef, undef, undef, undef, undef, undef, undef, undef, undef, undef, undef, undef, undef, undef, undef] (by kernel_rfl) ?_
    refine then_normal ?_
    refine wp_ret ?_
    refine then_ret ?_
    replace hS := hS.addNilS Rp0_0 (Enc.int .u8) (fun _ h => ⟨_, (List.Mem.head _), h⟩)
    replace hS : Own w0 D R _ [boxA b0 [.slice A3 v2.length c4, .int .i64 v5, .bool v6]] [slA Rp0_0 (Enc.int .u8) none 0 [], slA Rp0_0 (Enc.int .u8) A3 c4 v2] := hS.dropS (forall2 (List.Mem.head _) (forall2 (List.Mem.tail _ (List.Mem.head _)) forall0))
    simp only [Option.some.injEq, Prod.mk.injEq] at hM
    obtain ⟨rfl, rfl, rfl, rfl, rfl⟩ := hM
    refine ret_v (.tuple #[.slice none 0 0, .bool false]) (by kernel_rfl) ⟨none, 0, A3, c4, rfl, hS⟩
  · replace hM := (if_neg (Bool.eq_false_iff.1 hc8)).symm.trans hM
    refine wp_skip ?_
    refine then_normal ?_
    refine wp_seq ?_
    refine wp_seq ?_
    refine wp_reg ?_
    refine seg 4 [.pointer (some ⟨b0, 0, none⟩), .int .i64 p1, undef, undef, .slice none 0 0, .bool false, undef, .pointer (some ⟨b0, 0, none⟩), .bool v1, .bool (!v1), .int .i64 p1, .pointer (some ⟨b0, 0, none⟩), .pointer (some ⟨b0, 0, none⟩), .pointer (some ⟨b0, 0, none⟩), undef, undef, undef, undef, undef, undef, undef, undef, undef, undef, undef, undef, undef, undef, undef, undef, undef, undef, undef, undef, undef] (by kernel_rfl) ?_
    refine s_load_box (.tmp 13) 22 b0 0 1 [.slice A3 v2.length c4, .int .i64 v5, .bool v6] [.slice A3 v2.length c4] (.slice A3 v2.length c4) rfl (by kernel_rfl) (by kernel_rfl) (hS.box_mem (List.Mem.head _)) rfl rfl (Or.inr ⟨by kernel_rfl, rfl⟩) ?_
    refine segEnd [.pointer (some ⟨b0, 0, none⟩), .int .i64 p1, undef, undef, .slice none 0 0, .bool false, undef, .pointer (some ⟨b0, 0, none⟩), .bool v1, .bool (!v1), .int .i64 p1, .pointer (some ⟨b0, 0, none⟩), .pointer (some ⟨b0, 0, none⟩), .pointer (some ⟨b0, 0, none⟩), .slice A3 v2.length c4, .int .i64 (v2.length : Int), .bool (decide (p1 > (v2.length : Int))), undef, undef, undef, undef, undef, undef, undef, undef, undef, undef, undef, undef, undef, undef, undef, undef, undef, undef] (by kernel_rfl) ?_
    refine then_normal ?_
    refine wp_cond_split (t := decide (p1 > (v2.length : Int))) (by kernel_rfl) (fun hc9 => ?_) (fun hc9 => ?_)
    · replace hM := (if_pos hc9).symm.trans hM
      refine wp_seq ?_
      refine wp_reg ?_
      refine seg 1 [.pointer (some ⟨b0, 0, none⟩), .int .i64 p1, undef, undef, .slice none 0 0, .bool false, undef, .pointer (some ⟨b0, 0, none⟩), .bool v1, .bool (!v1), .int .i64 p1, .pointer (some ⟨b0, 0, none⟩), .pointer (some ⟨b0, 0, none⟩), .pointer (some ⟨b0, 0, none⟩), .slice A3 v2.length c4, .int .i64 (v2.length : Int), .bool (decide (p1 > (v2.length : Int))), .pointer (some ⟨b0, 0, none⟩), undef, undef, undef, undef, undef, undef, undef, undef, undef, undef, undef, undef, undef, undef, undef, undef, undef] (by kernel_rfl) ?_
      replace hM := bind_some hM
      obtain ⟨⟨v10, v13, v14⟩, h15, hM⟩ := hM
      have hP := Own.pre (Xi := [boxA b0 [.slice A3 v2.length c4, .int .i64 v5, .bool v6]]) (X := []) (Si := [slA Rp0_0 (Enc.int .u8) A3 c4 v2]) hS (forall2 (hS.sl_mem (List.Mem.head _)) forall0) (forall2 (fun _ h => .inl ⟨_, (List.Mem.head _), h⟩) forall0)
      refine s_call 56 #[.pointer (some ⟨b0, 0, none⟩), .int .i64 4] (by kernel_rfl) (by kernel_rfl) ((pack_Reader_fail_W hP h15).mono ?_)
      rintro _ _ ⟨A11, c12, rfl, hQ⟩
      replace hS : Own w0 D R _ [boxA b0 [.slice A11 v10.length c12, .int .i64 v13, .bool v14]] [slA Rp0_0 (Enc.int .u8) A11 c12 v10, slA Rp0_0 (Enc.int .u8) A3 c4 v2, slA Rp0_0 (Enc.int .u8) Ap0_0 cp0_0 p0_0] := hS.post hQ (.inr (doms_sub (fun _ h => ⟨_, (List.Mem.head _), h⟩) doms_sub0))
      clear hP hQ
      refine ⟨_, rfl, ?_⟩
      refine wl_nil ?_
      refine then_normal ?_
      refine wp_seq ?_
      refine wp_reg ?_
      refine segEnd [.pointer (some ⟨b0, 0, none⟩), .int .i64 p1, undef, undef, .slice none 0 0, .bool false, undef, .pointer (some ⟨b0, 0, none⟩), .bool v1, .bool (!v1), .int .i64 p1, .pointer (some ⟨b0, 0, none⟩), .pointer (some ⟨b0, 0, none⟩), .pointer (some ⟨b0, 0, none⟩), .slice A3 v2.length c4, .int .i64 (v2.length : Int), .bool (decide (p1 > (v2.length : Int))), .pointer (some ⟨b0, 0, none⟩), .tuple #[], undef, undef, undef, undef, undef, undef, undef, undef, undef, undef, undef, undef, undef, undef, undef, undef] (by kernel_rfl) ?_
      refine then_normal ?_
      refine wp_ret ?_
      refine then_ret ?_
      replace hS := hS.addNilS Rp0_0 (Enc.int .u8) (fun _ h => ⟨_, (List.Mem.head _), h⟩)
      replace hS : Own w0 D R _ [boxA b0 [.slice A11 v10.length c12, .int .i64 v13, .bool v14]] [slA Rp0_0 (Enc.int .u8) none 0 [], slA Rp0_0 (Enc.int .u8) A11 c12 v10] := hS.dropS (forall2 (List.Mem.head _) (forall2 (List.Mem.tail _ (List.Mem.head _)) forall0))
      simp only [Option.some.injEq, Prod.mk.injEq] at hM
      obtain ⟨rfl, rfl, rfl, rfl, rfl⟩ := hM
      refine ret_v (.tuple #[.slice none 0 0, .bool false]) (by kernel_rfl) ⟨none, 0, A11, c12, rfl, hS⟩
    · replace hM := (if_neg (Bool.eq_false_iff.1 hc9)).symm.trans hM
      refine wp_skip ?_
      refine then_normal ?_
      refine wp_seq ?_
      refine wp_reg ?_
      refine seg 3 [.pointer (some ⟨b0, 0, none⟩), .int .i64 p1, undef, undef, .slice none 0 0, .bool false, undef, .pointer (some ⟨b0, 0, none⟩), .bool v1, .bool (!v1), .int .i64 p1, .pointer (some ⟨b0, 0, none⟩), .pointer (some ⟨b0, 0, none⟩), .pointer (some ⟨b0, 0, none⟩), .slice A3 v2.length c4, .int .i64 (v2.length : Int), .bool (decide (p1 > (v2.length : Int))), undef, undef, .pointer (some ⟨b0, 0, none⟩), .pointer (some ⟨b0, 0, none⟩), .pointer (some ⟨b0, 0, none⟩), undef, undef, undef, undef, undef, undef, undef, undef, undef, undef, undef, undef, undef] (by kernel_rfl) ?_
      refine s_load_box (.tmp 21) 22 b0 0 1 [.slice A3 v2.length c4, .int .i64 v5, .bool v6] [.slice A3 v2.length c4] (.slice A3 v2.length c4) rfl (by kernel_rfl) (by kernel_rfl) (hS.box_mem (List.Mem.head _)) rfl rfl (Or.inr ⟨by kernel_rfl, rfl⟩) ?_
      refine seg 1 [.pointer (some ⟨b0, 0, none⟩), .int .i64 p1, undef, undef, .slice none 0 0, .bool false, undef, .pointer (some ⟨b0, 0, none⟩), .bool v1, .bool (!v1), .int .i64 p1, .pointer (some ⟨b0, 0, none⟩), .pointer (some ⟨b0, 0, none⟩), .pointer (some ⟨b0, 0, none⟩), .slice A3 v2.length c4, .int .i64 (v2.length : Int), .bool (decide (p1 > (v2.length : Int))), undef, undef, .pointer (some ⟨b0, 0, none⟩), .pointer (some ⟨b0, 0, none⟩), .pointer (some ⟨b0, 0, none⟩), .slice A3 v2.length c4, .int .i64 p1, undef, undef, undef, undef, undef, undef, undef, undef, undef, undef, undef] (by kernel_rfl) ?_
      replace hM := bind_some hM
      obtain ⟨y16, h17, hM⟩ := hM
      refine s_slice (A := A3) (cap := c4) (.tmp 22) none (some (.tmp 23)) 22 5 1 0 p1 rfl u22 el5 (by kernel_rfl) (Or.inl ⟨rfl, rfl⟩) (Or.inr ⟨_, .i64, rfl, by kernel_rfl⟩) (by kernel_rfl) ((hS.sl_mem (List.Mem.head _))).1 h17 (fun A18 c19 hp20 => ?_)
      replace hS := hS.addPart (List.Mem.head _) hp20
      refine segEnd [.pointer (some ⟨b0, 0, none⟩), .int .i64 p1, undef, undef, .slice none 0 0, .bool false, .slice A18 y16.length c19, .pointer (some ⟨b0, 0, none⟩), .bool v1, .bool (!v1), .int .i64 p1, .pointer (some ⟨b0, 0, none⟩), .pointer (some ⟨b0, 0, none⟩), .pointer (some ⟨b0, 0, none⟩), .slice A3 v2.length c4, .int .i64 (v2.length : Int), .bool (decide (p1 > (v2.length : Int))), undef, undef, .pointer (some ⟨b0, 0, none⟩), .pointer (some ⟨b0, 0, none⟩), .pointer (some ⟨b0, 0, none⟩), .slice A3 v2.length c4, .int .i64 p1, .slice A18 y16.length c19, undef, undef, undef, undef, undef, undef, undef, undef, undef, undef] (by kernel_rfl) ?_
      refine then_normal ?_
      refine wp_seq ?_
      refine wp_reg ?_
      refine seg 4 [.pointer (some ⟨b0, 0, none⟩), .int .i64 p1, undef, undef, .slice none 0 0, .bool false, .slice A18 y16.length c19, .pointer (some ⟨b0, 0, none⟩), .bool v1, .bool (!v1), .int .i64 p1, .pointer (some ⟨b0, 0, none⟩), .pointer (some ⟨b0, 0, none⟩), .pointer (some ⟨b0, 0, none⟩), .slice A3 v2.length c4, .int .i64 (v2.length : Int), .bool (decide (p1 > (v2.length : Int))), undef, undef, .pointer (some ⟨b0, 0, none⟩), .pointer (some ⟨b0, 0, none⟩), .pointer (some ⟨b0, 0, none⟩), .slice A3 v2.length c4, .int .i64 p1, .slice A18 y16.length c19, .pointer (some ⟨b0, 0, none⟩), .pointer (some ⟨b0, 0, none⟩), .pointer (some ⟨b0, 0, none⟩), .pointer (some ⟨b0, 0, none⟩), undef, undef, undef, undef, undef, undef] (by kernel_rfl) ?_
      refine s_load_box (.tmp 28) 22 b0 0 1 [.slice A3 v2.length c4, .int .i64 v5, .bool v6] [.slice A3 v2.length c4] (.slice A3 v2.length c4) rfl (by kernel_rfl) (by kernel_rfl) (hS.box_mem (List.Mem.head _)) rfl rfl (Or.inr ⟨by kernel_rfl, rfl⟩) ?_
      refine seg 1 [.pointer (some ⟨b0, 0, none⟩), .int .i64 p1, undef, undef, .slice none 0 0, .bool false, .slice A18 y16.length c19, .pointer (some ⟨b0, 0, none⟩), .bool v1, .bool (!v1), .int .i64 p1, .pointer (some ⟨b0, 0, none⟩), .pointer (some ⟨b0, 0, none⟩), .pointer (some ⟨b0, 0, none⟩), .slice A3 v2.length c4, .int .i64 (v2.length : Int), .bool (decide (p1 > (v2.length : Int))), undef, undef, .pointer (some ⟨b0, 0, none⟩), .pointer (some ⟨b0, 0, none⟩), .pointer (some ⟨b0, 0, none⟩), .slice A3 v2.length c4, .int .i64 p1, .slice A18 y16.length c19, .pointer (some ⟨b0, 0, none⟩), .pointer (some ⟨b0, 0, none⟩), .pointer (some ⟨b0, 0, none⟩), .pointer (some ⟨b0, 0, none⟩), .slice A3 v2.length c4, .int .i64 p1, undef, undef, undef, undef] (by kernel_rfl) ?_
      replace hM := bind_some hM
      obtain ⟨y21, h22, hM⟩ := hM
      refine s_slice (A := A3) (cap := c4) (.tmp 29) (some (.tmp 30)) none 22 5 1 p1 (v2.length : Int) rfl u22 el5 (by kernel_rfl) (Or.inr ⟨_, .i64, rfl, by kernel_rfl⟩) (Or.inl ⟨rfl, rfl⟩) (by kernel_rfl) ((hS.sl_mem (List.Mem.tail _ (List.Mem.head _)))).1 h22 (fun A23 c24 hp25 => ?_)
      replace hS := hS.addPart (List.Mem.tail _ (List.Mem.head _)) hp25
      refine seg 2 [.pointer (some ⟨b0, 0, none⟩), .int .i64 p1, undef, undef, .slice none 0 0, .bool false, .slice A18 y16.length c19, .pointer (some ⟨b0, 0, none⟩), .bool v1, .bool (!v1), .int .i64 p1, .pointer (some ⟨b0, 0, none⟩), .pointer (some ⟨b0, 0, none⟩), .pointer (some ⟨b0, 0, none⟩), .slice A3 v2.length c4, .int .i64 (v2.length : Int), .bool (decide (p1 > (v2.length : Int))), undef, undef, .pointer (some ⟨b0, 0, none⟩), .pointer (some ⟨b0, 0, none⟩), .pointer (some ⟨b0, 0, none⟩), .slice A3 v2.length c4, .int .i64 p1, .slice A18 y16.length c19, .pointer (some ⟨b0, 0, none⟩), .pointer (some ⟨b0, 0, none⟩), .pointer (some ⟨b0, 0, none⟩), .pointer (some ⟨b0, 0, none⟩), .slice A3 v2.length c4, .int .i64 p1, .slice A23 y21.length c24, .pointer (some ⟨b0, 0, none⟩), .pointer (some ⟨b0, 0, none⟩), undef] (by kernel_rfl) ?_
      refine s_store_box (.tmp 33) (.tmp 31) 22 b0 0 [.slice A3 v2.length c4, .int .i64 v5, .bool v6] [.slice A23 y21.length c24, .int .i64 v5, .bool v6] [.slice A23 y21.length c24] (.slice A23 y21.length c24) rfl (by kernel_rfl) (by kernel_rfl) (by kernel_rfl) rfl (by kernel_rfl) (forall2 rfl forall0) (Nat.le_of_ble_eq_true (by kernel_rfl)) rfl hS (fun _ hS => ?_)
      refine wl_nil ?_
      refine then_normal ?_
      refine wp_seq ?_
      refine wp_reg ?_
      refine segEnd [.pointer (some ⟨b0, 0, none⟩), .int .i64 p1, undef, undef, .slice A18 y16.length c19, .bool true, .slice A18 y16.length c19, .pointer (some ⟨b0, 0, none⟩), .bool v1, .bool (!v1), .int .i64 p1, .pointer (some ⟨b0, 0, none⟩), .pointer (some ⟨b0, 0, none⟩), .pointer (some ⟨b0, 0, none⟩), .slice A3 v2.length c4, .int .i64 (v2.length : Int), .bool (decide (p1 > (v2.length : Int))), undef, undef, .pointer (some ⟨b0, 0, none⟩), .pointer (some ⟨b0, 0, none⟩), .pointer (some ⟨b0, 0, none⟩), .slice A3 v2.length c4, .int .i64 p1, .slice A18 y16.length c19, .pointer (some ⟨b0, 0, none⟩), .pointer (some ⟨b0, 0, none⟩), .pointer (some ⟨b0, 0, none⟩), .pointer (some ⟨b0, 0, none⟩), .slice A3 v2.length c4, .int .i64 p1, .slice A23 y21.length c24, .pointer (some ⟨b0, 0, none⟩), .pointer (some ⟨b0, 0, none⟩), .slice A18 y16.length c19] (by kernel_rfl) ?_
      refine then_normal ?_
      refine wp_ret ?_
      replace hS : Own w0 D R _ [boxA b0 [.slice A23 y21.length c24, .int .i64 v5, .bool v6]] [slA Rp0_0 (Enc.int .u8) A18 c19 y16, slA Rp0_0 (Enc.int .u8) A23 c24 y21] := hS.dropS (forall2 (List.Mem.tail _ (List.Mem.head _)) (forall2 (List.Mem.head _) forall0))
      simp only [Option.some.injEq, Prod.mk.injEq] at hM
      obtain ⟨rfl, rfl, rfl, rfl, rfl⟩ := hM
      refine ret_v (.tuple #[.slice A18 y16.length c19, .bool true]) (by kernel_rfl) ⟨A18, c19, A23, c24, rfl, hS⟩

theorem pack_Reader_number_W {w0 w : World} {D R : Nat → Prop} {b0 : Nat} {Rp0_0 : Nat → Prop} {Ap0_0 : Option Addr} {cp0_0 : Nat} {p0_0 : List Int} {p0_1 : Int} {p0_2 : Bool} {p1 : Int} {r0 : Int} {r1 : List Int} {r2 : Int} {r3 : Bool} (hS : Own w0 D R w [boxA b0 [.slice Ap0_0 p0_0.length cp0_0, .int .i64 p0_1, .bool p0_2]] [slA Rp0_0 (Enc.int .u8) Ap0_0 cp0_0 p0_0]) (hM : pack_Reader_number_M p0_0 p0_1 p0_2 p1 = some (r0, r1, r2, r3)) :
    Calls Go.Proofs.Try.prog 54 #[.pointer (some ⟨b0, 0, none⟩), .int .i64 p1] w (fun e w' => ∃ (ZA1 : Option Addr) (Zc2 : Nat), e = .returned (.int .u64 r0) ∧ Own w0 D R w' [boxA b0 [.slice ZA1 r1.length Zc2, .int .i64 r2, .bool r3]] [slA Rp0_0 (Enc.int .u8) ZA1 Zc2 r1]) := by
  refine enter (fn := Go.Proofs.Try.f54) [.pointer (some ⟨b0, 0, none⟩), .int .i64 p1, undef, undef, undef, undef, undef, undef, undef, undef, undef, undef, undef, undef, undef, undef, undef, undef, undef, undef, undef, undef, undef, undef, undef, undef, undef, undef, undef] (by kernel_rfl) rfl (by kernel_rfl) ?_
  unfold pack_Reader_number_M at hM
  refine wp_seq ?_
  refine wp_reg ?_
  refine segEnd [.pointer (some ⟨b0, 0, none⟩), .int .i64 p1, undef, undef, .int .u64 0, undef, undef, undef, undef, undef, undef, undef, undef, undef, undef, undef, undef, undef, undef, undef, undef, undef, undef, undef, undef, undef, undef, undef, undef] (by kernel_rfl) ?_
  refine then_normal ?_
  refine wp_seq ?_
  refine wp_reg ?_
  refine seg 2 [.pointer (some ⟨b0, 0, none⟩), .int .i64 p1, undef, undef, .int .u64 0, undef, undef, undef, undef, undef, undef, .pointer (some ⟨b0, 0, none⟩), .int .i64 p1, undef, undef, undef, undef, undef, undef, undef, undef, undef, undef, undef, undef, undef, undef, undef, undef] (by kernel_rfl) ?_
  replace hM := bind_some hM
  obtain ⟨⟨v1, v4, v5, v8, v9⟩, h10, hM⟩ := hM
  have hP := Own.pre (Xi := [boxA b0 [.slice Ap0_0 p0_0.length cp0_0, .int .i64 p0_1, .bool p0_2]]) (X := []) (Si := [slA Rp0_0 (Enc.int .u8) Ap0_0 cp0_0 p0_0]) hS (forall2 (hS.sl_mem (List.Mem.head _)) forall0) (forall2 (fun _ h => .inl ⟨_, (List.Mem.head _), h⟩) forall0)
  refine s_call 57 #[.pointer (some ⟨b0, 0, none⟩), .int .i64 p1] (by kernel_rfl) (by kernel_rfl) ((pack_Reader_next_W hP h10).mono ?_)
  rintro _ _ ⟨A2, c3, A6, c7, rfl, hQ⟩
  replace hS : Own w0 D R _ [boxA b0 [.slice A6 v5.length c7, .int .i64 v8, .bool v9]] [slA Rp0_0 (Enc.int .u8) A2 c3 v1, slA Rp0_0 (Enc.int .u8) A6 c7 v5, slA Rp0_0 (Enc.int .u8) Ap0_0 cp0_0 p0_0] := hS.post hQ (.inr (doms_sub (fun _ h => ⟨_, (List.Mem.head _), h⟩) doms_sub0))
  clear hP hQ
  refine ⟨_, rfl, ?_⟩
  refine segEnd [.pointer (some ⟨b0, 0, none⟩), .int .i64 p1, undef, undef, .int .u64 0, .slice A2 v1.length c3, .bool v4, undef, undef, undef, .tuple #[.slice A2 v1.length c3, .bool v4], .pointer (some ⟨b0, 0, none⟩), .int .i64 p1, .tuple #[.slice A2 v1.length c3, .bool v4], .slice A2 v1.length c3, .bool v4, undef, undef, undef, undef, undef, undef, undef, undef, undef, undef, undef, undef, undef] (by kernel_rfl) ?_
  refine then_normal ?_
  refine wp_seq ?_
  refine wp_reg ?_
  refine segEnd [.pointer (some ⟨b0, 0, none⟩), .int .i64 p1, undef, undef, .int .u64 0, .slice A2 v1.length c3, .bool v4, .int .u64 0, undef, undef, .tuple #[.slice A2 v1.length c3, .bool v4], .pointer (some ⟨b0, 0, none⟩), .int .i64 p1, .tuple #[.slice A2 v1.length c3, .bool v4], .slice A2 v1.length c3, .bool v4, undef, undef, undef, undef, undef, undef, undef, undef, undef, undef, undef, undef, undef] (by kernel_rfl) ?_
  refine then_normal ?_
  refine wp_join (fun a w => ∃ (g71 : Value) (g72 : Value) (g73 : Value) (g74 : Value) (g76 : Value) (g77 : Value) (g78 : Value) (g79 : Value) (g80 : Value) (g81 : Value) (g82 : Value) (g83 : Value) (g84 : Value) (g85 : Value) (g86 : Value) (g87 : Value) (g88 : Value) (g89 : Value) (g90 : Value) (g91 : Value) (g92 : Value) (g93 : Value) (g94 : Value) (x75 : Int), a = Fr [.pointer (some ⟨b0, 0, none⟩), g71, undef, undef, g72, g73, g74, .int .u64 x75, undef, g76, g77, g78, g79, g80, g81, g82, g83, g84, g85, g86, g87, g88, g89, g90, g91, g92, g93, g94, undef] ∧ Own w0 D R w [boxA b0 [.slice A6 v5.length c7, .int .i64 v8, .bool v9]] [slA Rp0_0 (Enc.int .u8) A2 c3 v1, slA Rp0_0 (Enc.int .u8) A6 c7 v5, slA Rp0_0 (Enc.int .u8) Ap0_0 cp0_0 p0_0] ∧ pack_Reader_number_J1 v5 v8 v9 x75 = some (r0, r1, r2, r3)) ?_ ?_
  ·
    refine wp_seq ?_
    refine wp_reg ?_
    refine segEnd [.pointer (some ⟨b0, 0, none⟩), .int .i64 p1, undef, undef, .int .u64 0, .slice A2 v1.length c3, .bool v4, .int .u64 0, undef, undef, .tuple #[.slice A2 v1.length c3, .bool v4], .pointer (some ⟨b0, 0, none⟩), .int .i64 p1, .tuple #[.slice A2 v1.length c3, .bool v4], .slice A2 v1.length c3, .bool v4, .slice A2 v1.length c3, .int .i64 (v1.length : Int), .int .i64 0, undef, undef, undef, undef, undef, undef, undef, undef, undef, undef] (by kernel_rfl) ?_
    refine then_normal ?_
    refine wp_block ?_
    replace hM := bind_some hM
    obtain ⟨q41, hL42, hM⟩ := hM
    refine wp_loop_model (fun (s : (Int × Int)) a w => ∃ (g43 : Value) (g44 : Value) (g45 : Value) (g46 : Value) (g48 : Value) (g49 : Value) (g50 : Value) (g51 : Value) (g52 : Value) (g53 : Value) (g54 : Value) (g56 : Value) (g57 : Value) (g58 : Value) (g59 : Value) (g60 : Value) (g61 : Value) (g62 : Value) (g63 : Value) (g64 : Value) (x47 : Int) (x55 : Int), s = (x47, x55) ∧ a = Fr [.pointer (some ⟨b0, 0, none⟩), g43, undef, undef, g44, g45, g46, .int .u64 x47, undef, g48, g49, g50, g51, g52, g53, g54, .slice A2 v1.length c3, .int .i64 (v1.length : Int), .int .i64 x55, g56, g57, g58, g59, g60, g61, g62, g63, g64, undef] ∧ Own w0 D R w [boxA b0 [.slice A6 v5.length c7, .int .i64 v8, .bool v9]] [slA Rp0_0 (Enc.int .u8) A2 c3 v1, slA Rp0_0 (Enc.int .u8) A6 c7 v5, slA Rp0_0 (Enc.int .u8) Ap0_0 cp0_0 p0_0]) ?_ hL42 ?_
    · rintro _ a w ⟨g43, g44, g45, g46, g48, g49, g50, g51, g52, g53, g54, g56, g57, g58, g59, g60, g61, g62, g63, g64, x47, x55, rfl, rfl, hS⟩ o39 hM1 hout40
      replace hM1 : pack_Reader_number_L1 v1 x47 x55 = some o39 := hM1
      unfold pack_Reader_number_L1 at hM1
      refine wp_seq ?_
      refine wp_reg ?_
      refine segEnd [.pointer (some ⟨b0, 0, none⟩), g43, undef, undef, g44, g45, g46, .int .u64 x47, undef, g48, g49, g50, g51, g52, g53, g54, .slice A2 v1.length c3, .int .i64 (v1.length : Int), .int .i64 x55, .bool (decide (x55 < (v1.length : Int))), g57, g58, g59, g60, g61, g62, g63, g64, undef] (by kernel_rfl) ?_
      refine then_normal ?_
      refine wp_seq ?_
      refine wp_cond_split (t := decide (x55 < (v1.length : Int))) (by kernel_rfl) (fun hc65 => ?_) (fun hc65 => ?_)
      · replace hM1 := (if_pos hc65).symm.trans hM1
        refine wp_skip ?_
        refine then_normal ?_
        refine wp_seq ?_
        refine wp_block ?_
        refine wp_seq ?_
        refine wp_reg ?_
        replace hM1 := bind_some hM1
        obtain ⟨y66, h67, hM1⟩ := hM1
        have hi70 := ix_some h67
        refine s_index (A := A2) (cap := c3) (.tmp 16) (.tmp 18) 22 5 1 .i64 x55 rfl u22 el5 (by kernel_rfl) (by kernel_rfl) (by kernel_rfl) (SlR.of_sl (hS.sl_mem (List.Mem.head _))) hi70.1 hi70.2.1 (fun p68 hp69 => ?_)
        refine s_load_el (.tmp 20) 5 1 p68 _ y66 rfl el5 (by kernel_rfl) (by kernel_rfl) hp69 (SlR.of_sl (hS.sl_mem (List.Mem.head _))) hi70.2.2 ?_
        refine segEnd [.pointer (some ⟨b0, 0, none⟩), g43, undef, undef, g44, g45, g46, .int .u64 x47, undef, .int .u8 y66, g49, g50, g51, g52, g53, g54, .slice A2 v1.length c3, .int .i64 (v1.length : Int), .int .i64 x55, .bool (decide (x55 < (v1.length : Int))), .pointer (some p68), .int .u8 y66, g59, g60, g61, g62, g63, g64, undef] (by kernel_rfl) ?_
        refine then_normal ?_
        refine wp_reg ?_
        refine segEnd [.pointer (some ⟨b0, 0, none⟩), g43, undef, undef, g44, g45, g46, .int .u64 (bor .u64 (IntKind.u64.wrap (x47 * 2 ^ 8)) (IntKind.u64.wrap (y66))), undef, .int .u8 y66, g49, g50, g51, g52, g53, g54, .slice A2 v1.length c3, .int .i64 (v1.length : Int), .int .i64 x55, .bool (decide (x55 < (v1.length : Int))), .pointer (some p68), .int .u8 y66, .int .u64 x47, .int .u64 (IntKind.u64.wrap (x47 * 2 ^ 8)), .int .u8 y66, .int .u64 (IntKind.u64.wrap (y66)), .int .u64 (bor .u64 (IntKind.u64.wrap (x47 * 2 ^ 8)) (IntKind.u64.wrap (y66))), g64, undef] (by kernel_rfl) ?_
        refine in_normal ?_
        refine then_normal ?_
        refine wp_reg ?_
        refine segEnd [.pointer (some ⟨b0, 0, none⟩), g43, undef, undef, g44, g45, g46, .int .u64 (bor .u64 (IntKind.u64.wrap (x47 * 2 ^ 8)) (IntKind.u64.wrap (y66))), undef, .int .u8 y66, g49, g50, g51, g52, g53, g54, .slice A2 v1.length c3, .int .i64 (v1.length : Int), .int .i64 (IntKind.i64.wrap (x55 + 1)), .bool (decide (x55 < (v1.length : Int))), .pointer (some p68), .int .u8 y66, .int .u64 x47, .int .u64 (IntKind.u64.wrap (x47 * 2 ^ 8)), .int .u8 y66, .int .u64 (IntKind.u64.wrap (y66)), .int .u64 (bor .u64 (IntKind.u64.wrap (x47 * 2 ^ 8)) (IntKind.u64.wrap (y66))), .int .i64 (IntKind.i64.wrap (x55 + 1)), undef] (by kernel_rfl) ?_
        refine then_normal ?_
        exact ⟨((bor .u64 (IntKind.u64.wrap (x47 * 2 ^ 8)) (IntKind.u64.wrap (y66))), (IntKind.i64.wrap (x55 + 1))), (Option.some.inj hM1).symm, g43, g44, g45, g46, (.int .u8 y66), g49, g50, g51, g52, g53, g54, (.bool (decide (x55 < (v1.length : Int)))), (.pointer (some p68)), (.int .u8 y66), (.int .u64 x47), (.int .u64 (IntKind.u64.wrap (x47 * 2 ^ 8))), (.int .u8 y66), (.int .u64 (IntKind.u64.wrap (y66))), (.int .u64 (bor .u64 (IntKind.u64.wrap (x47 * 2 ^ 8)) (IntKind.u64.wrap (y66)))), (.int .i64 (IntKind.i64.wrap (x55 + 1))), (bor .u64 (IntKind.u64.wrap (x47 * 2 ^ 8)) (IntKind.u64.wrap (y66))), (IntKind.i64.wrap (x55 + 1)), rfl, (by kernel_rfl), hS⟩
      · replace hM1 := (if_neg (Bool.eq_false_iff.1 hc65)).symm.trans hM1
        refine wp_exit ?_
        refine then_exit ?_
        refine then_exit ?_
        have hr96 := hout40 _ (Option.some.inj hM1).symm
        subst hr96
        refine in_exit_eq ?_
        refine then_normal ?_
        exact ⟨g43, g44, g45, g46, g48, g49, g50, g51, g52, g53, g54, (.slice A2 v1.length c3), (.int .i64 (v1.length : Int)), (.int .i64 x55), (.bool (decide (x55 < (v1.length : Int)))), g57, g58, g59, g60, g61, g62, g63, g64, x47, (by kernel_rfl), hS, hM⟩
    · exact ⟨(.int .i64 p1), (.int .u64 0), (.slice A2 v1.length c3), (.bool v4), undef, (.tuple #[.slice A2 v1.length c3, .bool v4]), (.pointer (some ⟨b0, 0, none⟩)), (.int .i64 p1), (.tuple #[.slice A2 v1.length c3, .bool v4]), (.slice A2 v1.length c3), (.bool v4), undef, undef, undef, undef, undef, undef, undef, undef, undef, 0, 0, rfl, (by kernel_rfl), hS⟩
  · rintro a w ⟨g71, g72, g73, g74, g76, g77, g78, g79, g80, g81, g82, g83, g84, g85, g86, g87, g88, g89, g90, g91, g92, g93, g94, x75, rfl, hS, hM⟩
    unfold pack_Reader_number_J1 at hM
    refine wp_seq ?_
    refine wp_reg ?_
    refine segEnd [.pointer (some ⟨b0, 0, none⟩), g71, undef, undef, .int .u64 x75, g73, g74, .int .u64 x75, undef, g76, g77, g78, g79, g80, g81, g82, g83, g84, g85, g86, g87, g88, g89, g90, g91, g92, g93, g94, .int .u64 x75] (by kernel_rfl) ?_
    refine then_normal ?_
    refine wp_ret ?_
    replace hS : Own w0 D R _ [boxA b0 [.slice A6 v5.length c7, .int .i64 v8, .bool v9]] [slA Rp0_0 (Enc.int .u8) A6 c7 v5] := hS.dropS (forall2 (List.Mem.tail _ (List.Mem.head _)) forall0)
    simp only [Option.some.injEq, Prod.mk.injEq] at hM
    obtain ⟨rfl, rfl, rfl, rfl⟩ := hM
    refine ret_v (.int .u64 x75) (by kernel_rfl) ⟨A6, c7, rfl, hS⟩

theorem pack_Reader_U8_W {w0 w : World} {D R : Nat → Prop} {b0 : Nat} {Rp0_0 : Nat → Prop} {Ap0_0 : Option Addr} {cp0_0 : Nat} {p0_0 : List Int} {p0_1 : Int} {p0_2 : Bool} {r0 : Int} {r1 : List Int} {r2 : Int} {r3 : Bool} (hS : Own w0 D R w [boxA b0 [.slice Ap0_0 p0_0.length cp0_0, .int .i64 p0_1, .bool p0_2]] [slA Rp0_0 (Enc.int .u8) Ap0_0 cp0_0 p0_0]) (hM : pack_Reader_U8_M p0_0 p0_1 p0_2 = some (r0, r1, r2, r3)) :
    Calls Go.Proofs.Try.prog 30 #[.pointer (some ⟨b0, 0, none⟩)] w (fun e w' => ∃ (ZA1 : Option Addr) (Zc2 : Nat), e = .returned (.int .i64 r0) ∧ Own w0 D R w' [boxA b0 [.slice ZA1 r1.length Zc2, .int .i64 r2, .bool r3]] [slA Rp0_0 (Enc.int .u8) ZA1 Zc2 r1]) := by
  refine enter (fn := Go.Proofs.Try.f30) [.pointer (some ⟨b0, 0, none⟩), undef, undef, undef, undef, undef] (by kernel_rfl) rfl (by kernel_rfl) ?_
  unfold pack_Reader_U8_M at hM
  refine wp_seq ?_
  refine wp_reg ?_
  refine segEnd [.pointer (some ⟨b0, 0, none⟩), undef, .int .i64 0, undef, undef, undef] (by kernel_rfl) ?_
  refine then_normal ?_
  refine wp_seq ?_
  refine wp_reg ?_
  refine seg 1 [.pointer (some ⟨b0, 0, none⟩), undef, .int .i64 0, .pointer (some ⟨b0, 0, none⟩), undef, undef] (by kernel_rfl) ?_
  replace hM := bind_some hM
  obtain ⟨⟨v1, v2, v5, v6⟩, h7, hM⟩ := hM
  have hP := Own.pre (Xi := [boxA b0 [.slice Ap0_0 p0_0.length cp0_0, .int .i64 p0_1, .bool p0_2]]) (X := []) (Si := [slA Rp0_0 (Enc.int .u8) Ap0_0 cp0_0 p0_0]) hS (forall2 (hS.sl_mem (List.Mem.head _)) forall0) (forall2 (fun _ h => .inl ⟨_, (List.Mem.head _), h⟩) forall0)
  refine s_call 54 #[.pointer (some ⟨b0, 0, none⟩), .int .i64 1] (by kernel_rfl) (by kernel_rfl) ((pack_Reader_number_W hP h7).mono ?_)
  rintro _ _ ⟨A3, c4, rfl, hQ⟩
  replace hS : Own w0 D R _ [boxA b0 [.slice A3 v2.length c4, .int .i64 v5, .bool v6]] [slA Rp0_0 (Enc.int .u8) A3 c4 v2, slA Rp0_0 (Enc.int .u8) Ap0_0 cp0_0 p0_0] := hS.post hQ (.inr (doms_sub (fun _ h => ⟨_, (List.Mem.head _), h⟩) doms_sub0))
  clear hP hQ
  refine ⟨_, rfl, ?_⟩
  refine segEnd [.pointer (some ⟨b0, 0, none⟩), undef, .int .i64 (IntKind.i64.wrap (v1)), .pointer (some ⟨b0, 0, none⟩), .int .u64 v1, .int .i64 (IntKind.i64.wrap (v1))] (by kernel_rfl) ?_
  refine then_normal ?_
  refine wp_ret ?_
  replace hS : Own w0 D R _ [boxA b0 [.slice A3 v2.length c4, .int .i64 v5, .bool v6]] [slA Rp0_0 (Enc.int .u8) A3 c4 v2] := hS.dropS (forall2 (List.Mem.head _) forall0)
  simp only [Option.some.injEq, Prod.mk.injEq] at hM
  obtain ⟨rfl, rfl, rfl, rfl⟩ := hM
  refine ret_v (.int .i64 (IntKind.i64.wrap (v1))) (by kernel_rfl) ⟨A3, c4, rfl, hS⟩

theorem pack_Reader_U32_W {w0 w : World} {D R : Nat → Prop} {b0 : Nat} {Rp0_0 : Nat → Prop} {Ap0_0 : Option Addr} {cp0_0 : Nat} {p0_0 : List Int} {p0_1 : Int} {p0_2 : Bool} {r0 : Int} {r1 : List Int} {r2 : Int} {r3 : Bool} (hS : Own w0 D R w [boxA b0 [.slice Ap0_0 p0_0.length cp0_0, .int .i64 p0_1, .bool p0_2]] [slA Rp0_0 (Enc.int .u8) Ap0_0 cp0_0 p0_0]) (hM : pack_Reader_U32_M p0_0 p0_1 p0_2 = some (r0, r1, r2, r3)) :
    Calls Go.Proofs.Try.prog 31 #[.pointer (some ⟨b0, 0, none⟩)] w (fun e w' => ∃ (ZA1 : Option Addr) (Zc2 : Nat), e = .returned (.int .u32 r0) ∧ Own w0 D R w' [boxA b0 [.slice ZA1 r1.length Zc2, .int .i64 r2, .bool r3]] [slA Rp0_0 (Enc.int .u8) ZA1 Zc2 r1]) := by
  refine enter (fn := Go.Proofs.Try.f31) [.pointer (some ⟨b0, 0, none⟩), undef, undef, undef, undef, undef] (by kernel_rfl) rfl (by kernel_rfl) ?_
  unfold pack_Reader_U32_M at hM
  refine wp_seq ?_
  refine wp_reg ?_
  refine segEnd [.pointer (some ⟨b0, 0, none⟩), undef, .int .u32 0, undef, undef, undef] (by kernel_rfl) ?_
  refine then_normal ?_
  refine wp_seq ?_
  refine wp_reg ?_
  refine seg 1 [.pointer (some ⟨b0, 0, none⟩), undef, .int .u32 0, .pointer (some ⟨b0, 0, none⟩), undef, undef] (by kernel_rfl) ?_
  replace hM := bind_some hM
  obtain ⟨⟨v1, v2, v5, v6⟩, h7, hM⟩ := hM
  have hP := Own.pre (Xi := [boxA b0 [.slice Ap0_0 p0_0.length cp0_0, .int .i64 p0_1, .bool p0_2]]) (X := []) (Si := [slA Rp0_0 (Enc.int .u8) Ap0_0 cp0_0 p0_0]) hS (forall2 (hS.sl_mem (List.Mem.head _)) forall0) (forall2 (fun _ h => .inl ⟨_, (List.Mem.head _), h⟩) forall0)
  refine s_call 54 #[.pointer (some ⟨b0, 0, none⟩), .int .i64 4] (by kernel_rfl) (by kernel_rfl) ((pack_Reader_number_W hP h7).mono ?_)
  rintro _ _ ⟨A3, c4, rfl, hQ⟩
  replace hS : Own w0 D R _ [boxA b0 [.slice A3 v2.length c4, .int .i64 v5, .bool v6]] [slA Rp0_0 (Enc.int .u8) A3 c4 v2, slA Rp0_0 (Enc.int .u8) Ap0_0 cp0_0 p0_0] := hS.post hQ (.inr (doms_sub (fun _ h => ⟨_, (List.Mem.head _), h⟩) doms_sub0))
  clear hP hQ
  refine ⟨_, rfl, ?_⟩
  refine segEnd [.pointer (some ⟨b0, 0, none⟩), undef, .int .u32 (IntKind.u32.wrap (v1)), .pointer (some ⟨b0, 0, none⟩), .int .u64 v1, .int .u32 (IntKind.u32.wrap (v1))] (by kernel_rfl) ?_
  refine then_normal ?_
  refine wp_ret ?_
  replace hS : Own w0 D R _ [boxA b0 [.slice A3 v2.length c4, .int .i64 v5, .bool v6]] [slA Rp0_0 (Enc.int .u8) A3 c4 v2] := hS.dropS (forall2 (List.Mem.head _) forall0)
  simp only [Option.some.injEq, Prod.mk.injEq] at hM
  obtain ⟨rfl, rfl, rfl, rfl⟩ := hM
  refine ret_v (.int .u32 (IntKind.u32.wrap (v1))) (by kernel_rfl) ⟨A3, c4, rfl, hS⟩

theorem pack_Reader_U64_W {w0 w : World} {D R : Nat → Prop} {b0 : Nat} {Rp0_0 : Nat → Prop} {Ap0_0 : Option Addr} {cp0_0 : Nat} {p0_0 : List Int} {p0_1 : Int} {p0_2 : Bool} {r0 : Int} {r1 : List Int} {r2 : Int} {r3 : Bool} (hS : Own w0 D R w [boxA b0 [.slice Ap0_0 p0_0.length cp0_0, .int .i64 p0_1, .bool p0_2]] [slA Rp0_0 (Enc.int .u8) Ap0_0 cp0_0 p0_0]) (hM : pack_Reader_U64_M p0_0 p0_1 p0_2 = some (r0, r1, r2, r3)) :
    Calls Go.Proofs.Try.prog 32 #[.pointer (some ⟨b0, 0, none⟩)] w (fun e w' => ∃ (ZA1 : Option Addr) (Zc2 : Nat), e = .returned (.int .u64 r0) ∧ Own w0 D R w' [boxA b0 [.slice ZA1 r1.length Zc2, .int .i64 r2, .bool r3]] [slA Rp0_0 (Enc.int .u8) ZA1 Zc2 r1]) := by
  refine enter (fn := Go.Proofs.Try.f32) [.pointer (some ⟨b0, 0, none⟩), undef, undef, undef, undef] (by kernel_rfl) rfl (by kernel_rfl) ?_
  unfold pack_Reader_U64_M at hM
  refine wp_seq ?_
  refine wp_reg ?_
  refine segEnd [.pointer (some ⟨b0, 0, none⟩), undef, .int .u64 0, undef, undef] (by kernel_rfl) ?_
  refine then_normal ?_
  refine wp_seq ?_
  refine wp_reg ?_
  refine seg 1 [.pointer (some ⟨b0, 0, none⟩), undef, .int .u64 0, .pointer (some ⟨b0, 0, none⟩), undef] (by kernel_rfl) ?_
  replace hM := bind_some hM
  obtain ⟨⟨v1, v2, v5, v6⟩, h7, hM⟩ := hM
  have hP := Own.pre (Xi := [boxA b0 [.slice Ap0_0 p0_0.length cp0_0, .int .i64 p0_1, .bool p0_2]]) (X := []) (Si := [slA Rp0_0 (Enc.int .u8) Ap0_0 cp0_0 p0_0]) hS (forall2 (hS.sl_mem (List.Mem.head _)) forall0) (forall2 (fun _ h => .inl ⟨_, (List.Mem.head _), h⟩) forall0)
  refine s_call 54 #[.pointer (some ⟨b0, 0, none⟩), .int .i64 8] (by kernel_rfl) (by kernel_rfl) ((pack_Reader_number_W hP h7).mono ?_)
  rintro _ _ ⟨A3, c4, rfl, hQ⟩
  replace hS : Own w0 D R _ [boxA b0 [.slice A3 v2.length c4, .int .i64 v5, .bool v6]] [slA Rp0_0 (Enc.int .u8) A3 c4 v2, slA Rp0_0 (Enc.int .u8) Ap0_0 cp0_0 p0_0] := hS.post hQ (.inr (doms_sub (fun _ h => ⟨_, (List.Mem.head _), h⟩) doms_sub0))
  clear hP hQ
  refine ⟨_, rfl, ?_⟩
  refine segEnd [.pointer (some ⟨b0, 0, none⟩), undef, .int .u64 v1, .pointer (some ⟨b0, 0, none⟩), .int .u64 v1] (by kernel_rfl) ?_
  refine then_normal ?_
  refine wp_ret ?_
  replace hS : Own w0 D R _ [boxA b0 [.slice A3 v2.length c4, .int .i64 v5, .bool v6]] [slA Rp0_0 (Enc.int .u8) A3 c4 v2] := hS.dropS (forall2 (List.Mem.head _) forall0)
  simp only [Option.some.injEq, Prod.mk.injEq] at hM
  obtain ⟨rfl, rfl, rfl, rfl⟩ := hM
  refine ret_v (.int .u64 v1) (by kernel_rfl) ⟨A3, c4, rfl, hS⟩

theorem pack_Reader_Num_W {w0 w : World} {D R : Nat → Prop} {b0 : Nat} {Rp0_0 : Nat → Prop} {Ap0_0 : Option Addr} {cp0_0 : Nat} {p0_0 : List Int} {p0_1 : Int} {p0_2 : Bool} {p1 : Int} {r0 : Int} {r1 : List Int} {r2 : Int} {r3 : Bool} (hS : Own w0 D R w [boxA b0 [.slice Ap0_0 p0_0.length cp0_0, .int .i64 p0_1, .bool p0_2]] [slA Rp0_0 (Enc.int .u8) Ap0_0 cp0_0 p0_0]) (hM : pack_Reader_Num_M p0_0 p0_1 p0_2 p1 = some (r0, r1, r2, r3)) :
    Calls Go.Proofs.Try.prog 33 #[.pointer (some ⟨b0, 0, none⟩), .int .i64 p1] w (fun e w' => ∃ (ZA1 : Option Addr) (Zc2 : Nat), e = .returned (.int .i64 r0) ∧ Own w0 D R w' [boxA b0 [.slice ZA1 r1.length Zc2, .int .i64 r2, .bool r3]] [slA Rp0_0 (Enc.int .u8) ZA1 Zc2 r1]) := by
  refine enter (fn := Go.Proofs.Try.f33) [.pointer (some ⟨b0, 0, none⟩), .int .i64 p1, undef, undef, undef, undef, undef, undef, undef, undef, undef, undef, undef, undef, undef, undef, undef, undef, undef, undef, undef, undef, undef, undef] (by kernel_rfl) rfl (by kernel_rfl) ?_
  unfold pack_Reader_Num_M at hM
  refine wp_seq ?_
  refine wp_reg ?_
  refine segEnd [.pointer (some ⟨b0, 0, none⟩), .int .i64 p1, undef, undef, .int .i64 0, undef, undef, undef, undef, undef, undef, undef, undef, undef, undef, undef, undef, undef, undef, undef, undef, undef, undef, undef] (by kernel_rfl) ?_
  refine then_normal ?_
  refine wp_seq ?_
  refine wp_reg ?_
  refine seg 1 [.pointer (some ⟨b0, 0, none⟩), .int .i64 p1, undef, undef, .int .i64 0, undef, .pointer (some ⟨b0, 0, none⟩), undef, undef, undef, undef, undef, undef, undef, undef, undef, undef, undef, undef, undef, undef, undef, undef, undef] (by kernel_rfl) ?_
  replace hM := bind_some hM
  obtain ⟨⟨v1, v2, v5, v6⟩, h7, hM⟩ := hM
  have hP := Own.pre (Xi := [boxA b0 [.slice Ap0_0 p0_0.length cp0_0, .int .i64 p0_1, .bool p0_2]]) (X := []) (Si := [slA Rp0_0 (Enc.int .u8) Ap0_0 cp0_0 p0_0]) hS (forall2 (hS.sl_mem (List.Mem.head _)) forall0) (forall2 (fun _ h => .inl ⟨_, (List.Mem.head _), h⟩) forall0)
  refine s_call 32 #[.pointer (some ⟨b0, 0, none⟩)] (by kernel_rfl) (by kernel_rfl) ((pack_Reader_U64_W hP h7).mono ?_)
  rintro _ _ ⟨A3, c4, rfl, hQ⟩
  replace hS : Own w0 D R _ [boxA b0 [.slice A3 v2.length c4, .int .i64 v5, .bool v6]] [slA Rp0_0 (Enc.int .u8) A3 c4 v2, slA Rp0_0 (Enc.int .u8) Ap0_0 cp0_0 p0_0] := hS.post hQ (.inr (doms_sub (fun _ h => ⟨_, (List.Mem.head _), h⟩) doms_sub0))
  clear hP hQ
  refine ⟨_, rfl, ?_⟩
  refine segEnd [.pointer (some ⟨b0, 0, none⟩), .int .i64 p1, undef, undef, .int .i64 0, .int .u64 v1, .pointer (some ⟨b0, 0, none⟩), .int .u64 v1, undef, undef, undef, undef, undef, undef, undef, undef, undef, undef, undef, undef, undef, undef, undef, undef] (by kernel_rfl) ?_
  refine then_normal ?_
  refine wp_seq ?_
  refine wp_seq ?_
  refine wp_reg ?_
  refine seg 1 [.pointer (some ⟨b0, 0, none⟩), .int .i64 p1, undef, undef, .int .i64 0, .int .u64 v1, .pointer (some ⟨b0, 0, none⟩), .int .u64 v1, .pointer (some ⟨b0, 0, none⟩), undef, undef, undef, undef, undef, undef, undef, undef, undef, undef, undef, undef, undef, undef, undef] (by kernel_rfl) ?_
  replace hM := bind_some hM
  obtain ⟨⟨v8, v9, v12, v13⟩, h14, hM⟩ := hM
  have hP := Own.pre (Xi := [boxA b0 [.slice A3 v2.length c4, .int .i64 v5, .bool v6]]) (X := []) (Si := [slA Rp0_0 (Enc.int .u8) A3 c4 v2]) hS (forall2 (hS.sl_mem (List.Mem.head _)) forall0) (forall2 (fun _ h => .inl ⟨_, (List.Mem.head _), h⟩) forall0)
  refine s_call 55 #[.pointer (some ⟨b0, 0, none⟩)] (by kernel_rfl) (by kernel_rfl) ((pack_Reader_ok_W hP h14).mono ?_)
  rintro _ _ ⟨A10, c11, rfl, hQ⟩
  replace hS : Own w0 D R _ [boxA b0 [.slice A10 v9.length c11, .int .i64 v12, .bool v13]] [slA Rp0_0 (Enc.int .u8) A10 c11 v9, slA Rp0_0 (Enc.int .u8) A3 c4 v2, slA Rp0_0 (Enc.int .u8) Ap0_0 cp0_0 p0_0] := hS.post hQ (.inr (doms_sub (fun _ h => ⟨_, (List.Mem.head _), h⟩) doms_sub0))
  clear hP hQ
  refine ⟨_, rfl, ?_⟩
  refine segEnd [.pointer (some ⟨b0, 0, none⟩), .int .i64 p1, undef, undef, .int .i64 0, .int .u64 v1, .pointer (some ⟨b0, 0, none⟩), .int .u64 v1, .pointer (some ⟨b0, 0, none⟩), .bool v8, .bool (!v8), undef, undef, undef, undef, undef, undef, undef, undef, undef, undef, undef, undef, undef] (by kernel_rfl) ?_
  refine then_normal ?_
  refine wp_cond_split (t := !v8) (by kernel_rfl) (fun hc15 => ?_) (fun hc15 => ?_)
  · replace hM := (if_pos hc15).symm.trans hM
    refine wp_seq ?_
    refine wp_reg ?_
    refine segEnd [.pointer (some ⟨b0, 0, none⟩), .int .i64 p1, undef, undef, .int .i64 0, .int .u64 v1, .pointer (some ⟨b0, 0, none⟩), .int .u64 v1, .pointer (some ⟨b0, 0, none⟩), .bool v8, .bool (!v8), undef, undef, undef, undef, undef, undef, undef, undef, undef, undef, undef, undef, undef] (by kernel_rfl) ?_
    refine then_normal ?_
    refine wp_ret ?_
    refine then_ret ?_
    replace hS : Own w0 D R _ [boxA b0 [.slice A10 v9.length c11, .int .i64 v12, .bool v13]] [slA Rp0_0 (Enc.int .u8) A10 c11 v9] := hS.dropS (forall2 (List.Mem.head _) forall0)
    simp only [Option.some.injEq, Prod.mk.injEq] at hM
    obtain ⟨rfl, rfl, rfl, rfl⟩ := hM
    refine ret_v (.int .i64 0) (by kernel_rfl) ⟨A10, c11, rfl, hS⟩
  · replace hM := (if_neg (Bool.eq_false_iff.1 hc15)).symm.trans hM
    refine wp_skip ?_
    refine then_normal ?_
    refine wp_seq ?_
    refine wp_seq ?_
    refine wp_reg ?_
    refine seg 4 [.pointer (some ⟨b0, 0, none⟩), .int .i64 p1, undef, undef, .int .i64 0, .int .u64 v1, .pointer (some ⟨b0, 0, none⟩), .int .u64 v1, .pointer (some ⟨b0, 0, none⟩), .bool v8, .bool (!v8), .int .u64 v1, .int .u64 (Int.fdiv v1 (2 ^ 63)), .bool ((Int.fdiv v1 (2 ^ 63)) == 1), .bool ((Int.fdiv v1 (2 ^ 63)) == 1), undef, undef, undef, undef, undef, undef, undef, undef, undef] (by kernel_rfl) ?_
    rcases Bool.eq_false_or_eq_true ((Int.fdiv v1 (2 ^ 63)) == 1) with hc16 | hc16
    · replace hM := (if_pos hc16).symm.trans hM
      rw [hc16]
      refine segEnd [.pointer (some ⟨b0, 0, none⟩), .int .i64 p1, undef, undef, .int .i64 0, .int .u64 v1, .pointer (some ⟨b0, 0, none⟩), .int .u64 v1, .pointer (some ⟨b0, 0, none⟩), .bool v8, .bool (!v8), .int .u64 v1, .int .u64 (Int.fdiv v1 (2 ^ 63)), .bool true, .bool true, undef, undef, undef, undef, .bool true, undef, undef, undef, undef] (by kernel_rfl) ?_
      refine then_normal ?_
      refine wp_cond_true (by kernel_rfl) ?_
      refine wp_seq ?_
      refine wp_reg ?_
      refine seg 1 [.pointer (some ⟨b0, 0, none⟩), .int .i64 p1, undef, undef, .int .i64 0, .int .u64 v1, .pointer (some ⟨b0, 0, none⟩), .int .u64 v1, .pointer (some ⟨b0, 0, none⟩), .bool v8, .bool (!v8), .int .u64 v1, .int .u64 (Int.fdiv v1 (2 ^ 63)), .bool true, .bool true, undef, undef, undef, undef, .bool true, .pointer (some ⟨b0, 0, none⟩), undef, undef, undef] (by kernel_rfl) ?_
      replace hM := bind_some hM
      obtain ⟨⟨v17, v20, v21⟩, h22, hM⟩ := hM
      have hP := Own.pre (Xi := [boxA b0 [.slice A10 v9.length c11, .int .i64 v12, .bool v13]]) (X := []) (Si := [slA Rp0_0 (Enc.int .u8) A10 c11 v9]) hS (forall2 (hS.sl_mem (List.Mem.head _)) forall0) (forall2 (fun _ h => .inl ⟨_, (List.Mem.head _), h⟩) forall0)
      refine s_call 56 #[.pointer (some ⟨b0, 0, none⟩), .int .i64 5] (by kernel_rfl) (by kernel_rfl) ((pack_Reader_fail_W hP h22).mono ?_)
      rintro _ _ ⟨A18, c19, rfl, hQ⟩
      replace hS : Own w0 D R _ [boxA b0 [.slice A18 v17.length c19, .int .i64 v20, .bool v21]] [slA Rp0_0 (Enc.int .u8) A18 c19 v17, slA Rp0_0 (Enc.int .u8) A10 c11 v9, slA Rp0_0 (Enc.int .u8) A3 c4 v2, slA Rp0_0 (Enc.int .u8) Ap0_0 cp0_0 p0_0] := hS.post hQ (.inr (doms_sub (fun _ h => ⟨_, (List.Mem.head _), h⟩) doms_sub0))
      clear hP hQ
      refine ⟨_, rfl, ?_⟩
      refine wl_nil ?_
      refine then_normal ?_
      refine wp_seq ?_
      refine wp_reg ?_
      refine segEnd [.pointer (some ⟨b0, 0, none⟩), .int .i64 p1, undef, undef, .int .i64 0, .int .u64 v1, .pointer (some ⟨b0, 0, none⟩), .int .u64 v1, .pointer (some ⟨b0, 0, none⟩), .bool v8, .bool (!v8), .int .u64 v1, .int .u64 (Int.fdiv v1 (2 ^ 63)), .bool true, .bool true, undef, undef, undef, undef, .bool true, .pointer (some ⟨b0, 0, none⟩), .tuple #[], undef, undef] (by kernel_rfl) ?_
      refine then_normal ?_
      refine wp_ret ?_
      refine then_ret ?_
      replace hS : Own w0 D R _ [boxA b0 [.slice A18 v17.length c19, .int .i64 v20, .bool v21]] [slA Rp0_0 (Enc.int .u8) A18 c19 v17] := hS.dropS (forall2 (List.Mem.head _) forall0)
      simp only [Option.some.injEq, Prod.mk.injEq] at hM
      obtain ⟨rfl, rfl, rfl, rfl⟩ := hM
      refine ret_v (.int .i64 0) (by kernel_rfl) ⟨A18, c19, rfl, hS⟩
    · replace hM := (if_neg (Bool.eq_false_iff.1 hc16)).symm.trans hM
      rw [hc16]
      refine segEnd [.pointer (some ⟨b0, 0, none⟩), .int .i64 p1, undef, undef, .int .i64 0, .int .u64 v1, .pointer (some ⟨b0, 0, none⟩), .int .u64 v1, .pointer (some ⟨b0, 0, none⟩), .bool v8, .bool (!v8), .int .u64 v1, .int .u64 (Int.fdiv v1 (2 ^ 63)), .bool false, .bool false, .int .u64 v1, .int .i64 (IntKind.i64.wrap (v1)), .int .i64 p1, .bool (decide ((IntKind.i64.wrap (v1)) > p1)), .bool (decide ((IntKind.i64.wrap (v1)) > p1)), undef, undef, undef, undef] (by kernel_rfl) ?_
      refine then_normal ?_
      refine wp_cond_split (t := decide ((IntKind.i64.wrap (v1)) > p1)) (by kernel_rfl) (fun hc23 => ?_) (fun hc23 => ?_)
      · replace hM := (if_pos hc23).symm.trans hM
        refine wp_seq ?_
        refine wp_reg ?_
        refine seg 1 [.pointer (some ⟨b0, 0, none⟩), .int .i64 p1, undef, undef, .int .i64 0, .int .u64 v1, .pointer (some ⟨b0, 0, none⟩), .int .u64 v1, .pointer (some ⟨b0, 0, none⟩), .bool v8, .bool (!v8), .int .u64 v1, .int .u64 (Int.fdiv v1 (2 ^ 63)), .bool false, .bool false, .int .u64 v1, .int .i64 (IntKind.i64.wrap (v1)), .int .i64 p1, .bool (decide ((IntKind.i64.wrap (v1)) > p1)), .bool (decide ((IntKind.i64.wrap (v1)) > p1)), .pointer (some ⟨b0, 0, none⟩), undef, undef, undef] (by kernel_rfl) ?_
        replace hM := bind_some hM
        obtain ⟨⟨v24, v27, v28⟩, h29, hM⟩ := hM
        have hP := Own.pre (Xi := [boxA b0 [.slice A10 v9.length c11, .int .i64 v12, .bool v13]]) (X := []) (Si := [slA Rp0_0 (Enc.int .u8) A10 c11 v9]) hS (forall2 (hS.sl_mem (List.Mem.head _)) forall0) (forall2 (fun _ h => .inl ⟨_, (List.Mem.head _), h⟩) forall0)
        refine s_call 56 #[.pointer (some ⟨b0, 0, none⟩), .int .i64 5] (by kernel_rfl) (by kernel_rfl) ((pack_Reader_fail_W hP h29).mono ?_)
        rintro _ _ ⟨A25, c26, rfl, hQ⟩
        replace hS : Own w0 D R _ [boxA b0 [.slice A25 v24.length c26, .int .i64 v27, .bool v28]] [slA Rp0_0 (Enc.int .u8) A25 c26 v24, slA Rp0_0 (Enc.int .u8) A10 c11 v9, slA Rp0_0 (Enc.int .u8) A3 c4 v2, slA Rp0_0 (Enc.int .u8) Ap0_0 cp0_0 p0_0] := hS.post hQ (.inr (doms_sub (fun _ h => ⟨_, (List.Mem.head _), h⟩) doms_sub0))
        clear hP hQ
        refine ⟨_, rfl, ?_⟩
        refine wl_nil ?_
        refine then_normal ?_
        refine wp_seq ?_
        refine wp_reg ?_
        refine segEnd [.pointer (some ⟨b0, 0, none⟩), .int .i64 p1, undef, undef, .int .i64 0, .int .u64 v1, .pointer (some ⟨b0, 0, none⟩), .int .u64 v1, .pointer (some ⟨b0, 0, none⟩), .bool v8, .bool (!v8), .int .u64 v1, .int .u64 (Int.fdiv v1 (2 ^ 63)), .bool false, .bool false, .int .u64 v1, .int .i64 (IntKind.i64.wrap (v1)), .int .i64 p1, .bool (decide ((IntKind.i64.wrap (v1)) > p1)), .bool (decide ((IntKind.i64.wrap (v1)) > p1)), .pointer (some ⟨b0, 0, none⟩), .tuple #[], undef, undef] (by kernel_rfl) ?_
        refine then_normal ?_
        refine wp_ret ?_
        refine then_ret ?_
        replace hS : Own w0 D R _ [boxA b0 [.slice A25 v24.length c26, .int .i64 v27, .bool v28]] [slA Rp0_0 (Enc.int .u8) A25 c26 v24] := hS.dropS (forall2 (List.Mem.head _) forall0)
        simp only [Option.some.injEq, Prod.mk.injEq] at hM
        obtain ⟨rfl, rfl, rfl, rfl⟩ := hM
        refine ret_v (.int .i64 0) (by kernel_rfl) ⟨A25, c26, rfl, hS⟩
      · replace hM := (if_neg (Bool.eq_false_iff.1 hc23)).symm.trans hM
        refine wp_skip ?_
        refine then_normal ?_
        refine wp_seq ?_
        refine wp_reg ?_
        refine segEnd [.pointer (some ⟨b0, 0, none⟩), .int .i64 p1, undef, undef, .int .i64 (IntKind.i64.wrap (v1)), .int .u64 v1, .pointer (some ⟨b0, 0, none⟩), .int .u64 v1, .pointer (some ⟨b0, 0, none⟩), .bool v8, .bool (!v8), .int .u64 v1, .int .u64 (Int.fdiv v1 (2 ^ 63)), .bool false, .bool false, .int .u64 v1, .int .i64 (IntKind.i64.wrap (v1)), .int .i64 p1, .bool (decide ((IntKind.i64.wrap (v1)) > p1)), .bool (decide ((IntKind.i64.wrap (v1)) > p1)), undef, undef, .int .u64 v1, .int .i64 (IntKind.i64.wrap (v1))] (by kernel_rfl) ?_
        refine then_normal ?_
        refine wp_ret ?_
        replace hS : Own w0 D R _ [boxA b0 [.slice A10 v9.length c11, .int .i64 v12, .bool v13]] [slA Rp0_0 (Enc.int .u8) A10 c11 v9] := hS.dropS (forall2 (List.Mem.head _) forall0)
        simp only [Option.some.injEq, Prod.mk.injEq] at hM
        obtain ⟨rfl, rfl, rfl, rfl⟩ := hM
        refine ret_v (.int .i64 (IntKind.i64.wrap (v1))) (by kernel_rfl) ⟨A10, c11, rfl, hS⟩

theorem pack_Reader_Bytes_W {w0 w : World} {D R : Nat → Prop} {b0 : Nat} {Rp0_0 : Nat → Prop} {Ap0_0 : Option Addr} {cp0_0 : Nat} {p0_0 : List Int} {p0_1 : Int} {p0_2 : Bool} {p1 : Int} {r0 : List Int} {r1 : List Int} {r2 : Int} {r3 : Bool} (hS : Own w0 D R w [boxA b0 [.slice Ap0_0 p0_0.length cp0_0, .int .i64 p0_1, .bool p0_2]] [slA Rp0_0 (Enc.int .u8) Ap0_0 cp0_0 p0_0]) (hM : pack_Reader_Bytes_M p0_0 p0_1 p0_2 p1 = some (r0, r1, r2, r3)) :
    Calls Go.Proofs.Try.prog 34 #[.pointer (some ⟨b0, 0, none⟩), .int .i64 p1] w (fun e w' => ∃ (ZA1 : Option Addr) (Zc2 : Nat) (ZA3 : Option Addr) (Zc4 : Nat), e = .returned (.slice ZA1 r0.length Zc2) ∧ Own w0 D R w' [boxA b0 [.slice ZA3 r1.length Zc4, .int .i64 r2, .bool r3], rowA (Enc.int .u8) ZA1 Zc2 r0] [slA Rp0_0 (Enc.int .u8) ZA3 Zc4 r1]) := by
  refine enter (fn := Go.Proofs.Try.f34) [.pointer (some ⟨b0, 0, none⟩), .int .i64 p1, undef, undef, undef, undef, undef, undef, undef, undef, undef, undef, undef, undef, undef, undef, undef, undef, undef, undef, undef, undef, undef, undef, undef, undef, undef] (by kernel_rfl) rfl (by kernel_rfl) ?_
  unfold pack_Reader_Bytes_M at hM
  refine wp_seq ?_
  refine wp_reg ?_
  refine segEnd [.pointer (some ⟨b0, 0, none⟩), .int .i64 p1, undef, undef, .slice none 0 0, undef, undef, undef, undef, undef, undef, undef, undef, undef, undef, undef, undef, undef, undef, undef, undef, undef, undef, undef, undef, undef, undef] (by kernel_rfl) ?_
  refine then_normal ?_
  refine wp_seq ?_
  refine wp_reg ?_
  refine seg 1 [.pointer (some ⟨b0, 0, none⟩), .int .i64 p1, undef, undef, .slice none 0 0, undef, undef, undef, .pointer (some ⟨b0, 0, none⟩), undef, undef, undef, undef, undef, undef, undef, undef, undef, undef, undef, undef, undef, undef, undef, undef, undef, undef] (by kernel_rfl) ?_
  replace hM := bind_some hM
  obtain ⟨⟨v1, v2, v5, v6⟩, h7, hM⟩ := hM
  have hP := Own.pre (Xi := [boxA b0 [.slice Ap0_0 p0_0.length cp0_0, .int .i64 p0_1, .bool p0_2]]) (X := []) (Si := [slA Rp0_0 (Enc.int .u8) Ap0_0 cp0_0 p0_0]) hS (forall2 (hS.sl_mem (List.Mem.head _)) forall0) (forall2 (fun _ h => .inl ⟨_, (List.Mem.head _), h⟩) forall0)
  refine s_call 31 #[.pointer (some ⟨b0, 0, none⟩)] (by kernel_rfl) (by kernel_rfl) ((pack_Reader_U32_W hP h7).mono ?_)
  rintro _ _ ⟨A3, c4, rfl, hQ⟩
  replace hS : Own w0 D R _ [boxA b0 [.slice A3 v2.length c4, .int .i64 v5, .bool v6]] [slA Rp0_0 (Enc.int .u8) A3 c4 v2, slA Rp0_0 (Enc.int .u8) Ap0_0 cp0_0 p0_0] := hS.post hQ (.inr (doms_sub (fun _ h => ⟨_, (List.Mem.head _), h⟩) doms_sub0))
  clear hP hQ
  refine ⟨_, rfl, ?_⟩
  refine segEnd [.pointer (some ⟨b0, 0, none⟩), .int .i64 p1, undef, undef, .slice none 0 0, .int .i64 (IntKind.i64.wrap (v1)), undef, undef, .pointer (some ⟨b0, 0, none⟩), .int .u32 v1, .int .i64 (IntKind.i64.wrap (v1)), undef, undef, undef, undef, undef, undef, undef, undef, undef, undef, undef, undef, undef, undef, undef, undef] (by kernel_rfl) ?_
  refine then_normal ?_
  refine wp_seq ?_
  refine wp_seq ?_
  refine wp_reg ?_
  refine seg 1 [.pointer (some ⟨b0, 0, none⟩), .int .i64 p1, undef, undef, .slice none 0 0, .int .i64 (IntKind.i64.wrap (v1)), undef, undef, .pointer (some ⟨b0, 0, none⟩), .int .u32 v1, .int .i64 (IntKind.i64.wrap (v1)), .pointer (some ⟨b0, 0, none⟩), undef, undef, undef, undef, undef, undef, undef, undef, undef, undef, undef, undef, undef, undef, undef] (by kernel_rfl) ?_
  replace hM := bind_some hM
  obtain ⟨⟨v8, v9, v12, v13⟩, h14, hM⟩ := hM
  have hP := Own.pre (Xi := [boxA b0 [.slice A3 v2.length c4, .int .i64 v5, .bool v6]]) (X := []) (Si := [slA Rp0_0 (Enc.int .u8) A3 c4 v2]) hS (forall2 (hS.sl_mem (List.Mem.head _)) forall0) (forall2 (fun _ h => .inl ⟨_, (List.Mem.head _), h⟩) forall0)
  refine s_call 55 #[.pointer (some ⟨b0, 0, none⟩)] (by kernel_rfl) (by kernel_rfl) ((pack_Reader_ok_W hP h14).mono ?_)
  rintro _ _ ⟨A10, c11, rfl, hQ⟩
  replace hS : Own w0 D R _ [boxA b0 [.slice A10 v9.length c11, .int .i64 v12, .bool v13]] [slA Rp0_0 (Enc.int .u8) A10 c11 v9, slA Rp0_0 (Enc.int .u8) A3 c4 v2, slA Rp0_0 (Enc.int .u8) Ap0_0 cp0_0 p0_0] := hS.post hQ (.inr (doms_sub (fun _ h => ⟨_, (List.Mem.head _), h⟩) doms_sub0))
  clear hP hQ
  refine ⟨_, rfl, ?_⟩
  refine segEnd [.pointer (some ⟨b0, 0, none⟩), .int .i64 p1, undef, undef, .slice none 0 0, .int .i64 (IntKind.i64.wrap (v1)), undef, undef, .pointer (some ⟨b0, 0, none⟩), .int .u32 v1, .int .i64 (IntKind.i64.wrap (v1)), .pointer (some ⟨b0, 0, none⟩), .bool v8, .bool (!v8), undef, undef, undef, undef, undef, undef, undef, undef, undef, undef, undef, undef, undef] (by kernel_rfl) ?_
  refine then_normal ?_
  refine wp_cond_split (t := !v8) (by kernel_rfl) (fun hc15 => ?_) (fun hc15 => ?_)
  · replace hM := (if_pos hc15).symm.trans hM
    refine wp_seq ?_
    refine wp_reg ?_
    refine segEnd [.pointer (some ⟨b0, 0, none⟩), .int .i64 p1, undef, undef, .slice none 0 0, .int .i64 (IntKind.i64.wrap (v1)), undef, undef, .pointer (some ⟨b0, 0, none⟩), .int .u32 v1, .int .i64 (IntKind.i64.wrap (v1)), .pointer (some ⟨b0, 0, none⟩), .bool v8, .bool (!v8), undef, undef, undef, undef, undef, undef, undef, undef, undef, undef, undef, undef, undef] (by kernel_rfl) ?_
    refine then_normal ?_
    refine wp_ret ?_
    refine then_ret ?_
    replace hS : Own w0 D R _ [rowA (Enc.int .u8) none 0 [], boxA b0 [.slice A10 v9.length c11, .int .i64 v12, .bool v13]] [slA Rp0_0 (Enc.int .u8) A10 c11 v9, slA Rp0_0 (Enc.int .u8) A3 c4 v2, slA Rp0_0 (Enc.int .u8) Ap0_0 cp0_0 p0_0] := hS.addNil (Enc.int .u8)
    replace hS : Own w0 D R _ [boxA b0 [.slice A10 v9.length c11, .int .i64 v12, .bool v13], rowA (Enc.int .u8) none 0 []] [slA Rp0_0 (Enc.int .u8) A10 c11 v9, slA Rp0_0 (Enc.int .u8) A3 c4 v2, slA Rp0_0 (Enc.int .u8) Ap0_0 cp0_0 p0_0] := hS.pick 1 rfl
    replace hS : Own w0 D R _ [boxA b0 [.slice A10 v9.length c11, .int .i64 v12, .bool v13], rowA (Enc.int .u8) none 0 []] [slA Rp0_0 (Enc.int .u8) A10 c11 v9] := hS.dropS (forall2 (List.Mem.head _) forall0)
    simp only [Option.some.injEq, Prod.mk.injEq] at hM
    obtain ⟨rfl, rfl, rfl, rfl⟩ := hM
    refine ret_v (.slice none 0 0) (by kernel_rfl) ⟨none, 0, A10, c11, rfl, hS⟩
  · replace hM := (if_neg (Bool.eq_false_iff.1 hc15)).symm.trans hM
    refine wp_skip ?_
    refine then_normal ?_
    refine wp_seq ?_
    refine wp_seq ?_
    refine wp_reg ?_
    refine segEnd [.pointer (some ⟨b0, 0, none⟩), .int .i64 p1, undef, undef, .slice none 0 0, .int .i64 (IntKind.i64.wrap (v1)), undef, undef, .pointer (some ⟨b0, 0, none⟩), .int .u32 v1, .int .i64 (IntKind.i64.wrap (v1)), .pointer (some ⟨b0, 0, none⟩), .bool v8, .bool (!v8), .int .i64 (IntKind.i64.wrap (v1)), .int .i64 p1, .bool (decide ((IntKind.i64.wrap (v1)) > p1)), undef, undef, undef, undef, undef, undef, undef, undef, undef, undef] (by kernel_rfl) ?_
    refine then_normal ?_
    refine wp_cond_split (t := decide ((IntKind.i64.wrap (v1)) > p1)) (by kernel_rfl) (fun hc16 => ?_) (fun hc16 => ?_)
    · replace hM := (if_pos hc16).symm.trans hM
      refine wp_seq ?_
      refine wp_reg ?_
      refine seg 1 [.pointer (some ⟨b0, 0, none⟩), .int .i64 p1, undef, undef, .slice none 0 0, .int .i64 (IntKind.i64.wrap (v1)), undef, undef, .pointer (some ⟨b0, 0, none⟩), .int .u32 v1, .int .i64 (IntKind.i64.wrap (v1)), .pointer (some ⟨b0, 0, none⟩), .bool v8, .bool (!v8), .int .i64 (IntKind.i64.wrap (v1)), .int .i64 p1, .bool (decide ((IntKind.i64.wrap (v1)) > p1)), .pointer (some ⟨b0, 0, none⟩), undef, undef, undef, undef, undef, undef, undef, undef, undef] (by kernel_rfl) ?_
      replace hM := bind_some hM
      obtain ⟨⟨v17, v20, v21⟩, h22, hM⟩ := hM
      have hP := Own.pre (Xi := [boxA b0 [.slice A10 v9.length c11, .int .i64 v12, .bool v13]]) (X := []) (Si := [slA Rp0_0 (Enc.int .u8) A10 c11 v9]) hS (forall2 (hS.sl_mem (List.Mem.head _)) forall0) (forall2 (fun _ h => .inl ⟨_, (List.Mem.head _), h⟩) forall0)
      refine s_call 56 #[.pointer (some ⟨b0, 0, none⟩), .int .i64 5] (by kernel_rfl) (by kernel_rfl) ((pack_Reader_fail_W hP h22).mono ?_)
      rintro _ _ ⟨A18, c19, rfl, hQ⟩
      replace hS : Own w0 D R _ [boxA b0 [.slice A18 v17.length c19, .int .i64 v20, .bool v21]] [slA Rp0_0 (Enc.int .u8) A18 c19 v17, slA Rp0_0 (Enc.int .u8) A10 c11 v9, slA Rp0_0 (Enc.int .u8) A3 c4 v2, slA Rp0_0 (Enc.int .u8) Ap0_0 cp0_0 p0_0] := hS.post hQ (.inr (doms_sub (fun _ h => ⟨_, (List.Mem.head _), h⟩) doms_sub0))
      clear hP hQ
      refine ⟨_, rfl, ?_⟩
      refine wl_nil ?_
      refine then_normal ?_
      refine wp_seq ?_
      refine wp_reg ?_
      refine segEnd [.pointer (some ⟨b0, 0, none⟩), .int .i64 p1, undef, undef, .slice none 0 0, .int .i64 (IntKind.i64.wrap (v1)), undef, undef, .pointer (some ⟨b0, 0, none⟩), .int .u32 v1, .int .i64 (IntKind.i64.wrap (v1)), .pointer (some ⟨b0, 0, none⟩), .bool v8, .bool (!v8), .int .i64 (IntKind.i64.wrap (v1)), .int .i64 p1, .bool (decide ((IntKind.i64.wrap (v1)) > p1)), .pointer (some ⟨b0, 0, none⟩), .tuple #[], undef, undef, undef, undef, undef, undef, undef, undef] (by kernel_rfl) ?_
      refine then_normal ?_
      refine wp_ret ?_
      refine then_ret ?_
      replace hS : Own w0 D R _ [rowA (Enc.int .u8) none 0 [], boxA b0 [.slice A18 v17.length c19, .int .i64 v20, .bool v21]] [slA Rp0_0 (Enc.int .u8) A18 c19 v17, slA Rp0_0 (Enc.int .u8) A10 c11 v9, slA Rp0_0 (Enc.int .u8) A3 c4 v2, slA Rp0_0 (Enc.int .u8) Ap0_0 cp0_0 p0_0] := hS.addNil (Enc.int .u8)
      replace hS : Own w0 D R _ [boxA b0 [.slice A18 v17.length c19, .int .i64 v20, .bool v21], rowA (Enc.int .u8) none 0 []] [slA Rp0_0 (Enc.int .u8) A18 c19 v17, slA Rp0_0 (Enc.int .u8) A10 c11 v9, slA Rp0_0 (Enc.int .u8) A3 c4 v2, slA Rp0_0 (Enc.int .u8) Ap0_0 cp0_0 p0_0] := hS.pick 1 rfl
      replace hS : Own w0 D R _ [boxA b0 [.slice A18 v17.length c19, .int .i64 v20, .bool v21], rowA (Enc.int .u8) none 0 []] [slA Rp0_0 (Enc.int .u8) A18 c19 v17] := hS.dropS (forall2 (List.Mem.head _) forall0)
      simp only [Option.some.injEq, Prod.mk.injEq] at hM
      obtain ⟨rfl, rfl, rfl, rfl⟩ := hM
      refine ret_v (.slice none 0 0) (by kernel_rfl) ⟨none, 0, A18, c19, rfl, hS⟩
    · replace hM := (if_neg (Bool.eq_false_iff.1 hc16)).symm.trans hM
      refine wp_skip ?_
      refine then_normal ?_
      refine wp_seq ?_
      refine wp_reg ?_
      refine seg 2 [.pointer (some ⟨b0, 0, none⟩), .int .i64 p1, undef, undef, .slice none 0 0, .int .i64 (IntKind.i64.wrap (v1)), undef, undef, .pointer (some ⟨b0, 0, none⟩), .int .u32 v1, .int .i64 (IntKind.i64.wrap (v1)), .pointer (some ⟨b0, 0, none⟩), .bool v8, .bool (!v8), .int .i64 (IntKind.i64.wrap (v1)), .int .i64 p1, .bool (decide ((IntKind.i64.wrap (v1)) > p1)), undef, undef, undef, .pointer (some ⟨b0, 0, none⟩), .int .i64 (IntKind.i64.wrap (v1)), undef, undef, undef, undef, undef] (by kernel_rfl) ?_
      replace hM := bind_some hM
      obtain ⟨⟨v23, v26, v27, v30, v31⟩, h32, hM⟩ := hM
      have hP := Own.pre (Xi := [boxA b0 [.slice A10 v9.length c11, .int .i64 v12, .bool v13]]) (X := []) (Si := [slA Rp0_0 (Enc.int .u8) A10 c11 v9]) hS (forall2 (hS.sl_mem (List.Mem.head _)) forall0) (forall2 (fun _ h => .inl ⟨_, (List.Mem.head _), h⟩) forall0)
      refine s_call 57 #[.pointer (some ⟨b0, 0, none⟩), .int .i64 (IntKind.i64.wrap (v1))] (by kernel_rfl) (by kernel_rfl) ((pack_Reader_next_W hP h32).mono ?_)
      rintro _ _ ⟨A24, c25, A28, c29, rfl, hQ⟩
      replace hS : Own w0 D R _ [boxA b0 [.slice A28 v27.length c29, .int .i64 v30, .bool v31]] [slA Rp0_0 (Enc.int .u8) A24 c25 v23, slA Rp0_0 (Enc.int .u8) A28 c29 v27, slA Rp0_0 (Enc.int .u8) A10 c11 v9, slA Rp0_0 (Enc.int .u8) A3 c4 v2, slA Rp0_0 (Enc.int .u8) Ap0_0 cp0_0 p0_0] := hS.post hQ (.inr (doms_sub (fun _ h => ⟨_, (List.Mem.head _), h⟩) doms_sub0))
      clear hP hQ
      refine ⟨_, rfl, ?_⟩
      refine segEnd [.pointer (some ⟨b0, 0, none⟩), .int .i64 p1, undef, undef, .slice none 0 0, .int .i64 (IntKind.i64.wrap (v1)), .slice A24 v23.length c25, .bool v26, .pointer (some ⟨b0, 0, none⟩), .int .u32 v1, .int .i64 (IntKind.i64.wrap (v1)), .pointer (some ⟨b0, 0, none⟩), .bool v8, .bool (!v8), .int .i64 (IntKind.i64.wrap (v1)), .int .i64 p1, .bool (decide ((IntKind.i64.wrap (v1)) > p1)), undef, undef, .tuple #[.slice A24 v23.length c25, .bool v26], .pointer (some ⟨b0, 0, none⟩), .int .i64 (IntKind.i64.wrap (v1)), .tuple #[.slice A24 v23.length c25, .bool v26], .slice A24 v23.length c25, .bool v26, undef, undef] (by kernel_rfl) ?_
      refine then_normal ?_
      refine wp_seq ?_
      refine wp_reg ?_
      refine seg 1 [.pointer (some ⟨b0, 0, none⟩), .int .i64 p1, undef, undef, .slice none 0 0, .int .i64 (IntKind.i64.wrap (v1)), .slice A24 v23.length c25, .bool v26, .pointer (some ⟨b0, 0, none⟩), .int .u32 v1, .int .i64 (IntKind.i64.wrap (v1)), .pointer (some ⟨b0, 0, none⟩), .bool v8, .bool (!v8), .int .i64 (IntKind.i64.wrap (v1)), .int .i64 p1, .bool (decide ((IntKind.i64.wrap (v1)) > p1)), undef, undef, .tuple #[.slice A24 v23.length c25, .bool v26], .pointer (some ⟨b0, 0, none⟩), .int .i64 (IntKind.i64.wrap (v1)), .tuple #[.slice A24 v23.length c25, .bool v26], .slice A24 v23.length c25, .bool v26, .slice A24 v23.length c25, undef] (by kernel_rfl) ?_
      replace hM := bind_some hM
      obtain ⟨_, h33, hM⟩ := hM
      replace hS : Own w0 D R _ [rowA (Enc.int .u8) none 0 [], boxA b0 [.slice A28 v27.length c29, .int .i64 v30, .bool v31]] [slA Rp0_0 (Enc.int .u8) A24 c25 v23, slA Rp0_0 (Enc.int .u8) A28 c29 v27, slA Rp0_0 (Enc.int .u8) A10 c11 v9, slA Rp0_0 (Enc.int .u8) A3 c4 v2, slA Rp0_0 (Enc.int .u8) Ap0_0 cp0_0 p0_0] := hS.addNil (Enc.int .u8)
      refine s_append (.const (.slice none 0 0)) (.tmp 25) 22 22 5 1 (.slice A24 v23.length c25) (e := (Enc.int .u8)) (xs := []) (ys := v23) rfl u22 el5 (by kernel_rfl) (by kernel_rfl) (by kernel_rfl) hS ((SlR.of_sl (hS.sl_mem (List.Mem.head _))).src u22) (room_some h33).1 (room_some h33).2 (fun A34 c35 _ hS => ?_)
      refine segEnd [.pointer (some ⟨b0, 0, none⟩), .int .i64 p1, undef, undef, .slice A34 (([] ++ v23).length) c35, .int .i64 (IntKind.i64.wrap (v1)), .slice A24 v23.length c25, .bool v26, .pointer (some ⟨b0, 0, none⟩), .int .u32 v1, .int .i64 (IntKind.i64.wrap (v1)), .pointer (some ⟨b0, 0, none⟩), .bool v8, .bool (!v8), .int .i64 (IntKind.i64.wrap (v1)), .int .i64 p1, .bool (decide ((IntKind.i64.wrap (v1)) > p1)), undef, undef, .tuple #[.slice A24 v23.length c25, .bool v26], .pointer (some ⟨b0, 0, none⟩), .int .i64 (IntKind.i64.wrap (v1)), .tuple #[.slice A24 v23.length c25, .bool v26], .slice A24 v23.length c25, .bool v26, .slice A24 v23.length c25, .slice A34 (([] ++ v23).length) c35] (by kernel_rfl) ?_
      refine then_normal ?_
      refine wp_ret ?_
      replace hS : Own w0 D R _ [boxA b0 [.slice A28 v27.length c29, .int .i64 v30, .bool v31], rowA (Enc.int .u8) A34 c35 ([] ++ v23)] [slA Rp0_0 (Enc.int .u8) A24 c25 v23, slA Rp0_0 (Enc.int .u8) A28 c29 v27, slA Rp0_0 (Enc.int .u8) A10 c11 v9, slA Rp0_0 (Enc.int .u8) A3 c4 v2, slA Rp0_0 (Enc.int .u8) Ap0_0 cp0_0 p0_0] := hS.pick 1 rfl
      replace hS : Own w0 D R _ [boxA b0 [.slice A28 v27.length c29, .int .i64 v30, .bool v31], rowA (Enc.int .u8) A34 c35 ([] ++ v23)] [slA Rp0_0 (Enc.int .u8) A28 c29 v27] := hS.dropS (forall2 (List.Mem.tail _ (List.Mem.head _)) forall0)
      simp only [Option.some.injEq, Prod.mk.injEq] at hM
      obtain ⟨rfl, rfl, rfl, rfl⟩ := hM
      refine ret_v (.slice A34 (([] ++ v23).length) c35) (by kernel_rfl) ⟨A34, c35, A28, c29, rfl, hS⟩

theorem pack_Reader_Left_W {w0 w : World} {D R : Nat → Prop} {b0 : Nat} {Rp0_0 : Nat → Prop} {Ap0_0 : Option Addr} {cp0_0 : Nat} {p0_0 : List Int} {p0_1 : Int} {p0_2 : Bool} {r0 : Int} {r1 : List Int} {r2 : Int} {r3 : Bool} (hS : Own w0 D R w [boxA b0 [.slice Ap0_0 p0_0.length cp0_0, .int .i64 p0_1, .bool p0_2]] [slA Rp0_0 (Enc.int .u8) Ap0_0 cp0_0 p0_0]) (hM : pack_Reader_Left_M p0_0 p0_1 p0_2 = some (r0, r1, r2, r3)) :
    Calls Go.Proofs.Try.prog 36 #[.pointer (some ⟨b0, 0, none⟩)] w (fun e w' => ∃ (ZA1 : Option Addr) (Zc2 : Nat), e = .returned (.int .i64 r0) ∧ Own w0 D R w' [boxA b0 [.slice ZA1 r1.length Zc2, .int .i64 r2, .bool r3]] [slA Rp0_0 (Enc.int .u8) ZA1 Zc2 r1]) := by
  refine enter (fn := Go.Proofs.Try.f36) [.pointer (some ⟨b0, 0, none⟩), undef, undef, undef, undef, undef, undef, undef, undef, undef] (by kernel_rfl) rfl (by kernel_rfl) ?_
  unfold pack_Reader_Left_M at hM
  refine wp_seq ?_
  refine wp_reg ?_
  refine segEnd [.pointer (some ⟨b0, 0, none⟩), undef, .int .i64 0, undef, undef, undef, undef, undef, undef, undef] (by kernel_rfl) ?_
  refine then_normal ?_
  refine wp_seq ?_
  refine wp_seq ?_
  refine wp_reg ?_
  refine segEnd [.pointer (some ⟨b0, 0, none⟩), undef, .int .i64 0, .pointer (some ⟨b0, 0, none⟩), .bool false, undef, undef, undef, undef, undef] (by kernel_rfl) ?_
  refine then_normal ?_
  refine wp_cond_false (by kernel_rfl) ?_
  refine wp_skip ?_
  refine then_normal ?_
  refine wp_seq ?_
  refine wp_reg ?_
  refine seg 3 [.pointer (some ⟨b0, 0, none⟩), undef, .int .i64 0, .pointer (some ⟨b0, 0, none⟩), .bool false, .pointer (some ⟨b0, 0, none⟩), .pointer (some ⟨b0, 0, none⟩), .pointer (some ⟨b0, 0, none⟩), undef, undef] (by kernel_rfl) ?_
  refine s_load_box (.tmp 7) 22 b0 0 1 [.slice Ap0_0 p0_0.length cp0_0, .int .i64 p0_1, .bool p0_2] [.slice Ap0_0 p0_0.length cp0_0] (.slice Ap0_0 p0_0.length cp0_0) rfl (by kernel_rfl) (by kernel_rfl) (hS.box_mem (List.Mem.head _)) rfl rfl (Or.inr ⟨by kernel_rfl, rfl⟩) ?_
  refine segEnd [.pointer (some ⟨b0, 0, none⟩), undef, .int .i64 (p0_0.length : Int), .pointer (some ⟨b0, 0, none⟩), .bool false, .pointer (some ⟨b0, 0, none⟩), .pointer (some ⟨b0, 0, none⟩), .pointer (some ⟨b0, 0, none⟩), .slice Ap0_0 p0_0.length cp0_0, .int .i64 (p0_0.length : Int)] (by kernel_rfl) ?_
  refine then_normal ?_
  refine wp_ret ?_
  replace hS : Own w0 D R _ [boxA b0 [.slice Ap0_0 p0_0.length cp0_0, .int .i64 p0_1, .bool p0_2]] [slA Rp0_0 (Enc.int .u8) Ap0_0 cp0_0 p0_0] := hS.dropS (forall2 (List.Mem.head _) forall0)
  simp only [Option.some.injEq, Prod.mk.injEq] at hM
  obtain ⟨rfl, rfl, rfl, rfl⟩ := hM
  refine ret_v (.int .i64 (p0_0.length : Int)) (by kernel_rfl) ⟨Ap0_0, cp0_0, rfl, hS⟩

theorem pack_Reader_Rest_W {w0 w : World} {D R : Nat → Prop} {b0 : Nat} {Rp0_0 : Nat → Prop} {Ap0_0 : Option Addr} {cp0_0 : Nat} {p0_0 : List Int} {p0_1 : Int} {p0_2 : Bool} {r0 : List Int} {r1 : List Int} {r2 : Int} {r3 : Bool} (hS : Own w0 D R w [boxA b0 [.slice Ap0_0 p0_0.length cp0_0, .int .i64 p0_1, .bool p0_2]] [slA Rp0_0 (Enc.int .u8) Ap0_0 cp0_0 p0_0]) (hM : pack_Reader_Rest_M p0_0 p0_1 p0_2 = some (r0, r1, r2, r3)) :
    Calls Go.Proofs.Try.prog 35 #[.pointer (some ⟨b0, 0, none⟩)] w (fun e w' => ∃ (ZA1 : Option Addr) (Zc2 : Nat) (ZA3 : Option Addr) (Zc4 : Nat), e = .returned (.slice ZA1 r0.length Zc2) ∧ Own w0 D R w' [boxA b0 [.slice ZA3 r1.length Zc4, .int .i64 r2, .bool r3], rowA (Enc.int .u8) ZA1 Zc2 r0] [slA Rp0_0 (Enc.int .u8) ZA3 Zc4 r1]) := by
  refine enter (fn := Go.Proofs.Try.f35) [.pointer (some ⟨b0, 0, none⟩), undef, undef, undef, undef, undef, undef, undef, undef, undef, undef, undef, undef, undef] (by kernel_rfl) rfl (by kernel_rfl) ?_
  unfold pack_Reader_Rest_M at hM
  refine wp_seq ?_
  refine wp_reg ?_
  refine segEnd [.pointer (some ⟨b0, 0, none⟩), undef, .slice none 0 0, undef, undef, undef, undef, undef, undef, undef, undef, undef, undef, undef] (by kernel_rfl) ?_
  refine then_normal ?_
  refine wp_seq ?_
  refine wp_reg ?_
  refine seg 2 [.pointer (some ⟨b0, 0, none⟩), undef, .slice none 0 0, undef, undef, undef, .pointer (some ⟨b0, 0, none⟩), .pointer (some ⟨b0, 0, none⟩), undef, undef, undef, undef, undef, undef] (by kernel_rfl) ?_
  replace hM := bind_some hM
  obtain ⟨⟨v1, v2, v5, v6⟩, h7, hM⟩ := hM
  have hP := Own.pre (Xi := [boxA b0 [.slice Ap0_0 p0_0.length cp0_0, .int .i64 p0_1, .bool p0_2]]) (X := []) (Si := [slA Rp0_0 (Enc.int .u8) Ap0_0 cp0_0 p0_0]) hS (forall2 (hS.sl_mem (List.Mem.head _)) forall0) (forall2 (fun _ h => .inl ⟨_, (List.Mem.head _), h⟩) forall0)
  refine s_call 36 #[.pointer (some ⟨b0, 0, none⟩)] (by kernel_rfl) (by kernel_rfl) ((pack_Reader_Left_W hP h7).mono ?_)
  rintro _ _ ⟨A3, c4, rfl, hQ⟩
  replace hS : Own w0 D R _ [boxA b0 [.slice A3 v2.length c4, .int .i64 v5, .bool v6]] [slA Rp0_0 (Enc.int .u8) A3 c4 v2, slA Rp0_0 (Enc.int .u8) Ap0_0 cp0_0 p0_0] := hS.post hQ (.inr (doms_sub (fun _ h => ⟨_, (List.Mem.head _), h⟩) doms_sub0))
  clear hP hQ
  refine ⟨_, rfl, ?_⟩
  replace hM := bind_some hM
  obtain ⟨⟨v8, v11, v12, v15, v16⟩, h17, hM⟩ := hM
  have hP := Own.pre (Xi := [boxA b0 [.slice A3 v2.length c4, .int .i64 v5, .bool v6]]) (X := []) (Si := [slA Rp0_0 (Enc.int .u8) A3 c4 v2]) hS (forall2 (hS.sl_mem (List.Mem.head _)) forall0) (forall2 (fun _ h => .inl ⟨_, (List.Mem.head _), h⟩) forall0)
  refine s_call 57 #[.pointer (some ⟨b0, 0, none⟩), .int .i64 v1] (by kernel_rfl) (by kernel_rfl) ((pack_Reader_next_W hP h17).mono ?_)
  rintro _ _ ⟨A9, c10, A13, c14, rfl, hQ⟩
  replace hS : Own w0 D R _ [boxA b0 [.slice A13 v12.length c14, .int .i64 v15, .bool v16]] [slA Rp0_0 (Enc.int .u8) A9 c10 v8, slA Rp0_0 (Enc.int .u8) A13 c14 v12, slA Rp0_0 (Enc.int .u8) A3 c4 v2, slA Rp0_0 (Enc.int .u8) Ap0_0 cp0_0 p0_0] := hS.post hQ (.inr (doms_sub (fun _ h => ⟨_, (List.Mem.head _), h⟩) doms_sub0))
  clear hP hQ
  refine ⟨_, rfl, ?_⟩
  refine segEnd [.pointer (some ⟨b0, 0, none⟩), undef, .slice none 0 0, .slice A9 v8.length c10, .bool v11, .tuple #[.slice A9 v8.length c10, .bool v11], .pointer (some ⟨b0, 0, none⟩), .pointer (some ⟨b0, 0, none⟩), .int .i64 v1, .tuple #[.slice A9 v8.length c10, .bool v11], .slice A9 v8.length c10, .bool v11, undef, undef] (by kernel_rfl) ?_
  refine then_normal ?_
  refine wp_seq ?_
  refine wp_reg ?_
  refine seg 1 [.pointer (some ⟨b0, 0, none⟩), undef, .slice none 0 0, .slice A9 v8.length c10, .bool v11, .tuple #[.slice A9 v8.length c10, .bool v11], .pointer (some ⟨b0, 0, none⟩), .pointer (some ⟨b0, 0, none⟩), .int .i64 v1, .tuple #[.slice A9 v8.length c10, .bool v11], .slice A9 v8.length c10, .bool v11, .slice A9 v8.length c10, undef] (by kernel_rfl) ?_
  replace hM := bind_some hM
  obtain ⟨_, h18, hM⟩ := hM
  replace hS : Own w0 D R _ [rowA (Enc.int .u8) none 0 [], boxA b0 [.slice A13 v12.length c14, .int .i64 v15, .bool v16]] [slA Rp0_0 (Enc.int .u8) A9 c10 v8, slA Rp0_0 (Enc.int .u8) A13 c14 v12, slA Rp0_0 (Enc.int .u8) A3 c4 v2, slA Rp0_0 (Enc.int .u8) Ap0_0 cp0_0 p0_0] := hS.addNil (Enc.int .u8)
  refine s_append (.const (.slice none 0 0)) (.tmp 12) 22 22 5 1 (.slice A9 v8.length c10) (e := (Enc.int .u8)) (xs := []) (ys := v8) rfl u22 el5 (by kernel_rfl) (by kernel_rfl) (by kernel_rfl) hS ((SlR.of_sl (hS.sl_mem (List.Mem.head _))).src u22) (room_some h18).1 (room_some h18).2 (fun A19 c20 _ hS => ?_)
  refine segEnd [.pointer (some ⟨b0, 0, none⟩), undef, .slice A19 (([] ++ v8).length) c20, .slice A9 v8.length c10, .bool v11, .tuple #[.slice A9 v8.length c10, .bool v11], .pointer (some ⟨b0, 0, none⟩), .pointer (some ⟨b0, 0, none⟩), .int .i64 v1, .tuple #[.slice A9 v8.length c10, .bool v11], .slice A9 v8.length c10, .bool v11, .slice A9 v8.length c10, .slice A19 (([] ++ v8).length) c20] (by kernel_rfl) ?_
  refine then_normal ?_
  refine wp_ret ?_
  replace hS : Own w0 D R _ [boxA b0 [.slice A13 v12.length c14, .int .i64 v15, .bool v16], rowA (Enc.int .u8) A19 c20 ([] ++ v8)] [slA Rp0_0 (Enc.int .u8) A9 c10 v8, slA Rp0_0 (Enc.int .u8) A13 c14 v12, slA Rp0_0 (Enc.int .u8) A3 c4 v2, slA Rp0_0 (Enc.int .u8) Ap0_0 cp0_0 p0_0] := hS.pick 1 rfl
  replace hS : Own w0 D R _ [boxA b0 [.slice A13 v12.length c14, .int .i64 v15, .bool v16], rowA (Enc.int .u8) A19 c20 ([] ++ v8)] [slA Rp0_0 (Enc.int .u8) A13 c14 v12] := hS.dropS (forall2 (List.Mem.tail _ (List.Mem.head _)) forall0)
  simp only [Option.some.injEq, Prod.mk.injEq] at hM
  obtain ⟨rfl, rfl, rfl, rfl⟩ := hM
  refine ret_v (.slice A19 (([] ++ v8).length) c20) (by kernel_rfl) ⟨A19, c20, A13, c14, rfl, hS⟩

theorem pack_Reader_Err_W {w0 w : World} {D R : Nat → Prop} {b0 : Nat} {Rp0_0 : Nat → Prop} {Ap0_0 : Option Addr} {cp0_0 : Nat} {p0_0 : List Int} {p0_1 : Int} {p0_2 : Bool} {r0 : Int} {r1 : List Int} {r2 : Int} {r3 : Bool} (hS : Own w0 D R w [boxA b0 [.slice Ap0_0 p0_0.length cp0_0, .int .i64 p0_1, .bool p0_2]] [slA Rp0_0 (Enc.int .u8) Ap0_0 cp0_0 p0_0]) (hM : pack_Reader_Err_M p0_0 p0_1 p0_2 = some (r0, r1, r2, r3)) :
    Calls Go.Proofs.Try.prog 37 #[.pointer (some ⟨b0, 0, none⟩)] w (fun e w' => ∃ (ZA1 : Option Addr) (Zc2 : Nat), e = .returned (.int .i64 r0) ∧ Own w0 D R w' [boxA b0 [.slice ZA1 r1.length Zc2, .int .i64 r2, .bool r3]] [slA Rp0_0 (Enc.int .u8) ZA1 Zc2 r1]) := by
  refine enter (fn := Go.Proofs.Try.f37) [.pointer (some ⟨b0, 0, none⟩), undef, undef, undef, undef, undef, undef, undef, undef, undef, undef, undef, undef, undef, undef, undef] (by kernel_rfl) rfl (by kernel_rfl) ?_
  unfold pack_Reader_Err_M at hM
  refine wp_seq ?_
  refine wp_reg ?_
  refine segEnd [.pointer (some ⟨b0, 0, none⟩), undef, .int .i64 0, undef, undef, undef, undef, undef, undef, undef, undef, undef, undef, undef, undef, undef] (by kernel_rfl) ?_
  refine then_normal ?_
  refine wp_seq ?_
  refine wp_seq ?_
  refine wp_reg ?_
  refine seg 6 [.pointer (some ⟨b0, 0, none⟩), undef, .int .i64 0, .pointer (some ⟨b0, 0, none⟩), .bool false, .bool false, .pointer (some ⟨b0, 0, none⟩), .pointer (some ⟨b0, 0, none⟩), .pointer (some ⟨b0, 2, none⟩), undef, undef, undef, undef, undef, undef, undef] (by kernel_rfl) ?_
  refine s_load_box (.tmp 8) 4 b0 2 1 [.slice Ap0_0 p0_0.length cp0_0, .int .i64 p0_1, .bool p0_2] [.bool p0_2] (.bool p0_2) rfl (by kernel_rfl) (by kernel_rfl) (hS.box_mem (List.Mem.head _)) rfl rfl (Or.inr ⟨by kernel_rfl, rfl⟩) ?_
  refine segEnd [.pointer (some ⟨b0, 0, none⟩), undef, .int .i64 0, .pointer (some ⟨b0, 0, none⟩), .bool false, .bool false, .pointer (some ⟨b0, 0, none⟩), .pointer (some ⟨b0, 0, none⟩), .pointer (some ⟨b0, 2, none⟩), .bool p0_2, .bool (!p0_2), .bool (!p0_2), undef, undef, undef, undef] (by kernel_rfl) ?_
  refine then_normal ?_
  refine wp_cond_split (t := !p0_2) (by kernel_rfl) (fun hc1 => ?_) (fun hc1 => ?_)
  · replace hM := (if_pos hc1).symm.trans hM
    refine wp_seq ?_
    refine wp_reg ?_
    refine segEnd [.pointer (some ⟨b0, 0, none⟩), undef, .int .i64 2, .pointer (some ⟨b0, 0, none⟩), .bool false, .bool false, .pointer (some ⟨b0, 0, none⟩), .pointer (some ⟨b0, 0, none⟩), .pointer (some ⟨b0, 2, none⟩), .bool p0_2, .bool (!p0_2), .bool (!p0_2), undef, undef, undef, undef] (by kernel_rfl) ?_
    refine then_normal ?_
    refine wp_ret ?_
    refine then_ret ?_
    replace hS : Own w0 D R _ [boxA b0 [.slice Ap0_0 p0_0.length cp0_0, .int .i64 p0_1, .bool p0_2]] [slA Rp0_0 (Enc.int .u8) Ap0_0 cp0_0 p0_0] := hS.dropS (forall2 (List.Mem.head _) forall0)
    simp only [Option.some.injEq, Prod.mk.injEq] at hM
    obtain ⟨rfl, rfl, rfl, rfl⟩ := hM
    refine ret_v (.int .i64 2) (by kernel_rfl) ⟨Ap0_0, cp0_0, rfl, hS⟩
  · replace hM := (if_neg (Bool.eq_false_iff.1 hc1)).symm.trans hM
    refine wp_skip ?_
    refine then_normal ?_
    refine wp_seq ?_
    refine wp_reg ?_
    refine seg 3 [.pointer (some ⟨b0, 0, none⟩), undef, .int .i64 0, .pointer (some ⟨b0, 0, none⟩), .bool false, .bool false, .pointer (some ⟨b0, 0, none⟩), .pointer (some ⟨b0, 0, none⟩), .pointer (some ⟨b0, 2, none⟩), .bool p0_2, .bool (!p0_2), .bool (!p0_2), .pointer (some ⟨b0, 0, none⟩), .pointer (some ⟨b0, 0, none⟩), .pointer (some ⟨b0, 1, none⟩), undef] (by kernel_rfl) ?_
    refine s_load_box (.tmp 14) 44 b0 1 1 [.slice Ap0_0 p0_0.length cp0_0, .int .i64 p0_1, .bool p0_2] [.int .i64 p0_1] (.int .i64 p0_1) rfl (by kernel_rfl) (by kernel_rfl) (hS.box_mem (List.Mem.head _)) rfl rfl (Or.inr ⟨by kernel_rfl, rfl⟩) ?_
    refine segEnd [.pointer (some ⟨b0, 0, none⟩), undef, .int .i64 p0_1, .pointer (some ⟨b0, 0, none⟩), .bool false, .bool false, .pointer (some ⟨b0, 0, none⟩), .pointer (some ⟨b0, 0, none⟩), .pointer (some ⟨b0, 2, none⟩), .bool p0_2, .bool (!p0_2), .bool (!p0_2), .pointer (some ⟨b0, 0, none⟩), .pointer (some ⟨b0, 0, none⟩), .pointer (some ⟨b0, 1, none⟩), .int .i64 p0_1] (by kernel_rfl) ?_
    refine then_normal ?_
    refine wp_ret ?_
    replace hS : Own w0 D R _ [boxA b0 [.slice Ap0_0 p0_0.length cp0_0, .int .i64 p0_1, .bool p0_2]] [slA Rp0_0 (Enc.int .u8) Ap0_0 cp0_0 p0_0] := hS.dropS (forall2 (List.Mem.head _) forall0)
    simp only [Option.some.injEq, Prod.mk.injEq] at hM
    obtain ⟨rfl, rfl, rfl, rfl⟩ := hM
    refine ret_v (.int .i64 p0_1) (by kernel_rfl) ⟨Ap0_0, cp0_0, rfl, hS⟩

theorem pack_Reader_End_W {w0 w : World} {D R : Nat → Prop} {b0 : Nat} {Rp0_0 : Nat → Prop} {Ap0_0 : Option Addr} {cp0_0 : Nat} {p0_0 : List Int} {p0_1 : Int} {p0_2 : Bool} {r0 : Int} {r1 : List Int} {r2 : Int} {r3 : Bool} (hS : Own w0 D R w [boxA b0 [.slice Ap0_0 p0_0.length cp0_0, .int .i64 p0_1, .bool p0_2]] [slA Rp0_0 (Enc.int .u8) Ap0_0 cp0_0 p0_0]) (hM : pack_Reader_End_M p0_0 p0_1 p0_2 = some (r0, r1, r2, r3)) :
    Calls Go.Proofs.Try.prog 38 #[.pointer (some ⟨b0, 0, none⟩)] w (fun e w' => ∃ (ZA1 : Option Addr) (Zc2 : Nat), e = .returned (.int .i64 r0) ∧ Own w0 D R w' [boxA b0 [.slice ZA1 r1.length Zc2, .int .i64 r2, .bool r3]] [slA Rp0_0 (Enc.int .u8) ZA1 Zc2 r1]) := by
  refine enter (fn := Go.Proofs.Try.f38) [.pointer (some ⟨b0, 0, none⟩), undef, undef, undef, undef, undef, undef, undef, undef, undef, undef, undef, undef] (by kernel_rfl) rfl (by kernel_rfl) ?_
  unfold pack_Reader_End_M at hM
  refine wp_seq ?_
  refine wp_reg ?_
  refine segEnd [.pointer (some ⟨b0, 0, none⟩), undef, .int .i64 0, undef, undef, undef, undef, undef, undef, undef, undef, undef, undef] (by kernel_rfl) ?_
  refine then_normal ?_
  refine wp_seq ?_
  refine wp_seq ?_
  refine wp_reg ?_
  refine seg 1 [.pointer (some ⟨b0, 0, none⟩), undef, .int .i64 0, .pointer (some ⟨b0, 0, none⟩), undef, undef, undef, undef, undef, undef, undef, undef, undef] (by kernel_rfl) ?_
  replace hM := bind_some hM
  obtain ⟨⟨v1, v2, v5, v6⟩, h7, hM⟩ := hM
  have hP := Own.pre (Xi := [boxA b0 [.slice Ap0_0 p0_0.length cp0_0, .int .i64 p0_1, .bool p0_2]]) (X := []) (Si := [slA Rp0_0 (Enc.int .u8) Ap0_0 cp0_0 p0_0]) hS (forall2 (hS.sl_mem (List.Mem.head _)) forall0) (forall2 (fun _ h => .inl ⟨_, (List.Mem.head _), h⟩) forall0)
  refine s_call 37 #[.pointer (some ⟨b0, 0, none⟩)] (by kernel_rfl) (by kernel_rfl) ((pack_Reader_Err_W hP h7).mono ?_)
  rintro _ _ ⟨A3, c4, rfl, hQ⟩
  replace hS : Own w0 D R _ [boxA b0 [.slice A3 v2.length c4, .int .i64 v5, .bool v6]] [slA Rp0_0 (Enc.int .u8) A3 c4 v2, slA Rp0_0 (Enc.int .u8) Ap0_0 cp0_0 p0_0] := hS.post hQ (.inr (doms_sub (fun _ h => ⟨_, (List.Mem.head _), h⟩) doms_sub0))
  clear hP hQ
  refine ⟨_, rfl, ?_⟩
  refine seg 2 [.pointer (some ⟨b0, 0, none⟩), undef, .int .i64 0, .pointer (some ⟨b0, 0, none⟩), .int .i64 v1, .bool (v1 == 0), .bool (v1 == 0), undef, undef, undef, undef, undef, undef] (by kernel_rfl) ?_
  rcases Bool.eq_false_or_eq_true (v1 == 0) with hc8 | hc8
  · replace hM := (if_pos hc8).symm.trans hM
    rw [hc8]
    refine seg 1 [.pointer (some ⟨b0, 0, none⟩), undef, .int .i64 0, .pointer (some ⟨b0, 0, none⟩), .int .i64 v1, .bool true, .bool true, .pointer (some ⟨b0, 0, none⟩), undef, undef, undef, undef, undef] (by kernel_rfl) ?_
    replace hM := bind_some hM
    obtain ⟨⟨v9, v10, v13, v14⟩, h15, hM⟩ := hM
    have hP := Own.pre (Xi := [boxA b0 [.slice A3 v2.length c4, .int .i64 v5, .bool v6]]) (X := []) (Si := [slA Rp0_0 (Enc.int .u8) A3 c4 v2]) hS (forall2 (hS.sl_mem (List.Mem.head _)) forall0) (forall2 (fun _ h => .inl ⟨_, (List.Mem.head _), h⟩) forall0)
    refine s_call 36 #[.pointer (some ⟨b0, 0, none⟩)] (by kernel_rfl) (by kernel_rfl) ((pack_Reader_Left_W hP h15).mono ?_)
    rintro _ _ ⟨A11, c12, rfl, hQ⟩
    replace hS : Own w0 D R _ [boxA b0 [.slice A11 v10.length c12, .int .i64 v13, .bool v14]] [slA Rp0_0 (Enc.int .u8) A11 c12 v10, slA Rp0_0 (Enc.int .u8) A3 c4 v2, slA Rp0_0 (Enc.int .u8) Ap0_0 cp0_0 p0_0] := hS.post hQ (.inr (doms_sub (fun _ h => ⟨_, (List.Mem.head _), h⟩) doms_sub0))
    clear hP hQ
    refine ⟨_, rfl, ?_⟩
    refine segEnd [.pointer (some ⟨b0, 0, none⟩), undef, .int .i64 0, .pointer (some ⟨b0, 0, none⟩), .int .i64 v1, .bool true, .bool true, .pointer (some ⟨b0, 0, none⟩), .int .i64 v9, .bool (decide (v9 > 0)), .bool (decide (v9 > 0)), undef, undef] (by kernel_rfl) ?_
    refine then_normal ?_
    refine wp_cond_split (t := decide (v9 > 0)) (by kernel_rfl) (fun hc16 => ?_) (fun hc16 => ?_)
    · replace hM := (if_pos hc16).symm.trans hM
      refine wp_seq ?_
      refine wp_reg ?_
      refine segEnd [.pointer (some ⟨b0, 0, none⟩), undef, .int .i64 3, .pointer (some ⟨b0, 0, none⟩), .int .i64 v1, .bool true, .bool true, .pointer (some ⟨b0, 0, none⟩), .int .i64 v9, .bool (decide (v9 > 0)), .bool (decide (v9 > 0)), undef, undef] (by kernel_rfl) ?_
      refine then_normal ?_
      refine wp_ret ?_
      refine then_ret ?_
      replace hS : Own w0 D R _ [boxA b0 [.slice A11 v10.length c12, .int .i64 v13, .bool v14]] [slA Rp0_0 (Enc.int .u8) A11 c12 v10] := hS.dropS (forall2 (List.Mem.head _) forall0)
      simp only [Option.some.injEq, Prod.mk.injEq] at hM
      obtain ⟨rfl, rfl, rfl, rfl⟩ := hM
      refine ret_v (.int .i64 3) (by kernel_rfl) ⟨A11, c12, rfl, hS⟩
    · replace hM := (if_neg (Bool.eq_false_iff.1 hc16)).symm.trans hM
      refine wp_skip ?_
      refine then_normal ?_
      refine wp_seq ?_
      refine wp_reg ?_
      refine seg 1 [.pointer (some ⟨b0, 0, none⟩), undef, .int .i64 0, .pointer (some ⟨b0, 0, none⟩), .int .i64 v1, .bool true, .bool true, .pointer (some ⟨b0, 0, none⟩), .int .i64 v9, .bool (decide (v9 > 0)), .bool (decide (v9 > 0)), .pointer (some ⟨b0, 0, none⟩), undef] (by kernel_rfl) ?_
      replace hM := bind_some hM
      obtain ⟨⟨v17, v18, v21, v22⟩, h23, hM⟩ := hM
      have hP := Own.pre (Xi := [boxA b0 [.slice A11 v10.length c12, .int .i64 v13, .bool v14]]) (X := []) (Si := [slA Rp0_0 (Enc.int .u8) A11 c12 v10]) hS (forall2 (hS.sl_mem (List.Mem.head _)) forall0) (forall2 (fun _ h => .inl ⟨_, (List.Mem.head _), h⟩) forall0)
      refine s_call 37 #[.pointer (some ⟨b0, 0, none⟩)] (by kernel_rfl) (by kernel_rfl) ((pack_Reader_Err_W hP h23).mono ?_)
      rintro _ _ ⟨A19, c20, rfl, hQ⟩
      replace hS : Own w0 D R _ [boxA b0 [.slice A19 v18.length c20, .int .i64 v21, .bool v22]] [slA Rp0_0 (Enc.int .u8) A19 c20 v18, slA Rp0_0 (Enc.int .u8) A11 c12 v10, slA Rp0_0 (Enc.int .u8) A3 c4 v2, slA Rp0_0 (Enc.int .u8) Ap0_0 cp0_0 p0_0] := hS.post hQ (.inr (doms_sub (fun _ h => ⟨_, (List.Mem.head _), h⟩) doms_sub0))
      clear hP hQ
      refine ⟨_, rfl, ?_⟩
      refine segEnd [.pointer (some ⟨b0, 0, none⟩), undef, .int .i64 v17, .pointer (some ⟨b0, 0, none⟩), .int .i64 v1, .bool true, .bool true, .pointer (some ⟨b0, 0, none⟩), .int .i64 v9, .bool (decide (v9 > 0)), .bool (decide (v9 > 0)), .pointer (some ⟨b0, 0, none⟩), .int .i64 v17] (by kernel_rfl) ?_
      refine then_normal ?_
      refine wp_ret ?_
      replace hS : Own w0 D R _ [boxA b0 [.slice A19 v18.length c20, .int .i64 v21, .bool v22]] [slA Rp0_0 (Enc.int .u8) A19 c20 v18] := hS.dropS (forall2 (List.Mem.head _) forall0)
      simp only [Option.some.injEq, Prod.mk.injEq] at hM
      obtain ⟨rfl, rfl, rfl, rfl⟩ := hM
      refine ret_v (.int .i64 v17) (by kernel_rfl) ⟨A19, c20, rfl, hS⟩
  · replace hM := (if_neg (Bool.eq_false_iff.1 hc8)).symm.trans hM
    rw [hc8]
    refine segEnd [.pointer (some ⟨b0, 0, none⟩), undef, .int .i64 0, .pointer (some ⟨b0, 0, none⟩), .int .i64 v1, .bool false, .bool false, undef, undef, undef, .bool false, undef, undef] (by kernel_rfl) ?_
    refine then_normal ?_
    refine wp_cond_false (by kernel_rfl) ?_
    refine wp_skip ?_
    refine then_normal ?_
    refine wp_seq ?_
    refine wp_reg ?_
    refine seg 1 [.pointer (some ⟨b0, 0, none⟩), undef, .int .i64 0, .pointer (some ⟨b0, 0, none⟩), .int .i64 v1, .bool false, .bool false, undef, undef, undef, .bool false, .pointer (some ⟨b0, 0, none⟩), undef] (by kernel_rfl) ?_
    replace hM := bind_some hM
    obtain ⟨⟨v24, v25, v28, v29⟩, h30, hM⟩ := hM
    have hP := Own.pre (Xi := [boxA b0 [.slice A3 v2.length c4, .int .i64 v5, .bool v6]]) (X := []) (Si := [slA Rp0_0 (Enc.int .u8) A3 c4 v2]) hS (forall2 (hS.sl_mem (List.Mem.head _)) forall0) (forall2 (fun _ h => .inl ⟨_, (List.Mem.head _), h⟩) forall0)
    refine s_call 37 #[.pointer (some ⟨b0, 0, none⟩)] (by kernel_rfl) (by kernel_rfl) ((pack_Reader_Err_W hP h30).mono ?_)
    rintro _ _ ⟨A26, c27, rfl, hQ⟩
    replace hS : Own w0 D R _ [boxA b0 [.slice A26 v25.length c27, .int .i64 v28, .bool v29]] [slA Rp0_0 (Enc.int .u8) A26 c27 v25, slA Rp0_0 (Enc.int .u8) A3 c4 v2, slA Rp0_0 (Enc.int .u8) Ap0_0 cp0_0 p0_0] := hS.post hQ (.inr (doms_sub (fun _ h => ⟨_, (List.Mem.head _), h⟩) doms_sub0))
    clear hP hQ
    refine ⟨_, rfl, ?_⟩
    refine segEnd [.pointer (some ⟨b0, 0, none⟩), undef, .int .i64 v24, .pointer (some ⟨b0, 0, none⟩), .int .i64 v1, .bool false, .bool false, undef, undef, undef, .bool false, .pointer (some ⟨b0, 0, none⟩), .int .i64 v24] (by kernel_rfl) ?_
    refine then_normal ?_
    refine wp_ret ?_
    replace hS : Own w0 D R _ [boxA b0 [.slice A26 v25.length c27, .int .i64 v28, .bool v29]] [slA Rp0_0 (Enc.int .u8) A26 c27 v25] := hS.dropS (forall2 (List.Mem.head _) forall0)
    simp only [Option.some.injEq, Prod.mk.injEq] at hM
    obtain ⟨rfl, rfl, rfl, rfl⟩ := hM
    refine ret_v (.int .i64 v24) (by kernel_rfl) ⟨A26, c27, rfl, hS⟩

theorem pack_Read_W {w0 w : World} {D R : Nat → Prop} {Rp0 : Nat → Prop} {Ap0 : Option Addr} {cp0 : Nat} {p0 : List Int} {r0 : List Int} {r1 : Int} {r2 : Bool} (hS : Own w0 D R w [] [slA Rp0 (Enc.int .u8) Ap0 cp0 p0]) (hD : ∀ b, ¬ D b) (hM : pack_Read_M p0 = some (r0, r1, r2)) :
    Calls Go.Proofs.Try.prog 39 #[.slice Ap0 p0.length cp0] w (fun e w' => ∃ (Zb1 : Nat) (ZA2 : Option Addr) (Zc3 : Nat), e = .returned (.pointer (some ⟨Zb1, 0, none⟩)) ∧ Own w0 D R w' [rowA (Enc.int .u8) ZA2 Zc3 r0, boxA Zb1 [.slice ZA2 r0.length Zc3, .int .i64 r1, .bool r2]] []) := by
  refine enter (fn := Go.Proofs.Try.f39) [.slice Ap0 p0.length cp0, undef, undef, undef, undef, undef, undef] (by kernel_rfl) rfl (by kernel_rfl) ?_
  unfold pack_Read_M at hM
  refine wp_seq ?_
  refine wp_reg ?_
  refine segEnd [.slice Ap0 p0.length cp0, undef, .pointer none, undef, undef, undef, undef] (by kernel_rfl) ?_
  refine then_normal ?_
  refine wp_seq ?_
  refine wp_reg ?_
  refine seg 1 [.slice Ap0 p0.length cp0, undef, .pointer none, .slice Ap0 p0.length cp0, undef, undef, undef] (by kernel_rfl) ?_
  replace hM := bind_some hM
  obtain ⟨_, h1, hM⟩ := hM
  replace hS : Own w0 D R _ [rowA (Enc.int .u8) none 0 []] [slA Rp0 (Enc.int .u8) Ap0 cp0 p0] := hS.addNil (Enc.int .u8)
  refine s_append (.const (.slice none 0 0)) (.tmp 3) 22 22 5 1 (.slice Ap0 p0.length cp0) (e := (Enc.int .u8)) (xs := []) (ys := p0) rfl u22 el5 (by kernel_rfl) (by kernel_rfl) (by kernel_rfl) hS ((SlR.of_sl (hS.sl_mem (List.Mem.head _))).src u22) (room_some h1).1 (room_some h1).2 (fun A2 c3 _ hS => ?_)
  refine seg 1 [.slice Ap0 p0.length cp0, undef, .pointer none, .slice Ap0 p0.length cp0, .slice A2 (([] ++ p0).length) c3, .agg #[.slice A2 (([] ++ p0).length) c3, .int .i64 0, .bool true], undef] (by kernel_rfl) ?_
  refine s_box (.tmp 5) 46 [.slice A2 (([] ++ p0).length) c3, .int .i64 0, .bool true] (.agg #[.slice A2 (([] ++ p0).length) c3, .int .i64 0, .bool true]) rfl (by kernel_rfl) rfl (by kernel_rfl) hS (fun b4 _ hS => ?_)
  refine segEnd [.slice Ap0 p0.length cp0, undef, .pointer (some ⟨b4, 0, none⟩), .slice Ap0 p0.length cp0, .slice A2 (([] ++ p0).length) c3, .agg #[.slice A2 (([] ++ p0).length) c3, .int .i64 0, .bool true], .pointer (some ⟨b4, 0, none⟩)] (by kernel_rfl) ?_
  refine then_normal ?_
  refine wp_ret ?_
  replace hS : Own w0 D R _ [rowA (Enc.int .u8) A2 c3 ([] ++ p0), boxA b4 [.slice A2 (([] ++ p0).length) c3, .int .i64 0, .bool true]] [slA Rp0 (Enc.int .u8) Ap0 cp0 p0] := hS.pick 1 rfl
  replace hS : Own w0 D R _ [boxA b4 [.slice A2 (([] ++ p0).length) c3, .int .i64 0, .bool true], rowA (Enc.int .u8) A2 c3 ([] ++ p0)] [slA Rp0 (Enc.int .u8) Ap0 cp0 p0] := hS.pick 1 rfl
  replace hS : Own w0 D R _ [rowA (Enc.int .u8) A2 c3 ([] ++ p0), boxA b4 [.slice A2 (([] ++ p0).length) c3, .int .i64 0, .bool true]] [slA Rp0 (Enc.int .u8) Ap0 cp0 p0] := hS.pick 1 rfl
  replace hS : Own w0 D R _ [rowA (Enc.int .u8) A2 c3 ([] ++ p0), boxA b4 [.slice A2 (([] ++ p0).length) c3, .int .i64 0, .bool true]] [] := hS.dropS forall0
  simp only [Option.some.injEq, Prod.mk.injEq] at hM
  obtain ⟨rfl, rfl, rfl⟩ := hM
  refine ret_v (.pointer (some ⟨b4, 0, none⟩)) (by kernel_rfl) ⟨b4, A2, c3, rfl, hS⟩

end Go.Proofs.Ytknkonhdbmeolaa
