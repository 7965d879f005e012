/- The Go functions come to what their models say (Reader). -/
import Derived.Test.YtcpddgjmopdlbaaTy
import Derived.Test.YtcpddgjmopdlbaaMReader
namespace Go.Proofs.Ytcpddgjmopdlbaa
open Go Go.Lift
set_option maxRecDepth 100000
set_option maxHeartbeats 4000000
set_option linter.unusedVariables false

theorem pack_Reader_ok_W {w0 w : World} {D R : Nat → Prop} {b0 : Nat} {Rp0_0 : Nat → Prop} {Ap0_0 : Option Addr} {cp0_0 : Nat} {p0_0 : List Int} {p0_1 : Int} {p0_2 : Bool} {r0 : Bool} (hS : Own w0 D R w [boxA b0 [.slice Ap0_0 p0_0.length cp0_0, .int .i64 p0_1, .bool p0_2]] [slA Rp0_0 (Enc.int .u8) Ap0_0 cp0_0 p0_0]) (hM : pack_Reader_ok_M p0_0 p0_1 p0_2 = some r0) :
    Calls Go.Proofs.Try.prog 32 #[.pointer (some ⟨b0, 0, none⟩)] w (fun e w' => e = .returned (.bool r0) ∧ Own w0 D R w' [boxA b0 [.slice Ap0_0 p0_0.length cp0_0, .int .i64 p0_1, .bool p0_2]] []) := by
  refine enter (fn := Go.Proofs.Try.f32) [.pointer (some ⟨b0, 0, none⟩), undef, undef, undef, undef, undef, undef, undef, undef, undef, undef, undef, undef, undef, undef, undef, undef, undef] (by kernel_rfl) rfl (by kernel_rfl) ?_
  unfold pack_Reader_ok_M at hM
  refine wp_seq ?_
  refine wp_reg ?_
  refine segEnd [.pointer (some ⟨b0, 0, none⟩), undef, .bool false, undef, undef, undef, undef, undef, undef, undef, undef, undef, undef, undef, undef, undef, undef, undef] (by kernel_rfl) ?_
  refine then_normal ?_
  refine wp_seq ?_
  refine wp_reg ?_
  refine seg 6 [.pointer (some ⟨b0, 0, none⟩), undef, .bool false, .pointer (some ⟨b0, 0, none⟩), .bool true, .bool true, .pointer (some ⟨b0, 0, none⟩), .pointer (some ⟨b0, 0, none⟩), .pointer (some ⟨b0, 2, none⟩), undef, undef, undef, undef, undef, undef, undef, undef, undef] (by kernel_rfl) ?_
  refine s_load_box (.tmp 8) 4 b0 2 1 [.slice Ap0_0 p0_0.length cp0_0, .int .i64 p0_1, .bool p0_2] [.bool p0_2] (.bool p0_2) rfl (by kernel_rfl) (by kernel_rfl) (hS.box_mem (List.Mem.head _)) rfl rfl (Or.inr ⟨by kernel_rfl, rfl⟩) ?_
  refine seg 2 [.pointer (some ⟨b0, 0, none⟩), undef, .bool false, .pointer (some ⟨b0, 0, none⟩), .bool true, .bool true, .pointer (some ⟨b0, 0, none⟩), .pointer (some ⟨b0, 0, none⟩), .pointer (some ⟨b0, 2, none⟩), .bool p0_2, .bool p0_2, .bool p0_2, undef, undef, undef, undef, undef, undef] (by kernel_rfl) ?_
  rcases Bool.eq_false_or_eq_true p0_2 with hc1 | hc1
  · replace hM := (if_pos hc1).symm.trans hM
    rw [hc1]
    refine seg 3 [.pointer (some ⟨b0, 0, none⟩), undef, .bool false, .pointer (some ⟨b0, 0, none⟩), .bool true, .bool true, .pointer (some ⟨b0, 0, none⟩), .pointer (some ⟨b0, 0, none⟩), .pointer (some ⟨b0, 2, none⟩), .bool true, .bool true, .bool true, .pointer (some ⟨b0, 0, none⟩), .pointer (some ⟨b0, 0, none⟩), .pointer (some ⟨b0, 1, none⟩), undef, undef, undef] (by kernel_rfl) ?_
    refine s_load_box (.tmp 14) 33 b0 1 1 [.slice Ap0_0 p0_0.length cp0_0, .int .i64 p0_1, .bool p0_2] [.int .i64 p0_1] (.int .i64 p0_1) rfl (by kernel_rfl) (by kernel_rfl) (hS.box_mem (List.Mem.head _)) rfl rfl (Or.inr ⟨by kernel_rfl, rfl⟩) ?_
    refine segEnd [.pointer (some ⟨b0, 0, none⟩), undef, .bool (p0_1 == 0), .pointer (some ⟨b0, 0, none⟩), .bool true, .bool true, .pointer (some ⟨b0, 0, none⟩), .pointer (some ⟨b0, 0, none⟩), .pointer (some ⟨b0, 2, none⟩), .bool true, .bool true, .bool true, .pointer (some ⟨b0, 0, none⟩), .pointer (some ⟨b0, 0, none⟩), .pointer (some ⟨b0, 1, none⟩), .int .i64 p0_1, .bool (p0_1 == 0), .bool (p0_1 == 0)] (by kernel_rfl) ?_
    refine then_normal ?_
    refine wp_ret ?_
    replace hS : Own w0 D R _ [boxA b0 [.slice Ap0_0 p0_0.length cp0_0, .int .i64 p0_1, .bool p0_2]] [] := hS.dropS forall0
    obtain rfl := Option.some.inj hM
    refine ret_v (.bool (p0_1 == 0)) (by kernel_rfl) ⟨rfl, (by first | exact hS | (simp only [hc1] at hS ⊢; exact hS))⟩
  · replace hM := (if_neg (Bool.eq_false_iff.1 hc1)).symm.trans hM
    rw [hc1]
    refine segEnd [.pointer (some ⟨b0, 0, none⟩), undef, .bool false, .pointer (some ⟨b0, 0, none⟩), .bool true, .bool true, .pointer (some ⟨b0, 0, none⟩), .pointer (some ⟨b0, 0, none⟩), .pointer (some ⟨b0, 2, none⟩), .bool false, .bool false, .bool false, undef, undef, undef, undef, undef, .bool false] (by kernel_rfl) ?_
    refine then_normal ?_
    refine wp_ret ?_
    replace hS : Own w0 D R _ [boxA b0 [.slice Ap0_0 p0_0.length cp0_0, .int .i64 p0_1, .bool p0_2]] [] := hS.dropS forall0
    obtain rfl := Option.some.inj hM
    refine ret_v (.bool false) (by kernel_rfl) ⟨rfl, (by first | exact hS | (simp only [hc1] at hS ⊢; exact hS))⟩

theorem pack_Reader_fail_W {w0 w : World} {D R : Nat → Prop} {b0 : Nat} {Rp0_0 : Nat → Prop} {Ap0_0 : Option Addr} {cp0_0 : Nat} {p0_0 : List Int} {p0_1 : Int} {p0_2 : Bool} {p1 : Int} {r0 : List Int} {r1 : Int} {r2 : Bool} (hS : Own w0 D R w [boxA b0 [.slice Ap0_0 p0_0.length cp0_0, .int .i64 p0_1, .bool p0_2]] [slA Rp0_0 (Enc.int .u8) Ap0_0 cp0_0 p0_0]) (hM : pack_Reader_fail_M p0_0 p0_1 p0_2 p1 = some (r0, r1, r2)) :
    Calls Go.Proofs.Try.prog 33 #[.pointer (some ⟨b0, 0, none⟩), .int .i64 p1] w (fun e w' => ∃ (ZA1 : Option Addr) (Zc2 : Nat), e = .returned (.tuple #[]) ∧ Own w0 D R w' [boxA b0 [.slice ZA1 r0.length Zc2, .int .i64 r1, .bool r2]] [slA Rp0_0 (Enc.int .u8) ZA1 Zc2 r0]) := by
  refine enter (fn := Go.Proofs.Try.f33) [.pointer (some ⟨b0, 0, none⟩), .int .i64 p1, undef, undef, undef, undef, undef, undef, undef, undef, undef] (by kernel_rfl) rfl (by kernel_rfl) ?_
  unfold pack_Reader_fail_M at hM
  refine wp_reg ?_
  refine seg 5 [.pointer (some ⟨b0, 0, none⟩), .int .i64 p1, undef, undef, .pointer (some ⟨b0, 0, none⟩), .pointer (some ⟨b0, 0, none⟩), .int .i64 p1, .pointer (some ⟨b0, 0, none⟩), .pointer (some ⟨b0, 1, none⟩), undef, undef] (by kernel_rfl) ?_
  refine s_store_box (.tmp 8) (.tmp 6) 33 b0 1 [.slice Ap0_0 p0_0.length cp0_0, .int .i64 p0_1, .bool p0_2] [.slice Ap0_0 p0_0.length cp0_0, .int .i64 p1, .bool p0_2] [.int .i64 p1] (.int .i64 p1) rfl (by kernel_rfl) (by kernel_rfl) (by kernel_rfl) rfl (by kernel_rfl) (forall2 rfl forall0) (Nat.le_of_ble_eq_true (by kernel_rfl)) rfl hS (fun _ hS => ?_)
  refine seg 2 [.pointer (some ⟨b0, 0, none⟩), .int .i64 p1, undef, undef, .pointer (some ⟨b0, 0, none⟩), .pointer (some ⟨b0, 0, none⟩), .int .i64 p1, .pointer (some ⟨b0, 0, none⟩), .pointer (some ⟨b0, 1, none⟩), .pointer (some ⟨b0, 0, none⟩), .pointer (some ⟨b0, 0, none⟩)] (by kernel_rfl) ?_
  refine s_store_box (.tmp 10) (.const (.slice none 0 0)) 26 b0 0 [.slice Ap0_0 p0_0.length cp0_0, .int .i64 p1, .bool p0_2] [.slice none 0 0, .int .i64 p1, .bool p0_2] [.slice none 0 0] (.slice none 0 0) rfl (by kernel_rfl) (by kernel_rfl) (by kernel_rfl) rfl (by kernel_rfl) (forall2 rfl forall0) (Nat.le_of_ble_eq_true (by kernel_rfl)) rfl hS (fun _ hS => ?_)
  refine wl_nil ?_
  replace hS := hS.addNilS Rp0_0 (Enc.int .u8) (fun _ h => ⟨_, (List.Mem.head _), h⟩)
  replace hS : Own w0 D R _ [boxA b0 [.slice none 0 0, .int .i64 p1, .bool p0_2]] [slA Rp0_0 (Enc.int .u8) none 0 []] := hS.dropS (forall2 (List.Mem.head _) forall0)
  simp only [Option.some.injEq, Prod.mk.injEq] at hM
  obtain ⟨rfl, rfl, rfl⟩ := hM
  refine end_v (.tuple #[]) (by kernel_rfl) ⟨none, 0, rfl, hS⟩

theorem pack_Reader_next_W {w0 w : World} {D R : Nat → Prop} {b0 : Nat} {Rp0_0 : Nat → Prop} {Ap0_0 : Option Addr} {cp0_0 : Nat} {p0_0 : List Int} {p0_1 : Int} {p0_2 : Bool} {p1 : Int} {r0 : List Int} {r1 : Bool} {r2 : List Int} {r3 : Int} {r4 : Bool} (hS : Own w0 D R w [boxA b0 [.slice Ap0_0 p0_0.length cp0_0, .int .i64 p0_1, .bool p0_2]] [slA Rp0_0 (Enc.int .u8) Ap0_0 cp0_0 p0_0]) (hM : pack_Reader_next_M p0_0 p0_1 p0_2 p1 = some (r0, r1, r2, r3, r4)) :
    Calls Go.Proofs.Try.prog 41 #[.pointer (some ⟨b0, 0, none⟩), .int .i64 p1] w (fun e w' => ∃ (ZA1 : Option Addr) (Zc2 : Nat) (ZA3 : Option Addr) (Zc4 : Nat), e = .returned (.tuple #[.slice ZA1 r0.length Zc2, .bool r1]) ∧ Own w0 D R w' [boxA b0 [.slice ZA3 r2.length Zc4, .int .i64 r3, .bool r4]] [slA Rp0_0 (Enc.int .u8) ZA1 Zc2 r0, slA Rp0_0 (Enc.int .u8) ZA3 Zc4 r2]) := by
  refine enter (fn := Go.Proofs.Try.f41) [.pointer (some ⟨b0, 0, none⟩), .int .i64 p1, undef, undef, undef, undef, undef, undef, undef, undef, undef, undef, undef, undef, undef, undef, undef, undef, undef, undef, undef, undef, undef, undef, undef, undef, undef, undef, undef, undef, undef, undef, undef, undef, undef] (by kernel_rfl) rfl (by kernel_rfl) ?_
  unfold pack_Reader_next_M at hM
  refine wp_seq ?_
  refine wp_reg ?_
  refine segEnd [.pointer (some ⟨b0, 0, none⟩), .int .i64 p1, undef, undef, .slice none 0 0, .bool false, undef, undef, undef, undef, undef, undef, undef, undef, undef, undef, undef, undef, undef, undef, undef, undef, undef, undef, undef, undef, undef, undef, undef, undef, undef, undef, undef, undef, undef] (by kernel_rfl) ?_
  refine then_normal ?_
  refine wp_seq ?_
  refine wp_seq ?_
  refine wp_reg ?_
  refine seg 1 [.pointer (some ⟨b0, 0, none⟩), .int .i64 p1, undef, undef, .slice none 0 0, .bool false, undef, .pointer (some ⟨b0, 0, none⟩), undef, undef, undef, undef, undef, undef, undef, undef, undef, undef, undef, undef, undef, undef, undef, undef, undef, undef, undef, undef, undef, undef, undef, undef, undef, undef, undef] (by kernel_rfl) ?_
  replace hM := bind_some hM
  obtain ⟨v1, h2, hM⟩ := hM
  have hP := Own.pre (Xi := [boxA b0 [.slice Ap0_0 p0_0.length cp0_0, .int .i64 p0_1, .bool p0_2]]) (X := []) (Si := [slA Rp0_0 (Enc.int .u8) Ap0_0 cp0_0 p0_0]) hS (forall2 (hS.sl_mem (List.Mem.head _)) forall0) (forall2 (fun _ h => .inl ⟨_, (List.Mem.head _), h⟩) forall0)
  refine s_call 32 #[.pointer (some ⟨b0, 0, none⟩)] (by kernel_rfl) (by kernel_rfl) ((pack_Reader_ok_W hP h2).mono ?_)
  rintro _ _ ⟨rfl, hQ⟩
  replace hS : Own w0 D R _ [boxA b0 [.slice Ap0_0 p0_0.length cp0_0, .int .i64 p0_1, .bool p0_2]] [slA Rp0_0 (Enc.int .u8) Ap0_0 cp0_0 p0_0] := hS.post hQ (.inl rfl)
  clear hP hQ
  refine ⟨_, rfl, ?_⟩
  refine segEnd [.pointer (some ⟨b0, 0, none⟩), .int .i64 p1, undef, undef, .slice none 0 0, .bool false, undef, .pointer (some ⟨b0, 0, none⟩), .bool v1, .bool (!v1), undef, undef, undef, undef, undef, undef, undef, undef, undef, undef, undef, undef, undef, undef, undef, undef, undef, undef, undef, undef, undef, undef, undef, undef, undef] (by kernel_rfl) ?_
  refine then_normal ?_
  refine wp_cond_split (t := !v1) (by kernel_rfl) (fun hc3 => ?_) (fun hc3 => ?_)
  · replace hM := (if_pos hc3).symm.trans hM
    refine wp_seq ?_
    refine wp_reg ?_
    refine segEnd [.pointer (some ⟨b0, 0, none⟩), .int .i64 p1, undef, undef, .slice none 0 0, .bool false, undef, .pointer (some ⟨b0, 0, none⟩), .bool v1, .bool (!v1), undef, undef, undef, undef, undef, undef, undef, undef, undef, undef, undef, undef, undef, undef, undef, undef, undef, undef, undef, undef, undef, undef, undef, undef, undef] (by kernel_rfl) ?_
    refine then_normal ?_
    refine wp_ret ?_
    refine then_ret ?_
    replace hS := hS.addNilS Rp0_0 (Enc.int .u8) (fun _ h => ⟨_, (List.Mem.head _), h⟩)
    replace hS : Own w0 D R _ [boxA b0 [.slice Ap0_0 p0_0.length cp0_0, .int .i64 p0_1, .bool p0_2]] [slA Rp0_0 (Enc.int .u8) none 0 [], slA Rp0_0 (Enc.int .u8) Ap0_0 cp0_0 p0_0] := hS.dropS (forall2 (List.Mem.head _) (forall2 (List.Mem.tail _ (List.Mem.head _)) forall0))
    simp only [Option.some.injEq, Prod.mk.injEq] at hM
    obtain ⟨rfl, rfl, rfl, rfl, rfl⟩ := hM
    refine ret_v (.tuple #[.slice none 0 0, .bool false]) (by kernel_rfl) ⟨none, 0, Ap0_0, cp0_0, rfl, hS⟩
  · replace hM := (if_neg (Bool.eq_false_iff.1 hc3)).symm.trans hM
    refine wp_skip ?_
    refine then_normal ?_
    refine wp_seq ?_
    refine wp_seq ?_
    refine wp_reg ?_
    refine seg 4 [.pointer (some ⟨b0, 0, none⟩), .int .i64 p1, undef, undef, .slice none 0 0, .bool false, undef, .pointer (some ⟨b0, 0, none⟩), .bool v1, .bool (!v1), .int .i64 p1, .pointer (some ⟨b0, 0, none⟩), .pointer (some ⟨b0, 0, none⟩), .pointer (some ⟨b0, 0, none⟩), undef, undef, undef, undef, undef, undef, undef, undef, undef, undef, undef, undef, undef, undef, undef, undef, undef, undef, undef, undef, undef] (by kernel_rfl) ?_
    refine s_load_box (.tmp 13) 26 b0 0 1 [.slice Ap0_0 p0_0.length cp0_0, .int .i64 p0_1, .bool p0_2] [.slice Ap0_0 p0_0.length cp0_0] (.slice Ap0_0 p0_0.length cp0_0) rfl (by kernel_rfl) (by kernel_rfl) (hS.box_mem (List.Mem.head _)) rfl rfl (Or.inr ⟨by kernel_rfl, rfl⟩) ?_
    refine segEnd [.pointer (some ⟨b0, 0, none⟩), .int .i64 p1, undef, undef, .slice none 0 0, .bool false, undef, .pointer (some ⟨b0, 0, none⟩), .bool v1, .bool (!v1), .int .i64 p1, .pointer (some ⟨b0, 0, none⟩), .pointer (some ⟨b0, 0, none⟩), .pointer (some ⟨b0, 0, none⟩), .slice Ap0_0 p0_0.length cp0_0, .int .i64 (p0_0.length : Int), .bool (decide (p1 > (p0_0.length : Int))), undef, undef, undef, undef, undef, undef, undef, undef, undef, undef, undef, undef, undef, undef, undef, undef, undef, undef] (by kernel_rfl) ?_
    refine then_normal ?_
    refine wp_cond_split (t := decide (p1 > (p0_0.length : Int))) (by kernel_rfl) (fun hc4 => ?_) (fun hc4 => ?_)
    · replace hM := (if_pos hc4).symm.trans hM
      refine wp_seq ?_
      refine wp_reg ?_
      refine seg 1 [.pointer (some ⟨b0, 0, none⟩), .int .i64 p1, undef, undef, .slice none 0 0, .bool false, undef, .pointer (some ⟨b0, 0, none⟩), .bool v1, .bool (!v1), .int .i64 p1, .pointer (some ⟨b0, 0, none⟩), .pointer (some ⟨b0, 0, none⟩), .pointer (some ⟨b0, 0, none⟩), .slice Ap0_0 p0_0.length cp0_0, .int .i64 (p0_0.length : Int), .bool (decide (p1 > (p0_0.length : Int))), .pointer (some ⟨b0, 0, none⟩), undef, undef, undef, undef, undef, undef, undef, undef, undef, undef, undef, undef, undef, undef, undef, undef, undef] (by kernel_rfl) ?_
      replace hM := bind_some hM
      obtain ⟨⟨v5, v8, v9⟩, h10, hM⟩ := hM
      have hP := Own.pre (Xi := [boxA b0 [.slice Ap0_0 p0_0.length cp0_0, .int .i64 p0_1, .bool p0_2]]) (X := []) (Si := [slA Rp0_0 (Enc.int .u8) Ap0_0 cp0_0 p0_0]) hS (forall2 (hS.sl_mem (List.Mem.head _)) forall0) (forall2 (fun _ h => .inl ⟨_, (List.Mem.head _), h⟩) forall0)
      refine s_call 33 #[.pointer (some ⟨b0, 0, none⟩), .int .i64 4] (by kernel_rfl) (by kernel_rfl) ((pack_Reader_fail_W hP h10).mono ?_)
      rintro _ _ ⟨A6, c7, rfl, hQ⟩
      replace hS : Own w0 D R _ [boxA b0 [.slice A6 v5.length c7, .int .i64 v8, .bool v9]] [slA Rp0_0 (Enc.int .u8) A6 c7 v5, slA Rp0_0 (Enc.int .u8) Ap0_0 cp0_0 p0_0] := hS.post hQ (.inr (doms_sub (fun _ h => ⟨_, (List.Mem.head _), h⟩) doms_sub0))
      clear hP hQ
      refine ⟨_, rfl, ?_⟩
      refine wl_nil ?_
      refine then_normal ?_
      refine wp_seq ?_
      refine wp_reg ?_
      refine segEnd [.pointer (some ⟨b0, 0, none⟩), .int .i64 p1, undef, undef, .slice none 0 0, .bool false, undef, .pointer (some ⟨b0, 0, none⟩), .bool v1, .bool (!v1), .int .i64 p1, .pointer (some ⟨b0, 0, none⟩), .pointer (some ⟨b0, 0, none⟩), .pointer (some ⟨b0, 0, none⟩), .slice Ap0_0 p0_0.length cp0_0, .int .i64 (p0_0.length : Int), .bool (decide (p1 > (p0_0.length : Int))), .pointer (some ⟨b0, 0, none⟩), .tuple #[], undef, undef, undef, undef, undef, undef, undef, undef, undef, undef, undef, undef, undef, undef, undef, undef] (by kernel_rfl) ?_
      refine then_normal ?_
      refine wp_ret ?_
      refine then_ret ?_
      replace hS := hS.addNilS Rp0_0 (Enc.int .u8) (fun _ h => ⟨_, (List.Mem.head _), h⟩)
      replace hS : Own w0 D R _ [boxA b0 [.slice A6 v5.length c7, .int .i64 v8, .bool v9]] [slA Rp0_0 (Enc.int .u8) none 0 [], slA Rp0_0 (Enc.int .u8) A6 c7 v5] := hS.dropS (forall2 (List.Mem.head _) (forall2 (List.Mem.tail _ (List.Mem.head _)) forall0))
      simp only [Option.some.injEq, Prod.mk.injEq] at hM
      obtain ⟨rfl, rfl, rfl, rfl, rfl⟩ := hM
      refine ret_v (.tuple #[.slice none 0 0, .bool false]) (by kernel_rfl) ⟨none, 0, A6, c7, rfl, hS⟩
    · replace hM := (if_neg (Bool.eq_false_iff.1 hc4)).symm.trans hM
      refine wp_skip ?_
      refine then_normal ?_
      refine wp_seq ?_
      refine wp_reg ?_
      refine seg 3 [.pointer (some ⟨b0, 0, none⟩), .int .i64 p1, undef, undef, .slice none 0 0, .bool false, undef, .pointer (some ⟨b0, 0, none⟩), .bool v1, .bool (!v1), .int .i64 p1, .pointer (some ⟨b0, 0, none⟩), .pointer (some ⟨b0, 0, none⟩), .pointer (some ⟨b0, 0, none⟩), .slice Ap0_0 p0_0.length cp0_0, .int .i64 (p0_0.length : Int), .bool (decide (p1 > (p0_0.length : Int))), undef, undef, .pointer (some ⟨b0, 0, none⟩), .pointer (some ⟨b0, 0, none⟩), .pointer (some ⟨b0, 0, none⟩), undef, undef, undef, undef, undef, undef, undef, undef, undef, undef, undef, undef, undef] (by kernel_rfl) ?_
      refine s_load_box (.tmp 21) 26 b0 0 1 [.slice Ap0_0 p0_0.length cp0_0, .int .i64 p0_1, .bool p0_2] [.slice Ap0_0 p0_0.length cp0_0] (.slice Ap0_0 p0_0.length cp0_0) rfl (by kernel_rfl) (by kernel_rfl) (hS.box_mem (List.Mem.head _)) rfl rfl (Or.inr ⟨by kernel_rfl, rfl⟩) ?_
      refine seg 1 [.pointer (some ⟨b0, 0, none⟩), .int .i64 p1, undef, undef, .slice none 0 0, .bool false, undef, .pointer (some ⟨b0, 0, none⟩), .bool v1, .bool (!v1), .int .i64 p1, .pointer (some ⟨b0, 0, none⟩), .pointer (some ⟨b0, 0, none⟩), .pointer (some ⟨b0, 0, none⟩), .slice Ap0_0 p0_0.length cp0_0, .int .i64 (p0_0.length : Int), .bool (decide (p1 > (p0_0.length : Int))), undef, undef, .pointer (some ⟨b0, 0, none⟩), .pointer (some ⟨b0, 0, none⟩), .pointer (some ⟨b0, 0, none⟩), .slice Ap0_0 p0_0.length cp0_0, .int .i64 p1, undef, undef, undef, undef, undef, undef, undef, undef, undef, undef, undef] (by kernel_rfl) ?_
      replace hM := bind_some hM
      obtain ⟨y11, h12, hM⟩ := hM
      refine s_slice (A := Ap0_0) (cap := cp0_0) (.tmp 22) none (some (.tmp 23)) 26 5 1 0 p1 rfl u26 el5 (by kernel_rfl) (Or.inl ⟨rfl, rfl⟩) (Or.inr ⟨_, .i64, rfl, by kernel_rfl⟩) (by kernel_rfl) ((hS.sl_mem (List.Mem.head _))).1 h12 (fun A13 c14 hp15 => ?_)
      replace hS := hS.addPart (List.Mem.head _) hp15
      refine segEnd [.pointer (some ⟨b0, 0, none⟩), .int .i64 p1, undef, undef, .slice none 0 0, .bool false, .slice A13 y11.length c14, .pointer (some ⟨b0, 0, none⟩), .bool v1, .bool (!v1), .int .i64 p1, .pointer (some ⟨b0, 0, none⟩), .pointer (some ⟨b0, 0, none⟩), .pointer (some ⟨b0, 0, none⟩), .slice Ap0_0 p0_0.length cp0_0, .int .i64 (p0_0.length : Int), .bool (decide (p1 > (p0_0.length : Int))), undef, undef, .pointer (some ⟨b0, 0, none⟩), .pointer (some ⟨b0, 0, none⟩), .pointer (some ⟨b0, 0, none⟩), .slice Ap0_0 p0_0.length cp0_0, .int .i64 p1, .slice A13 y11.length c14, undef, undef, undef, undef, undef, undef, undef, undef, undef, undef] (by kernel_rfl) ?_
      refine then_normal ?_
      refine wp_seq ?_
      refine wp_reg ?_
      refine seg 4 [.pointer (some ⟨b0, 0, none⟩), .int .i64 p1, undef, undef, .slice none 0 0, .bool false, .slice A13 y11.length c14, .pointer (some ⟨b0, 0, none⟩), .bool v1, .bool (!v1), .int .i64 p1, .pointer (some ⟨b0, 0, none⟩), .pointer (some ⟨b0, 0, none⟩), .pointer (some ⟨b0, 0, none⟩), .slice Ap0_0 p0_0.length cp0_0, .int .i64 (p0_0.length : Int), .bool (decide (p1 > (p0_0.length : Int))), undef, undef, .pointer (some ⟨b0, 0, none⟩), .pointer (some ⟨b0, 0, none⟩), .pointer (some ⟨b0, 0, none⟩), .slice Ap0_0 p0_0.length cp0_0, .int .i64 p1, .slice A13 y11.length c14, .pointer (some ⟨b0, 0, none⟩), .pointer (some ⟨b0, 0, none⟩), .pointer (some ⟨b0, 0, none⟩), .pointer (some ⟨b0, 0, none⟩), undef, undef, undef, undef, undef, undef] (by kernel_rfl) ?_
      refine s_load_box (.tmp 28) 26 b0 0 1 [.slice Ap0_0 p0_0.length cp0_0, .int .i64 p0_1, .bool p0_2] [.slice Ap0_0 p0_0.length cp0_0] (.slice Ap0_0 p0_0.length cp0_0) rfl (by kernel_rfl) (by kernel_rfl) (hS.box_mem (List.Mem.head _)) rfl rfl (Or.inr ⟨by kernel_rfl, rfl⟩) ?_
      refine seg 1 [.pointer (some ⟨b0, 0, none⟩), .int .i64 p1, undef, undef, .slice none 0 0, .bool false, .slice A13 y11.length c14, .pointer (some ⟨b0, 0, none⟩), .bool v1, .bool (!v1), .int .i64 p1, .pointer (some ⟨b0, 0, none⟩), .pointer (some ⟨b0, 0, none⟩), .pointer (some ⟨b0, 0, none⟩), .slice Ap0_0 p0_0.length cp0_0, .int .i64 (p0_0.length : Int), .bool (decide (p1 > (p0_0.length : Int))), undef, undef, .pointer (some ⟨b0, 0, none⟩), .pointer (some ⟨b0, 0, none⟩), .pointer (some ⟨b0, 0, none⟩), .slice Ap0_0 p0_0.length cp0_0, .int .i64 p1, .slice A13 y11.length c14, .pointer (some ⟨b0, 0, none⟩), .pointer (some ⟨b0, 0, none⟩), .pointer (some ⟨b0, 0, none⟩), .pointer (some ⟨b0, 0, none⟩), .slice Ap0_0 p0_0.length cp0_0, .int .i64 p1, undef, undef, undef, undef] (by kernel_rfl) ?_
      replace hM := bind_some hM
      obtain ⟨y16, h17, hM⟩ := hM
      refine s_slice (A := Ap0_0) (cap := cp0_0) (.tmp 29) (some (.tmp 30)) none 26 5 1 p1 (p0_0.length : Int) rfl u26 el5 (by kernel_rfl) (Or.inr ⟨_, .i64, rfl, by kernel_rfl⟩) (Or.inl ⟨rfl, rfl⟩) (by kernel_rfl) ((hS.sl_mem (List.Mem.tail _ (List.Mem.head _)))).1 h17 (fun A18 c19 hp20 => ?_)
      replace hS := hS.addPart (List.Mem.tail _ (List.Mem.head _)) hp20
      refine seg 2 [.pointer (some ⟨b0, 0, none⟩), .int .i64 p1, undef, undef, .slice none 0 0, .bool false, .slice A13 y11.length c14, .pointer (some ⟨b0, 0, none⟩), .bool v1, .bool (!v1), .int .i64 p1, .pointer (some ⟨b0, 0, none⟩), .pointer (some ⟨b0, 0, none⟩), .pointer (some ⟨b0, 0, none⟩), .slice Ap0_0 p0_0.length cp0_0, .int .i64 (p0_0.length : Int), .bool (decide (p1 > (p0_0.length : Int))), undef, undef, .pointer (some ⟨b0, 0, none⟩), .pointer (some ⟨b0, 0, none⟩), .pointer (some ⟨b0, 0, none⟩), .slice Ap0_0 p0_0.length cp0_0, .int .i64 p1, .slice A13 y11.length c14, .pointer (some ⟨b0, 0, none⟩), .pointer (some ⟨b0, 0, none⟩), .pointer (some ⟨b0, 0, none⟩), .pointer (some ⟨b0, 0, none⟩), .slice Ap0_0 p0_0.length cp0_0, .int .i64 p1, .slice A18 y16.length c19, .pointer (some ⟨b0, 0, none⟩), .pointer (some ⟨b0, 0, none⟩), undef] (by kernel_rfl) ?_
      refine s_store_box (.tmp 33) (.tmp 31) 26 b0 0 [.slice Ap0_0 p0_0.length cp0_0, .int .i64 p0_1, .bool p0_2] [.slice A18 y16.length c19, .int .i64 p0_1, .bool p0_2] [.slice A18 y16.length c19] (.slice A18 y16.length c19) rfl (by kernel_rfl) (by kernel_rfl) (by kernel_rfl) rfl (by kernel_rfl) (forall2 rfl forall0) (Nat.le_of_ble_eq_true (by kernel_rfl)) rfl hS (fun _ hS => ?_)
      refine wl_nil ?_
      refine then_normal ?_
      refine wp_seq ?_
      refine wp_reg ?_
      refine segEnd [.pointer (some ⟨b0, 0, none⟩), .int .i64 p1, undef, undef, .slice A13 y11.length c14, .bool true, .slice A13 y11.length c14, .pointer (some ⟨b0, 0, none⟩), .bool v1, .bool (!v1), .int .i64 p1, .pointer (some ⟨b0, 0, none⟩), .pointer (some ⟨b0, 0, none⟩), .pointer (some ⟨b0, 0, none⟩), .slice Ap0_0 p0_0.length cp0_0, .int .i64 (p0_0.length : Int), .bool (decide (p1 > (p0_0.length : Int))), undef, undef, .pointer (some ⟨b0, 0, none⟩), .pointer (some ⟨b0, 0, none⟩), .pointer (some ⟨b0, 0, none⟩), .slice Ap0_0 p0_0.length cp0_0, .int .i64 p1, .slice A13 y11.length c14, .pointer (some ⟨b0, 0, none⟩), .pointer (some ⟨b0, 0, none⟩), .pointer (some ⟨b0, 0, none⟩), .pointer (some ⟨b0, 0, none⟩), .slice Ap0_0 p0_0.length cp0_0, .int .i64 p1, .slice A18 y16.length c19, .pointer (some ⟨b0, 0, none⟩), .pointer (some ⟨b0, 0, none⟩), .slice A13 y11.length c14] (by kernel_rfl) ?_
      refine then_normal ?_
      refine wp_ret ?_
      replace hS : Own w0 D R _ [boxA b0 [.slice A18 y16.length c19, .int .i64 p0_1, .bool p0_2]] [slA Rp0_0 (Enc.int .u8) A13 c14 y11, slA Rp0_0 (Enc.int .u8) A18 c19 y16] := hS.dropS (forall2 (List.Mem.tail _ (List.Mem.head _)) (forall2 (List.Mem.head _) forall0))
      simp only [Option.some.injEq, Prod.mk.injEq] at hM
      obtain ⟨rfl, rfl, rfl, rfl, rfl⟩ := hM
      refine ret_v (.tuple #[.slice A13 y11.length c14, .bool true]) (by kernel_rfl) ⟨A13, c14, A18, c19, rfl, hS⟩

theorem pack_Reader_number_W {w0 w : World} {D R : Nat → Prop} {b0 : Nat} {Rp0_0 : Nat → Prop} {Ap0_0 : Option Addr} {cp0_0 : Nat} {p0_0 : List Int} {p0_1 : Int} {p0_2 : Bool} {p1 : Int} {r0 : Int} {r1 : List Int} {r2 : Int} {r3 : Bool} (hS : Own w0 D R w [boxA b0 [.slice Ap0_0 p0_0.length cp0_0, .int .i64 p0_1, .bool p0_2]] [slA Rp0_0 (Enc.int .u8) Ap0_0 cp0_0 p0_0]) (hM : pack_Reader_number_M p0_0 p0_1 p0_2 p1 = some (r0, r1, r2, r3)) :
    Calls Go.Proofs.Try.prog 40 #[.pointer (some ⟨b0, 0, none⟩), .int .i64 p1] w (fun e w' => ∃ (ZA1 : Option Addr) (Zc2 : Nat), e = .returned (.int .u64 r0) ∧ Own w0 D R w' [boxA b0 [.slice ZA1 r1.length Zc2, .int .i64 r2, .bool r3]] [slA Rp0_0 (Enc.int .u8) ZA1 Zc2 r1]) := by
  refine enter (fn := Go.Proofs.Try.f40) [.pointer (some ⟨b0, 0, none⟩), .int .i64 p1, undef, undef, undef, undef, undef, undef, undef, undef, undef, undef, undef, undef, undef, undef, undef, undef, undef, undef, undef, undef, undef, undef, undef, undef, undef, undef, undef] (by kernel_rfl) rfl (by kernel_rfl) ?_
  unfold pack_Reader_number_M at hM
  refine wp_seq ?_
  refine wp_reg ?_
  refine segEnd [.pointer (some ⟨b0, 0, none⟩), .int .i64 p1, undef, undef, .int .u64 0, undef, undef, undef, undef, undef, undef, undef, undef, undef, undef, undef, undef, undef, undef, undef, undef, undef, undef, undef, undef, undef, undef, undef, undef] (by kernel_rfl) ?_
  refine then_normal ?_
  refine wp_seq ?_
  refine wp_reg ?_
  refine seg 2 [.pointer (some ⟨b0, 0, none⟩), .int .i64 p1, undef, undef, .int .u64 0, undef, undef, undef, undef, undef, undef, .pointer (some ⟨b0, 0, none⟩), .int .i64 p1, undef, undef, undef, undef, undef, undef, undef, undef, undef, undef, undef, undef, undef, undef, undef, undef] (by kernel_rfl) ?_
  replace hM := bind_some hM
  obtain ⟨⟨v1, v4, v5, v8, v9⟩, h10, hM⟩ := hM
  have hP := Own.pre (Xi := [boxA b0 [.slice Ap0_0 p0_0.length cp0_0, .int .i64 p0_1, .bool p0_2]]) (X := []) (Si := [slA Rp0_0 (Enc.int .u8) Ap0_0 cp0_0 p0_0]) hS (forall2 (hS.sl_mem (List.Mem.head _)) forall0) (forall2 (fun _ h => .inl ⟨_, (List.Mem.head _), h⟩) forall0)
  refine s_call 41 #[.pointer (some ⟨b0, 0, none⟩), .int .i64 p1] (by kernel_rfl) (by kernel_rfl) ((pack_Reader_next_W hP h10).mono ?_)
  rintro _ _ ⟨A2, c3, A6, c7, rfl, hQ⟩
  replace hS : Own w0 D R _ [boxA b0 [.slice A6 v5.length c7, .int .i64 v8, .bool v9]] [slA Rp0_0 (Enc.int .u8) A2 c3 v1, slA Rp0_0 (Enc.int .u8) A6 c7 v5, slA Rp0_0 (Enc.int .u8) Ap0_0 cp0_0 p0_0] := hS.post hQ (.inr (doms_sub (fun _ h => ⟨_, (List.Mem.head _), h⟩) doms_sub0))
  clear hP hQ
  refine ⟨_, rfl, ?_⟩
  refine segEnd [.pointer (some ⟨b0, 0, none⟩), .int .i64 p1, undef, undef, .int .u64 0, .slice A2 v1.length c3, .bool v4, undef, undef, undef, .tuple #[.slice A2 v1.length c3, .bool v4], .pointer (some ⟨b0, 0, none⟩), .int .i64 p1, .tuple #[.slice A2 v1.length c3, .bool v4], .slice A2 v1.length c3, .bool v4, undef, undef, undef, undef, undef, undef, undef, undef, undef, undef, undef, undef, undef] (by kernel_rfl) ?_
  refine then_normal ?_
  refine wp_seq ?_
  refine wp_reg ?_
  refine segEnd [.pointer (some ⟨b0, 0, none⟩), .int .i64 p1, undef, undef, .int .u64 0, .slice A2 v1.length c3, .bool v4, .int .u64 0, undef, undef, .tuple #[.slice A2 v1.length c3, .bool v4], .pointer (some ⟨b0, 0, none⟩), .int .i64 p1, .tuple #[.slice A2 v1.length c3, .bool v4], .slice A2 v1.length c3, .bool v4, undef, undef, undef, undef, undef, undef, undef, undef, undef, undef, undef, undef, undef] (by kernel_rfl) ?_
  refine then_normal ?_
  refine wp_join (fun a w => ∃ (G34 : Nat → Value) (x33 : Int), a = Fr [.pointer (some ⟨b0, 0, none⟩), (G34 0), undef, undef, (G34 1), (G34 2), (G34 3), .int .u64 x33, undef, (G34 4), (G34 5), (G34 6), (G34 7), (G34 8), (G34 9), (G34 10), (G34 11), (G34 12), (G34 13), (G34 14), (G34 15), (G34 16), (G34 17), (G34 18), (G34 19), (G34 20), (G34 21), (G34 22), undef] ∧ Own w0 D R w [boxA b0 [.slice A6 v5.length c7, .int .i64 v8, .bool v9]] [slA Rp0_0 (Enc.int .u8) A2 c3 v1, slA Rp0_0 (Enc.int .u8) A6 c7 v5, slA Rp0_0 (Enc.int .u8) Ap0_0 cp0_0 p0_0] ∧ pack_Reader_number_J1 v5 v8 v9 x33 = some (r0, r1, r2, r3)) ?_ ?_
  ·
    refine wp_seq ?_
    refine wp_reg ?_
    refine segEnd [.pointer (some ⟨b0, 0, none⟩), .int .i64 p1, undef, undef, .int .u64 0, .slice A2 v1.length c3, .bool v4, .int .u64 0, undef, undef, .tuple #[.slice A2 v1.length c3, .bool v4], .pointer (some ⟨b0, 0, none⟩), .int .i64 p1, .tuple #[.slice A2 v1.length c3, .bool v4], .slice A2 v1.length c3, .bool v4, .slice A2 v1.length c3, .int .i64 (v1.length : Int), .int .i64 0, undef, undef, undef, undef, undef, undef, undef, undef, undef, undef] (by kernel_rfl) ?_
    refine then_normal ?_
    refine wp_block ?_
    replace hM := bind_some hM
    obtain ⟨q22, hL23, hM⟩ := hM
    refine wp_loop_model (fun (s : (Int × Int)) a w => ∃ (G26 : Nat → Value) (x24 : Int) (x25 : Int), s = (x24, x25) ∧ a = Fr [.pointer (some ⟨b0, 0, none⟩), (G26 0), undef, undef, (G26 1), (G26 2), (G26 3), .int .u64 x24, undef, (G26 4), (G26 5), (G26 6), (G26 7), (G26 8), (G26 9), (G26 10), .slice A2 v1.length c3, .int .i64 (v1.length : Int), .int .i64 x25, (G26 11), (G26 12), (G26 13), (G26 14), (G26 15), (G26 16), (G26 17), (G26 18), (G26 19), undef] ∧ Own w0 D R w [boxA b0 [.slice A6 v5.length c7, .int .i64 v8, .bool v9]] [slA Rp0_0 (Enc.int .u8) A2 c3 v1, slA Rp0_0 (Enc.int .u8) A6 c7 v5, slA Rp0_0 (Enc.int .u8) Ap0_0 cp0_0 p0_0]) ?_ hL23 ?_
    · rintro _ a w ⟨G26, x24, x25, rfl, rfl, hS⟩ o20 hM1 hout21
      replace hM1 : pack_Reader_number_L1 v1 x24 x25 = some o20 := hM1
      unfold pack_Reader_number_L1 at hM1
      refine wp_seq ?_
      refine wp_reg ?_
      refine segEnd [.pointer (some ⟨b0, 0, none⟩), (G26 0), undef, undef, (G26 1), (G26 2), (G26 3), .int .u64 x24, undef, (G26 4), (G26 5), (G26 6), (G26 7), (G26 8), (G26 9), (G26 10), .slice A2 v1.length c3, .int .i64 (v1.length : Int), .int .i64 x25, .bool (decide (x25 < (v1.length : Int))), (G26 12), (G26 13), (G26 14), (G26 15), (G26 16), (G26 17), (G26 18), (G26 19), undef] (by kernel_rfl) ?_
      refine then_normal ?_
      refine wp_seq ?_
      refine wp_cond_split (t := decide (x25 < (v1.length : Int))) (by kernel_rfl) (fun hc27 => ?_) (fun hc27 => ?_)
      · replace hM1 := (if_pos hc27).symm.trans hM1
        refine wp_skip ?_
        refine then_normal ?_
        refine wp_seq ?_
        refine wp_block ?_
        refine wp_seq ?_
        refine wp_reg ?_
        replace hM1 := bind_some hM1
        obtain ⟨y28, h29, hM1⟩ := hM1
        have hi32 := ix_some h29
        refine s_index (A := A2) (cap := c3) (.tmp 16) (.tmp 18) 26 5 1 .i64 x25 rfl u26 el5 (by kernel_rfl) (by kernel_rfl) (by kernel_rfl) (SlR.of_sl (hS.sl_mem (List.Mem.head _))) hi32.1 hi32.2.1 (fun p30 hp31 => ?_)
        refine s_load_el (.tmp 20) 5 1 p30 _ y28 rfl el5 (by kernel_rfl) (by kernel_rfl) hp31 (SlR.of_sl (hS.sl_mem (List.Mem.head _))) hi32.2.2 ?_
        refine segEnd [.pointer (some ⟨b0, 0, none⟩), (G26 0), undef, undef, (G26 1), (G26 2), (G26 3), .int .u64 x24, undef, .int .u8 y28, (G26 5), (G26 6), (G26 7), (G26 8), (G26 9), (G26 10), .slice A2 v1.length c3, .int .i64 (v1.length : Int), .int .i64 x25, .bool (decide (x25 < (v1.length : Int))), .pointer (some p30), .int .u8 y28, (G26 14), (G26 15), (G26 16), (G26 17), (G26 18), (G26 19), undef] (by kernel_rfl) ?_
        refine then_normal ?_
        refine wp_reg ?_
        refine segEnd [.pointer (some ⟨b0, 0, none⟩), (G26 0), undef, undef, (G26 1), (G26 2), (G26 3), .int .u64 (bor .u64 (IntKind.u64.wrap (x24 * 2 ^ 8)) (IntKind.u64.wrap (y28))), undef, .int .u8 y28, (G26 5), (G26 6), (G26 7), (G26 8), (G26 9), (G26 10), .slice A2 v1.length c3, .int .i64 (v1.length : Int), .int .i64 x25, .bool (decide (x25 < (v1.length : Int))), .pointer (some p30), .int .u8 y28, .int .u64 x24, .int .u64 (IntKind.u64.wrap (x24 * 2 ^ 8)), .int .u8 y28, .int .u64 (IntKind.u64.wrap (y28)), .int .u64 (bor .u64 (IntKind.u64.wrap (x24 * 2 ^ 8)) (IntKind.u64.wrap (y28))), (G26 19), undef] (by kernel_rfl) ?_
        refine in_normal ?_
        refine then_normal ?_
        refine wp_reg ?_
        refine segEnd [.pointer (some ⟨b0, 0, none⟩), (G26 0), undef, undef, (G26 1), (G26 2), (G26 3), .int .u64 (bor .u64 (IntKind.u64.wrap (x24 * 2 ^ 8)) (IntKind.u64.wrap (y28))), undef, .int .u8 y28, (G26 5), (G26 6), (G26 7), (G26 8), (G26 9), (G26 10), .slice A2 v1.length c3, .int .i64 (v1.length : Int), .int .i64 (IntKind.i64.wrap (x25 + 1)), .bool (decide (x25 < (v1.length : Int))), .pointer (some p30), .int .u8 y28, .int .u64 x24, .int .u64 (IntKind.u64.wrap (x24 * 2 ^ 8)), .int .u8 y28, .int .u64 (IntKind.u64.wrap (y28)), .int .u64 (bor .u64 (IntKind.u64.wrap (x24 * 2 ^ 8)) (IntKind.u64.wrap (y28))), .int .i64 (IntKind.i64.wrap (x25 + 1)), undef] (by kernel_rfl) ?_
        refine then_normal ?_
        exact ⟨((bor .u64 (IntKind.u64.wrap (x24 * 2 ^ 8)) (IntKind.u64.wrap (y28))), (IntKind.i64.wrap (x25 + 1))), (Option.some.inj hM1).symm, (fun i => ([(G26 0), (G26 1), (G26 2), (G26 3), .int .u8 y28, (G26 5), (G26 6), (G26 7), (G26 8), (G26 9), (G26 10), .bool (decide (x25 < (v1.length : Int))), .pointer (some p30), .int .u8 y28, .int .u64 x24, .int .u64 (IntKind.u64.wrap (x24 * 2 ^ 8)), .int .u8 y28, .int .u64 (IntKind.u64.wrap (y28)), .int .u64 (bor .u64 (IntKind.u64.wrap (x24 * 2 ^ 8)) (IntKind.u64.wrap (y28))), .int .i64 (IntKind.i64.wrap (x25 + 1))] : List Value).getD i undef), (bor .u64 (IntKind.u64.wrap (x24 * 2 ^ 8)) (IntKind.u64.wrap (y28))), (IntKind.i64.wrap (x25 + 1)), rfl, (by kernel_rfl), hS⟩
      · replace hM1 := (if_neg (Bool.eq_false_iff.1 hc27)).symm.trans hM1
        refine wp_exit ?_
        refine then_exit ?_
        refine then_exit ?_
        have hr36 := hout21 _ (Option.some.inj hM1).symm
        subst hr36
        refine in_exit_eq ?_
        refine then_normal ?_
        exact ⟨(fun i => ([(G26 0), (G26 1), (G26 2), (G26 3), (G26 4), (G26 5), (G26 6), (G26 7), (G26 8), (G26 9), (G26 10), .slice A2 v1.length c3, .int .i64 (v1.length : Int), .int .i64 x25, .bool (decide (x25 < (v1.length : Int))), (G26 12), (G26 13), (G26 14), (G26 15), (G26 16), (G26 17), (G26 18), (G26 19)] : List Value).getD i undef), x24, (by kernel_rfl), hS, hM⟩
    · exact ⟨(fun i => ([.int .i64 p1, .int .u64 0, .slice A2 v1.length c3, .bool v4, undef, .tuple #[.slice A2 v1.length c3, .bool v4], .pointer (some ⟨b0, 0, none⟩), .int .i64 p1, .tuple #[.slice A2 v1.length c3, .bool v4], .slice A2 v1.length c3, .bool v4, undef, undef, undef, undef, undef, undef, undef, undef, undef] : List Value).getD i undef), 0, 0, rfl, (by kernel_rfl), hS⟩
  · rintro a w ⟨G34, x33, rfl, hS, hM⟩
    unfold pack_Reader_number_J1 at hM
    refine wp_seq ?_
    refine wp_reg ?_
    refine segEnd [.pointer (some ⟨b0, 0, none⟩), (G34 0), undef, undef, .int .u64 x33, (G34 2), (G34 3), .int .u64 x33, undef, (G34 4), (G34 5), (G34 6), (G34 7), (G34 8), (G34 9), (G34 10), (G34 11), (G34 12), (G34 13), (G34 14), (G34 15), (G34 16), (G34 17), (G34 18), (G34 19), (G34 20), (G34 21), (G34 22), .int .u64 x33] (by kernel_rfl) ?_
    refine then_normal ?_
    refine wp_ret ?_
    replace hS : Own w0 D R _ [boxA b0 [.slice A6 v5.length c7, .int .i64 v8, .bool v9]] [slA Rp0_0 (Enc.int .u8) A6 c7 v5] := hS.dropS (forall2 (List.Mem.tail _ (List.Mem.head _)) forall0)
    simp only [Option.some.injEq, Prod.mk.injEq] at hM
    obtain ⟨rfl, rfl, rfl, rfl⟩ := hM
    refine ret_v (.int .u64 x33) (by kernel_rfl) ⟨A6, c7, rfl, hS⟩

theorem pack_Reader_U64_W {w0 w : World} {D R : Nat → Prop} {b0 : Nat} {Rp0_0 : Nat → Prop} {Ap0_0 : Option Addr} {cp0_0 : Nat} {p0_0 : List Int} {p0_1 : Int} {p0_2 : Bool} {r0 : Int} {r1 : List Int} {r2 : Int} {r3 : Bool} (hS : Own w0 D R w [boxA b0 [.slice Ap0_0 p0_0.length cp0_0, .int .i64 p0_1, .bool p0_2]] [slA Rp0_0 (Enc.int .u8) Ap0_0 cp0_0 p0_0]) (hM : pack_Reader_U64_M p0_0 p0_1 p0_2 = some (r0, r1, r2, r3)) :
    Calls Go.Proofs.Try.prog 31 #[.pointer (some ⟨b0, 0, none⟩)] w (fun e w' => ∃ (ZA1 : Option Addr) (Zc2 : Nat), e = .returned (.int .u64 r0) ∧ Own w0 D R w' [boxA b0 [.slice ZA1 r1.length Zc2, .int .i64 r2, .bool r3]] [slA Rp0_0 (Enc.int .u8) ZA1 Zc2 r1]) := by
  refine enter (fn := Go.Proofs.Try.f31) [.pointer (some ⟨b0, 0, none⟩), undef, undef, undef, undef] (by kernel_rfl) rfl (by kernel_rfl) ?_
  unfold pack_Reader_U64_M at hM
  refine wp_seq ?_
  refine wp_reg ?_
  refine segEnd [.pointer (some ⟨b0, 0, none⟩), undef, .int .u64 0, undef, undef] (by kernel_rfl) ?_
  refine then_normal ?_
  refine wp_seq ?_
  refine wp_reg ?_
  refine seg 1 [.pointer (some ⟨b0, 0, none⟩), undef, .int .u64 0, .pointer (some ⟨b0, 0, none⟩), undef] (by kernel_rfl) ?_
  replace hM := bind_some hM
  obtain ⟨⟨v1, v2, v5, v6⟩, h7, hM⟩ := hM
  have hP := Own.pre (Xi := [boxA b0 [.slice Ap0_0 p0_0.length cp0_0, .int .i64 p0_1, .bool p0_2]]) (X := []) (Si := [slA Rp0_0 (Enc.int .u8) Ap0_0 cp0_0 p0_0]) hS (forall2 (hS.sl_mem (List.Mem.head _)) forall0) (forall2 (fun _ h => .inl ⟨_, (List.Mem.head _), h⟩) forall0)
  refine s_call 40 #[.pointer (some ⟨b0, 0, none⟩), .int .i64 8] (by kernel_rfl) (by kernel_rfl) ((pack_Reader_number_W hP h7).mono ?_)
  rintro _ _ ⟨A3, c4, rfl, hQ⟩
  replace hS : Own w0 D R _ [boxA b0 [.slice A3 v2.length c4, .int .i64 v5, .bool v6]] [slA Rp0_0 (Enc.int .u8) A3 c4 v2, slA Rp0_0 (Enc.int .u8) Ap0_0 cp0_0 p0_0] := hS.post hQ (.inr (doms_sub (fun _ h => ⟨_, (List.Mem.head _), h⟩) doms_sub0))
  clear hP hQ
  refine ⟨_, rfl, ?_⟩
  refine segEnd [.pointer (some ⟨b0, 0, none⟩), undef, .int .u64 v1, .pointer (some ⟨b0, 0, none⟩), .int .u64 v1] (by kernel_rfl) ?_
  refine then_normal ?_
  refine wp_ret ?_
  replace hS : Own w0 D R _ [boxA b0 [.slice A3 v2.length c4, .int .i64 v5, .bool v6]] [slA Rp0_0 (Enc.int .u8) A3 c4 v2] := hS.dropS (forall2 (List.Mem.head _) forall0)
  simp only [Option.some.injEq, Prod.mk.injEq] at hM
  obtain ⟨rfl, rfl, rfl, rfl⟩ := hM
  refine ret_v (.int .u64 v1) (by kernel_rfl) ⟨A3, c4, rfl, hS⟩

theorem pack_Reader_Num_W {w0 w : World} {D R : Nat → Prop} {b0 : Nat} {Rp0_0 : Nat → Prop} {Ap0_0 : Option Addr} {cp0_0 : Nat} {p0_0 : List Int} {p0_1 : Int} {p0_2 : Bool} {p1 : Int} {r0 : Int} {r1 : List Int} {r2 : Int} {r3 : Bool} (hS : Own w0 D R w [boxA b0 [.slice Ap0_0 p0_0.length cp0_0, .int .i64 p0_1, .bool p0_2]] [slA Rp0_0 (Enc.int .u8) Ap0_0 cp0_0 p0_0]) (hM : pack_Reader_Num_M p0_0 p0_1 p0_2 p1 = some (r0, r1, r2, r3)) :
    Calls Go.Proofs.Try.prog 24 #[.pointer (some ⟨b0, 0, none⟩), .int .i64 p1] w (fun e w' => ∃ (ZA1 : Option Addr) (Zc2 : Nat), e = .returned (.int .i64 r0) ∧ Own w0 D R w' [boxA b0 [.slice ZA1 r1.length Zc2, .int .i64 r2, .bool r3]] [slA Rp0_0 (Enc.int .u8) ZA1 Zc2 r1]) := by
  refine enter (fn := Go.Proofs.Try.f24) [.pointer (some ⟨b0, 0, none⟩), .int .i64 p1, undef, undef, undef, undef, undef, undef, undef, undef, undef, undef, undef, undef, undef, undef, undef, undef, undef, undef, undef, undef, undef, undef] (by kernel_rfl) rfl (by kernel_rfl) ?_
  unfold pack_Reader_Num_M at hM
  refine wp_seq ?_
  refine wp_reg ?_
  refine segEnd [.pointer (some ⟨b0, 0, none⟩), .int .i64 p1, undef, undef, .int .i64 0, undef, undef, undef, undef, undef, undef, undef, undef, undef, undef, undef, undef, undef, undef, undef, undef, undef, undef, undef] (by kernel_rfl) ?_
  refine then_normal ?_
  refine wp_seq ?_
  refine wp_reg ?_
  refine seg 1 [.pointer (some ⟨b0, 0, none⟩), .int .i64 p1, undef, undef, .int .i64 0, undef, .pointer (some ⟨b0, 0, none⟩), undef, undef, undef, undef, undef, undef, undef, undef, undef, undef, undef, undef, undef, undef, undef, undef, undef] (by kernel_rfl) ?_
  replace hM := bind_some hM
  obtain ⟨⟨v1, v2, v5, v6⟩, h7, hM⟩ := hM
  have hP := Own.pre (Xi := [boxA b0 [.slice Ap0_0 p0_0.length cp0_0, .int .i64 p0_1, .bool p0_2]]) (X := []) (Si := [slA Rp0_0 (Enc.int .u8) Ap0_0 cp0_0 p0_0]) hS (forall2 (hS.sl_mem (List.Mem.head _)) forall0) (forall2 (fun _ h => .inl ⟨_, (List.Mem.head _), h⟩) forall0)
  refine s_call 31 #[.pointer (some ⟨b0, 0, none⟩)] (by kernel_rfl) (by kernel_rfl) ((pack_Reader_U64_W hP h7).mono ?_)
  rintro _ _ ⟨A3, c4, rfl, hQ⟩
  replace hS : Own w0 D R _ [boxA b0 [.slice A3 v2.length c4, .int .i64 v5, .bool v6]] [slA Rp0_0 (Enc.int .u8) A3 c4 v2, slA Rp0_0 (Enc.int .u8) Ap0_0 cp0_0 p0_0] := hS.post hQ (.inr (doms_sub (fun _ h => ⟨_, (List.Mem.head _), h⟩) doms_sub0))
  clear hP hQ
  refine ⟨_, rfl, ?_⟩
  refine segEnd [.pointer (some ⟨b0, 0, none⟩), .int .i64 p1, undef, undef, .int .i64 0, .int .u64 v1, .pointer (some ⟨b0, 0, none⟩), .int .u64 v1, undef, undef, undef, undef, undef, undef, undef, undef, undef, undef, undef, undef, undef, undef, undef, undef] (by kernel_rfl) ?_
  refine then_normal ?_
  refine wp_seq ?_
  refine wp_seq ?_
  refine wp_reg ?_
  refine seg 1 [.pointer (some ⟨b0, 0, none⟩), .int .i64 p1, undef, undef, .int .i64 0, .int .u64 v1, .pointer (some ⟨b0, 0, none⟩), .int .u64 v1, .pointer (some ⟨b0, 0, none⟩), undef, undef, undef, undef, undef, undef, undef, undef, undef, undef, undef, undef, undef, undef, undef] (by kernel_rfl) ?_
  replace hM := bind_some hM
  obtain ⟨v8, h9, hM⟩ := hM
  have hP := Own.pre (Xi := [boxA b0 [.slice A3 v2.length c4, .int .i64 v5, .bool v6]]) (X := []) (Si := [slA Rp0_0 (Enc.int .u8) A3 c4 v2]) hS (forall2 (hS.sl_mem (List.Mem.head _)) forall0) (forall2 (fun _ h => .inl ⟨_, (List.Mem.head _), h⟩) forall0)
  refine s_call 32 #[.pointer (some ⟨b0, 0, none⟩)] (by kernel_rfl) (by kernel_rfl) ((pack_Reader_ok_W hP h9).mono ?_)
  rintro _ _ ⟨rfl, hQ⟩
  replace hS : Own w0 D R _ [boxA b0 [.slice A3 v2.length c4, .int .i64 v5, .bool v6]] [slA Rp0_0 (Enc.int .u8) A3 c4 v2, slA Rp0_0 (Enc.int .u8) Ap0_0 cp0_0 p0_0] := hS.post hQ (.inl rfl)
  clear hP hQ
  refine ⟨_, rfl, ?_⟩
  refine segEnd [.pointer (some ⟨b0, 0, none⟩), .int .i64 p1, undef, undef, .int .i64 0, .int .u64 v1, .pointer (some ⟨b0, 0, none⟩), .int .u64 v1, .pointer (some ⟨b0, 0, none⟩), .bool v8, .bool (!v8), undef, undef, undef, undef, undef, undef, undef, undef, undef, undef, undef, undef, undef] (by kernel_rfl) ?_
  refine then_normal ?_
  refine wp_cond_split (t := !v8) (by kernel_rfl) (fun hc10 => ?_) (fun hc10 => ?_)
  · replace hM := (if_pos hc10).symm.trans hM
    refine wp_seq ?_
    refine wp_reg ?_
    refine segEnd [.pointer (some ⟨b0, 0, none⟩), .int .i64 p1, undef, undef, .int .i64 0, .int .u64 v1, .pointer (some ⟨b0, 0, none⟩), .int .u64 v1, .pointer (some ⟨b0, 0, none⟩), .bool v8, .bool (!v8), undef, undef, undef, undef, undef, undef, undef, undef, undef, undef, undef, undef, undef] (by kernel_rfl) ?_
    refine then_normal ?_
    refine wp_ret ?_
    refine then_ret ?_
    replace hS : Own w0 D R _ [boxA b0 [.slice A3 v2.length c4, .int .i64 v5, .bool v6]] [slA Rp0_0 (Enc.int .u8) A3 c4 v2] := hS.dropS (forall2 (List.Mem.head _) forall0)
    simp only [Option.some.injEq, Prod.mk.injEq] at hM
    obtain ⟨rfl, rfl, rfl, rfl⟩ := hM
    refine ret_v (.int .i64 0) (by kernel_rfl) ⟨A3, c4, rfl, hS⟩
  · replace hM := (if_neg (Bool.eq_false_iff.1 hc10)).symm.trans hM
    refine wp_skip ?_
    refine then_normal ?_
    refine wp_seq ?_
    refine wp_seq ?_
    refine wp_reg ?_
    refine seg 4 [.pointer (some ⟨b0, 0, none⟩), .int .i64 p1, undef, undef, .int .i64 0, .int .u64 v1, .pointer (some ⟨b0, 0, none⟩), .int .u64 v1, .pointer (some ⟨b0, 0, none⟩), .bool v8, .bool (!v8), .int .u64 v1, .int .u64 (Int.fdiv v1 (2 ^ 63)), .bool ((Int.fdiv v1 (2 ^ 63)) == 1), .bool ((Int.fdiv v1 (2 ^ 63)) == 1), undef, undef, undef, undef, undef, undef, undef, undef, undef] (by kernel_rfl) ?_
    rcases Bool.eq_false_or_eq_true ((Int.fdiv v1 (2 ^ 63)) == 1) with hc11 | hc11
    · replace hM := (if_pos hc11).symm.trans hM
      rw [hc11]
      refine segEnd [.pointer (some ⟨b0, 0, none⟩), .int .i64 p1, undef, undef, .int .i64 0, .int .u64 v1, .pointer (some ⟨b0, 0, none⟩), .int .u64 v1, .pointer (some ⟨b0, 0, none⟩), .bool v8, .bool (!v8), .int .u64 v1, .int .u64 (Int.fdiv v1 (2 ^ 63)), .bool true, .bool true, undef, undef, undef, undef, .bool true, undef, undef, undef, undef] (by kernel_rfl) ?_
      refine then_normal ?_
      refine wp_cond_true (by kernel_rfl) ?_
      refine wp_seq ?_
      refine wp_reg ?_
      refine seg 1 [.pointer (some ⟨b0, 0, none⟩), .int .i64 p1, undef, undef, .int .i64 0, .int .u64 v1, .pointer (some ⟨b0, 0, none⟩), .int .u64 v1, .pointer (some ⟨b0, 0, none⟩), .bool v8, .bool (!v8), .int .u64 v1, .int .u64 (Int.fdiv v1 (2 ^ 63)), .bool true, .bool true, undef, undef, undef, undef, .bool true, .pointer (some ⟨b0, 0, none⟩), undef, undef, undef] (by kernel_rfl) ?_
      replace hM := bind_some hM
      obtain ⟨⟨v12, v15, v16⟩, h17, hM⟩ := hM
      have hP := Own.pre (Xi := [boxA b0 [.slice A3 v2.length c4, .int .i64 v5, .bool v6]]) (X := []) (Si := [slA Rp0_0 (Enc.int .u8) A3 c4 v2]) hS (forall2 (hS.sl_mem (List.Mem.head _)) forall0) (forall2 (fun _ h => .inl ⟨_, (List.Mem.head _), h⟩) forall0)
      refine s_call 33 #[.pointer (some ⟨b0, 0, none⟩), .int .i64 5] (by kernel_rfl) (by kernel_rfl) ((pack_Reader_fail_W hP h17).mono ?_)
      rintro _ _ ⟨A13, c14, rfl, hQ⟩
      replace hS : Own w0 D R _ [boxA b0 [.slice A13 v12.length c14, .int .i64 v15, .bool v16]] [slA Rp0_0 (Enc.int .u8) A13 c14 v12, slA Rp0_0 (Enc.int .u8) A3 c4 v2, slA Rp0_0 (Enc.int .u8) Ap0_0 cp0_0 p0_0] := hS.post hQ (.inr (doms_sub (fun _ h => ⟨_, (List.Mem.head _), h⟩) doms_sub0))
      clear hP hQ
      refine ⟨_, rfl, ?_⟩
      refine wl_nil ?_
      refine then_normal ?_
      refine wp_seq ?_
      refine wp_reg ?_
      refine segEnd [.pointer (some ⟨b0, 0, none⟩), .int .i64 p1, undef, undef, .int .i64 0, .int .u64 v1, .pointer (some ⟨b0, 0, none⟩), .int .u64 v1, .pointer (some ⟨b0, 0, none⟩), .bool v8, .bool (!v8), .int .u64 v1, .int .u64 (Int.fdiv v1 (2 ^ 63)), .bool true, .bool true, undef, undef, undef, undef, .bool true, .pointer (some ⟨b0, 0, none⟩), .tuple #[], undef, undef] (by kernel_rfl) ?_
      refine then_normal ?_
      refine wp_ret ?_
      refine then_ret ?_
      replace hS : Own w0 D R _ [boxA b0 [.slice A13 v12.length c14, .int .i64 v15, .bool v16]] [slA Rp0_0 (Enc.int .u8) A13 c14 v12] := hS.dropS (forall2 (List.Mem.head _) forall0)
      simp only [Option.some.injEq, Prod.mk.injEq] at hM
      obtain ⟨rfl, rfl, rfl, rfl⟩ := hM
      refine ret_v (.int .i64 0) (by kernel_rfl) ⟨A13, c14, rfl, hS⟩
    · replace hM := (if_neg (Bool.eq_false_iff.1 hc11)).symm.trans hM
      rw [hc11]
      refine segEnd [.pointer (some ⟨b0, 0, none⟩), .int .i64 p1, undef, undef, .int .i64 0, .int .u64 v1, .pointer (some ⟨b0, 0, none⟩), .int .u64 v1, .pointer (some ⟨b0, 0, none⟩), .bool v8, .bool (!v8), .int .u64 v1, .int .u64 (Int.fdiv v1 (2 ^ 63)), .bool false, .bool false, .int .u64 v1, .int .i64 (IntKind.i64.wrap (v1)), .int .i64 p1, .bool (decide ((IntKind.i64.wrap (v1)) > p1)), .bool (decide ((IntKind.i64.wrap (v1)) > p1)), undef, undef, undef, undef] (by kernel_rfl) ?_
      refine then_normal ?_
      refine wp_cond_split (t := decide ((IntKind.i64.wrap (v1)) > p1)) (by kernel_rfl) (fun hc18 => ?_) (fun hc18 => ?_)
      · replace hM := (if_pos hc18).symm.trans hM
        refine wp_seq ?_
        refine wp_reg ?_
        refine seg 1 [.pointer (some ⟨b0, 0, none⟩), .int .i64 p1, undef, undef, .int .i64 0, .int .u64 v1, .pointer (some ⟨b0, 0, none⟩), .int .u64 v1, .pointer (some ⟨b0, 0, none⟩), .bool v8, .bool (!v8), .int .u64 v1, .int .u64 (Int.fdiv v1 (2 ^ 63)), .bool false, .bool false, .int .u64 v1, .int .i64 (IntKind.i64.wrap (v1)), .int .i64 p1, .bool (decide ((IntKind.i64.wrap (v1)) > p1)), .bool (decide ((IntKind.i64.wrap (v1)) > p1)), .pointer (some ⟨b0, 0, none⟩), undef, undef, undef] (by kernel_rfl) ?_
        replace hM := bind_some hM
        obtain ⟨⟨v19, v22, v23⟩, h24, hM⟩ := hM
        have hP := Own.pre (Xi := [boxA b0 [.slice A3 v2.length c4, .int .i64 v5, .bool v6]]) (X := []) (Si := [slA Rp0_0 (Enc.int .u8) A3 c4 v2]) hS (forall2 (hS.sl_mem (List.Mem.head _)) forall0) (forall2 (fun _ h => .inl ⟨_, (List.Mem.head _), h⟩) forall0)
        refine s_call 33 #[.pointer (some ⟨b0, 0, none⟩), .int .i64 5] (by kernel_rfl) (by kernel_rfl) ((pack_Reader_fail_W hP h24).mono ?_)
        rintro _ _ ⟨A20, c21, rfl, hQ⟩
        replace hS : Own w0 D R _ [boxA b0 [.slice A20 v19.length c21, .int .i64 v22, .bool v23]] [slA Rp0_0 (Enc.int .u8) A20 c21 v19, slA Rp0_0 (Enc.int .u8) A3 c4 v2, slA Rp0_0 (Enc.int .u8) Ap0_0 cp0_0 p0_0] := hS.post hQ (.inr (doms_sub (fun _ h => ⟨_, (List.Mem.head _), h⟩) doms_sub0))
        clear hP hQ
        refine ⟨_, rfl, ?_⟩
        refine wl_nil ?_
        refine then_normal ?_
        refine wp_seq ?_
        refine wp_reg ?_
        refine segEnd [.pointer (some ⟨b0, 0, none⟩), .int .i64 p1, undef, undef, .int .i64 0, .int .u64 v1, .pointer (some ⟨b0, 0, none⟩), .int .u64 v1, .pointer (some ⟨b0, 0, none⟩), .bool v8, .bool (!v8), .int .u64 v1, .int .u64 (Int.fdiv v1 (2 ^ 63)), .bool false, .bool false, .int .u64 v1, .int .i64 (IntKind.i64.wrap (v1)), .int .i64 p1, .bool (decide ((IntKind.i64.wrap (v1)) > p1)), .bool (decide ((IntKind.i64.wrap (v1)) > p1)), .pointer (some ⟨b0, 0, none⟩), .tuple #[], undef, undef] (by kernel_rfl) ?_
        refine then_normal ?_
        refine wp_ret ?_
        refine then_ret ?_
        replace hS : Own w0 D R _ [boxA b0 [.slice A20 v19.length c21, .int .i64 v22, .bool v23]] [slA Rp0_0 (Enc.int .u8) A20 c21 v19] := hS.dropS (forall2 (List.Mem.head _) forall0)
        simp only [Option.some.injEq, Prod.mk.injEq] at hM
        obtain ⟨rfl, rfl, rfl, rfl⟩ := hM
        refine ret_v (.int .i64 0) (by kernel_rfl) ⟨A20, c21, rfl, hS⟩
      · replace hM := (if_neg (Bool.eq_false_iff.1 hc18)).symm.trans hM
        refine wp_skip ?_
        refine then_normal ?_
        refine wp_seq ?_
        refine wp_reg ?_
        refine segEnd [.pointer (some ⟨b0, 0, none⟩), .int .i64 p1, undef, undef, .int .i64 (IntKind.i64.wrap (v1)), .int .u64 v1, .pointer (some ⟨b0, 0, none⟩), .int .u64 v1, .pointer (some ⟨b0, 0, none⟩), .bool v8, .bool (!v8), .int .u64 v1, .int .u64 (Int.fdiv v1 (2 ^ 63)), .bool false, .bool false, .int .u64 v1, .int .i64 (IntKind.i64.wrap (v1)), .int .i64 p1, .bool (decide ((IntKind.i64.wrap (v1)) > p1)), .bool (decide ((IntKind.i64.wrap (v1)) > p1)), undef, undef, .int .u64 v1, .int .i64 (IntKind.i64.wrap (v1))] (by kernel_rfl) ?_
        refine then_normal ?_
        refine wp_ret ?_
        replace hS : Own w0 D R _ [boxA b0 [.slice A3 v2.length c4, .int .i64 v5, .bool v6]] [slA Rp0_0 (Enc.int .u8) A3 c4 v2] := hS.dropS (forall2 (List.Mem.head _) forall0)
        simp only [Option.some.injEq, Prod.mk.injEq] at hM
        obtain ⟨rfl, rfl, rfl, rfl⟩ := hM
        refine ret_v (.int .i64 (IntKind.i64.wrap (v1))) (by kernel_rfl) ⟨A3, c4, rfl, hS⟩

theorem pack_Reader_Left_W {w0 w : World} {D R : Nat → Prop} {b0 : Nat} {Rp0_0 : Nat → Prop} {Ap0_0 : Option Addr} {cp0_0 : Nat} {p0_0 : List Int} {p0_1 : Int} {p0_2 : Bool} {r0 : Int} (hS : Own w0 D R w [boxA b0 [.slice Ap0_0 p0_0.length cp0_0, .int .i64 p0_1, .bool p0_2]] [slA Rp0_0 (Enc.int .u8) Ap0_0 cp0_0 p0_0]) (hM : pack_Reader_Left_M p0_0 p0_1 p0_2 = some r0) :
    Calls Go.Proofs.Try.prog 35 #[.pointer (some ⟨b0, 0, none⟩)] w (fun e w' => e = .returned (.int .i64 r0) ∧ Own w0 D R w' [boxA b0 [.slice Ap0_0 p0_0.length cp0_0, .int .i64 p0_1, .bool p0_2]] []) := by
  refine enter (fn := Go.Proofs.Try.f35) [.pointer (some ⟨b0, 0, none⟩), undef, undef, undef, undef, undef, undef, undef, undef, undef] (by kernel_rfl) rfl (by kernel_rfl) ?_
  unfold pack_Reader_Left_M at hM
  refine wp_seq ?_
  refine wp_reg ?_
  refine segEnd [.pointer (some ⟨b0, 0, none⟩), undef, .int .i64 0, undef, undef, undef, undef, undef, undef, undef] (by kernel_rfl) ?_
  refine then_normal ?_
  refine wp_seq ?_
  refine wp_seq ?_
  refine wp_reg ?_
  refine segEnd [.pointer (some ⟨b0, 0, none⟩), undef, .int .i64 0, .pointer (some ⟨b0, 0, none⟩), .bool false, undef, undef, undef, undef, undef] (by kernel_rfl) ?_
  refine then_normal ?_
  refine wp_cond_false (by kernel_rfl) ?_
  refine wp_skip ?_
  refine then_normal ?_
  refine wp_seq ?_
  refine wp_reg ?_
  refine seg 3 [.pointer (some ⟨b0, 0, none⟩), undef, .int .i64 0, .pointer (some ⟨b0, 0, none⟩), .bool false, .pointer (some ⟨b0, 0, none⟩), .pointer (some ⟨b0, 0, none⟩), .pointer (some ⟨b0, 0, none⟩), undef, undef] (by kernel_rfl) ?_
  refine s_load_box (.tmp 7) 26 b0 0 1 [.slice Ap0_0 p0_0.length cp0_0, .int .i64 p0_1, .bool p0_2] [.slice Ap0_0 p0_0.length cp0_0] (.slice Ap0_0 p0_0.length cp0_0) rfl (by kernel_rfl) (by kernel_rfl) (hS.box_mem (List.Mem.head _)) rfl rfl (Or.inr ⟨by kernel_rfl, rfl⟩) ?_
  refine segEnd [.pointer (some ⟨b0, 0, none⟩), undef, .int .i64 (p0_0.length : Int), .pointer (some ⟨b0, 0, none⟩), .bool false, .pointer (some ⟨b0, 0, none⟩), .pointer (some ⟨b0, 0, none⟩), .pointer (some ⟨b0, 0, none⟩), .slice Ap0_0 p0_0.length cp0_0, .int .i64 (p0_0.length : Int)] (by kernel_rfl) ?_
  refine then_normal ?_
  refine wp_ret ?_
  replace hS : Own w0 D R _ [boxA b0 [.slice Ap0_0 p0_0.length cp0_0, .int .i64 p0_1, .bool p0_2]] [] := hS.dropS forall0
  obtain rfl := Option.some.inj hM
  refine ret_v (.int .i64 (p0_0.length : Int)) (by kernel_rfl) ⟨rfl, hS⟩

theorem pack_Reader_Err_W {w0 w : World} {D R : Nat → Prop} {b0 : Nat} {Rp0_0 : Nat → Prop} {Ap0_0 : Option Addr} {cp0_0 : Nat} {p0_0 : List Int} {p0_1 : Int} {p0_2 : Bool} {r0 : Int} (hS : Own w0 D R w [boxA b0 [.slice Ap0_0 p0_0.length cp0_0, .int .i64 p0_1, .bool p0_2]] [slA Rp0_0 (Enc.int .u8) Ap0_0 cp0_0 p0_0]) (hM : pack_Reader_Err_M p0_0 p0_1 p0_2 = some r0) :
    Calls Go.Proofs.Try.prog 34 #[.pointer (some ⟨b0, 0, none⟩)] w (fun e w' => e = .returned (.int .i64 r0) ∧ Own w0 D R w' [boxA b0 [.slice Ap0_0 p0_0.length cp0_0, .int .i64 p0_1, .bool p0_2]] []) := by
  refine enter (fn := Go.Proofs.Try.f34) [.pointer (some ⟨b0, 0, none⟩), undef, undef, undef, undef, undef, undef, undef, undef, undef, undef, undef, undef, undef, undef, undef] (by kernel_rfl) rfl (by kernel_rfl) ?_
  unfold pack_Reader_Err_M at hM
  refine wp_seq ?_
  refine wp_reg ?_
  refine segEnd [.pointer (some ⟨b0, 0, none⟩), undef, .int .i64 0, undef, undef, undef, undef, undef, undef, undef, undef, undef, undef, undef, undef, undef] (by kernel_rfl) ?_
  refine then_normal ?_
  refine wp_seq ?_
  refine wp_seq ?_
  refine wp_reg ?_
  refine seg 6 [.pointer (some ⟨b0, 0, none⟩), undef, .int .i64 0, .pointer (some ⟨b0, 0, none⟩), .bool false, .bool false, .pointer (some ⟨b0, 0, none⟩), .pointer (some ⟨b0, 0, none⟩), .pointer (some ⟨b0, 2, none⟩), undef, undef, undef, undef, undef, undef, undef] (by kernel_rfl) ?_
  refine s_load_box (.tmp 8) 4 b0 2 1 [.slice Ap0_0 p0_0.length cp0_0, .int .i64 p0_1, .bool p0_2] [.bool p0_2] (.bool p0_2) rfl (by kernel_rfl) (by kernel_rfl) (hS.box_mem (List.Mem.head _)) rfl rfl (Or.inr ⟨by kernel_rfl, rfl⟩) ?_
  refine segEnd [.pointer (some ⟨b0, 0, none⟩), undef, .int .i64 0, .pointer (some ⟨b0, 0, none⟩), .bool false, .bool false, .pointer (some ⟨b0, 0, none⟩), .pointer (some ⟨b0, 0, none⟩), .pointer (some ⟨b0, 2, none⟩), .bool p0_2, .bool (!p0_2), .bool (!p0_2), undef, undef, undef, undef] (by kernel_rfl) ?_
  refine then_normal ?_
  refine wp_cond_split (t := !p0_2) (by kernel_rfl) (fun hc1 => ?_) (fun hc1 => ?_)
  · replace hM := (if_pos hc1).symm.trans hM
    refine wp_seq ?_
    refine wp_reg ?_
    refine segEnd [.pointer (some ⟨b0, 0, none⟩), undef, .int .i64 2, .pointer (some ⟨b0, 0, none⟩), .bool false, .bool false, .pointer (some ⟨b0, 0, none⟩), .pointer (some ⟨b0, 0, none⟩), .pointer (some ⟨b0, 2, none⟩), .bool p0_2, .bool (!p0_2), .bool (!p0_2), undef, undef, undef, undef] (by kernel_rfl) ?_
    refine then_normal ?_
    refine wp_ret ?_
    refine then_ret ?_
    replace hS : Own w0 D R _ [boxA b0 [.slice Ap0_0 p0_0.length cp0_0, .int .i64 p0_1, .bool p0_2]] [] := hS.dropS forall0
    obtain rfl := Option.some.inj hM
    refine ret_v (.int .i64 2) (by kernel_rfl) ⟨rfl, hS⟩
  · replace hM := (if_neg (Bool.eq_false_iff.1 hc1)).symm.trans hM
    refine wp_skip ?_
    refine then_normal ?_
    refine wp_seq ?_
    refine wp_reg ?_
    refine seg 3 [.pointer (some ⟨b0, 0, none⟩), undef, .int .i64 0, .pointer (some ⟨b0, 0, none⟩), .bool false, .bool false, .pointer (some ⟨b0, 0, none⟩), .pointer (some ⟨b0, 0, none⟩), .pointer (some ⟨b0, 2, none⟩), .bool p0_2, .bool (!p0_2), .bool (!p0_2), .pointer (some ⟨b0, 0, none⟩), .pointer (some ⟨b0, 0, none⟩), .pointer (some ⟨b0, 1, none⟩), undef] (by kernel_rfl) ?_
    refine s_load_box (.tmp 14) 33 b0 1 1 [.slice Ap0_0 p0_0.length cp0_0, .int .i64 p0_1, .bool p0_2] [.int .i64 p0_1] (.int .i64 p0_1) rfl (by kernel_rfl) (by kernel_rfl) (hS.box_mem (List.Mem.head _)) rfl rfl (Or.inr ⟨by kernel_rfl, rfl⟩) ?_
    refine segEnd [.pointer (some ⟨b0, 0, none⟩), undef, .int .i64 p0_1, .pointer (some ⟨b0, 0, none⟩), .bool false, .bool false, .pointer (some ⟨b0, 0, none⟩), .pointer (some ⟨b0, 0, none⟩), .pointer (some ⟨b0, 2, none⟩), .bool p0_2, .bool (!p0_2), .bool (!p0_2), .pointer (some ⟨b0, 0, none⟩), .pointer (some ⟨b0, 0, none⟩), .pointer (some ⟨b0, 1, none⟩), .int .i64 p0_1] (by kernel_rfl) ?_
    refine then_normal ?_
    refine wp_ret ?_
    replace hS : Own w0 D R _ [boxA b0 [.slice Ap0_0 p0_0.length cp0_0, .int .i64 p0_1, .bool p0_2]] [] := hS.dropS forall0
    obtain rfl := Option.some.inj hM
    refine ret_v (.int .i64 p0_1) (by kernel_rfl) ⟨rfl, hS⟩

theorem pack_Reader_End_W {w0 w : World} {D R : Nat → Prop} {b0 : Nat} {Rp0_0 : Nat → Prop} {Ap0_0 : Option Addr} {cp0_0 : Nat} {p0_0 : List Int} {p0_1 : Int} {p0_2 : Bool} {r0 : Int} (hS : Own w0 D R w [boxA b0 [.slice Ap0_0 p0_0.length cp0_0, .int .i64 p0_1, .bool p0_2]] [slA Rp0_0 (Enc.int .u8) Ap0_0 cp0_0 p0_0]) (hM : pack_Reader_End_M p0_0 p0_1 p0_2 = some r0) :
    Calls Go.Proofs.Try.prog 25 #[.pointer (some ⟨b0, 0, none⟩)] w (fun e w' => e = .returned (.int .i64 r0) ∧ Own w0 D R w' [boxA b0 [.slice Ap0_0 p0_0.length cp0_0, .int .i64 p0_1, .bool p0_2]] []) := by
  refine enter (fn := Go.Proofs.Try.f25) [.pointer (some ⟨b0, 0, none⟩), undef, undef, undef, undef, undef, undef, undef, undef, undef, undef, undef, undef] (by kernel_rfl) rfl (by kernel_rfl) ?_
  unfold pack_Reader_End_M at hM
  refine wp_seq ?_
  refine wp_reg ?_
  refine segEnd [.pointer (some ⟨b0, 0, none⟩), undef, .int .i64 0, undef, undef, undef, undef, undef, undef, undef, undef, undef, undef] (by kernel_rfl) ?_
  refine then_normal ?_
  refine wp_seq ?_
  refine wp_seq ?_
  refine wp_reg ?_
  refine seg 1 [.pointer (some ⟨b0, 0, none⟩), undef, .int .i64 0, .pointer (some ⟨b0, 0, none⟩), undef, undef, undef, undef, undef, undef, undef, undef, undef] (by kernel_rfl) ?_
  replace hM := bind_some hM
  obtain ⟨v1, h2, hM⟩ := hM
  have hP := Own.pre (Xi := [boxA b0 [.slice Ap0_0 p0_0.length cp0_0, .int .i64 p0_1, .bool p0_2]]) (X := []) (Si := [slA Rp0_0 (Enc.int .u8) Ap0_0 cp0_0 p0_0]) hS (forall2 (hS.sl_mem (List.Mem.head _)) forall0) (forall2 (fun _ h => .inl ⟨_, (List.Mem.head _), h⟩) forall0)
  refine s_call 34 #[.pointer (some ⟨b0, 0, none⟩)] (by kernel_rfl) (by kernel_rfl) ((pack_Reader_Err_W hP h2).mono ?_)
  rintro _ _ ⟨rfl, hQ⟩
  replace hS : Own w0 D R _ [boxA b0 [.slice Ap0_0 p0_0.length cp0_0, .int .i64 p0_1, .bool p0_2]] [slA Rp0_0 (Enc.int .u8) Ap0_0 cp0_0 p0_0] := hS.post hQ (.inl rfl)
  clear hP hQ
  refine ⟨_, rfl, ?_⟩
  refine seg 2 [.pointer (some ⟨b0, 0, none⟩), undef, .int .i64 0, .pointer (some ⟨b0, 0, none⟩), .int .i64 v1, .bool (v1 == 0), .bool (v1 == 0), undef, undef, undef, undef, undef, undef] (by kernel_rfl) ?_
  rcases Bool.eq_false_or_eq_true (v1 == 0) with hc3 | hc3
  · replace hM := (if_pos hc3).symm.trans hM
    rw [hc3]
    refine seg 1 [.pointer (some ⟨b0, 0, none⟩), undef, .int .i64 0, .pointer (some ⟨b0, 0, none⟩), .int .i64 v1, .bool true, .bool true, .pointer (some ⟨b0, 0, none⟩), undef, undef, undef, undef, undef] (by kernel_rfl) ?_
    replace hM := bind_some hM
    obtain ⟨v4, h5, hM⟩ := hM
    have hP := Own.pre (Xi := [boxA b0 [.slice Ap0_0 p0_0.length cp0_0, .int .i64 p0_1, .bool p0_2]]) (X := []) (Si := [slA Rp0_0 (Enc.int .u8) Ap0_0 cp0_0 p0_0]) hS (forall2 (hS.sl_mem (List.Mem.head _)) forall0) (forall2 (fun _ h => .inl ⟨_, (List.Mem.head _), h⟩) forall0)
    refine s_call 35 #[.pointer (some ⟨b0, 0, none⟩)] (by kernel_rfl) (by kernel_rfl) ((pack_Reader_Left_W hP h5).mono ?_)
    rintro _ _ ⟨rfl, hQ⟩
    replace hS : Own w0 D R _ [boxA b0 [.slice Ap0_0 p0_0.length cp0_0, .int .i64 p0_1, .bool p0_2]] [slA Rp0_0 (Enc.int .u8) Ap0_0 cp0_0 p0_0] := hS.post hQ (.inl rfl)
    clear hP hQ
    refine ⟨_, rfl, ?_⟩
    refine segEnd [.pointer (some ⟨b0, 0, none⟩), undef, .int .i64 0, .pointer (some ⟨b0, 0, none⟩), .int .i64 v1, .bool true, .bool true, .pointer (some ⟨b0, 0, none⟩), .int .i64 v4, .bool (decide (v4 > 0)), .bool (decide (v4 > 0)), undef, undef] (by kernel_rfl) ?_
    refine then_normal ?_
    refine wp_cond_split (t := decide (v4 > 0)) (by kernel_rfl) (fun hc6 => ?_) (fun hc6 => ?_)
    · replace hM := (if_pos hc6).symm.trans hM
      refine wp_seq ?_
      refine wp_reg ?_
      refine segEnd [.pointer (some ⟨b0, 0, none⟩), undef, .int .i64 3, .pointer (some ⟨b0, 0, none⟩), .int .i64 v1, .bool true, .bool true, .pointer (some ⟨b0, 0, none⟩), .int .i64 v4, .bool (decide (v4 > 0)), .bool (decide (v4 > 0)), undef, undef] (by kernel_rfl) ?_
      refine then_normal ?_
      refine wp_ret ?_
      refine then_ret ?_
      replace hS : Own w0 D R _ [boxA b0 [.slice Ap0_0 p0_0.length cp0_0, .int .i64 p0_1, .bool p0_2]] [] := hS.dropS forall0
      obtain rfl := Option.some.inj hM
      refine ret_v (.int .i64 3) (by kernel_rfl) ⟨rfl, (by first | exact hS | (simp only [hc3] at hS ⊢; exact hS))⟩
    · replace hM := (if_neg (Bool.eq_false_iff.1 hc6)).symm.trans hM
      refine wp_skip ?_
      refine then_normal ?_
      refine wp_seq ?_
      refine wp_reg ?_
      refine seg 1 [.pointer (some ⟨b0, 0, none⟩), undef, .int .i64 0, .pointer (some ⟨b0, 0, none⟩), .int .i64 v1, .bool true, .bool true, .pointer (some ⟨b0, 0, none⟩), .int .i64 v4, .bool (decide (v4 > 0)), .bool (decide (v4 > 0)), .pointer (some ⟨b0, 0, none⟩), undef] (by kernel_rfl) ?_
      replace hM := bind_some hM
      obtain ⟨v7, h8, hM⟩ := hM
      have hP := Own.pre (Xi := [boxA b0 [.slice Ap0_0 p0_0.length cp0_0, .int .i64 p0_1, .bool p0_2]]) (X := []) (Si := [slA Rp0_0 (Enc.int .u8) Ap0_0 cp0_0 p0_0]) hS (forall2 (hS.sl_mem (List.Mem.head _)) forall0) (forall2 (fun _ h => .inl ⟨_, (List.Mem.head _), h⟩) forall0)
      refine s_call 34 #[.pointer (some ⟨b0, 0, none⟩)] (by kernel_rfl) (by kernel_rfl) ((pack_Reader_Err_W hP h8).mono ?_)
      rintro _ _ ⟨rfl, hQ⟩
      replace hS : Own w0 D R _ [boxA b0 [.slice Ap0_0 p0_0.length cp0_0, .int .i64 p0_1, .bool p0_2]] [slA Rp0_0 (Enc.int .u8) Ap0_0 cp0_0 p0_0] := hS.post hQ (.inl rfl)
      clear hP hQ
      refine ⟨_, rfl, ?_⟩
      refine segEnd [.pointer (some ⟨b0, 0, none⟩), undef, .int .i64 v7, .pointer (some ⟨b0, 0, none⟩), .int .i64 v1, .bool true, .bool true, .pointer (some ⟨b0, 0, none⟩), .int .i64 v4, .bool (decide (v4 > 0)), .bool (decide (v4 > 0)), .pointer (some ⟨b0, 0, none⟩), .int .i64 v7] (by kernel_rfl) ?_
      refine then_normal ?_
      refine wp_ret ?_
      replace hS : Own w0 D R _ [boxA b0 [.slice Ap0_0 p0_0.length cp0_0, .int .i64 p0_1, .bool p0_2]] [] := hS.dropS forall0
      obtain rfl := Option.some.inj hM
      refine ret_v (.int .i64 v7) (by kernel_rfl) ⟨rfl, (by first | exact hS | (simp only [hc3] at hS ⊢; exact hS))⟩
  · replace hM := (if_neg (Bool.eq_false_iff.1 hc3)).symm.trans hM
    rw [hc3]
    refine segEnd [.pointer (some ⟨b0, 0, none⟩), undef, .int .i64 0, .pointer (some ⟨b0, 0, none⟩), .int .i64 v1, .bool false, .bool false, undef, undef, undef, .bool false, undef, undef] (by kernel_rfl) ?_
    refine then_normal ?_
    refine wp_cond_false (by kernel_rfl) ?_
    refine wp_skip ?_
    refine then_normal ?_
    refine wp_seq ?_
    refine wp_reg ?_
    refine seg 1 [.pointer (some ⟨b0, 0, none⟩), undef, .int .i64 0, .pointer (some ⟨b0, 0, none⟩), .int .i64 v1, .bool false, .bool false, undef, undef, undef, .bool false, .pointer (some ⟨b0, 0, none⟩), undef] (by kernel_rfl) ?_
    replace hM := bind_some hM
    obtain ⟨v9, h10, hM⟩ := hM
    have hP := Own.pre (Xi := [boxA b0 [.slice Ap0_0 p0_0.length cp0_0, .int .i64 p0_1, .bool p0_2]]) (X := []) (Si := [slA Rp0_0 (Enc.int .u8) Ap0_0 cp0_0 p0_0]) hS (forall2 (hS.sl_mem (List.Mem.head _)) forall0) (forall2 (fun _ h => .inl ⟨_, (List.Mem.head _), h⟩) forall0)
    refine s_call 34 #[.pointer (some ⟨b0, 0, none⟩)] (by kernel_rfl) (by kernel_rfl) ((pack_Reader_Err_W hP h10).mono ?_)
    rintro _ _ ⟨rfl, hQ⟩
    replace hS : Own w0 D R _ [boxA b0 [.slice Ap0_0 p0_0.length cp0_0, .int .i64 p0_1, .bool p0_2]] [slA Rp0_0 (Enc.int .u8) Ap0_0 cp0_0 p0_0] := hS.post hQ (.inl rfl)
    clear hP hQ
    refine ⟨_, rfl, ?_⟩
    refine segEnd [.pointer (some ⟨b0, 0, none⟩), undef, .int .i64 v9, .pointer (some ⟨b0, 0, none⟩), .int .i64 v1, .bool false, .bool false, undef, undef, undef, .bool false, .pointer (some ⟨b0, 0, none⟩), .int .i64 v9] (by kernel_rfl) ?_
    refine then_normal ?_
    refine wp_ret ?_
    replace hS : Own w0 D R _ [boxA b0 [.slice Ap0_0 p0_0.length cp0_0, .int .i64 p0_1, .bool p0_2]] [] := hS.dropS forall0
    obtain rfl := Option.some.inj hM
    refine ret_v (.int .i64 v9) (by kernel_rfl) ⟨rfl, (by first | exact hS | (simp only [hc3] at hS ⊢; exact hS))⟩

theorem pack_Read_W {w0 w : World} {D R : Nat → Prop} {Rp0 : Nat → Prop} {Ap0 : Option Addr} {cp0 : Nat} {p0 : List Int} {r0 : List Int} {r1 : Int} {r2 : Bool} (hS : Own w0 D R w [] [slA Rp0 (Enc.int .u8) Ap0 cp0 p0]) (hD : ∀ b, ¬ D b) (hM : pack_Read_M p0 = some (r0, r1, r2)) :
    Calls Go.Proofs.Try.prog 23 #[.slice Ap0 p0.length cp0] w (fun e w' => ∃ (Zb1 : Nat) (ZA2 : Option Addr) (Zc3 : Nat), e = .returned (.pointer (some ⟨Zb1, 0, none⟩)) ∧ Own w0 D R w' [rowA (Enc.int .u8) ZA2 Zc3 r0, boxA Zb1 [.slice ZA2 r0.length Zc3, .int .i64 r1, .bool r2]] []) := by
  refine enter (fn := Go.Proofs.Try.f23) [.slice Ap0 p0.length cp0, undef, undef, undef, undef, undef, undef] (by kernel_rfl) rfl (by kernel_rfl) ?_
  unfold pack_Read_M at hM
  refine wp_seq ?_
  refine wp_reg ?_
  refine segEnd [.slice Ap0 p0.length cp0, undef, .pointer none, undef, undef, undef, undef] (by kernel_rfl) ?_
  refine then_normal ?_
  refine wp_seq ?_
  refine wp_reg ?_
  refine seg 1 [.slice Ap0 p0.length cp0, undef, .pointer none, .slice Ap0 p0.length cp0, undef, undef, undef] (by kernel_rfl) ?_
  replace hM := bind_some hM
  obtain ⟨_, h1, hM⟩ := hM
  replace hS : Own w0 D R _ [rowA (Enc.int .u8) none 0 []] [slA Rp0 (Enc.int .u8) Ap0 cp0 p0] := hS.addNil (Enc.int .u8)
  refine s_append (.const (.slice none 0 0)) (.tmp 3) 26 26 5 1 (.slice Ap0 p0.length cp0) (e := (Enc.int .u8)) (xs := []) (ys := p0) rfl u26 el5 (by kernel_rfl) (by kernel_rfl) (by kernel_rfl) hS ((SlR.of_sl (hS.sl_mem (List.Mem.head _))).src u26) (room_some h1).1 (room_some h1).2 (fun A2 c3 _ hS => ?_)
  refine seg 1 [.slice Ap0 p0.length cp0, undef, .pointer none, .slice Ap0 p0.length cp0, .slice A2 (([] ++ p0).length) c3, .agg #[.slice A2 (([] ++ p0).length) c3, .int .i64 0, .bool true], undef] (by kernel_rfl) ?_
  refine s_box (.tmp 5) 55 [.slice A2 (([] ++ p0).length) c3, .int .i64 0, .bool true] (.agg #[.slice A2 (([] ++ p0).length) c3, .int .i64 0, .bool true]) rfl (by kernel_rfl) rfl (by kernel_rfl) hS (fun b4 _ hS => ?_)
  refine segEnd [.slice Ap0 p0.length cp0, undef, .pointer (some ⟨b4, 0, none⟩), .slice Ap0 p0.length cp0, .slice A2 (([] ++ p0).length) c3, .agg #[.slice A2 (([] ++ p0).length) c3, .int .i64 0, .bool true], .pointer (some ⟨b4, 0, none⟩)] (by kernel_rfl) ?_
  refine then_normal ?_
  refine wp_ret ?_
  replace hS : Own w0 D R _ [rowA (Enc.int .u8) A2 c3 ([] ++ p0), boxA b4 [.slice A2 (([] ++ p0).length) c3, .int .i64 0, .bool true]] [slA Rp0 (Enc.int .u8) Ap0 cp0 p0] := hS.pick 1 rfl
  replace hS : Own w0 D R _ [boxA b4 [.slice A2 (([] ++ p0).length) c3, .int .i64 0, .bool true], rowA (Enc.int .u8) A2 c3 ([] ++ p0)] [slA Rp0 (Enc.int .u8) Ap0 cp0 p0] := hS.pick 1 rfl
  replace hS : Own w0 D R _ [rowA (Enc.int .u8) A2 c3 ([] ++ p0), boxA b4 [.slice A2 (([] ++ p0).length) c3, .int .i64 0, .bool true]] [slA Rp0 (Enc.int .u8) Ap0 cp0 p0] := hS.pick 1 rfl
  replace hS : Own w0 D R _ [rowA (Enc.int .u8) A2 c3 ([] ++ p0), boxA b4 [.slice A2 (([] ++ p0).length) c3, .int .i64 0, .bool true]] [] := hS.dropS forall0
  simp only [Option.some.injEq, Prod.mk.injEq] at hM
  obtain ⟨rfl, rfl, rfl⟩ := hM
  refine ret_v (.pointer (some ⟨b4, 0, none⟩)) (by kernel_rfl) ⟨b4, A2, c3, rfl, hS⟩

end Go.Proofs.Ytcpddgjmopdlbaa
