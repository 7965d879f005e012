/- The Go functions come to what their models say (Keys). -/
import Derived.Test.YtcpddgjmopdlbaaTy
import Derived.Test.YtcpddgjmopdlbaaMKeys
import Derived.Test.YtcpddgjmopdlbaaFPut
namespace Go.Proofs.Ytcpddgjmopdlbaa
open Go Go.Lift
set_option maxRecDepth 100000
set_option maxHeartbeats 4000000
set_option linter.unusedVariables false

theorem keys_numbers_W {w0 w : World} {D R : Nat → Prop} {p0_0 : Int} {p0_1 : Int} {p0_2 : Int} {p0_3 : Int} {p0_4 : Int} {p0_5 : Int} {r0 : Int} {r1 : Int} {r2 : Int} {r3 : Int} {r4 : Int} {r5 : Int} (hS : Own w0 D R w [] []) (hD : ∀ b, ¬ D b) (hM : keys_numbers_M p0_0 p0_1 p0_2 p0_3 p0_4 p0_5 = some (r0, r1, r2, r3, r4, r5)) :
    Calls Go.Proofs.Try.prog 19 #[.agg #[.int .i64 p0_0, .int .i64 p0_1, .int .i64 p0_2, .int .i64 p0_3, .int .i64 p0_4, .int .i64 p0_5]] w (fun e w' => e = .returned (.agg #[.int .i64 r0, .int .i64 r1, .int .i64 r2, .int .i64 r3, .int .i64 r4, .int .i64 r5]) ∧ Own w0 D R w' [] []) := by
  refine enter (fn := Go.Proofs.Try.f19) [.agg #[.int .i64 p0_0, .int .i64 p0_1, .int .i64 p0_2, .int .i64 p0_3, .int .i64 p0_4, .int .i64 p0_5], undef, undef, undef, undef, undef, undef, undef, undef, undef, undef, undef, undef, undef, undef, undef] (by kernel_rfl) rfl (by kernel_rfl) ?_
  unfold keys_numbers_M at hM
  refine wp_seq ?_
  refine wp_reg ?_
  refine s_box (.tmp 0) 23 [.int .i64 p0_0, .int .i64 p0_1, .int .i64 p0_2, .int .i64 p0_3, .int .i64 p0_4, .int .i64 p0_5] (.agg #[.int .i64 p0_0, .int .i64 p0_1, .int .i64 p0_2, .int .i64 p0_3, .int .i64 p0_4, .int .i64 p0_5]) rfl (by kernel_rfl) rfl (by kernel_rfl) hS (fun b1 _ hS => ?_)
  refine s_alloc 40 [.int .i64 0, .int .i64 0, .int .i64 0, .int .i64 0, .int .i64 0, .int .i64 0] rfl ⟨.agg #[.int .i64 0, .int .i64 0, .int .i64 0, .int .i64 0, .int .i64 0, .int .i64 0], by kernel_rfl, rfl⟩ (by kernel_rfl) hS (fun b2 _ hS => ?_)
  refine wl_nil ?_
  refine then_normal ?_
  refine wp_seq ?_
  refine wp_reg ?_
  refine seg 1 [.agg #[.int .i64 p0_0, .int .i64 p0_1, .int .i64 p0_2, .int .i64 p0_3, .int .i64 p0_4, .int .i64 p0_5], .pointer (some ⟨b1, 0, none⟩), .pointer (some ⟨b2, 0, none⟩), .pointer (some ⟨b1, 0, none⟩), undef, undef, undef, undef, undef, undef, undef, undef, undef, undef, undef, undef] (by kernel_rfl) ?_
  refine s_load_box (.tmp 3) 3 b1 0 1 [.int .i64 p0_0, .int .i64 p0_1, .int .i64 p0_2, .int .i64 p0_3, .int .i64 p0_4, .int .i64 p0_5] [.int .i64 p0_0] (.int .i64 p0_0) rfl (by kernel_rfl) (by kernel_rfl) (hS.box_mem (List.Mem.tail _ (List.Mem.head _))) rfl rfl (Or.inr ⟨by kernel_rfl, rfl⟩) ?_
  refine seg 1 [.agg #[.int .i64 p0_0, .int .i64 p0_1, .int .i64 p0_2, .int .i64 p0_3, .int .i64 p0_4, .int .i64 p0_5], .pointer (some ⟨b1, 0, none⟩), .pointer (some ⟨b2, 0, none⟩), .pointer (some ⟨b1, 0, none⟩), .int .i64 p0_0, .pointer (some ⟨b1, 1, none⟩), undef, undef, undef, undef, undef, undef, undef, undef, undef, undef] (by kernel_rfl) ?_
  refine s_load_box (.tmp 5) 3 b1 1 1 [.int .i64 p0_0, .int .i64 p0_1, .int .i64 p0_2, .int .i64 p0_3, .int .i64 p0_4, .int .i64 p0_5] [.int .i64 p0_1] (.int .i64 p0_1) rfl (by kernel_rfl) (by kernel_rfl) (hS.box_mem (List.Mem.tail _ (List.Mem.head _))) rfl rfl (Or.inr ⟨by kernel_rfl, rfl⟩) ?_
  refine seg 1 [.agg #[.int .i64 p0_0, .int .i64 p0_1, .int .i64 p0_2, .int .i64 p0_3, .int .i64 p0_4, .int .i64 p0_5], .pointer (some ⟨b1, 0, none⟩), .pointer (some ⟨b2, 0, none⟩), .pointer (some ⟨b1, 0, none⟩), .int .i64 p0_0, .pointer (some ⟨b1, 1, none⟩), .int .i64 p0_1, .pointer (some ⟨b1, 2, none⟩), undef, undef, undef, undef, undef, undef, undef, undef] (by kernel_rfl) ?_
  refine s_load_box (.tmp 7) 3 b1 2 1 [.int .i64 p0_0, .int .i64 p0_1, .int .i64 p0_2, .int .i64 p0_3, .int .i64 p0_4, .int .i64 p0_5] [.int .i64 p0_2] (.int .i64 p0_2) rfl (by kernel_rfl) (by kernel_rfl) (hS.box_mem (List.Mem.tail _ (List.Mem.head _))) rfl rfl (Or.inr ⟨by kernel_rfl, rfl⟩) ?_
  refine seg 1 [.agg #[.int .i64 p0_0, .int .i64 p0_1, .int .i64 p0_2, .int .i64 p0_3, .int .i64 p0_4, .int .i64 p0_5], .pointer (some ⟨b1, 0, none⟩), .pointer (some ⟨b2, 0, none⟩), .pointer (some ⟨b1, 0, none⟩), .int .i64 p0_0, .pointer (some ⟨b1, 1, none⟩), .int .i64 p0_1, .pointer (some ⟨b1, 2, none⟩), .int .i64 p0_2, .pointer (some ⟨b1, 3, none⟩), undef, undef, undef, undef, undef, undef] (by kernel_rfl) ?_
  refine s_load_box (.tmp 9) 3 b1 3 1 [.int .i64 p0_0, .int .i64 p0_1, .int .i64 p0_2, .int .i64 p0_3, .int .i64 p0_4, .int .i64 p0_5] [.int .i64 p0_3] (.int .i64 p0_3) rfl (by kernel_rfl) (by kernel_rfl) (hS.box_mem (List.Mem.tail _ (List.Mem.head _))) rfl rfl (Or.inr ⟨by kernel_rfl, rfl⟩) ?_
  refine seg 1 [.agg #[.int .i64 p0_0, .int .i64 p0_1, .int .i64 p0_2, .int .i64 p0_3, .int .i64 p0_4, .int .i64 p0_5], .pointer (some ⟨b1, 0, none⟩), .pointer (some ⟨b2, 0, none⟩), .pointer (some ⟨b1, 0, none⟩), .int .i64 p0_0, .pointer (some ⟨b1, 1, none⟩), .int .i64 p0_1, .pointer (some ⟨b1, 2, none⟩), .int .i64 p0_2, .pointer (some ⟨b1, 3, none⟩), .int .i64 p0_3, .pointer (some ⟨b1, 4, none⟩), undef, undef, undef, undef] (by kernel_rfl) ?_
  refine s_load_box (.tmp 11) 3 b1 4 1 [.int .i64 p0_0, .int .i64 p0_1, .int .i64 p0_2, .int .i64 p0_3, .int .i64 p0_4, .int .i64 p0_5] [.int .i64 p0_4] (.int .i64 p0_4) rfl (by kernel_rfl) (by kernel_rfl) (hS.box_mem (List.Mem.tail _ (List.Mem.head _))) rfl rfl (Or.inr ⟨by kernel_rfl, rfl⟩) ?_
  refine seg 1 [.agg #[.int .i64 p0_0, .int .i64 p0_1, .int .i64 p0_2, .int .i64 p0_3, .int .i64 p0_4, .int .i64 p0_5], .pointer (some ⟨b1, 0, none⟩), .pointer (some ⟨b2, 0, none⟩), .pointer (some ⟨b1, 0, none⟩), .int .i64 p0_0, .pointer (some ⟨b1, 1, none⟩), .int .i64 p0_1, .pointer (some ⟨b1, 2, none⟩), .int .i64 p0_2, .pointer (some ⟨b1, 3, none⟩), .int .i64 p0_3, .pointer (some ⟨b1, 4, none⟩), .int .i64 p0_4, .pointer (some ⟨b1, 5, none⟩), undef, undef] (by kernel_rfl) ?_
  refine s_load_box (.tmp 13) 3 b1 5 1 [.int .i64 p0_0, .int .i64 p0_1, .int .i64 p0_2, .int .i64 p0_3, .int .i64 p0_4, .int .i64 p0_5] [.int .i64 p0_5] (.int .i64 p0_5) rfl (by kernel_rfl) (by kernel_rfl) (hS.box_mem (List.Mem.tail _ (List.Mem.head _))) rfl rfl (Or.inr ⟨by kernel_rfl, rfl⟩) ?_
  refine seg 1 [.agg #[.int .i64 p0_0, .int .i64 p0_1, .int .i64 p0_2, .int .i64 p0_3, .int .i64 p0_4, .int .i64 p0_5], .pointer (some ⟨b1, 0, none⟩), .pointer (some ⟨b2, 0, none⟩), .pointer (some ⟨b1, 0, none⟩), .int .i64 p0_0, .pointer (some ⟨b1, 1, none⟩), .int .i64 p0_1, .pointer (some ⟨b1, 2, none⟩), .int .i64 p0_2, .pointer (some ⟨b1, 3, none⟩), .int .i64 p0_3, .pointer (some ⟨b1, 4, none⟩), .int .i64 p0_4, .pointer (some ⟨b1, 5, none⟩), .int .i64 p0_5, .agg #[.int .i64 p0_0, .int .i64 p0_1, .int .i64 p0_2, .int .i64 p0_3, .int .i64 p0_4, .int .i64 p0_5]] (by kernel_rfl) ?_
  refine s_store_box (.tmp 2) (.tmp 15) 40 b2 0 [.int .i64 0, .int .i64 0, .int .i64 0, .int .i64 0, .int .i64 0, .int .i64 0] [.int .i64 p0_0, .int .i64 p0_1, .int .i64 p0_2, .int .i64 p0_3, .int .i64 p0_4, .int .i64 p0_5] [.int .i64 p0_0, .int .i64 p0_1, .int .i64 p0_2, .int .i64 p0_3, .int .i64 p0_4, .int .i64 p0_5] (.agg #[.int .i64 p0_0, .int .i64 p0_1, .int .i64 p0_2, .int .i64 p0_3, .int .i64 p0_4, .int .i64 p0_5]) rfl (by kernel_rfl) (by kernel_rfl) (by kernel_rfl) rfl (by kernel_rfl) (forall2 rfl (forall2 rfl (forall2 rfl (forall2 rfl (forall2 rfl (forall2 rfl forall0)))))) (Nat.le_of_ble_eq_true (by kernel_rfl)) rfl hS (fun _ hS => ?_)
  refine wl_nil ?_
  refine then_normal ?_
  refine wp_ret ?_
  have hbx0 := hS.box_mem (List.Mem.head _)
  replace hS : Own w0 D R _ [] [] := hS.takeX 0
  replace hS : Own w0 D R _ [] [] := hS.dropS forall0
  simp only [Option.some.injEq, Prod.mk.injEq] at hM
  obtain ⟨rfl, rfl, rfl, rfl, rfl, rfl⟩ := hM
  refine ret_b (.agg #[.int .i64 p0_0, .int .i64 p0_1, .int .i64 p0_2, .int .i64 p0_3, .int .i64 p0_4, .int .i64 p0_5]) [(b2, [.int .i64 p0_0, .int .i64 p0_1, .int .i64 p0_2, .int .i64 p0_3, .int .i64 p0_4, .int .i64 p0_5], 0), (b2, [.int .i64 p0_0, .int .i64 p0_1, .int .i64 p0_2, .int .i64 p0_3, .int .i64 p0_4, .int .i64 p0_5], 1), (b2, [.int .i64 p0_0, .int .i64 p0_1, .int .i64 p0_2, .int .i64 p0_3, .int .i64 p0_4, .int .i64 p0_5], 2), (b2, [.int .i64 p0_0, .int .i64 p0_1, .int .i64 p0_2, .int .i64 p0_3, .int .i64 p0_4, .int .i64 p0_5], 3), (b2, [.int .i64 p0_0, .int .i64 p0_1, .int .i64 p0_2, .int .i64 p0_3, .int .i64 p0_4, .int .i64 p0_5], 4), (b2, [.int .i64 p0_0, .int .i64 p0_1, .int .i64 p0_2, .int .i64 p0_3, .int .i64 p0_4, .int .i64 p0_5], 5)] (by kernel_rfl) (forall2 hbx0 (forall2 hbx0 (forall2 hbx0 (forall2 hbx0 (forall2 hbx0 (forall2 hbx0 forall0)))))) ⟨rfl, hS⟩

theorem keys_Valid_W {w0 w : World} {D R : Nat → Prop} {p0_0 : Int} {p0_1 : Int} {p0_2 : Int} {p0_3 : Int} {p0_4 : Int} {p0_5 : Int} {r0 : Bool} (hS : Own w0 D R w [] []) (hD : ∀ b, ¬ D b) (hM : keys_Valid_M p0_0 p0_1 p0_2 p0_3 p0_4 p0_5 = some r0) :
    Calls Go.Proofs.Try.prog 8 #[.agg #[.int .i64 p0_0, .int .i64 p0_1, .int .i64 p0_2, .int .i64 p0_3, .int .i64 p0_4, .int .i64 p0_5]] w (fun e w' => e = .returned (.bool r0) ∧ Own w0 D R w' [] []) := by
  refine enter (fn := Go.Proofs.Try.f8) [.agg #[.int .i64 p0_0, .int .i64 p0_1, .int .i64 p0_2, .int .i64 p0_3, .int .i64 p0_4, .int .i64 p0_5], undef, undef, undef, undef, undef, undef, undef, undef, undef, undef, undef, undef, undef, undef, undef, undef, undef, undef, undef, undef, undef, undef, undef, undef, undef, undef, undef, undef, undef] (by kernel_rfl) rfl (by kernel_rfl) ?_
  unfold keys_Valid_M at hM
  refine wp_seq ?_
  refine wp_reg ?_
  refine s_box (.tmp 0) 23 [.int .i64 p0_0, .int .i64 p0_1, .int .i64 p0_2, .int .i64 p0_3, .int .i64 p0_4, .int .i64 p0_5] (.agg #[.int .i64 p0_0, .int .i64 p0_1, .int .i64 p0_2, .int .i64 p0_3, .int .i64 p0_4, .int .i64 p0_5]) rfl (by kernel_rfl) rfl (by kernel_rfl) hS (fun b1 _ hS => ?_)
  refine segEnd [.agg #[.int .i64 p0_0, .int .i64 p0_1, .int .i64 p0_2, .int .i64 p0_3, .int .i64 p0_4, .int .i64 p0_5], .pointer (some ⟨b1, 0, none⟩), .bool false, undef, undef, undef, undef, undef, undef, undef, undef, undef, undef, undef, undef, undef, undef, undef, undef, undef, undef, undef, undef, undef, undef, undef, undef, undef, undef, undef] (by kernel_rfl) ?_
  refine then_normal ?_
  refine wp_join (fun a w => ∃ (G29 : Nat → Value), a = Fr [(G29 0), .pointer (some ⟨b1, 0, none⟩), (G29 1), undef, (G29 2), (G29 3), (G29 4), (G29 5), (G29 6), (G29 7), (G29 8), (G29 9), (G29 10), (G29 11), (G29 12), (G29 13), (G29 14), undef, undef, undef, undef, undef, undef, undef, undef, undef, undef, undef, undef, undef] ∧ Own w0 D R w [boxA b1 [.int .i64 p0_0, .int .i64 p0_1, .int .i64 p0_2, .int .i64 p0_3, .int .i64 p0_4, .int .i64 p0_5]] [] ∧ keys_Valid_J1 p0_0 p0_4 = some r0) ?_ ?_
  ·
    refine wp_seq ?_
    refine wp_reg ?_
    refine s_load_box (.tmp 1) 23 b1 0 6 [.int .i64 p0_0, .int .i64 p0_1, .int .i64 p0_2, .int .i64 p0_3, .int .i64 p0_4, .int .i64 p0_5] [.int .i64 p0_0, .int .i64 p0_1, .int .i64 p0_2, .int .i64 p0_3, .int .i64 p0_4, .int .i64 p0_5] (.agg #[.int .i64 p0_0, .int .i64 p0_1, .int .i64 p0_2, .int .i64 p0_3, .int .i64 p0_4, .int .i64 p0_5]) rfl (by kernel_rfl) (by kernel_rfl) (hS.box_mem (List.Mem.head _)) rfl rfl (Or.inl ⟨by kernel_rfl, by kernel_rfl, rfl⟩) ?_
    replace hM := bind_some hM
    obtain ⟨⟨v2, v3, v4, v5, v6, v7⟩, h8, hM⟩ := hM
    have hP := Own.pre (Xi := []) (X := [boxA b1 [.int .i64 p0_0, .int .i64 p0_1, .int .i64 p0_2, .int .i64 p0_3, .int .i64 p0_4, .int .i64 p0_5]]) (Si := []) hS forall0 forall0
    refine s_call 19 #[.agg #[.int .i64 p0_0, .int .i64 p0_1, .int .i64 p0_2, .int .i64 p0_3, .int .i64 p0_4, .int .i64 p0_5]] (by kernel_rfl) (by kernel_rfl) ((keys_numbers_W hP doms_nil h8).mono ?_)
    rintro _ _ ⟨rfl, hQ⟩
    replace hS : Own w0 D R _ [boxA b1 [.int .i64 p0_0, .int .i64 p0_1, .int .i64 p0_2, .int .i64 p0_3, .int .i64 p0_4, .int .i64 p0_5]] [] := hS.post hQ (.inl rfl)
    clear hP hQ
    refine ⟨_, rfl, ?_⟩
    refine segEnd [.agg #[.int .i64 p0_0, .int .i64 p0_1, .int .i64 p0_2, .int .i64 p0_3, .int .i64 p0_4, .int .i64 p0_5], .pointer (some ⟨b1, 0, none⟩), .bool false, undef, undef, .agg #[.int .i64 p0_0, .int .i64 p0_1, .int .i64 p0_2, .int .i64 p0_3, .int .i64 p0_4, .int .i64 p0_5], .agg #[.int .i64 v2, .int .i64 v3, .int .i64 v4, .int .i64 v5, .int .i64 v6, .int .i64 v7], .int .i64 0, undef, undef, undef, undef, undef, undef, undef, undef, undef, undef, undef, undef, undef, undef, undef, undef, undef, undef, undef, undef, undef, undef] (by kernel_rfl) ?_
    refine then_normal ?_
    refine wp_block ?_
    replace hM := bind_some hM
    obtain ⟨q19, hL20, hM⟩ := hM
    refine wp_loop_model (fun (s : Int) a w => ∃ (G22 : Nat → Value) (x21 : Int), s = x21 ∧ a = Fr [(G22 0), .pointer (some ⟨b1, 0, none⟩), (G22 1), undef, (G22 2), (G22 3), .agg #[.int .i64 v2, .int .i64 v3, .int .i64 v4, .int .i64 v5, .int .i64 v6, .int .i64 v7], .int .i64 x21, (G22 4), (G22 5), (G22 6), (G22 7), (G22 8), (G22 9), (G22 10), (G22 11), (G22 12), undef, undef, undef, undef, undef, undef, undef, undef, undef, undef, undef, undef, undef] ∧ Own w0 D R w [boxA b1 [.int .i64 p0_0, .int .i64 p0_1, .int .i64 p0_2, .int .i64 p0_3, .int .i64 p0_4, .int .i64 p0_5]] []) ?_ hL20 ?_
    · rintro x21 a w ⟨G22, _, rfl, rfl, hS⟩ o17 hM1 hout18
      replace hM1 : keys_Valid_L1 v2 v3 v4 v5 v6 v7 x21 = some o17 := hM1
      unfold keys_Valid_L1 at hM1
      refine wp_seq ?_
      refine wp_reg ?_
      refine segEnd [(G22 0), .pointer (some ⟨b1, 0, none⟩), (G22 1), undef, (G22 2), (G22 3), .agg #[.int .i64 v2, .int .i64 v3, .int .i64 v4, .int .i64 v5, .int .i64 v6, .int .i64 v7], .int .i64 x21, .bool (decide (x21 < 6)), (G22 5), (G22 6), (G22 7), (G22 8), (G22 9), (G22 10), (G22 11), (G22 12), undef, undef, undef, undef, undef, undef, undef, undef, undef, undef, undef, undef, undef] (by kernel_rfl) ?_
      refine then_normal ?_
      refine wp_seq ?_
      refine wp_cond_split (t := decide (x21 < 6)) (by kernel_rfl) (fun hc23 => ?_) (fun hc23 => ?_)
      · replace hM1 := (if_pos hc23).symm.trans hM1
        refine wp_skip ?_
        refine then_normal ?_
        refine wp_seq ?_
        refine wp_block ?_
        refine wp_seq ?_
        refine wp_reg ?_
        replace hM1 := bind_some hM1
        obtain ⟨y24, h25, hM1⟩ := hM1
        have hi26 := ix_some h25
        refine s_index_arr (e := (Enc.int .i64)) (.tmp 6) (.tmp 7) 40 3 6 8 .i64 x21 [v2, v3, v4, v5, v6, v7] y24 rfl rfl (by kernel_rfl) el3 (by kernel_rfl) (by kernel_rfl) rfl (by kernel_rfl) hi26.1 hi26.2.2 ?_
        refine segEnd [(G22 0), .pointer (some ⟨b1, 0, none⟩), (G22 1), undef, .int .i64 y24, (G22 3), .agg #[.int .i64 v2, .int .i64 v3, .int .i64 v4, .int .i64 v5, .int .i64 v6, .int .i64 v7], .int .i64 x21, .bool (decide (x21 < 6)), .int .i64 y24, (G22 6), (G22 7), (G22 8), (G22 9), (G22 10), (G22 11), (G22 12), undef, undef, undef, undef, undef, undef, undef, undef, undef, undef, undef, undef, undef] (by kernel_rfl) ?_
        refine then_normal ?_
        refine wp_seq ?_
        refine wp_reg ?_
        refine seg 3 [(G22 0), .pointer (some ⟨b1, 0, none⟩), (G22 1), undef, .int .i64 y24, (G22 3), .agg #[.int .i64 v2, .int .i64 v3, .int .i64 v4, .int .i64 v5, .int .i64 v6, .int .i64 v7], .int .i64 x21, .bool (decide (x21 < 6)), .int .i64 y24, .int .i64 y24, .bool (decide (y24 < 0)), .bool (decide (y24 < 0)), (G22 9), (G22 10), (G22 11), (G22 12), undef, undef, undef, undef, undef, undef, undef, undef, undef, undef, undef, undef, undef] (by kernel_rfl) ?_
        rcases Bool.eq_false_or_eq_true (decide (y24 < 0)) with hc27 | hc27
        · replace hM1 := (if_pos hc27).symm.trans hM1
          rw [hc27]
          refine segEnd [(G22 0), .pointer (some ⟨b1, 0, none⟩), (G22 1), undef, .int .i64 y24, (G22 3), .agg #[.int .i64 v2, .int .i64 v3, .int .i64 v4, .int .i64 v5, .int .i64 v6, .int .i64 v7], .int .i64 x21, .bool (decide (x21 < 6)), .int .i64 y24, .int .i64 y24, .bool true, .bool true, undef, undef, .bool true, (G22 12), undef, undef, undef, undef, undef, undef, undef, undef, undef, undef, undef, undef, undef] (by kernel_rfl) ?_
          refine then_normal ?_
          refine wp_cond_true (by kernel_rfl) ?_
          refine wp_seq ?_
          refine wp_reg ?_
          refine segEnd [(G22 0), .pointer (some ⟨b1, 0, none⟩), .bool false, undef, .int .i64 y24, (G22 3), .agg #[.int .i64 v2, .int .i64 v3, .int .i64 v4, .int .i64 v5, .int .i64 v6, .int .i64 v7], .int .i64 x21, .bool (decide (x21 < 6)), .int .i64 y24, .int .i64 y24, .bool true, .bool true, undef, undef, .bool true, (G22 12), undef, undef, undef, undef, undef, undef, undef, undef, undef, undef, undef, undef, undef] (by kernel_rfl) ?_
          refine then_normal ?_
          refine wp_ret ?_
          refine in_ret ?_
          refine then_ret ?_
          refine then_ret ?_
          have hr33 := hout18 _ (Option.some.inj hM1).symm
          subst hr33
          refine in_ret ?_
          refine then_ret ?_
          replace hS : Own w0 D R _ [] [] := hS.takeX 0
          replace hS : Own w0 D R _ [] [] := hS.dropS forall0
          obtain rfl := Option.some.inj hM
          refine ret_v (.bool false) (by kernel_rfl) ⟨rfl, hS⟩
        · replace hM1 := (if_neg (Bool.eq_false_iff.1 hc27)).symm.trans hM1
          rw [hc27]
          refine segEnd [(G22 0), .pointer (some ⟨b1, 0, none⟩), (G22 1), undef, .int .i64 y24, (G22 3), .agg #[.int .i64 v2, .int .i64 v3, .int .i64 v4, .int .i64 v5, .int .i64 v6, .int .i64 v7], .int .i64 x21, .bool (decide (x21 < 6)), .int .i64 y24, .int .i64 y24, .bool false, .bool false, .int .i64 y24, .bool (decide (y24 > 1099511627776)), .bool (decide (y24 > 1099511627776)), (G22 12), undef, undef, undef, undef, undef, undef, undef, undef, undef, undef, undef, undef, undef] (by kernel_rfl) ?_
          refine then_normal ?_
          refine wp_cond_split (t := decide (y24 > 1099511627776)) (by kernel_rfl) (fun hc28 => ?_) (fun hc28 => ?_)
          · replace hM1 := (if_pos hc28).symm.trans hM1
            refine wp_seq ?_
            refine wp_reg ?_
            refine segEnd [(G22 0), .pointer (some ⟨b1, 0, none⟩), .bool false, undef, .int .i64 y24, (G22 3), .agg #[.int .i64 v2, .int .i64 v3, .int .i64 v4, .int .i64 v5, .int .i64 v6, .int .i64 v7], .int .i64 x21, .bool (decide (x21 < 6)), .int .i64 y24, .int .i64 y24, .bool false, .bool false, .int .i64 y24, .bool (decide (y24 > 1099511627776)), .bool (decide (y24 > 1099511627776)), (G22 12), undef, undef, undef, undef, undef, undef, undef, undef, undef, undef, undef, undef, undef] (by kernel_rfl) ?_
            refine then_normal ?_
            refine wp_ret ?_
            refine in_ret ?_
            refine then_ret ?_
            refine then_ret ?_
            have hr34 := hout18 _ (Option.some.inj hM1).symm
            subst hr34
            refine in_ret ?_
            refine then_ret ?_
            replace hS : Own w0 D R _ [] [] := hS.takeX 0
            replace hS : Own w0 D R _ [] [] := hS.dropS forall0
            obtain rfl := Option.some.inj hM
            refine ret_v (.bool false) (by kernel_rfl) ⟨rfl, hS⟩
          · replace hM1 := (if_neg (Bool.eq_false_iff.1 hc28)).symm.trans hM1
            refine wp_skip ?_
            refine in_normal ?_
            refine then_normal ?_
            refine wp_reg ?_
            refine segEnd [(G22 0), .pointer (some ⟨b1, 0, none⟩), (G22 1), undef, .int .i64 y24, (G22 3), .agg #[.int .i64 v2, .int .i64 v3, .int .i64 v4, .int .i64 v5, .int .i64 v6, .int .i64 v7], .int .i64 (IntKind.i64.wrap (x21 + 1)), .bool (decide (x21 < 6)), .int .i64 y24, .int .i64 y24, .bool false, .bool false, .int .i64 y24, .bool (decide (y24 > 1099511627776)), .bool (decide (y24 > 1099511627776)), .int .i64 (IntKind.i64.wrap (x21 + 1)), undef, undef, undef, undef, undef, undef, undef, undef, undef, undef, undef, undef, undef] (by kernel_rfl) ?_
            refine then_normal ?_
            exact ⟨(IntKind.i64.wrap (x21 + 1)), (Option.some.inj hM1).symm, (fun i => ([(G22 0), (G22 1), .int .i64 y24, (G22 3), .bool (decide (x21 < 6)), .int .i64 y24, .int .i64 y24, .bool false, .bool false, .int .i64 y24, .bool (decide (y24 > 1099511627776)), .bool (decide (y24 > 1099511627776)), .int .i64 (IntKind.i64.wrap (x21 + 1))] : List Value).getD i undef), (IntKind.i64.wrap (x21 + 1)), rfl, (by kernel_rfl), hS⟩
      · replace hM1 := (if_neg (Bool.eq_false_iff.1 hc23)).symm.trans hM1
        refine wp_exit ?_
        refine then_exit ?_
        refine then_exit ?_
        have hr35 := hout18 _ (Option.some.inj hM1).symm
        subst hr35
        refine in_exit_eq ?_
        refine then_normal ?_
        exact ⟨(fun i => ([(G22 0), (G22 1), (G22 2), (G22 3), .agg #[.int .i64 v2, .int .i64 v3, .int .i64 v4, .int .i64 v5, .int .i64 v6, .int .i64 v7], .int .i64 x21, .bool (decide (x21 < 6)), (G22 5), (G22 6), (G22 7), (G22 8), (G22 9), (G22 10), (G22 11), (G22 12)] : List Value).getD i undef), (by kernel_rfl), hS, hM⟩
    · exact ⟨(fun i => ([.agg #[.int .i64 p0_0, .int .i64 p0_1, .int .i64 p0_2, .int .i64 p0_3, .int .i64 p0_4, .int .i64 p0_5], .bool false, undef, .agg #[.int .i64 p0_0, .int .i64 p0_1, .int .i64 p0_2, .int .i64 p0_3, .int .i64 p0_4, .int .i64 p0_5], undef, undef, undef, undef, undef, undef, undef, undef, undef] : List Value).getD i undef), 0, rfl, (by kernel_rfl), hS⟩
  · rintro a w ⟨G29, rfl, hS, hM⟩
    unfold keys_Valid_J1 at hM
    refine wp_seq ?_
    refine wp_reg ?_
    refine seg 1 [(G29 0), .pointer (some ⟨b1, 0, none⟩), (G29 1), undef, (G29 2), (G29 3), (G29 4), (G29 5), (G29 6), (G29 7), (G29 8), (G29 9), (G29 10), (G29 11), (G29 12), (G29 13), (G29 14), .pointer (some ⟨b1, 0, none⟩), undef, undef, undef, undef, undef, undef, undef, undef, undef, undef, undef, undef] (by kernel_rfl) ?_
    refine s_load_box (.tmp 17) 3 b1 0 1 [.int .i64 p0_0, .int .i64 p0_1, .int .i64 p0_2, .int .i64 p0_3, .int .i64 p0_4, .int .i64 p0_5] [.int .i64 p0_0] (.int .i64 p0_0) rfl (by kernel_rfl) (by kernel_rfl) (hS.box_mem (List.Mem.head _)) rfl rfl (Or.inr ⟨by kernel_rfl, rfl⟩) ?_
    refine seg 2 [(G29 0), .pointer (some ⟨b1, 0, none⟩), (G29 1), undef, (G29 2), (G29 3), (G29 4), (G29 5), (G29 6), (G29 7), (G29 8), (G29 9), (G29 10), (G29 11), (G29 12), (G29 13), (G29 14), .pointer (some ⟨b1, 0, none⟩), .int .i64 p0_0, .bool (decide (p0_0 ≥ 1)), .bool (decide (p0_0 ≥ 1)), undef, undef, undef, undef, undef, undef, undef, undef, undef] (by kernel_rfl) ?_
    rcases Bool.eq_false_or_eq_true (decide (p0_0 ≥ 1)) with hc30 | hc30
    · replace hM := (if_pos hc30).symm.trans hM
      rw [hc30]
      refine seg 1 [(G29 0), .pointer (some ⟨b1, 0, none⟩), (G29 1), undef, (G29 2), (G29 3), (G29 4), (G29 5), (G29 6), (G29 7), (G29 8), (G29 9), (G29 10), (G29 11), (G29 12), (G29 13), (G29 14), .pointer (some ⟨b1, 0, none⟩), .int .i64 p0_0, .bool true, .bool true, .pointer (some ⟨b1, 0, none⟩), undef, undef, undef, undef, undef, undef, undef, undef] (by kernel_rfl) ?_
      refine s_load_box (.tmp 21) 3 b1 0 1 [.int .i64 p0_0, .int .i64 p0_1, .int .i64 p0_2, .int .i64 p0_3, .int .i64 p0_4, .int .i64 p0_5] [.int .i64 p0_0] (.int .i64 p0_0) rfl (by kernel_rfl) (by kernel_rfl) (hS.box_mem (List.Mem.head _)) rfl rfl (Or.inr ⟨by kernel_rfl, rfl⟩) ?_
      refine seg 3 [(G29 0), .pointer (some ⟨b1, 0, none⟩), (G29 1), undef, (G29 2), (G29 3), (G29 4), (G29 5), (G29 6), (G29 7), (G29 8), (G29 9), (G29 10), (G29 11), (G29 12), (G29 13), (G29 14), .pointer (some ⟨b1, 0, none⟩), .int .i64 p0_0, .bool true, .bool true, .pointer (some ⟨b1, 0, none⟩), .int .i64 p0_0, .bool (decide (p0_0 ≤ 6)), .bool (decide (p0_0 ≤ 6)), .bool (decide (p0_0 ≤ 6)), undef, undef, undef, undef] (by kernel_rfl) ?_
      rcases Bool.eq_false_or_eq_true (decide (p0_0 ≤ 6)) with hc31 | hc31
      · replace hM := (if_pos hc31).symm.trans hM
        rw [hc31]
        refine seg 1 [(G29 0), .pointer (some ⟨b1, 0, none⟩), (G29 1), undef, (G29 2), (G29 3), (G29 4), (G29 5), (G29 6), (G29 7), (G29 8), (G29 9), (G29 10), (G29 11), (G29 12), (G29 13), (G29 14), .pointer (some ⟨b1, 0, none⟩), .int .i64 p0_0, .bool true, .bool true, .pointer (some ⟨b1, 0, none⟩), .int .i64 p0_0, .bool true, .bool true, .bool true, .pointer (some ⟨b1, 4, none⟩), undef, undef, undef] (by kernel_rfl) ?_
        refine s_load_box (.tmp 26) 3 b1 4 1 [.int .i64 p0_0, .int .i64 p0_1, .int .i64 p0_2, .int .i64 p0_3, .int .i64 p0_4, .int .i64 p0_5] [.int .i64 p0_4] (.int .i64 p0_4) rfl (by kernel_rfl) (by kernel_rfl) (hS.box_mem (List.Mem.head _)) rfl rfl (Or.inr ⟨by kernel_rfl, rfl⟩) ?_
        refine segEnd [(G29 0), .pointer (some ⟨b1, 0, none⟩), .bool (decide (p0_4 ≤ 1)), undef, (G29 2), (G29 3), (G29 4), (G29 5), (G29 6), (G29 7), (G29 8), (G29 9), (G29 10), (G29 11), (G29 12), (G29 13), (G29 14), .pointer (some ⟨b1, 0, none⟩), .int .i64 p0_0, .bool true, .bool true, .pointer (some ⟨b1, 0, none⟩), .int .i64 p0_0, .bool true, .bool true, .bool true, .pointer (some ⟨b1, 4, none⟩), .int .i64 p0_4, .bool (decide (p0_4 ≤ 1)), .bool (decide (p0_4 ≤ 1))] (by kernel_rfl) ?_
        refine then_normal ?_
        refine wp_ret ?_
        replace hS : Own w0 D R _ [] [] := hS.takeX 0
        replace hS : Own w0 D R _ [] [] := hS.dropS forall0
        obtain rfl := Option.some.inj hM
        refine ret_v (.bool (decide (p0_4 ≤ 1))) (by kernel_rfl) ⟨rfl, hS⟩
      · replace hM := (if_neg (Bool.eq_false_iff.1 hc31)).symm.trans hM
        rw [hc31]
        refine segEnd [(G29 0), .pointer (some ⟨b1, 0, none⟩), .bool false, undef, (G29 2), (G29 3), (G29 4), (G29 5), (G29 6), (G29 7), (G29 8), (G29 9), (G29 10), (G29 11), (G29 12), (G29 13), (G29 14), .pointer (some ⟨b1, 0, none⟩), .int .i64 p0_0, .bool true, .bool true, .pointer (some ⟨b1, 0, none⟩), .int .i64 p0_0, .bool false, .bool false, .bool false, undef, undef, undef, .bool false] (by kernel_rfl) ?_
        refine then_normal ?_
        refine wp_ret ?_
        replace hS : Own w0 D R _ [] [] := hS.takeX 0
        replace hS : Own w0 D R _ [] [] := hS.dropS forall0
        obtain rfl := Option.some.inj hM
        refine ret_v (.bool false) (by kernel_rfl) ⟨rfl, hS⟩
    · replace hM := (if_neg (Bool.eq_false_iff.1 hc30)).symm.trans hM
      rw [hc30]
      refine segEnd [(G29 0), .pointer (some ⟨b1, 0, none⟩), .bool false, undef, (G29 2), (G29 3), (G29 4), (G29 5), (G29 6), (G29 7), (G29 8), (G29 9), (G29 10), (G29 11), (G29 12), (G29 13), (G29 14), .pointer (some ⟨b1, 0, none⟩), .int .i64 p0_0, .bool false, .bool false, undef, undef, undef, .bool false, .bool false, undef, undef, undef, .bool false] (by kernel_rfl) ?_
      refine then_normal ?_
      refine wp_ret ?_
      replace hS : Own w0 D R _ [] [] := hS.takeX 0
      replace hS : Own w0 D R _ [] [] := hS.dropS forall0
      obtain rfl := Option.some.inj hM
      refine ret_v (.bool false) (by kernel_rfl) ⟨rfl, hS⟩

theorem keys_Bytes_W {w0 w : World} {D R : Nat → Prop} {p0_0 : Int} {p0_1 : Int} {p0_2 : Int} {p0_3 : Int} {p0_4 : Int} {p0_5 : Int} {r0 : List Int} (hS : Own w0 D R w [] []) (hD : ∀ b, ¬ D b) (hM : keys_Bytes_M p0_0 p0_1 p0_2 p0_3 p0_4 p0_5 = some r0) :
    Calls Go.Proofs.Try.prog 11 #[.agg #[.int .i64 p0_0, .int .i64 p0_1, .int .i64 p0_2, .int .i64 p0_3, .int .i64 p0_4, .int .i64 p0_5]] w (fun e w' => ∃ (ZA1 : Option Addr) (Zc2 : Nat), e = .returned (.slice ZA1 r0.length Zc2) ∧ Own w0 D R w' [rowA (Enc.int .u8) ZA1 Zc2 r0] []) := by
  refine enter (fn := Go.Proofs.Try.f11) [.agg #[.int .i64 p0_0, .int .i64 p0_1, .int .i64 p0_2, .int .i64 p0_3, .int .i64 p0_4, .int .i64 p0_5], undef, undef, undef, undef, undef, undef, undef, undef, undef, undef, undef, undef, undef, undef, undef, undef, undef, undef] (by kernel_rfl) rfl (by kernel_rfl) ?_
  unfold keys_Bytes_M at hM
  refine wp_seq ?_
  refine wp_reg ?_
  refine s_box (.tmp 0) 23 [.int .i64 p0_0, .int .i64 p0_1, .int .i64 p0_2, .int .i64 p0_3, .int .i64 p0_4, .int .i64 p0_5] (.agg #[.int .i64 p0_0, .int .i64 p0_1, .int .i64 p0_2, .int .i64 p0_3, .int .i64 p0_4, .int .i64 p0_5]) rfl (by kernel_rfl) rfl (by kernel_rfl) hS (fun b1 _ hS => ?_)
  refine segEnd [.agg #[.int .i64 p0_0, .int .i64 p0_1, .int .i64 p0_2, .int .i64 p0_3, .int .i64 p0_4, .int .i64 p0_5], .pointer (some ⟨b1, 0, none⟩), .slice none 0 0, undef, undef, undef, undef, undef, undef, undef, undef, undef, undef, undef, undef, undef, undef, undef, undef] (by kernel_rfl) ?_
  refine then_normal ?_
  refine wp_seq ?_
  refine wp_seq ?_
  refine wp_reg ?_
  refine s_load_box (.tmp 1) 23 b1 0 6 [.int .i64 p0_0, .int .i64 p0_1, .int .i64 p0_2, .int .i64 p0_3, .int .i64 p0_4, .int .i64 p0_5] [.int .i64 p0_0, .int .i64 p0_1, .int .i64 p0_2, .int .i64 p0_3, .int .i64 p0_4, .int .i64 p0_5] (.agg #[.int .i64 p0_0, .int .i64 p0_1, .int .i64 p0_2, .int .i64 p0_3, .int .i64 p0_4, .int .i64 p0_5]) rfl (by kernel_rfl) (by kernel_rfl) (hS.box_mem (List.Mem.head _)) rfl rfl (Or.inl ⟨by kernel_rfl, by kernel_rfl, rfl⟩) ?_
  replace hM := bind_some hM
  obtain ⟨v2, h3, hM⟩ := hM
  have hP := Own.pre (Xi := []) (X := [boxA b1 [.int .i64 p0_0, .int .i64 p0_1, .int .i64 p0_2, .int .i64 p0_3, .int .i64 p0_4, .int .i64 p0_5]]) (Si := []) hS forall0 forall0
  refine s_call 8 #[.agg #[.int .i64 p0_0, .int .i64 p0_1, .int .i64 p0_2, .int .i64 p0_3, .int .i64 p0_4, .int .i64 p0_5]] (by kernel_rfl) (by kernel_rfl) ((keys_Valid_W hP doms_nil h3).mono ?_)
  rintro _ _ ⟨rfl, hQ⟩
  replace hS : Own w0 D R _ [boxA b1 [.int .i64 p0_0, .int .i64 p0_1, .int .i64 p0_2, .int .i64 p0_3, .int .i64 p0_4, .int .i64 p0_5]] [] := hS.post hQ (.inl rfl)
  clear hP hQ
  refine ⟨_, rfl, ?_⟩
  refine segEnd [.agg #[.int .i64 p0_0, .int .i64 p0_1, .int .i64 p0_2, .int .i64 p0_3, .int .i64 p0_4, .int .i64 p0_5], .pointer (some ⟨b1, 0, none⟩), .slice none 0 0, undef, undef, undef, .agg #[.int .i64 p0_0, .int .i64 p0_1, .int .i64 p0_2, .int .i64 p0_3, .int .i64 p0_4, .int .i64 p0_5], .bool v2, .bool (!v2), undef, undef, undef, undef, undef, undef, undef, undef, undef, undef] (by kernel_rfl) ?_
  refine then_normal ?_
  refine wp_cond_split (t := !v2) (by kernel_rfl) (fun hc4 => ?_) (fun hc4 => ?_)
  · replace hM := (if_pos hc4).symm.trans hM
    refine wp_seq ?_
    refine wp_reg ?_
    refine segEnd [.agg #[.int .i64 p0_0, .int .i64 p0_1, .int .i64 p0_2, .int .i64 p0_3, .int .i64 p0_4, .int .i64 p0_5], .pointer (some ⟨b1, 0, none⟩), .slice none 0 0, undef, undef, undef, .agg #[.int .i64 p0_0, .int .i64 p0_1, .int .i64 p0_2, .int .i64 p0_3, .int .i64 p0_4, .int .i64 p0_5], .bool v2, .bool (!v2), undef, undef, undef, undef, undef, undef, undef, undef, undef, undef] (by kernel_rfl) ?_
    refine then_normal ?_
    refine wp_ret ?_
    refine then_ret ?_
    replace hS : Own w0 D R _ [rowA (Enc.int .u8) none 0 [], boxA b1 [.int .i64 p0_0, .int .i64 p0_1, .int .i64 p0_2, .int .i64 p0_3, .int .i64 p0_4, .int .i64 p0_5]] [] := hS.addNil (Enc.int .u8)
    replace hS : Own w0 D R _ [rowA (Enc.int .u8) none 0 []] [] := hS.takeX 1
    replace hS : Own w0 D R _ [rowA (Enc.int .u8) none 0 []] [] := hS.dropS forall0
    obtain rfl := Option.some.inj hM
    refine ret_v (.slice none 0 0) (by kernel_rfl) ⟨none, 0, rfl, hS⟩
  · replace hM := (if_neg (Bool.eq_false_iff.1 hc4)).symm.trans hM
    refine wp_skip ?_
    refine then_normal ?_
    refine wp_seq ?_
    refine wp_reg ?_
    refine segEnd [.agg #[.int .i64 p0_0, .int .i64 p0_1, .int .i64 p0_2, .int .i64 p0_3, .int .i64 p0_4, .int .i64 p0_5], .pointer (some ⟨b1, 0, none⟩), .slice none 0 0, .slice none 0 0, undef, undef, .agg #[.int .i64 p0_0, .int .i64 p0_1, .int .i64 p0_2, .int .i64 p0_3, .int .i64 p0_4, .int .i64 p0_5], .bool v2, .bool (!v2), undef, undef, undef, undef, undef, undef, undef, undef, undef, undef] (by kernel_rfl) ?_
    refine then_normal ?_
    refine wp_join (fun a w => ∃ (A52 : Option Addr) (c53 : Nat) (G55 : Nat → Value) (l54 : List Int), a = Fr [(G55 0), (G55 1), (G55 2), .slice A52 l54.length c53, undef, (G55 3), (G55 4), (G55 5), (G55 6), (G55 7), (G55 8), (G55 9), (G55 10), (G55 11), (G55 12), (G55 13), (G55 14), (G55 15), undef] ∧ Own w0 D R w [rowA (Enc.int .u8) A52 c53 l54] [] ∧ keys_Bytes_J1 l54 = some r0) ?_ ?_
    ·
      refine wp_seq ?_
      refine wp_reg ?_
      refine s_load_box (.tmp 1) 23 b1 0 6 [.int .i64 p0_0, .int .i64 p0_1, .int .i64 p0_2, .int .i64 p0_3, .int .i64 p0_4, .int .i64 p0_5] [.int .i64 p0_0, .int .i64 p0_1, .int .i64 p0_2, .int .i64 p0_3, .int .i64 p0_4, .int .i64 p0_5] (.agg #[.int .i64 p0_0, .int .i64 p0_1, .int .i64 p0_2, .int .i64 p0_3, .int .i64 p0_4, .int .i64 p0_5]) rfl (by kernel_rfl) (by kernel_rfl) (hS.box_mem (List.Mem.head _)) rfl rfl (Or.inl ⟨by kernel_rfl, by kernel_rfl, rfl⟩) ?_
      replace hM := bind_some hM
      obtain ⟨⟨v5, v6, v7, v8, v9, v10⟩, h11, hM⟩ := hM
      have hP := Own.pre (Xi := []) (X := [boxA b1 [.int .i64 p0_0, .int .i64 p0_1, .int .i64 p0_2, .int .i64 p0_3, .int .i64 p0_4, .int .i64 p0_5]]) (Si := []) hS forall0 forall0
      refine s_call 19 #[.agg #[.int .i64 p0_0, .int .i64 p0_1, .int .i64 p0_2, .int .i64 p0_3, .int .i64 p0_4, .int .i64 p0_5]] (by kernel_rfl) (by kernel_rfl) ((keys_numbers_W hP doms_nil h11).mono ?_)
      rintro _ _ ⟨rfl, hQ⟩
      replace hS : Own w0 D R _ [boxA b1 [.int .i64 p0_0, .int .i64 p0_1, .int .i64 p0_2, .int .i64 p0_3, .int .i64 p0_4, .int .i64 p0_5]] [] := hS.post hQ (.inl rfl)
      clear hP hQ
      refine ⟨_, rfl, ?_⟩
      refine segEnd [.agg #[.int .i64 p0_0, .int .i64 p0_1, .int .i64 p0_2, .int .i64 p0_3, .int .i64 p0_4, .int .i64 p0_5], .pointer (some ⟨b1, 0, none⟩), .slice none 0 0, .slice none 0 0, undef, undef, .agg #[.int .i64 p0_0, .int .i64 p0_1, .int .i64 p0_2, .int .i64 p0_3, .int .i64 p0_4, .int .i64 p0_5], .bool v2, .bool (!v2), .agg #[.int .i64 p0_0, .int .i64 p0_1, .int .i64 p0_2, .int .i64 p0_3, .int .i64 p0_4, .int .i64 p0_5], .agg #[.int .i64 v5, .int .i64 v6, .int .i64 v7, .int .i64 v8, .int .i64 v9, .int .i64 v10], .int .i64 0, undef, undef, undef, undef, undef, undef, undef] (by kernel_rfl) ?_
      refine then_normal ?_
      refine wp_block ?_
      replace hM := bind_some hM
      obtain ⟨q37, hL38, hM⟩ := hM
      replace hS : Own w0 D R _ [rowA (Enc.int .u8) none 0 [], boxA b1 [.int .i64 p0_0, .int .i64 p0_1, .int .i64 p0_2, .int .i64 p0_3, .int .i64 p0_4, .int .i64 p0_5]] [] := hS.addNil (Enc.int .u8)
      replace hS : Own w0 D R _ [rowA (Enc.int .u8) none 0 []] [] := hS.takeX 1
      refine wp_loop_model (fun (s : ((List Int) × Int)) a w => ∃ (A39 : Option Addr) (c40 : Nat) (G43 : Nat → Value) (l41 : List Int) (x42 : Int), s = (l41, x42) ∧ a = Fr [(G43 0), (G43 1), (G43 2), .slice A39 l41.length c40, undef, (G43 3), (G43 4), (G43 5), (G43 6), (G43 7), .agg #[.int .i64 v5, .int .i64 v6, .int .i64 v7, .int .i64 v8, .int .i64 v9, .int .i64 v10], .int .i64 x42, (G43 8), (G43 9), (G43 10), (G43 11), (G43 12), (G43 13), undef] ∧ Own w0 D R w [rowA (Enc.int .u8) A39 c40 l41] []) ?_ hL38 ?_
      · rintro _ a w ⟨A39, c40, G43, l41, x42, rfl, rfl, hS⟩ o35 hM1 hout36
        replace hM1 : keys_Bytes_L1 v5 v6 v7 v8 v9 v10 l41 x42 = some o35 := hM1
        unfold keys_Bytes_L1 at hM1
        refine wp_seq ?_
        refine wp_reg ?_
        refine segEnd [(G43 0), (G43 1), (G43 2), .slice A39 l41.length c40, undef, (G43 3), (G43 4), (G43 5), (G43 6), (G43 7), .agg #[.int .i64 v5, .int .i64 v6, .int .i64 v7, .int .i64 v8, .int .i64 v9, .int .i64 v10], .int .i64 x42, .bool (decide (x42 < 6)), (G43 9), (G43 10), (G43 11), (G43 12), (G43 13), undef] (by kernel_rfl) ?_
        refine then_normal ?_
        refine wp_seq ?_
        refine wp_cond_split (t := decide (x42 < 6)) (by kernel_rfl) (fun hc44 => ?_) (fun hc44 => ?_)
        · replace hM1 := (if_pos hc44).symm.trans hM1
          refine wp_skip ?_
          refine then_normal ?_
          refine wp_seq ?_
          refine wp_block ?_
          refine wp_seq ?_
          refine wp_reg ?_
          replace hM1 := bind_some hM1
          obtain ⟨y45, h46, hM1⟩ := hM1
          have hi47 := ix_some h46
          refine s_index_arr (e := (Enc.int .i64)) (.tmp 10) (.tmp 11) 40 3 6 8 .i64 x42 [v5, v6, v7, v8, v9, v10] y45 rfl rfl (by kernel_rfl) el3 (by kernel_rfl) (by kernel_rfl) rfl (by kernel_rfl) hi47.1 hi47.2.2 ?_
          refine segEnd [(G43 0), (G43 1), (G43 2), .slice A39 l41.length c40, undef, .int .i64 y45, (G43 4), (G43 5), (G43 6), (G43 7), .agg #[.int .i64 v5, .int .i64 v6, .int .i64 v7, .int .i64 v8, .int .i64 v9, .int .i64 v10], .int .i64 x42, .bool (decide (x42 < 6)), .int .i64 y45, (G43 10), (G43 11), (G43 12), (G43 13), undef] (by kernel_rfl) ?_
          refine then_normal ?_
          refine wp_reg ?_
          refine seg 2 [(G43 0), (G43 1), (G43 2), .slice A39 l41.length c40, undef, .int .i64 y45, (G43 4), (G43 5), (G43 6), (G43 7), .agg #[.int .i64 v5, .int .i64 v6, .int .i64 v7, .int .i64 v8, .int .i64 v9, .int .i64 v10], .int .i64 x42, .bool (decide (x42 < 6)), .int .i64 y45, .slice A39 l41.length c40, .int .i64 y45, (G43 12), (G43 13), undef] (by kernel_rfl) ?_
          replace hM1 := bind_some hM1
          obtain ⟨v48, h51, hM1⟩ := hM1
          have hP := Own.pre (Xi := []) (X := [rowA (Enc.int .u8) A39 c40 l41]) (Si := [slA (blkOf A39) (Enc.int .u8) A39 c40 l41]) hS (forall2 (sl_of_row (hS.row_mem (List.Mem.head _))) forall0) (forall2 (fun _ h => .inr ⟨_, (List.Mem.head _), h⟩) forall0)
          refine s_call 21 #[.slice A39 l41.length c40, .int .i64 y45] (by kernel_rfl) (by kernel_rfl) ((pack_PutNum_W hP doms_nil h51).mono ?_)
          rintro _ _ ⟨A49, c50, rfl, hQ⟩
          replace hS : Own w0 D R _ [rowA (Enc.int .u8) A49 c50 v48, rowA (Enc.int .u8) A39 c40 l41] [] := hS.post hQ (.inl rfl)
          clear hP hQ
          refine ⟨_, rfl, ?_⟩
          refine segEnd [(G43 0), (G43 1), (G43 2), .slice A49 v48.length c50, undef, .int .i64 y45, (G43 4), (G43 5), (G43 6), (G43 7), .agg #[.int .i64 v5, .int .i64 v6, .int .i64 v7, .int .i64 v8, .int .i64 v9, .int .i64 v10], .int .i64 x42, .bool (decide (x42 < 6)), .int .i64 y45, .slice A39 l41.length c40, .int .i64 y45, .slice A49 v48.length c50, (G43 13), undef] (by kernel_rfl) ?_
          refine in_normal ?_
          refine then_normal ?_
          refine wp_reg ?_
          refine segEnd [(G43 0), (G43 1), (G43 2), .slice A49 v48.length c50, undef, .int .i64 y45, (G43 4), (G43 5), (G43 6), (G43 7), .agg #[.int .i64 v5, .int .i64 v6, .int .i64 v7, .int .i64 v8, .int .i64 v9, .int .i64 v10], .int .i64 (IntKind.i64.wrap (x42 + 1)), .bool (decide (x42 < 6)), .int .i64 y45, .slice A39 l41.length c40, .int .i64 y45, .slice A49 v48.length c50, .int .i64 (IntKind.i64.wrap (x42 + 1)), undef] (by kernel_rfl) ?_
          refine then_normal ?_
          replace hS : Own w0 D R _ [rowA (Enc.int .u8) A49 c50 v48] [] := hS.takeX 1
          exact ⟨(v48, (IntKind.i64.wrap (x42 + 1))), (Option.some.inj hM1).symm, A49, c50, (fun i => ([(G43 0), (G43 1), (G43 2), .int .i64 y45, (G43 4), (G43 5), (G43 6), (G43 7), .bool (decide (x42 < 6)), .int .i64 y45, .slice A39 l41.length c40, .int .i64 y45, .slice A49 v48.length c50, .int .i64 (IntKind.i64.wrap (x42 + 1))] : List Value).getD i undef), v48, (IntKind.i64.wrap (x42 + 1)), rfl, (by kernel_rfl), hS⟩
        · replace hM1 := (if_neg (Bool.eq_false_iff.1 hc44)).symm.trans hM1
          refine wp_exit ?_
          refine then_exit ?_
          refine then_exit ?_
          have hr57 := hout36 _ (Option.some.inj hM1).symm
          subst hr57
          refine in_exit_eq ?_
          refine then_normal ?_
          exact ⟨A39, c40, (fun i => ([(G43 0), (G43 1), (G43 2), (G43 3), (G43 4), (G43 5), (G43 6), (G43 7), .agg #[.int .i64 v5, .int .i64 v6, .int .i64 v7, .int .i64 v8, .int .i64 v9, .int .i64 v10], .int .i64 x42, .bool (decide (x42 < 6)), (G43 9), (G43 10), (G43 11), (G43 12), (G43 13)] : List Value).getD i undef), l41, (by kernel_rfl), hS, hM⟩
      · exact ⟨none, 0, (fun i => ([.agg #[.int .i64 p0_0, .int .i64 p0_1, .int .i64 p0_2, .int .i64 p0_3, .int .i64 p0_4, .int .i64 p0_5], .pointer (some ⟨b1, 0, none⟩), .slice none 0 0, undef, .agg #[.int .i64 p0_0, .int .i64 p0_1, .int .i64 p0_2, .int .i64 p0_3, .int .i64 p0_4, .int .i64 p0_5], .bool v2, .bool (!v2), .agg #[.int .i64 p0_0, .int .i64 p0_1, .int .i64 p0_2, .int .i64 p0_3, .int .i64 p0_4, .int .i64 p0_5], undef, undef, undef, undef, undef, undef] : List Value).getD i undef), [], 0, rfl, (by kernel_rfl), hS⟩
    · rintro a w ⟨A52, c53, G55, l54, rfl, hS, hM⟩
      unfold keys_Bytes_J1 at hM
      refine wp_seq ?_
      refine wp_reg ?_
      refine segEnd [(G55 0), (G55 1), .slice A52 l54.length c53, .slice A52 l54.length c53, undef, (G55 3), (G55 4), (G55 5), (G55 6), (G55 7), (G55 8), (G55 9), (G55 10), (G55 11), (G55 12), (G55 13), (G55 14), (G55 15), .slice A52 l54.length c53] (by kernel_rfl) ?_
      refine then_normal ?_
      refine wp_ret ?_
      replace hS : Own w0 D R _ [rowA (Enc.int .u8) A52 c53 l54] [] := hS.dropS forall0
      obtain rfl := Option.some.inj hM
      refine ret_v (.slice A52 l54.length c53) (by kernel_rfl) ⟨A52, c53, rfl, hS⟩

end Go.Proofs.Ytcpddgjmopdlbaa
