/- The Go functions come to what their models say (RKeys). -/
import Derived.Test.YtcpddgjmopdlbaaTy
import Derived.Test.YtcpddgjmopdlbaaMRKeys
import Derived.Test.YtcpddgjmopdlbaaFRef
namespace Go.Proofs.Ytcpddgjmopdlbaa
open Go Go.Lift
set_option maxRecDepth 100000
set_option maxHeartbeats 4000000
set_option linter.unusedVariables false

theorem intaglioref07_in_W {w0 w : World} {D R : Nat → Prop} {p0 : Int} {r0 : Bool} (hS : Own w0 D R w [] []) (hD : ∀ b, ¬ D b) (hM : intaglioref07_in_M p0 = some r0) :
    Calls Go.Proofs.Try.prog 20 #[.int .i64 p0] w (fun e w' => e = .returned (.bool r0) ∧ Own w0 D R w' [] []) := by
  refine enter (fn := Go.Proofs.Try.f20) [.int .i64 p0, undef, undef, undef, undef, undef, undef, undef, undef] (by kernel_rfl) rfl (by kernel_rfl) ?_
  unfold intaglioref07_in_M at hM
  refine wp_seq ?_
  refine wp_reg ?_
  refine segEnd [.int .i64 p0, undef, .bool false, undef, undef, undef, undef, undef, undef] (by kernel_rfl) ?_
  refine then_normal ?_
  refine wp_seq ?_
  refine wp_reg ?_
  refine seg 3 [.int .i64 p0, undef, .bool false, .int .i64 p0, .bool (decide (p0 ≥ 0)), .bool (decide (p0 ≥ 0)), undef, undef, undef] (by kernel_rfl) ?_
  rcases Bool.eq_false_or_eq_true (decide (p0 ≥ 0)) with hc1 | hc1
  · replace hM := (if_pos hc1).symm.trans hM
    rw [hc1]
    refine segEnd [.int .i64 p0, undef, .bool (decide (p0 ≤ 1099511627776)), .int .i64 p0, .bool true, .bool true, .int .i64 p0, .bool (decide (p0 ≤ 1099511627776)), .bool (decide (p0 ≤ 1099511627776))] (by kernel_rfl) ?_
    refine then_normal ?_
    refine wp_ret ?_
    replace hS : Own w0 D R _ [] [] := hS.dropS forall0
    obtain rfl := Option.some.inj hM
    refine ret_v (.bool (decide (p0 ≤ 1099511627776))) (by kernel_rfl) ⟨rfl, hS⟩
  · replace hM := (if_neg (Bool.eq_false_iff.1 hc1)).symm.trans hM
    rw [hc1]
    refine segEnd [.int .i64 p0, undef, .bool false, .int .i64 p0, .bool false, .bool false, undef, undef, .bool false] (by kernel_rfl) ?_
    refine then_normal ?_
    refine wp_ret ?_
    replace hS : Own w0 D R _ [] [] := hS.dropS forall0
    obtain rfl := Option.some.inj hM
    refine ret_v (.bool false) (by kernel_rfl) ⟨rfl, hS⟩

theorem intaglioref07_Valid_W {w0 w : World} {D R : Nat → Prop} {p0_0 : Int} {p0_1 : Int} {p0_2 : Int} {p0_3 : Int} {p0_4 : Int} {p0_5 : Int} {r0 : Bool} (hS : Own w0 D R w [] []) (hD : ∀ b, ¬ D b) (hM : intaglioref07_Valid_M p0_0 p0_1 p0_2 p0_3 p0_4 p0_5 = some r0) :
    Calls Go.Proofs.Try.prog 9 #[.agg #[.int .i64 p0_0, .int .i64 p0_1, .int .i64 p0_2, .int .i64 p0_3, .int .i64 p0_4, .int .i64 p0_5]] w (fun e w' => e = .returned (.bool r0) ∧ Own w0 D R w' [] []) := by
  refine enter (fn := Go.Proofs.Try.f9) [.agg #[.int .i64 p0_0, .int .i64 p0_1, .int .i64 p0_2, .int .i64 p0_3, .int .i64 p0_4, .int .i64 p0_5], undef, undef, undef, undef, undef, undef, undef, undef, undef, undef, undef, undef, undef, undef, undef, undef, undef, undef, undef, undef, undef, undef, undef, undef, undef, undef, undef, undef, undef, undef, undef, undef, undef, undef, undef, undef, undef, undef, undef, undef] (by kernel_rfl) rfl (by kernel_rfl) ?_
  unfold intaglioref07_Valid_M at hM
  refine wp_seq ?_
  refine wp_reg ?_
  refine s_box (.tmp 0) 23 [.int .i64 p0_0, .int .i64 p0_1, .int .i64 p0_2, .int .i64 p0_3, .int .i64 p0_4, .int .i64 p0_5] (.agg #[.int .i64 p0_0, .int .i64 p0_1, .int .i64 p0_2, .int .i64 p0_3, .int .i64 p0_4, .int .i64 p0_5]) rfl (by kernel_rfl) rfl (by kernel_rfl) hS (fun b1 _ hS => ?_)
  refine segEnd [.agg #[.int .i64 p0_0, .int .i64 p0_1, .int .i64 p0_2, .int .i64 p0_3, .int .i64 p0_4, .int .i64 p0_5], .pointer (some ⟨b1, 0, none⟩), .bool false, undef, undef, undef, undef, undef, undef, undef, undef, undef, undef, undef, undef, undef, undef, undef, undef, undef, undef, undef, undef, undef, undef, undef, undef, undef, undef, undef, undef, undef, undef, undef, undef, undef, undef, undef, undef, undef, undef] (by kernel_rfl) ?_
  refine then_normal ?_
  refine wp_join (fun a w => ∃ (G18 : Nat → Value) (x17 : Bool), a = Fr [(G18 0), (G18 1), .bool x17, (G18 2), (G18 3), (G18 4), (G18 5), (G18 6), (G18 7), (G18 8), (G18 9), (G18 10), (G18 11), (G18 12), (G18 13), (G18 14), (G18 15), (G18 16), (G18 17), (G18 18), (G18 19), (G18 20), (G18 21), (G18 22), (G18 23), (G18 24), (G18 25), (G18 26), (G18 27), (G18 28), (G18 29), (G18 30), (G18 31), (G18 32), (G18 33), (G18 34), (G18 35), (G18 36), (G18 37), (G18 38), (G18 39)] ∧ Own w0 D R w [] [] ∧ intaglioref07_Valid_J1 x17 = some r0) ?_ ?_
  ·
    refine wp_reg ?_
    refine seg 1 [.agg #[.int .i64 p0_0, .int .i64 p0_1, .int .i64 p0_2, .int .i64 p0_3, .int .i64 p0_4, .int .i64 p0_5], .pointer (some ⟨b1, 0, none⟩), .bool false, .pointer (some ⟨b1, 0, none⟩), undef, undef, undef, undef, undef, undef, undef, undef, undef, undef, undef, undef, undef, undef, undef, undef, undef, undef, undef, undef, undef, undef, undef, undef, undef, undef, undef, undef, undef, undef, undef, undef, undef, undef, undef, undef, undef] (by kernel_rfl) ?_
    refine s_load_box (.tmp 3) 3 b1 0 1 [.int .i64 p0_0, .int .i64 p0_1, .int .i64 p0_2, .int .i64 p0_3, .int .i64 p0_4, .int .i64 p0_5] [.int .i64 p0_0] (.int .i64 p0_0) rfl (by kernel_rfl) (by kernel_rfl) (hS.box_mem (List.Mem.head _)) rfl rfl (Or.inr ⟨by kernel_rfl, rfl⟩) ?_
    refine seg 2 [.agg #[.int .i64 p0_0, .int .i64 p0_1, .int .i64 p0_2, .int .i64 p0_3, .int .i64 p0_4, .int .i64 p0_5], .pointer (some ⟨b1, 0, none⟩), .bool false, .pointer (some ⟨b1, 0, none⟩), .int .i64 p0_0, .bool (decide (p0_0 ≥ 1)), .bool (decide (p0_0 ≥ 1)), undef, undef, undef, undef, undef, undef, undef, undef, undef, undef, undef, undef, undef, undef, undef, undef, undef, undef, undef, undef, undef, undef, undef, undef, undef, undef, undef, undef, undef, undef, undef, undef, undef, undef] (by kernel_rfl) ?_
    rcases Bool.eq_false_or_eq_true (decide (p0_0 ≥ 1)) with hc2 | hc2
    · replace hM := (if_pos hc2).symm.trans hM
      rw [hc2]
      refine seg 1 [.agg #[.int .i64 p0_0, .int .i64 p0_1, .int .i64 p0_2, .int .i64 p0_3, .int .i64 p0_4, .int .i64 p0_5], .pointer (some ⟨b1, 0, none⟩), .bool false, .pointer (some ⟨b1, 0, none⟩), .int .i64 p0_0, .bool true, .bool true, .pointer (some ⟨b1, 0, none⟩), undef, undef, undef, undef, undef, undef, undef, undef, undef, undef, undef, undef, undef, undef, undef, undef, undef, undef, undef, undef, undef, undef, undef, undef, undef, undef, undef, undef, undef, undef, undef, undef, undef] (by kernel_rfl) ?_
      refine s_load_box (.tmp 7) 3 b1 0 1 [.int .i64 p0_0, .int .i64 p0_1, .int .i64 p0_2, .int .i64 p0_3, .int .i64 p0_4, .int .i64 p0_5] [.int .i64 p0_0] (.int .i64 p0_0) rfl (by kernel_rfl) (by kernel_rfl) (hS.box_mem (List.Mem.head _)) rfl rfl (Or.inr ⟨by kernel_rfl, rfl⟩) ?_
      refine seg 3 [.agg #[.int .i64 p0_0, .int .i64 p0_1, .int .i64 p0_2, .int .i64 p0_3, .int .i64 p0_4, .int .i64 p0_5], .pointer (some ⟨b1, 0, none⟩), .bool false, .pointer (some ⟨b1, 0, none⟩), .int .i64 p0_0, .bool true, .bool true, .pointer (some ⟨b1, 0, none⟩), .int .i64 p0_0, .bool (decide (p0_0 ≤ 6)), .bool (decide (p0_0 ≤ 6)), .bool (decide (p0_0 ≤ 6)), undef, undef, undef, undef, undef, undef, undef, undef, undef, undef, undef, undef, undef, undef, undef, undef, undef, undef, undef, undef, undef, undef, undef, undef, undef, undef, undef, undef, undef] (by kernel_rfl) ?_
      rcases Bool.eq_false_or_eq_true (decide (p0_0 ≤ 6)) with hc3 | hc3
      · replace hM := (if_pos hc3).symm.trans hM
        rw [hc3]
        refine seg 1 [.agg #[.int .i64 p0_0, .int .i64 p0_1, .int .i64 p0_2, .int .i64 p0_3, .int .i64 p0_4, .int .i64 p0_5], .pointer (some ⟨b1, 0, none⟩), .bool false, .pointer (some ⟨b1, 0, none⟩), .int .i64 p0_0, .bool true, .bool true, .pointer (some ⟨b1, 0, none⟩), .int .i64 p0_0, .bool true, .bool true, .bool true, .pointer (some ⟨b1, 1, none⟩), undef, undef, undef, undef, undef, undef, undef, undef, undef, undef, undef, undef, undef, undef, undef, undef, undef, undef, undef, undef, undef, undef, undef, undef, undef, undef, undef, undef] (by kernel_rfl) ?_
        refine s_load_box (.tmp 12) 3 b1 1 1 [.int .i64 p0_0, .int .i64 p0_1, .int .i64 p0_2, .int .i64 p0_3, .int .i64 p0_4, .int .i64 p0_5] [.int .i64 p0_1] (.int .i64 p0_1) rfl (by kernel_rfl) (by kernel_rfl) (hS.box_mem (List.Mem.head _)) rfl rfl (Or.inr ⟨by kernel_rfl, rfl⟩) ?_
        replace hM := bind_some hM
        obtain ⟨v4, h5, hM⟩ := hM
        have hP := Own.pre (Xi := []) (X := [boxA b1 [.int .i64 p0_0, .int .i64 p0_1, .int .i64 p0_2, .int .i64 p0_3, .int .i64 p0_4, .int .i64 p0_5]]) (Si := []) hS forall0 forall0
        refine s_call 20 #[.int .i64 p0_1] (by kernel_rfl) (by kernel_rfl) ((intaglioref07_in_W hP doms_nil h5).mono ?_)
        rintro _ _ ⟨rfl, hQ⟩
        replace hS : Own w0 D R _ [boxA b1 [.int .i64 p0_0, .int .i64 p0_1, .int .i64 p0_2, .int .i64 p0_3, .int .i64 p0_4, .int .i64 p0_5]] [] := hS.post hQ (.inl rfl)
        clear hP hQ
        refine ⟨_, rfl, ?_⟩
        refine seg 2 [.agg #[.int .i64 p0_0, .int .i64 p0_1, .int .i64 p0_2, .int .i64 p0_3, .int .i64 p0_4, .int .i64 p0_5], .pointer (some ⟨b1, 0, none⟩), .bool false, .pointer (some ⟨b1, 0, none⟩), .int .i64 p0_0, .bool true, .bool true, .pointer (some ⟨b1, 0, none⟩), .int .i64 p0_0, .bool true, .bool true, .bool true, .pointer (some ⟨b1, 1, none⟩), .int .i64 p0_1, .bool v4, .bool v4, .bool v4, undef, undef, undef, undef, undef, undef, undef, undef, undef, undef, undef, undef, undef, undef, undef, undef, undef, undef, undef, undef, undef, undef, undef, undef] (by kernel_rfl) ?_
        rcases Bool.eq_false_or_eq_true v4 with hc6 | hc6
        · replace hM := (if_pos hc6).symm.trans hM
          rw [hc6]
          refine seg 1 [.agg #[.int .i64 p0_0, .int .i64 p0_1, .int .i64 p0_2, .int .i64 p0_3, .int .i64 p0_4, .int .i64 p0_5], .pointer (some ⟨b1, 0, none⟩), .bool false, .pointer (some ⟨b1, 0, none⟩), .int .i64 p0_0, .bool true, .bool true, .pointer (some ⟨b1, 0, none⟩), .int .i64 p0_0, .bool true, .bool true, .bool true, .pointer (some ⟨b1, 1, none⟩), .int .i64 p0_1, .bool true, .bool true, .bool true, .pointer (some ⟨b1, 2, none⟩), undef, undef, undef, undef, undef, undef, undef, undef, undef, undef, undef, undef, undef, undef, undef, undef, undef, undef, undef, undef, undef, undef, undef] (by kernel_rfl) ?_
          refine s_load_box (.tmp 17) 3 b1 2 1 [.int .i64 p0_0, .int .i64 p0_1, .int .i64 p0_2, .int .i64 p0_3, .int .i64 p0_4, .int .i64 p0_5] [.int .i64 p0_2] (.int .i64 p0_2) rfl (by kernel_rfl) (by kernel_rfl) (hS.box_mem (List.Mem.head _)) rfl rfl (Or.inr ⟨by kernel_rfl, rfl⟩) ?_
          replace hM := bind_some hM
          obtain ⟨v7, h8, hM⟩ := hM
          have hP := Own.pre (Xi := []) (X := [boxA b1 [.int .i64 p0_0, .int .i64 p0_1, .int .i64 p0_2, .int .i64 p0_3, .int .i64 p0_4, .int .i64 p0_5]]) (Si := []) hS forall0 forall0
          refine s_call 20 #[.int .i64 p0_2] (by kernel_rfl) (by kernel_rfl) ((intaglioref07_in_W hP doms_nil h8).mono ?_)
          rintro _ _ ⟨rfl, hQ⟩
          replace hS : Own w0 D R _ [boxA b1 [.int .i64 p0_0, .int .i64 p0_1, .int .i64 p0_2, .int .i64 p0_3, .int .i64 p0_4, .int .i64 p0_5]] [] := hS.post hQ (.inl rfl)
          clear hP hQ
          refine ⟨_, rfl, ?_⟩
          refine seg 2 [.agg #[.int .i64 p0_0, .int .i64 p0_1, .int .i64 p0_2, .int .i64 p0_3, .int .i64 p0_4, .int .i64 p0_5], .pointer (some ⟨b1, 0, none⟩), .bool false, .pointer (some ⟨b1, 0, none⟩), .int .i64 p0_0, .bool true, .bool true, .pointer (some ⟨b1, 0, none⟩), .int .i64 p0_0, .bool true, .bool true, .bool true, .pointer (some ⟨b1, 1, none⟩), .int .i64 p0_1, .bool true, .bool true, .bool true, .pointer (some ⟨b1, 2, none⟩), .int .i64 p0_2, .bool v7, .bool v7, .bool v7, undef, undef, undef, undef, undef, undef, undef, undef, undef, undef, undef, undef, undef, undef, undef, undef, undef, undef, undef] (by kernel_rfl) ?_
          rcases Bool.eq_false_or_eq_true v7 with hc9 | hc9
          · replace hM := (if_pos hc9).symm.trans hM
            rw [hc9]
            refine seg 1 [.agg #[.int .i64 p0_0, .int .i64 p0_1, .int .i64 p0_2, .int .i64 p0_3, .int .i64 p0_4, .int .i64 p0_5], .pointer (some ⟨b1, 0, none⟩), .bool false, .pointer (some ⟨b1, 0, none⟩), .int .i64 p0_0, .bool true, .bool true, .pointer (some ⟨b1, 0, none⟩), .int .i64 p0_0, .bool true, .bool true, .bool true, .pointer (some ⟨b1, 1, none⟩), .int .i64 p0_1, .bool true, .bool true, .bool true, .pointer (some ⟨b1, 2, none⟩), .int .i64 p0_2, .bool true, .bool true, .bool true, .pointer (some ⟨b1, 3, none⟩), undef, undef, undef, undef, undef, undef, undef, undef, undef, undef, undef, undef, undef, undef, undef, undef, undef, undef] (by kernel_rfl) ?_
            refine s_load_box (.tmp 22) 3 b1 3 1 [.int .i64 p0_0, .int .i64 p0_1, .int .i64 p0_2, .int .i64 p0_3, .int .i64 p0_4, .int .i64 p0_5] [.int .i64 p0_3] (.int .i64 p0_3) rfl (by kernel_rfl) (by kernel_rfl) (hS.box_mem (List.Mem.head _)) rfl rfl (Or.inr ⟨by kernel_rfl, rfl⟩) ?_
            replace hM := bind_some hM
            obtain ⟨v10, h11, hM⟩ := hM
            have hP := Own.pre (Xi := []) (X := [boxA b1 [.int .i64 p0_0, .int .i64 p0_1, .int .i64 p0_2, .int .i64 p0_3, .int .i64 p0_4, .int .i64 p0_5]]) (Si := []) hS forall0 forall0
            refine s_call 20 #[.int .i64 p0_3] (by kernel_rfl) (by kernel_rfl) ((intaglioref07_in_W hP doms_nil h11).mono ?_)
            rintro _ _ ⟨rfl, hQ⟩
            replace hS : Own w0 D R _ [boxA b1 [.int .i64 p0_0, .int .i64 p0_1, .int .i64 p0_2, .int .i64 p0_3, .int .i64 p0_4, .int .i64 p0_5]] [] := hS.post hQ (.inl rfl)
            clear hP hQ
            refine ⟨_, rfl, ?_⟩
            refine seg 2 [.agg #[.int .i64 p0_0, .int .i64 p0_1, .int .i64 p0_2, .int .i64 p0_3, .int .i64 p0_4, .int .i64 p0_5], .pointer (some ⟨b1, 0, none⟩), .bool false, .pointer (some ⟨b1, 0, none⟩), .int .i64 p0_0, .bool true, .bool true, .pointer (some ⟨b1, 0, none⟩), .int .i64 p0_0, .bool true, .bool true, .bool true, .pointer (some ⟨b1, 1, none⟩), .int .i64 p0_1, .bool true, .bool true, .bool true, .pointer (some ⟨b1, 2, none⟩), .int .i64 p0_2, .bool true, .bool true, .bool true, .pointer (some ⟨b1, 3, none⟩), .int .i64 p0_3, .bool v10, .bool v10, .bool v10, undef, undef, undef, undef, undef, undef, undef, undef, undef, undef, undef, undef, undef, undef] (by kernel_rfl) ?_
            rcases Bool.eq_false_or_eq_true v10 with hc12 | hc12
            · replace hM := (if_pos hc12).symm.trans hM
              rw [hc12]
              refine seg 1 [.agg #[.int .i64 p0_0, .int .i64 p0_1, .int .i64 p0_2, .int .i64 p0_3, .int .i64 p0_4, .int .i64 p0_5], .pointer (some ⟨b1, 0, none⟩), .bool false, .pointer (some ⟨b1, 0, none⟩), .int .i64 p0_0, .bool true, .bool true, .pointer (some ⟨b1, 0, none⟩), .int .i64 p0_0, .bool true, .bool true, .bool true, .pointer (some ⟨b1, 1, none⟩), .int .i64 p0_1, .bool true, .bool true, .bool true, .pointer (some ⟨b1, 2, none⟩), .int .i64 p0_2, .bool true, .bool true, .bool true, .pointer (some ⟨b1, 3, none⟩), .int .i64 p0_3, .bool true, .bool true, .bool true, .pointer (some ⟨b1, 5, none⟩), undef, undef, undef, undef, undef, undef, undef, undef, undef, undef, undef, undef, undef] (by kernel_rfl) ?_
              refine s_load_box (.tmp 27) 3 b1 5 1 [.int .i64 p0_0, .int .i64 p0_1, .int .i64 p0_2, .int .i64 p0_3, .int .i64 p0_4, .int .i64 p0_5] [.int .i64 p0_5] (.int .i64 p0_5) rfl (by kernel_rfl) (by kernel_rfl) (hS.box_mem (List.Mem.head _)) rfl rfl (Or.inr ⟨by kernel_rfl, rfl⟩) ?_
              replace hM := bind_some hM
              obtain ⟨v13, h14, hM⟩ := hM
              have hP := Own.pre (Xi := []) (X := [boxA b1 [.int .i64 p0_0, .int .i64 p0_1, .int .i64 p0_2, .int .i64 p0_3, .int .i64 p0_4, .int .i64 p0_5]]) (Si := []) hS forall0 forall0
              refine s_call 20 #[.int .i64 p0_5] (by kernel_rfl) (by kernel_rfl) ((intaglioref07_in_W hP doms_nil h14).mono ?_)
              rintro _ _ ⟨rfl, hQ⟩
              replace hS : Own w0 D R _ [boxA b1 [.int .i64 p0_0, .int .i64 p0_1, .int .i64 p0_2, .int .i64 p0_3, .int .i64 p0_4, .int .i64 p0_5]] [] := hS.post hQ (.inl rfl)
              clear hP hQ
              refine ⟨_, rfl, ?_⟩
              refine seg 2 [.agg #[.int .i64 p0_0, .int .i64 p0_1, .int .i64 p0_2, .int .i64 p0_3, .int .i64 p0_4, .int .i64 p0_5], .pointer (some ⟨b1, 0, none⟩), .bool false, .pointer (some ⟨b1, 0, none⟩), .int .i64 p0_0, .bool true, .bool true, .pointer (some ⟨b1, 0, none⟩), .int .i64 p0_0, .bool true, .bool true, .bool true, .pointer (some ⟨b1, 1, none⟩), .int .i64 p0_1, .bool true, .bool true, .bool true, .pointer (some ⟨b1, 2, none⟩), .int .i64 p0_2, .bool true, .bool true, .bool true, .pointer (some ⟨b1, 3, none⟩), .int .i64 p0_3, .bool true, .bool true, .bool true, .pointer (some ⟨b1, 5, none⟩), .int .i64 p0_5, .bool v13, .bool v13, .bool v13, undef, undef, undef, undef, undef, undef, undef, undef, undef] (by kernel_rfl) ?_
              rcases Bool.eq_false_or_eq_true v13 with hc15 | hc15
              · replace hM := (if_pos hc15).symm.trans hM
                rw [hc15]
                refine seg 1 [.agg #[.int .i64 p0_0, .int .i64 p0_1, .int .i64 p0_2, .int .i64 p0_3, .int .i64 p0_4, .int .i64 p0_5], .pointer (some ⟨b1, 0, none⟩), .bool false, .pointer (some ⟨b1, 0, none⟩), .int .i64 p0_0, .bool true, .bool true, .pointer (some ⟨b1, 0, none⟩), .int .i64 p0_0, .bool true, .bool true, .bool true, .pointer (some ⟨b1, 1, none⟩), .int .i64 p0_1, .bool true, .bool true, .bool true, .pointer (some ⟨b1, 2, none⟩), .int .i64 p0_2, .bool true, .bool true, .bool true, .pointer (some ⟨b1, 3, none⟩), .int .i64 p0_3, .bool true, .bool true, .bool true, .pointer (some ⟨b1, 5, none⟩), .int .i64 p0_5, .bool true, .bool true, .bool true, .pointer (some ⟨b1, 4, none⟩), undef, undef, undef, undef, undef, undef, undef, undef] (by kernel_rfl) ?_
                refine s_load_box (.tmp 32) 3 b1 4 1 [.int .i64 p0_0, .int .i64 p0_1, .int .i64 p0_2, .int .i64 p0_3, .int .i64 p0_4, .int .i64 p0_5] [.int .i64 p0_4] (.int .i64 p0_4) rfl (by kernel_rfl) (by kernel_rfl) (hS.box_mem (List.Mem.head _)) rfl rfl (Or.inr ⟨by kernel_rfl, rfl⟩) ?_
                refine seg 2 [.agg #[.int .i64 p0_0, .int .i64 p0_1, .int .i64 p0_2, .int .i64 p0_3, .int .i64 p0_4, .int .i64 p0_5], .pointer (some ⟨b1, 0, none⟩), .bool false, .pointer (some ⟨b1, 0, none⟩), .int .i64 p0_0, .bool true, .bool true, .pointer (some ⟨b1, 0, none⟩), .int .i64 p0_0, .bool true, .bool true, .bool true, .pointer (some ⟨b1, 1, none⟩), .int .i64 p0_1, .bool true, .bool true, .bool true, .pointer (some ⟨b1, 2, none⟩), .int .i64 p0_2, .bool true, .bool true, .bool true, .pointer (some ⟨b1, 3, none⟩), .int .i64 p0_3, .bool true, .bool true, .bool true, .pointer (some ⟨b1, 5, none⟩), .int .i64 p0_5, .bool true, .bool true, .bool true, .pointer (some ⟨b1, 4, none⟩), .int .i64 p0_4, .bool (p0_4 == 0), .bool (p0_4 == 0), undef, undef, undef, undef, undef] (by kernel_rfl) ?_
                rcases Bool.eq_false_or_eq_true (p0_4 == 0) with hc16 | hc16
                · replace hM := (if_pos hc16).symm.trans hM
                  rw [hc16]
                  refine segEnd [.agg #[.int .i64 p0_0, .int .i64 p0_1, .int .i64 p0_2, .int .i64 p0_3, .int .i64 p0_4, .int .i64 p0_5], .pointer (some ⟨b1, 0, none⟩), .bool true, .pointer (some ⟨b1, 0, none⟩), .int .i64 p0_0, .bool true, .bool true, .pointer (some ⟨b1, 0, none⟩), .int .i64 p0_0, .bool true, .bool true, .bool true, .pointer (some ⟨b1, 1, none⟩), .int .i64 p0_1, .bool true, .bool true, .bool true, .pointer (some ⟨b1, 2, none⟩), .int .i64 p0_2, .bool true, .bool true, .bool true, .pointer (some ⟨b1, 3, none⟩), .int .i64 p0_3, .bool true, .bool true, .bool true, .pointer (some ⟨b1, 5, none⟩), .int .i64 p0_5, .bool true, .bool true, .bool true, .pointer (some ⟨b1, 4, none⟩), .int .i64 p0_4, .bool true, .bool true, undef, undef, undef, .bool true, .bool true] (by kernel_rfl) ?_
                  refine then_normal ?_
                  replace hS : Own w0 D R _ [] [] := hS.takeX 0
                  exact ⟨(fun i => ([.agg #[.int .i64 p0_0, .int .i64 p0_1, .int .i64 p0_2, .int .i64 p0_3, .int .i64 p0_4, .int .i64 p0_5], .pointer (some ⟨b1, 0, none⟩), .pointer (some ⟨b1, 0, none⟩), .int .i64 p0_0, .bool true, .bool true, .pointer (some ⟨b1, 0, none⟩), .int .i64 p0_0, .bool true, .bool true, .bool true, .pointer (some ⟨b1, 1, none⟩), .int .i64 p0_1, .bool true, .bool true, .bool true, .pointer (some ⟨b1, 2, none⟩), .int .i64 p0_2, .bool true, .bool true, .bool true, .pointer (some ⟨b1, 3, none⟩), .int .i64 p0_3, .bool true, .bool true, .bool true, .pointer (some ⟨b1, 5, none⟩), .int .i64 p0_5, .bool true, .bool true, .bool true, .pointer (some ⟨b1, 4, none⟩), .int .i64 p0_4, .bool true, .bool true, undef, undef, undef, .bool true, .bool true] : List Value).getD i undef), true, (by kernel_rfl), hS, hM⟩
                · replace hM := (if_neg (Bool.eq_false_iff.1 hc16)).symm.trans hM
                  rw [hc16]
                  refine seg 1 [.agg #[.int .i64 p0_0, .int .i64 p0_1, .int .i64 p0_2, .int .i64 p0_3, .int .i64 p0_4, .int .i64 p0_5], .pointer (some ⟨b1, 0, none⟩), .bool false, .pointer (some ⟨b1, 0, none⟩), .int .i64 p0_0, .bool true, .bool true, .pointer (some ⟨b1, 0, none⟩), .int .i64 p0_0, .bool true, .bool true, .bool true, .pointer (some ⟨b1, 1, none⟩), .int .i64 p0_1, .bool true, .bool true, .bool true, .pointer (some ⟨b1, 2, none⟩), .int .i64 p0_2, .bool true, .bool true, .bool true, .pointer (some ⟨b1, 3, none⟩), .int .i64 p0_3, .bool true, .bool true, .bool true, .pointer (some ⟨b1, 5, none⟩), .int .i64 p0_5, .bool true, .bool true, .bool true, .pointer (some ⟨b1, 4, none⟩), .int .i64 p0_4, .bool false, .bool false, .pointer (some ⟨b1, 4, none⟩), undef, undef, undef, undef] (by kernel_rfl) ?_
                  refine s_load_box (.tmp 36) 3 b1 4 1 [.int .i64 p0_0, .int .i64 p0_1, .int .i64 p0_2, .int .i64 p0_3, .int .i64 p0_4, .int .i64 p0_5] [.int .i64 p0_4] (.int .i64 p0_4) rfl (by kernel_rfl) (by kernel_rfl) (hS.box_mem (List.Mem.head _)) rfl rfl (Or.inr ⟨by kernel_rfl, rfl⟩) ?_
                  refine segEnd [.agg #[.int .i64 p0_0, .int .i64 p0_1, .int .i64 p0_2, .int .i64 p0_3, .int .i64 p0_4, .int .i64 p0_5], .pointer (some ⟨b1, 0, none⟩), .bool (p0_4 == 1), .pointer (some ⟨b1, 0, none⟩), .int .i64 p0_0, .bool true, .bool true, .pointer (some ⟨b1, 0, none⟩), .int .i64 p0_0, .bool true, .bool true, .bool true, .pointer (some ⟨b1, 1, none⟩), .int .i64 p0_1, .bool true, .bool true, .bool true, .pointer (some ⟨b1, 2, none⟩), .int .i64 p0_2, .bool true, .bool true, .bool true, .pointer (some ⟨b1, 3, none⟩), .int .i64 p0_3, .bool true, .bool true, .bool true, .pointer (some ⟨b1, 5, none⟩), .int .i64 p0_5, .bool true, .bool true, .bool true, .pointer (some ⟨b1, 4, none⟩), .int .i64 p0_4, .bool false, .bool false, .pointer (some ⟨b1, 4, none⟩), .int .i64 p0_4, .bool (p0_4 == 1), .bool (p0_4 == 1), .bool (p0_4 == 1)] (by kernel_rfl) ?_
                  refine then_normal ?_
                  replace hS : Own w0 D R _ [] [] := hS.takeX 0
                  exact ⟨(fun i => ([.agg #[.int .i64 p0_0, .int .i64 p0_1, .int .i64 p0_2, .int .i64 p0_3, .int .i64 p0_4, .int .i64 p0_5], .pointer (some ⟨b1, 0, none⟩), .pointer (some ⟨b1, 0, none⟩), .int .i64 p0_0, .bool true, .bool true, .pointer (some ⟨b1, 0, none⟩), .int .i64 p0_0, .bool true, .bool true, .bool true, .pointer (some ⟨b1, 1, none⟩), .int .i64 p0_1, .bool true, .bool true, .bool true, .pointer (some ⟨b1, 2, none⟩), .int .i64 p0_2, .bool true, .bool true, .bool true, .pointer (some ⟨b1, 3, none⟩), .int .i64 p0_3, .bool true, .bool true, .bool true, .pointer (some ⟨b1, 5, none⟩), .int .i64 p0_5, .bool true, .bool true, .bool true, .pointer (some ⟨b1, 4, none⟩), .int .i64 p0_4, .bool false, .bool false, .pointer (some ⟨b1, 4, none⟩), .int .i64 p0_4, .bool (p0_4 == 1), .bool (p0_4 == 1), .bool (p0_4 == 1)] : List Value).getD i undef), (p0_4 == 1), (by kernel_rfl), hS, hM⟩
              · replace hM := (if_neg (Bool.eq_false_iff.1 hc15)).symm.trans hM
                rw [hc15]
                refine segEnd [.agg #[.int .i64 p0_0, .int .i64 p0_1, .int .i64 p0_2, .int .i64 p0_3, .int .i64 p0_4, .int .i64 p0_5], .pointer (some ⟨b1, 0, none⟩), .bool false, .pointer (some ⟨b1, 0, none⟩), .int .i64 p0_0, .bool true, .bool true, .pointer (some ⟨b1, 0, none⟩), .int .i64 p0_0, .bool true, .bool true, .bool true, .pointer (some ⟨b1, 1, none⟩), .int .i64 p0_1, .bool true, .bool true, .bool true, .pointer (some ⟨b1, 2, none⟩), .int .i64 p0_2, .bool true, .bool true, .bool true, .pointer (some ⟨b1, 3, none⟩), .int .i64 p0_3, .bool true, .bool true, .bool true, .pointer (some ⟨b1, 5, none⟩), .int .i64 p0_5, .bool false, .bool false, .bool false, undef, undef, undef, undef, undef, undef, undef, undef, .bool false] (by kernel_rfl) ?_
                refine then_normal ?_
                replace hS : Own w0 D R _ [] [] := hS.takeX 0
                exact ⟨(fun i => ([.agg #[.int .i64 p0_0, .int .i64 p0_1, .int .i64 p0_2, .int .i64 p0_3, .int .i64 p0_4, .int .i64 p0_5], .pointer (some ⟨b1, 0, none⟩), .pointer (some ⟨b1, 0, none⟩), .int .i64 p0_0, .bool true, .bool true, .pointer (some ⟨b1, 0, none⟩), .int .i64 p0_0, .bool true, .bool true, .bool true, .pointer (some ⟨b1, 1, none⟩), .int .i64 p0_1, .bool true, .bool true, .bool true, .pointer (some ⟨b1, 2, none⟩), .int .i64 p0_2, .bool true, .bool true, .bool true, .pointer (some ⟨b1, 3, none⟩), .int .i64 p0_3, .bool true, .bool true, .bool true, .pointer (some ⟨b1, 5, none⟩), .int .i64 p0_5, .bool false, .bool false, .bool false, undef, undef, undef, undef, undef, undef, undef, undef, .bool false] : List Value).getD i undef), false, (by kernel_rfl), hS, hM⟩
            · replace hM := (if_neg (Bool.eq_false_iff.1 hc12)).symm.trans hM
              rw [hc12]
              refine segEnd [.agg #[.int .i64 p0_0, .int .i64 p0_1, .int .i64 p0_2, .int .i64 p0_3, .int .i64 p0_4, .int .i64 p0_5], .pointer (some ⟨b1, 0, none⟩), .bool false, .pointer (some ⟨b1, 0, none⟩), .int .i64 p0_0, .bool true, .bool true, .pointer (some ⟨b1, 0, none⟩), .int .i64 p0_0, .bool true, .bool true, .bool true, .pointer (some ⟨b1, 1, none⟩), .int .i64 p0_1, .bool true, .bool true, .bool true, .pointer (some ⟨b1, 2, none⟩), .int .i64 p0_2, .bool true, .bool true, .bool true, .pointer (some ⟨b1, 3, none⟩), .int .i64 p0_3, .bool false, .bool false, .bool false, undef, undef, undef, .bool false, .bool false, undef, undef, undef, undef, undef, undef, undef, undef, .bool false] (by kernel_rfl) ?_
              refine then_normal ?_
              replace hS : Own w0 D R _ [] [] := hS.takeX 0
              exact ⟨(fun i => ([.agg #[.int .i64 p0_0, .int .i64 p0_1, .int .i64 p0_2, .int .i64 p0_3, .int .i64 p0_4, .int .i64 p0_5], .pointer (some ⟨b1, 0, none⟩), .pointer (some ⟨b1, 0, none⟩), .int .i64 p0_0, .bool true, .bool true, .pointer (some ⟨b1, 0, none⟩), .int .i64 p0_0, .bool true, .bool true, .bool true, .pointer (some ⟨b1, 1, none⟩), .int .i64 p0_1, .bool true, .bool true, .bool true, .pointer (some ⟨b1, 2, none⟩), .int .i64 p0_2, .bool true, .bool true, .bool true, .pointer (some ⟨b1, 3, none⟩), .int .i64 p0_3, .bool false, .bool false, .bool false, undef, undef, undef, .bool false, .bool false, undef, undef, undef, undef, undef, undef, undef, undef, .bool false] : List Value).getD i undef), false, (by kernel_rfl), hS, hM⟩
          · replace hM := (if_neg (Bool.eq_false_iff.1 hc9)).symm.trans hM
            rw [hc9]
            refine segEnd [.agg #[.int .i64 p0_0, .int .i64 p0_1, .int .i64 p0_2, .int .i64 p0_3, .int .i64 p0_4, .int .i64 p0_5], .pointer (some ⟨b1, 0, none⟩), .bool false, .pointer (some ⟨b1, 0, none⟩), .int .i64 p0_0, .bool true, .bool true, .pointer (some ⟨b1, 0, none⟩), .int .i64 p0_0, .bool true, .bool true, .bool true, .pointer (some ⟨b1, 1, none⟩), .int .i64 p0_1, .bool true, .bool true, .bool true, .pointer (some ⟨b1, 2, none⟩), .int .i64 p0_2, .bool false, .bool false, .bool false, undef, undef, undef, .bool false, .bool false, undef, undef, undef, .bool false, .bool false, undef, undef, undef, undef, undef, undef, undef, undef, .bool false] (by kernel_rfl) ?_
            refine then_normal ?_
            replace hS : Own w0 D R _ [] [] := hS.takeX 0
            exact ⟨(fun i => ([.agg #[.int .i64 p0_0, .int .i64 p0_1, .int .i64 p0_2, .int .i64 p0_3, .int .i64 p0_4, .int .i64 p0_5], .pointer (some ⟨b1, 0, none⟩), .pointer (some ⟨b1, 0, none⟩), .int .i64 p0_0, .bool true, .bool true, .pointer (some ⟨b1, 0, none⟩), .int .i64 p0_0, .bool true, .bool true, .bool true, .pointer (some ⟨b1, 1, none⟩), .int .i64 p0_1, .bool true, .bool true, .bool true, .pointer (some ⟨b1, 2, none⟩), .int .i64 p0_2, .bool false, .bool false, .bool false, undef, undef, undef, .bool false, .bool false, undef, undef, undef, .bool false, .bool false, undef, undef, undef, undef, undef, undef, undef, undef, .bool false] : List Value).getD i undef), false, (by kernel_rfl), hS, hM⟩
        · replace hM := (if_neg (Bool.eq_false_iff.1 hc6)).symm.trans hM
          rw [hc6]
          refine segEnd [.agg #[.int .i64 p0_0, .int .i64 p0_1, .int .i64 p0_2, .int .i64 p0_3, .int .i64 p0_4, .int .i64 p0_5], .pointer (some ⟨b1, 0, none⟩), .bool false, .pointer (some ⟨b1, 0, none⟩), .int .i64 p0_0, .bool true, .bool true, .pointer (some ⟨b1, 0, none⟩), .int .i64 p0_0, .bool true, .bool true, .bool true, .pointer (some ⟨b1, 1, none⟩), .int .i64 p0_1, .bool false, .bool false, .bool false, undef, undef, undef, .bool false, .bool false, undef, undef, undef, .bool false, .bool false, undef, undef, undef, .bool false, .bool false, undef, undef, undef, undef, undef, undef, undef, undef, .bool false] (by kernel_rfl) ?_
          refine then_normal ?_
          replace hS : Own w0 D R _ [] [] := hS.takeX 0
          exact ⟨(fun i => ([.agg #[.int .i64 p0_0, .int .i64 p0_1, .int .i64 p0_2, .int .i64 p0_3, .int .i64 p0_4, .int .i64 p0_5], .pointer (some ⟨b1, 0, none⟩), .pointer (some ⟨b1, 0, none⟩), .int .i64 p0_0, .bool true, .bool true, .pointer (some ⟨b1, 0, none⟩), .int .i64 p0_0, .bool true, .bool true, .bool true, .pointer (some ⟨b1, 1, none⟩), .int .i64 p0_1, .bool false, .bool false, .bool false, undef, undef, undef, .bool false, .bool false, undef, undef, undef, .bool false, .bool false, undef, undef, undef, .bool false, .bool false, undef, undef, undef, undef, undef, undef, undef, undef, .bool false] : List Value).getD i undef), false, (by kernel_rfl), hS, hM⟩
      · replace hM := (if_neg (Bool.eq_false_iff.1 hc3)).symm.trans hM
        rw [hc3]
        refine segEnd [.agg #[.int .i64 p0_0, .int .i64 p0_1, .int .i64 p0_2, .int .i64 p0_3, .int .i64 p0_4, .int .i64 p0_5], .pointer (some ⟨b1, 0, none⟩), .bool false, .pointer (some ⟨b1, 0, none⟩), .int .i64 p0_0, .bool true, .bool true, .pointer (some ⟨b1, 0, none⟩), .int .i64 p0_0, .bool false, .bool false, .bool false, undef, undef, undef, .bool false, .bool false, undef, undef, undef, .bool false, .bool false, undef, undef, undef, .bool false, .bool false, undef, undef, undef, .bool false, .bool false, undef, undef, undef, undef, undef, undef, undef, undef, .bool false] (by kernel_rfl) ?_
        refine then_normal ?_
        replace hS : Own w0 D R _ [] [] := hS.takeX 0
        exact ⟨(fun i => ([.agg #[.int .i64 p0_0, .int .i64 p0_1, .int .i64 p0_2, .int .i64 p0_3, .int .i64 p0_4, .int .i64 p0_5], .pointer (some ⟨b1, 0, none⟩), .pointer (some ⟨b1, 0, none⟩), .int .i64 p0_0, .bool true, .bool true, .pointer (some ⟨b1, 0, none⟩), .int .i64 p0_0, .bool false, .bool false, .bool false, undef, undef, undef, .bool false, .bool false, undef, undef, undef, .bool false, .bool false, undef, undef, undef, .bool false, .bool false, undef, undef, undef, .bool false, .bool false, undef, undef, undef, undef, undef, undef, undef, undef, .bool false] : List Value).getD i undef), false, (by kernel_rfl), hS, hM⟩
    · replace hM := (if_neg (Bool.eq_false_iff.1 hc2)).symm.trans hM
      rw [hc2]
      refine segEnd [.agg #[.int .i64 p0_0, .int .i64 p0_1, .int .i64 p0_2, .int .i64 p0_3, .int .i64 p0_4, .int .i64 p0_5], .pointer (some ⟨b1, 0, none⟩), .bool false, .pointer (some ⟨b1, 0, none⟩), .int .i64 p0_0, .bool false, .bool false, undef, undef, undef, .bool false, .bool false, undef, undef, undef, .bool false, .bool false, undef, undef, undef, .bool false, .bool false, undef, undef, undef, .bool false, .bool false, undef, undef, undef, .bool false, .bool false, undef, undef, undef, undef, undef, undef, undef, undef, .bool false] (by kernel_rfl) ?_
      refine then_normal ?_
      replace hS : Own w0 D R _ [] [] := hS.takeX 0
      exact ⟨(fun i => ([.agg #[.int .i64 p0_0, .int .i64 p0_1, .int .i64 p0_2, .int .i64 p0_3, .int .i64 p0_4, .int .i64 p0_5], .pointer (some ⟨b1, 0, none⟩), .pointer (some ⟨b1, 0, none⟩), .int .i64 p0_0, .bool false, .bool false, undef, undef, undef, .bool false, .bool false, undef, undef, undef, .bool false, .bool false, undef, undef, undef, .bool false, .bool false, undef, undef, undef, .bool false, .bool false, undef, undef, undef, .bool false, .bool false, undef, undef, undef, undef, undef, undef, undef, undef, .bool false] : List Value).getD i undef), false, (by kernel_rfl), hS, hM⟩
  · rintro a w ⟨G18, x17, rfl, hS, hM⟩
    unfold intaglioref07_Valid_J1 at hM
    refine wp_ret ?_
    replace hS : Own w0 D R _ [] [] := hS.dropS forall0
    obtain rfl := Option.some.inj hM
    refine ret_v (.bool x17) (by kernel_rfl) ⟨rfl, hS⟩

theorem intaglioref07_Bytes_W {w0 w : World} {D R : Nat → Prop} {p0_0 : Int} {p0_1 : Int} {p0_2 : Int} {p0_3 : Int} {p0_4 : Int} {p0_5 : Int} {r0 : List Int} (hS : Own w0 D R w [] []) (hD : ∀ b, ¬ D b) (hM : intaglioref07_Bytes_M p0_0 p0_1 p0_2 p0_3 p0_4 p0_5 = some r0) :
    Calls Go.Proofs.Try.prog 12 #[.agg #[.int .i64 p0_0, .int .i64 p0_1, .int .i64 p0_2, .int .i64 p0_3, .int .i64 p0_4, .int .i64 p0_5]] w (fun e w' => ∃ (ZA1 : Option Addr) (Zc2 : Nat), e = .returned (.slice ZA1 r0.length Zc2) ∧ Own w0 D R w' [rowA (Enc.int .u8) ZA1 Zc2 r0] []) := by
  refine enter (fn := Go.Proofs.Try.f12) [.agg #[.int .i64 p0_0, .int .i64 p0_1, .int .i64 p0_2, .int .i64 p0_3, .int .i64 p0_4, .int .i64 p0_5], undef, undef, undef, undef, undef, undef, undef, undef, undef, undef, undef, undef, undef, undef, undef, undef, undef, undef, undef, undef, undef, undef, undef, undef, undef, undef, undef, undef, undef] (by kernel_rfl) rfl (by kernel_rfl) ?_
  unfold intaglioref07_Bytes_M at hM
  refine wp_seq ?_
  refine wp_reg ?_
  refine s_box (.tmp 0) 23 [.int .i64 p0_0, .int .i64 p0_1, .int .i64 p0_2, .int .i64 p0_3, .int .i64 p0_4, .int .i64 p0_5] (.agg #[.int .i64 p0_0, .int .i64 p0_1, .int .i64 p0_2, .int .i64 p0_3, .int .i64 p0_4, .int .i64 p0_5]) rfl (by kernel_rfl) rfl (by kernel_rfl) hS (fun b1 _ hS => ?_)
  refine segEnd [.agg #[.int .i64 p0_0, .int .i64 p0_1, .int .i64 p0_2, .int .i64 p0_3, .int .i64 p0_4, .int .i64 p0_5], .pointer (some ⟨b1, 0, none⟩), .slice none 0 0, undef, undef, undef, undef, undef, undef, undef, undef, undef, undef, undef, undef, undef, undef, undef, undef, undef, undef, undef, undef, undef, undef, undef, undef, undef, undef, undef] (by kernel_rfl) ?_
  refine then_normal ?_
  refine wp_seq ?_
  refine wp_seq ?_
  refine wp_reg ?_
  refine s_load_box (.tmp 1) 23 b1 0 6 [.int .i64 p0_0, .int .i64 p0_1, .int .i64 p0_2, .int .i64 p0_3, .int .i64 p0_4, .int .i64 p0_5] [.int .i64 p0_0, .int .i64 p0_1, .int .i64 p0_2, .int .i64 p0_3, .int .i64 p0_4, .int .i64 p0_5] (.agg #[.int .i64 p0_0, .int .i64 p0_1, .int .i64 p0_2, .int .i64 p0_3, .int .i64 p0_4, .int .i64 p0_5]) rfl (by kernel_rfl) (by kernel_rfl) (hS.box_mem (List.Mem.head _)) rfl rfl (Or.inl ⟨by kernel_rfl, by kernel_rfl, rfl⟩) ?_
  replace hM := bind_some hM
  obtain ⟨v2, h3, hM⟩ := hM
  have hP := Own.pre (Xi := []) (X := [boxA b1 [.int .i64 p0_0, .int .i64 p0_1, .int .i64 p0_2, .int .i64 p0_3, .int .i64 p0_4, .int .i64 p0_5]]) (Si := []) hS forall0 forall0
  refine s_call 9 #[.agg #[.int .i64 p0_0, .int .i64 p0_1, .int .i64 p0_2, .int .i64 p0_3, .int .i64 p0_4, .int .i64 p0_5]] (by kernel_rfl) (by kernel_rfl) ((intaglioref07_Valid_W hP doms_nil h3).mono ?_)
  rintro _ _ ⟨rfl, hQ⟩
  replace hS : Own w0 D R _ [boxA b1 [.int .i64 p0_0, .int .i64 p0_1, .int .i64 p0_2, .int .i64 p0_3, .int .i64 p0_4, .int .i64 p0_5]] [] := hS.post hQ (.inl rfl)
  clear hP hQ
  refine ⟨_, rfl, ?_⟩
  refine segEnd [.agg #[.int .i64 p0_0, .int .i64 p0_1, .int .i64 p0_2, .int .i64 p0_3, .int .i64 p0_4, .int .i64 p0_5], .pointer (some ⟨b1, 0, none⟩), .slice none 0 0, undef, .agg #[.int .i64 p0_0, .int .i64 p0_1, .int .i64 p0_2, .int .i64 p0_3, .int .i64 p0_4, .int .i64 p0_5], .bool v2, .bool (!v2), undef, undef, undef, undef, undef, undef, undef, undef, undef, undef, undef, undef, undef, undef, undef, undef, undef, undef, undef, undef, undef, undef, undef] (by kernel_rfl) ?_
  refine then_normal ?_
  refine wp_cond_split (t := !v2) (by kernel_rfl) (fun hc4 => ?_) (fun hc4 => ?_)
  · replace hM := (if_pos hc4).symm.trans hM
    refine wp_seq ?_
    refine wp_reg ?_
    refine segEnd [.agg #[.int .i64 p0_0, .int .i64 p0_1, .int .i64 p0_2, .int .i64 p0_3, .int .i64 p0_4, .int .i64 p0_5], .pointer (some ⟨b1, 0, none⟩), .slice none 0 0, undef, .agg #[.int .i64 p0_0, .int .i64 p0_1, .int .i64 p0_2, .int .i64 p0_3, .int .i64 p0_4, .int .i64 p0_5], .bool v2, .bool (!v2), undef, undef, undef, undef, undef, undef, undef, undef, undef, undef, undef, undef, undef, undef, undef, undef, undef, undef, undef, undef, undef, undef, undef] (by kernel_rfl) ?_
    refine then_normal ?_
    refine wp_ret ?_
    refine then_ret ?_
    replace hS : Own w0 D R _ [rowA (Enc.int .u8) none 0 [], boxA b1 [.int .i64 p0_0, .int .i64 p0_1, .int .i64 p0_2, .int .i64 p0_3, .int .i64 p0_4, .int .i64 p0_5]] [] := hS.addNil (Enc.int .u8)
    replace hS : Own w0 D R _ [rowA (Enc.int .u8) none 0 []] [] := hS.takeX 1
    replace hS : Own w0 D R _ [rowA (Enc.int .u8) none 0 []] [] := hS.dropS forall0
    obtain rfl := Option.some.inj hM
    refine ret_v (.slice none 0 0) (by kernel_rfl) ⟨none, 0, rfl, hS⟩
  · replace hM := (if_neg (Bool.eq_false_iff.1 hc4)).symm.trans hM
    refine wp_skip ?_
    refine then_normal ?_
    refine wp_seq ?_
    refine wp_reg ?_
    refine seg 1 [.agg #[.int .i64 p0_0, .int .i64 p0_1, .int .i64 p0_2, .int .i64 p0_3, .int .i64 p0_4, .int .i64 p0_5], .pointer (some ⟨b1, 0, none⟩), .slice none 0 0, undef, .agg #[.int .i64 p0_0, .int .i64 p0_1, .int .i64 p0_2, .int .i64 p0_3, .int .i64 p0_4, .int .i64 p0_5], .bool v2, .bool (!v2), .pointer (some ⟨b1, 0, none⟩), undef, undef, undef, undef, undef, undef, undef, undef, undef, undef, undef, undef, undef, undef, undef, undef, undef, undef, undef, undef, undef, undef] (by kernel_rfl) ?_
    refine s_load_box (.tmp 7) 3 b1 0 1 [.int .i64 p0_0, .int .i64 p0_1, .int .i64 p0_2, .int .i64 p0_3, .int .i64 p0_4, .int .i64 p0_5] [.int .i64 p0_0] (.int .i64 p0_0) rfl (by kernel_rfl) (by kernel_rfl) (hS.box_mem (List.Mem.head _)) rfl rfl (Or.inr ⟨by kernel_rfl, rfl⟩) ?_
    replace hM := bind_some hM
    obtain ⟨v5, h8, hM⟩ := hM
    have hP := Own.pre (Xi := []) (X := [boxA b1 [.int .i64 p0_0, .int .i64 p0_1, .int .i64 p0_2, .int .i64 p0_3, .int .i64 p0_4, .int .i64 p0_5]]) (Si := [slA (fun _ => False) (Enc.int .u8) none 0 []]) hS (forall2 (sl_nil (fun _ => False) (Enc.int .u8) 0 _) forall0) (forall2 (fun _ h => h.elim) forall0)
    refine s_call 22 #[.slice none 0 0, .int .i64 p0_0] (by kernel_rfl) (by kernel_rfl) ((intaglioref01_PutNum_W hP doms_nil h8).mono ?_)
    rintro _ _ ⟨A6, c7, rfl, hQ⟩
    replace hS : Own w0 D R _ [rowA (Enc.int .u8) A6 c7 v5, boxA b1 [.int .i64 p0_0, .int .i64 p0_1, .int .i64 p0_2, .int .i64 p0_3, .int .i64 p0_4, .int .i64 p0_5]] [] := hS.post hQ (.inl rfl)
    clear hP hQ
    refine ⟨_, rfl, ?_⟩
    refine segEnd [.agg #[.int .i64 p0_0, .int .i64 p0_1, .int .i64 p0_2, .int .i64 p0_3, .int .i64 p0_4, .int .i64 p0_5], .pointer (some ⟨b1, 0, none⟩), .slice none 0 0, .slice A6 v5.length c7, .agg #[.int .i64 p0_0, .int .i64 p0_1, .int .i64 p0_2, .int .i64 p0_3, .int .i64 p0_4, .int .i64 p0_5], .bool v2, .bool (!v2), .pointer (some ⟨b1, 0, none⟩), .int .i64 p0_0, .slice A6 v5.length c7, undef, undef, undef, undef, undef, undef, undef, undef, undef, undef, undef, undef, undef, undef, undef, undef, undef, undef, undef, undef] (by kernel_rfl) ?_
    refine then_normal ?_
    refine wp_seq ?_
    refine wp_reg ?_
    refine seg 2 [.agg #[.int .i64 p0_0, .int .i64 p0_1, .int .i64 p0_2, .int .i64 p0_3, .int .i64 p0_4, .int .i64 p0_5], .pointer (some ⟨b1, 0, none⟩), .slice none 0 0, .slice A6 v5.length c7, .agg #[.int .i64 p0_0, .int .i64 p0_1, .int .i64 p0_2, .int .i64 p0_3, .int .i64 p0_4, .int .i64 p0_5], .bool v2, .bool (!v2), .pointer (some ⟨b1, 0, none⟩), .int .i64 p0_0, .slice A6 v5.length c7, .slice A6 v5.length c7, .pointer (some ⟨b1, 1, none⟩), undef, undef, undef, undef, undef, undef, undef, undef, undef, undef, undef, undef, undef, undef, undef, undef, undef, undef] (by kernel_rfl) ?_
    refine s_load_box (.tmp 11) 3 b1 1 1 [.int .i64 p0_0, .int .i64 p0_1, .int .i64 p0_2, .int .i64 p0_3, .int .i64 p0_4, .int .i64 p0_5] [.int .i64 p0_1] (.int .i64 p0_1) rfl (by kernel_rfl) (by kernel_rfl) (hS.box_mem (List.Mem.tail _ (List.Mem.head _))) rfl rfl (Or.inr ⟨by kernel_rfl, rfl⟩) ?_
    replace hM := bind_some hM
    obtain ⟨v9, h12, hM⟩ := hM
    have hP := Own.pre (Xi := []) (X := [rowA (Enc.int .u8) A6 c7 v5, boxA b1 [.int .i64 p0_0, .int .i64 p0_1, .int .i64 p0_2, .int .i64 p0_3, .int .i64 p0_4, .int .i64 p0_5]]) (Si := [slA (blkOf A6) (Enc.int .u8) A6 c7 v5]) hS (forall2 (sl_of_row (hS.row_mem (List.Mem.head _))) forall0) (forall2 (fun _ h => .inr ⟨_, (List.Mem.head _), h⟩) forall0)
    refine s_call 22 #[.slice A6 v5.length c7, .int .i64 p0_1] (by kernel_rfl) (by kernel_rfl) ((intaglioref01_PutNum_W hP doms_nil h12).mono ?_)
    rintro _ _ ⟨A10, c11, rfl, hQ⟩
    replace hS : Own w0 D R _ [rowA (Enc.int .u8) A10 c11 v9, rowA (Enc.int .u8) A6 c7 v5, boxA b1 [.int .i64 p0_0, .int .i64 p0_1, .int .i64 p0_2, .int .i64 p0_3, .int .i64 p0_4, .int .i64 p0_5]] [] := hS.post hQ (.inl rfl)
    clear hP hQ
    refine ⟨_, rfl, ?_⟩
    refine segEnd [.agg #[.int .i64 p0_0, .int .i64 p0_1, .int .i64 p0_2, .int .i64 p0_3, .int .i64 p0_4, .int .i64 p0_5], .pointer (some ⟨b1, 0, none⟩), .slice none 0 0, .slice A10 v9.length c11, .agg #[.int .i64 p0_0, .int .i64 p0_1, .int .i64 p0_2, .int .i64 p0_3, .int .i64 p0_4, .int .i64 p0_5], .bool v2, .bool (!v2), .pointer (some ⟨b1, 0, none⟩), .int .i64 p0_0, .slice A6 v5.length c7, .slice A6 v5.length c7, .pointer (some ⟨b1, 1, none⟩), .int .i64 p0_1, .slice A10 v9.length c11, undef, undef, undef, undef, undef, undef, undef, undef, undef, undef, undef, undef, undef, undef, undef, undef] (by kernel_rfl) ?_
    refine then_normal ?_
    refine wp_seq ?_
    refine wp_reg ?_
    refine seg 2 [.agg #[.int .i64 p0_0, .int .i64 p0_1, .int .i64 p0_2, .int .i64 p0_3, .int .i64 p0_4, .int .i64 p0_5], .pointer (some ⟨b1, 0, none⟩), .slice none 0 0, .slice A10 v9.length c11, .agg #[.int .i64 p0_0, .int .i64 p0_1, .int .i64 p0_2, .int .i64 p0_3, .int .i64 p0_4, .int .i64 p0_5], .bool v2, .bool (!v2), .pointer (some ⟨b1, 0, none⟩), .int .i64 p0_0, .slice A6 v5.length c7, .slice A6 v5.length c7, .pointer (some ⟨b1, 1, none⟩), .int .i64 p0_1, .slice A10 v9.length c11, .slice A10 v9.length c11, .pointer (some ⟨b1, 2, none⟩), undef, undef, undef, undef, undef, undef, undef, undef, undef, undef, undef, undef, undef, undef] (by kernel_rfl) ?_
    refine s_load_box (.tmp 15) 3 b1 2 1 [.int .i64 p0_0, .int .i64 p0_1, .int .i64 p0_2, .int .i64 p0_3, .int .i64 p0_4, .int .i64 p0_5] [.int .i64 p0_2] (.int .i64 p0_2) rfl (by kernel_rfl) (by kernel_rfl) (hS.box_mem (List.Mem.tail _ (List.Mem.tail _ (List.Mem.head _)))) rfl rfl (Or.inr ⟨by kernel_rfl, rfl⟩) ?_
    replace hM := bind_some hM
    obtain ⟨v13, h16, hM⟩ := hM
    have hP := Own.pre (Xi := []) (X := [rowA (Enc.int .u8) A10 c11 v9, rowA (Enc.int .u8) A6 c7 v5, boxA b1 [.int .i64 p0_0, .int .i64 p0_1, .int .i64 p0_2, .int .i64 p0_3, .int .i64 p0_4, .int .i64 p0_5]]) (Si := [slA (blkOf A10) (Enc.int .u8) A10 c11 v9]) hS (forall2 (sl_of_row (hS.row_mem (List.Mem.head _))) forall0) (forall2 (fun _ h => .inr ⟨_, (List.Mem.head _), h⟩) forall0)
    refine s_call 22 #[.slice A10 v9.length c11, .int .i64 p0_2] (by kernel_rfl) (by kernel_rfl) ((intaglioref01_PutNum_W hP doms_nil h16).mono ?_)
    rintro _ _ ⟨A14, c15, rfl, hQ⟩
    replace hS : Own w0 D R _ [rowA (Enc.int .u8) A14 c15 v13, rowA (Enc.int .u8) A10 c11 v9, rowA (Enc.int .u8) A6 c7 v5, boxA b1 [.int .i64 p0_0, .int .i64 p0_1, .int .i64 p0_2, .int .i64 p0_3, .int .i64 p0_4, .int .i64 p0_5]] [] := hS.post hQ (.inl rfl)
    clear hP hQ
    refine ⟨_, rfl, ?_⟩
    refine segEnd [.agg #[.int .i64 p0_0, .int .i64 p0_1, .int .i64 p0_2, .int .i64 p0_3, .int .i64 p0_4, .int .i64 p0_5], .pointer (some ⟨b1, 0, none⟩), .slice none 0 0, .slice A14 v13.length c15, .agg #[.int .i64 p0_0, .int .i64 p0_1, .int .i64 p0_2, .int .i64 p0_3, .int .i64 p0_4, .int .i64 p0_5], .bool v2, .bool (!v2), .pointer (some ⟨b1, 0, none⟩), .int .i64 p0_0, .slice A6 v5.length c7, .slice A6 v5.length c7, .pointer (some ⟨b1, 1, none⟩), .int .i64 p0_1, .slice A10 v9.length c11, .slice A10 v9.length c11, .pointer (some ⟨b1, 2, none⟩), .int .i64 p0_2, .slice A14 v13.length c15, undef, undef, undef, undef, undef, undef, undef, undef, undef, undef, undef, undef] (by kernel_rfl) ?_
    refine then_normal ?_
    refine wp_seq ?_
    refine wp_reg ?_
    refine seg 2 [.agg #[.int .i64 p0_0, .int .i64 p0_1, .int .i64 p0_2, .int .i64 p0_3, .int .i64 p0_4, .int .i64 p0_5], .pointer (some ⟨b1, 0, none⟩), .slice none 0 0, .slice A14 v13.length c15, .agg #[.int .i64 p0_0, .int .i64 p0_1, .int .i64 p0_2, .int .i64 p0_3, .int .i64 p0_4, .int .i64 p0_5], .bool v2, .bool (!v2), .pointer (some ⟨b1, 0, none⟩), .int .i64 p0_0, .slice A6 v5.length c7, .slice A6 v5.length c7, .pointer (some ⟨b1, 1, none⟩), .int .i64 p0_1, .slice A10 v9.length c11, .slice A10 v9.length c11, .pointer (some ⟨b1, 2, none⟩), .int .i64 p0_2, .slice A14 v13.length c15, .slice A14 v13.length c15, .pointer (some ⟨b1, 3, none⟩), undef, undef, undef, undef, undef, undef, undef, undef, undef, undef] (by kernel_rfl) ?_
    refine s_load_box (.tmp 19) 3 b1 3 1 [.int .i64 p0_0, .int .i64 p0_1, .int .i64 p0_2, .int .i64 p0_3, .int .i64 p0_4, .int .i64 p0_5] [.int .i64 p0_3] (.int .i64 p0_3) rfl (by kernel_rfl) (by kernel_rfl) (hS.box_mem (List.Mem.tail _ (List.Mem.tail _ (List.Mem.tail _ (List.Mem.head _))))) rfl rfl (Or.inr ⟨by kernel_rfl, rfl⟩) ?_
    replace hM := bind_some hM
    obtain ⟨v17, h20, hM⟩ := hM
    have hP := Own.pre (Xi := []) (X := [rowA (Enc.int .u8) A14 c15 v13, rowA (Enc.int .u8) A10 c11 v9, rowA (Enc.int .u8) A6 c7 v5, boxA b1 [.int .i64 p0_0, .int .i64 p0_1, .int .i64 p0_2, .int .i64 p0_3, .int .i64 p0_4, .int .i64 p0_5]]) (Si := [slA (blkOf A14) (Enc.int .u8) A14 c15 v13]) hS (forall2 (sl_of_row (hS.row_mem (List.Mem.head _))) forall0) (forall2 (fun _ h => .inr ⟨_, (List.Mem.head _), h⟩) forall0)
    refine s_call 22 #[.slice A14 v13.length c15, .int .i64 p0_3] (by kernel_rfl) (by kernel_rfl) ((intaglioref01_PutNum_W hP doms_nil h20).mono ?_)
    rintro _ _ ⟨A18, c19, rfl, hQ⟩
    replace hS : Own w0 D R _ [rowA (Enc.int .u8) A18 c19 v17, rowA (Enc.int .u8) A14 c15 v13, rowA (Enc.int .u8) A10 c11 v9, rowA (Enc.int .u8) A6 c7 v5, boxA b1 [.int .i64 p0_0, .int .i64 p0_1, .int .i64 p0_2, .int .i64 p0_3, .int .i64 p0_4, .int .i64 p0_5]] [] := hS.post hQ (.inl rfl)
    clear hP hQ
    refine ⟨_, rfl, ?_⟩
    refine segEnd [.agg #[.int .i64 p0_0, .int .i64 p0_1, .int .i64 p0_2, .int .i64 p0_3, .int .i64 p0_4, .int .i64 p0_5], .pointer (some ⟨b1, 0, none⟩), .slice none 0 0, .slice A18 v17.length c19, .agg #[.int .i64 p0_0, .int .i64 p0_1, .int .i64 p0_2, .int .i64 p0_3, .int .i64 p0_4, .int .i64 p0_5], .bool v2, .bool (!v2), .pointer (some ⟨b1, 0, none⟩), .int .i64 p0_0, .slice A6 v5.length c7, .slice A6 v5.length c7, .pointer (some ⟨b1, 1, none⟩), .int .i64 p0_1, .slice A10 v9.length c11, .slice A10 v9.length c11, .pointer (some ⟨b1, 2, none⟩), .int .i64 p0_2, .slice A14 v13.length c15, .slice A14 v13.length c15, .pointer (some ⟨b1, 3, none⟩), .int .i64 p0_3, .slice A18 v17.length c19, undef, undef, undef, undef, undef, undef, undef, undef] (by kernel_rfl) ?_
    refine then_normal ?_
    refine wp_seq ?_
    refine wp_reg ?_
    refine seg 2 [.agg #[.int .i64 p0_0, .int .i64 p0_1, .int .i64 p0_2, .int .i64 p0_3, .int .i64 p0_4, .int .i64 p0_5], .pointer (some ⟨b1, 0, none⟩), .slice none 0 0, .slice A18 v17.length c19, .agg #[.int .i64 p0_0, .int .i64 p0_1, .int .i64 p0_2, .int .i64 p0_3, .int .i64 p0_4, .int .i64 p0_5], .bool v2, .bool (!v2), .pointer (some ⟨b1, 0, none⟩), .int .i64 p0_0, .slice A6 v5.length c7, .slice A6 v5.length c7, .pointer (some ⟨b1, 1, none⟩), .int .i64 p0_1, .slice A10 v9.length c11, .slice A10 v9.length c11, .pointer (some ⟨b1, 2, none⟩), .int .i64 p0_2, .slice A14 v13.length c15, .slice A14 v13.length c15, .pointer (some ⟨b1, 3, none⟩), .int .i64 p0_3, .slice A18 v17.length c19, .slice A18 v17.length c19, .pointer (some ⟨b1, 4, none⟩), undef, undef, undef, undef, undef, undef] (by kernel_rfl) ?_
    refine s_load_box (.tmp 23) 3 b1 4 1 [.int .i64 p0_0, .int .i64 p0_1, .int .i64 p0_2, .int .i64 p0_3, .int .i64 p0_4, .int .i64 p0_5] [.int .i64 p0_4] (.int .i64 p0_4) rfl (by kernel_rfl) (by kernel_rfl) (hS.box_mem (List.Mem.tail _ (List.Mem.tail _ (List.Mem.tail _ (List.Mem.tail _ (List.Mem.head _)))))) rfl rfl (Or.inr ⟨by kernel_rfl, rfl⟩) ?_
    replace hM := bind_some hM
    obtain ⟨v21, h24, hM⟩ := hM
    have hP := Own.pre (Xi := []) (X := [rowA (Enc.int .u8) A18 c19 v17, rowA (Enc.int .u8) A14 c15 v13, rowA (Enc.int .u8) A10 c11 v9, rowA (Enc.int .u8) A6 c7 v5, boxA b1 [.int .i64 p0_0, .int .i64 p0_1, .int .i64 p0_2, .int .i64 p0_3, .int .i64 p0_4, .int .i64 p0_5]]) (Si := [slA (blkOf A18) (Enc.int .u8) A18 c19 v17]) hS (forall2 (sl_of_row (hS.row_mem (List.Mem.head _))) forall0) (forall2 (fun _ h => .inr ⟨_, (List.Mem.head _), h⟩) forall0)
    refine s_call 22 #[.slice A18 v17.length c19, .int .i64 p0_4] (by kernel_rfl) (by kernel_rfl) ((intaglioref01_PutNum_W hP doms_nil h24).mono ?_)
    rintro _ _ ⟨A22, c23, rfl, hQ⟩
    replace hS : Own w0 D R _ [rowA (Enc.int .u8) A22 c23 v21, rowA (Enc.int .u8) A18 c19 v17, rowA (Enc.int .u8) A14 c15 v13, rowA (Enc.int .u8) A10 c11 v9, rowA (Enc.int .u8) A6 c7 v5, boxA b1 [.int .i64 p0_0, .int .i64 p0_1, .int .i64 p0_2, .int .i64 p0_3, .int .i64 p0_4, .int .i64 p0_5]] [] := hS.post hQ (.inl rfl)
    clear hP hQ
    refine ⟨_, rfl, ?_⟩
    refine segEnd [.agg #[.int .i64 p0_0, .int .i64 p0_1, .int .i64 p0_2, .int .i64 p0_3, .int .i64 p0_4, .int .i64 p0_5], .pointer (some ⟨b1, 0, none⟩), .slice none 0 0, .slice A22 v21.length c23, .agg #[.int .i64 p0_0, .int .i64 p0_1, .int .i64 p0_2, .int .i64 p0_3, .int .i64 p0_4, .int .i64 p0_5], .bool v2, .bool (!v2), .pointer (some ⟨b1, 0, none⟩), .int .i64 p0_0, .slice A6 v5.length c7, .slice A6 v5.length c7, .pointer (some ⟨b1, 1, none⟩), .int .i64 p0_1, .slice A10 v9.length c11, .slice A10 v9.length c11, .pointer (some ⟨b1, 2, none⟩), .int .i64 p0_2, .slice A14 v13.length c15, .slice A14 v13.length c15, .pointer (some ⟨b1, 3, none⟩), .int .i64 p0_3, .slice A18 v17.length c19, .slice A18 v17.length c19, .pointer (some ⟨b1, 4, none⟩), .int .i64 p0_4, .slice A22 v21.length c23, undef, undef, undef, undef] (by kernel_rfl) ?_
    refine then_normal ?_
    refine wp_seq ?_
    refine wp_reg ?_
    refine seg 2 [.agg #[.int .i64 p0_0, .int .i64 p0_1, .int .i64 p0_2, .int .i64 p0_3, .int .i64 p0_4, .int .i64 p0_5], .pointer (some ⟨b1, 0, none⟩), .slice none 0 0, .slice A22 v21.length c23, .agg #[.int .i64 p0_0, .int .i64 p0_1, .int .i64 p0_2, .int .i64 p0_3, .int .i64 p0_4, .int .i64 p0_5], .bool v2, .bool (!v2), .pointer (some ⟨b1, 0, none⟩), .int .i64 p0_0, .slice A6 v5.length c7, .slice A6 v5.length c7, .pointer (some ⟨b1, 1, none⟩), .int .i64 p0_1, .slice A10 v9.length c11, .slice A10 v9.length c11, .pointer (some ⟨b1, 2, none⟩), .int .i64 p0_2, .slice A14 v13.length c15, .slice A14 v13.length c15, .pointer (some ⟨b1, 3, none⟩), .int .i64 p0_3, .slice A18 v17.length c19, .slice A18 v17.length c19, .pointer (some ⟨b1, 4, none⟩), .int .i64 p0_4, .slice A22 v21.length c23, .slice A22 v21.length c23, .pointer (some ⟨b1, 5, none⟩), undef, undef] (by kernel_rfl) ?_
    refine s_load_box (.tmp 27) 3 b1 5 1 [.int .i64 p0_0, .int .i64 p0_1, .int .i64 p0_2, .int .i64 p0_3, .int .i64 p0_4, .int .i64 p0_5] [.int .i64 p0_5] (.int .i64 p0_5) rfl (by kernel_rfl) (by kernel_rfl) (hS.box_mem (List.Mem.tail _ (List.Mem.tail _ (List.Mem.tail _ (List.Mem.tail _ (List.Mem.tail _ (List.Mem.head _))))))) rfl rfl (Or.inr ⟨by kernel_rfl, rfl⟩) ?_
    replace hM := bind_some hM
    obtain ⟨v25, h28, hM⟩ := hM
    have hP := Own.pre (Xi := []) (X := [rowA (Enc.int .u8) A22 c23 v21, rowA (Enc.int .u8) A18 c19 v17, rowA (Enc.int .u8) A14 c15 v13, rowA (Enc.int .u8) A10 c11 v9, rowA (Enc.int .u8) A6 c7 v5, boxA b1 [.int .i64 p0_0, .int .i64 p0_1, .int .i64 p0_2, .int .i64 p0_3, .int .i64 p0_4, .int .i64 p0_5]]) (Si := [slA (blkOf A22) (Enc.int .u8) A22 c23 v21]) hS (forall2 (sl_of_row (hS.row_mem (List.Mem.head _))) forall0) (forall2 (fun _ h => .inr ⟨_, (List.Mem.head _), h⟩) forall0)
    refine s_call 22 #[.slice A22 v21.length c23, .int .i64 p0_5] (by kernel_rfl) (by kernel_rfl) ((intaglioref01_PutNum_W hP doms_nil h28).mono ?_)
    rintro _ _ ⟨A26, c27, rfl, hQ⟩
    replace hS : Own w0 D R _ [rowA (Enc.int .u8) A26 c27 v25, rowA (Enc.int .u8) A22 c23 v21, rowA (Enc.int .u8) A18 c19 v17, rowA (Enc.int .u8) A14 c15 v13, rowA (Enc.int .u8) A10 c11 v9, rowA (Enc.int .u8) A6 c7 v5, boxA b1 [.int .i64 p0_0, .int .i64 p0_1, .int .i64 p0_2, .int .i64 p0_3, .int .i64 p0_4, .int .i64 p0_5]] [] := hS.post hQ (.inl rfl)
    clear hP hQ
    refine ⟨_, rfl, ?_⟩
    refine segEnd [.agg #[.int .i64 p0_0, .int .i64 p0_1, .int .i64 p0_2, .int .i64 p0_3, .int .i64 p0_4, .int .i64 p0_5], .pointer (some ⟨b1, 0, none⟩), .slice A26 v25.length c27, .slice A22 v21.length c23, .agg #[.int .i64 p0_0, .int .i64 p0_1, .int .i64 p0_2, .int .i64 p0_3, .int .i64 p0_4, .int .i64 p0_5], .bool v2, .bool (!v2), .pointer (some ⟨b1, 0, none⟩), .int .i64 p0_0, .slice A6 v5.length c7, .slice A6 v5.length c7, .pointer (some ⟨b1, 1, none⟩), .int .i64 p0_1, .slice A10 v9.length c11, .slice A10 v9.length c11, .pointer (some ⟨b1, 2, none⟩), .int .i64 p0_2, .slice A14 v13.length c15, .slice A14 v13.length c15, .pointer (some ⟨b1, 3, none⟩), .int .i64 p0_3, .slice A18 v17.length c19, .slice A18 v17.length c19, .pointer (some ⟨b1, 4, none⟩), .int .i64 p0_4, .slice A22 v21.length c23, .slice A22 v21.length c23, .pointer (some ⟨b1, 5, none⟩), .int .i64 p0_5, .slice A26 v25.length c27] (by kernel_rfl) ?_
    refine then_normal ?_
    refine wp_ret ?_
    replace hS : Own w0 D R _ [rowA (Enc.int .u8) A26 c27 v25] [] := hS.takeX 1
    replace hS : Own w0 D R _ [rowA (Enc.int .u8) A26 c27 v25] [] := hS.dropS forall0
    obtain rfl := Option.some.inj hM
    refine ret_v (.slice A26 v25.length c27) (by kernel_rfl) ⟨A26, c27, rfl, hS⟩

end Go.Proofs.Ytcpddgjmopdlbaa
