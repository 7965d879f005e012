/- The Go functions come to what their models say (KeysNext). -/
import Derived.Test.YtcpddgjmopdlbaaTy
import Derived.Test.YtcpddgjmopdlbaaMKeysNext
import Derived.Test.YtcpddgjmopdlbaaFAwake
import Derived.Test.YtcpddgjmopdlbaaFNext
namespace Go.Proofs.Ytcpddgjmopdlbaa
open Go Go.Lift
set_option maxRecDepth 100000
set_option maxHeartbeats 4000000
set_option linter.unusedVariables false

theorem intagliolaw07_KeysNext_W {w0 w : World} {D R : Nat → Prop} {p0 : Int} {p1 : Int} {r0 : Bool} (hS : Own w0 D R w [] []) (hD : ∀ b, ¬ D b) (hM : intagliolaw07_KeysNext_M p0 p1 = some r0) :
    Calls Go.Proofs.Try.prog 5 #[.int .i64 p0, .int .i64 p1] w (fun e w' => e = .returned (.bool r0) ∧ Own w0 D R w' [] []) := by
  refine enter (fn := Go.Proofs.Try.f5) [.int .i64 p0, .int .i64 p1, undef, undef, undef, undef, undef, undef, undef, undef, undef, undef, undef, undef, undef, undef, undef, undef, undef, undef, undef, undef, undef, undef, undef, undef, undef, undef, undef, undef, undef, undef, undef, undef, undef, undef, undef, undef, undef, undef, undef, undef, undef, undef, undef, undef, undef, undef, undef, undef, undef, undef, undef, undef, undef, undef, undef, undef, undef] (by kernel_rfl) rfl (by kernel_rfl) ?_
  unfold intagliolaw07_KeysNext_M at hM
  refine wp_seq ?_
  refine wp_reg ?_
  refine segEnd [.int .i64 p0, .int .i64 p1, undef, undef, .bool false, undef, undef, undef, undef, undef, undef, undef, undef, undef, undef, undef, undef, undef, undef, undef, undef, undef, undef, undef, undef, undef, undef, undef, undef, undef, undef, undef, undef, undef, undef, undef, undef, undef, undef, undef, undef, undef, undef, undef, undef, undef, undef, undef, undef, undef, undef, undef, undef, undef, undef, undef, undef, undef, undef] (by kernel_rfl) ?_
  refine then_normal ?_
  refine wp_seq ?_
  refine wp_reg ?_
  refine seg 2 [.int .i64 p0, .int .i64 p1, undef, undef, .bool false, undef, undef, undef, .int .i64 p0, .int .i64 p1, undef, undef, undef, undef, undef, undef, undef, undef, undef, undef, undef, undef, undef, undef, undef, undef, undef, undef, undef, undef, undef, undef, undef, undef, undef, undef, undef, undef, undef, undef, undef, undef, undef, undef, undef, undef, undef, undef, undef, undef, undef, undef, undef, undef, undef, undef, undef, undef, undef] (by kernel_rfl) ?_
  replace hM := bind_some hM
  obtain ⟨⟨v1, v2⟩, h3, hM⟩ := hM
  have hP := Own.pre (Xi := []) (X := []) (Si := []) hS forall0 forall0
  refine s_call 16 #[.int .i64 p0, .int .i64 p1] (by kernel_rfl) (by kernel_rfl) ((keys_Next_W hP doms_nil h3).mono ?_)
  rintro _ _ ⟨rfl, hQ⟩
  replace hS : Own w0 D R _ [] [] := hS.post hQ (.inl rfl)
  clear hP hQ
  refine ⟨_, rfl, ?_⟩
  refine segEnd [.int .i64 p0, .int .i64 p1, undef, undef, .bool false, .int .i64 v1, .int .i64 v2, .tuple #[.int .i64 v1, .int .i64 v2], .int .i64 p0, .int .i64 p1, .tuple #[.int .i64 v1, .int .i64 v2], .int .i64 v1, .int .i64 v2, undef, undef, undef, undef, undef, undef, undef, undef, undef, undef, undef, undef, undef, undef, undef, undef, undef, undef, undef, undef, undef, undef, undef, undef, undef, undef, undef, undef, undef, undef, undef, undef, undef, undef, undef, undef, undef, undef, undef, undef, undef, undef, undef, undef, undef, undef] (by kernel_rfl) ?_
  refine then_normal ?_
  refine wp_seq ?_
  refine wp_block ?_
  refine wp_seq ?_
  refine wp_reg ?_
  refine segEnd [.int .i64 p0, .int .i64 p1, undef, undef, .bool false, .int .i64 v1, .int .i64 v2, .tuple #[.int .i64 v1, .int .i64 v2], .int .i64 p0, .int .i64 p1, .tuple #[.int .i64 v1, .int .i64 v2], .int .i64 v1, .int .i64 v2, .bool (decide (p0 < 0)), .int .i64 p0, .bool (decide (p0 < 0)), undef, undef, undef, undef, undef, undef, undef, undef, undef, undef, undef, undef, undef, undef, undef, undef, undef, undef, undef, undef, undef, undef, undef, undef, undef, undef, undef, undef, undef, undef, undef, undef, undef, undef, undef, undef, undef, undef, undef, undef, undef, undef, undef] (by kernel_rfl) ?_
  refine then_normal ?_
  refine wp_cond_split (t := decide (p0 < 0)) (by kernel_rfl) (fun hc4 => ?_) (fun hc4 => ?_)
  · replace hM := (if_pos hc4).symm.trans hM
    refine wp_seq ?_
    refine wp_reg ?_
    refine seg 3 [.int .i64 p0, .int .i64 p1, undef, undef, .bool false, .int .i64 v1, .int .i64 v2, .tuple #[.int .i64 v1, .int .i64 v2], .int .i64 p0, .int .i64 p1, .tuple #[.int .i64 v1, .int .i64 v2], .int .i64 v1, .int .i64 v2, .bool (decide (p0 < 0)), .int .i64 p0, .bool (decide (p0 < 0)), .int .i64 v1, .bool (v1 == 0), .bool (v1 == 0), undef, undef, undef, undef, undef, undef, undef, undef, undef, undef, undef, undef, undef, undef, undef, undef, undef, undef, undef, undef, undef, undef, undef, undef, undef, undef, undef, undef, undef, undef, undef, undef, undef, undef, undef, undef, undef, undef, undef, undef] (by kernel_rfl) ?_
    rcases Bool.eq_false_or_eq_true (v1 == 0) with hc5 | hc5
    · replace hM := (if_pos hc5).symm.trans hM
      rw [hc5]
      refine seg 4 [.int .i64 p0, .int .i64 p1, undef, undef, .bool false, .int .i64 v1, .int .i64 v2, .tuple #[.int .i64 v1, .int .i64 v2], .int .i64 p0, .int .i64 p1, .tuple #[.int .i64 v1, .int .i64 v2], .int .i64 v1, .int .i64 v2, .bool (decide (p0 < 0)), .int .i64 p0, .bool (decide (p0 < 0)), .int .i64 v1, .bool true, .bool true, .int .i64 v2, .bool (v2 == 1), .bool (v2 == 1), .bool (v2 == 1), undef, undef, undef, undef, undef, undef, undef, undef, undef, undef, undef, undef, undef, undef, undef, undef, undef, undef, undef, undef, undef, undef, undef, undef, undef, undef, undef, undef, undef, undef, undef, undef, undef, undef, undef, undef] (by kernel_rfl) ?_
      rcases Bool.eq_false_or_eq_true (v2 == 1) with hc6 | hc6
      · replace hM := (if_pos hc6).symm.trans hM
        rw [hc6]
        replace hM := bind_some hM
        obtain ⟨v7, h8, hM⟩ := hM
        have hP := Own.pre (Xi := []) (X := []) (Si := []) hS forall0 forall0
        refine s_call 13 #[] (by kernel_rfl) (by kernel_rfl) ((intagliolaw07_awake_W hP doms_nil h8).mono ?_)
        rintro _ _ ⟨rfl, hQ⟩
        replace hS : Own w0 D R _ [] [] := hS.post hQ (.inl rfl)
        clear hP hQ
        refine ⟨_, rfl, ?_⟩
        refine segEnd [.int .i64 p0, .int .i64 p1, undef, undef, .bool v7, .int .i64 v1, .int .i64 v2, .tuple #[.int .i64 v1, .int .i64 v2], .int .i64 p0, .int .i64 p1, .tuple #[.int .i64 v1, .int .i64 v2], .int .i64 v1, .int .i64 v2, .bool (decide (p0 < 0)), .int .i64 p0, .bool (decide (p0 < 0)), .int .i64 v1, .bool true, .bool true, .int .i64 v2, .bool true, .bool true, .bool true, .bool v7, .bool v7, undef, undef, undef, undef, undef, undef, undef, undef, undef, undef, undef, undef, undef, undef, undef, undef, undef, undef, undef, undef, undef, undef, undef, undef, undef, undef, undef, undef, undef, undef, undef, undef, undef, undef] (by kernel_rfl) ?_
        refine then_normal ?_
        refine wp_ret ?_
        refine in_ret ?_
        refine then_ret ?_
        replace hS : Own w0 D R _ [] [] := hS.dropS forall0
        obtain rfl := Option.some.inj hM
        refine ret_v (.bool v7) (by kernel_rfl) ⟨rfl, hS⟩
      · replace hM := (if_neg (Bool.eq_false_iff.1 hc6)).symm.trans hM
        rw [hc6]
        refine segEnd [.int .i64 p0, .int .i64 p1, undef, undef, .bool false, .int .i64 v1, .int .i64 v2, .tuple #[.int .i64 v1, .int .i64 v2], .int .i64 p0, .int .i64 p1, .tuple #[.int .i64 v1, .int .i64 v2], .int .i64 v1, .int .i64 v2, .bool (decide (p0 < 0)), .int .i64 p0, .bool (decide (p0 < 0)), .int .i64 v1, .bool true, .bool true, .int .i64 v2, .bool false, .bool false, .bool false, undef, .bool false, undef, undef, undef, undef, undef, undef, undef, undef, undef, undef, undef, undef, undef, undef, undef, undef, undef, undef, undef, undef, undef, undef, undef, undef, undef, undef, undef, undef, undef, undef, undef, undef, undef, undef] (by kernel_rfl) ?_
        refine then_normal ?_
        refine wp_ret ?_
        refine in_ret ?_
        refine then_ret ?_
        replace hS : Own w0 D R _ [] [] := hS.dropS forall0
        obtain rfl := Option.some.inj hM
        refine ret_v (.bool false) (by kernel_rfl) ⟨rfl, hS⟩
    · replace hM := (if_neg (Bool.eq_false_iff.1 hc5)).symm.trans hM
      rw [hc5]
      refine segEnd [.int .i64 p0, .int .i64 p1, undef, undef, .bool false, .int .i64 v1, .int .i64 v2, .tuple #[.int .i64 v1, .int .i64 v2], .int .i64 p0, .int .i64 p1, .tuple #[.int .i64 v1, .int .i64 v2], .int .i64 v1, .int .i64 v2, .bool (decide (p0 < 0)), .int .i64 p0, .bool (decide (p0 < 0)), .int .i64 v1, .bool false, .bool false, undef, undef, .bool false, .bool false, undef, .bool false, undef, undef, undef, undef, undef, undef, undef, undef, undef, undef, undef, undef, undef, undef, undef, undef, undef, undef, undef, undef, undef, undef, undef, undef, undef, undef, undef, undef, undef, undef, undef, undef, undef, undef] (by kernel_rfl) ?_
      refine then_normal ?_
      refine wp_ret ?_
      refine in_ret ?_
      refine then_ret ?_
      replace hS : Own w0 D R _ [] [] := hS.dropS forall0
      obtain rfl := Option.some.inj hM
      refine ret_v (.bool false) (by kernel_rfl) ⟨rfl, hS⟩
  · replace hM := (if_neg (Bool.eq_false_iff.1 hc4)).symm.trans hM
    refine wp_seq ?_
    refine wp_reg ?_
    refine segEnd [.int .i64 p0, .int .i64 p1, undef, undef, .bool false, .int .i64 v1, .int .i64 v2, .tuple #[.int .i64 v1, .int .i64 v2], .int .i64 p0, .int .i64 p1, .tuple #[.int .i64 v1, .int .i64 v2], .int .i64 v1, .int .i64 v2, .bool (decide (p0 < 0)), .int .i64 p0, .bool (decide (p0 < 0)), undef, undef, undef, undef, undef, undef, undef, undef, undef, .bool (decide (p0 ≥ p1)), .int .i64 p0, .int .i64 p1, .bool (decide (p0 ≥ p1)), undef, undef, undef, undef, undef, undef, undef, undef, undef, undef, undef, undef, undef, undef, undef, undef, undef, undef, undef, undef, undef, undef, undef, undef, undef, undef, undef, undef, undef, undef] (by kernel_rfl) ?_
    refine then_normal ?_
    refine wp_cond_split (t := decide (p0 ≥ p1)) (by kernel_rfl) (fun hc9 => ?_) (fun hc9 => ?_)
    · replace hM := (if_pos hc9).symm.trans hM
      refine wp_seq ?_
      refine wp_reg ?_
      refine seg 3 [.int .i64 p0, .int .i64 p1, undef, undef, .bool false, .int .i64 v1, .int .i64 v2, .tuple #[.int .i64 v1, .int .i64 v2], .int .i64 p0, .int .i64 p1, .tuple #[.int .i64 v1, .int .i64 v2], .int .i64 v1, .int .i64 v2, .bool (decide (p0 < 0)), .int .i64 p0, .bool (decide (p0 < 0)), undef, undef, undef, undef, undef, undef, undef, undef, undef, .bool (decide (p0 ≥ p1)), .int .i64 p0, .int .i64 p1, .bool (decide (p0 ≥ p1)), .int .i64 v1, .bool (v1 == 0), .bool (v1 == 0), undef, undef, undef, undef, undef, undef, undef, undef, undef, undef, undef, undef, undef, undef, undef, undef, undef, undef, undef, undef, undef, undef, undef, undef, undef, undef, undef] (by kernel_rfl) ?_
      rcases Bool.eq_false_or_eq_true (v1 == 0) with hc10 | hc10
      · replace hM := (if_pos hc10).symm.trans hM
        rw [hc10]
        refine seg 4 [.int .i64 p0, .int .i64 p1, undef, undef, .bool false, .int .i64 v1, .int .i64 v2, .tuple #[.int .i64 v1, .int .i64 v2], .int .i64 p0, .int .i64 p1, .tuple #[.int .i64 v1, .int .i64 v2], .int .i64 v1, .int .i64 v2, .bool (decide (p0 < 0)), .int .i64 p0, .bool (decide (p0 < 0)), undef, undef, undef, undef, undef, undef, undef, undef, undef, .bool (decide (p0 ≥ p1)), .int .i64 p0, .int .i64 p1, .bool (decide (p0 ≥ p1)), .int .i64 v1, .bool true, .bool true, .int .i64 v2, .bool (v2 == 7), .bool (v2 == 7), .bool (v2 == 7), undef, undef, undef, undef, undef, undef, undef, undef, undef, undef, undef, undef, undef, undef, undef, undef, undef, undef, undef, undef, undef, undef, undef] (by kernel_rfl) ?_
        rcases Bool.eq_false_or_eq_true (v2 == 7) with hc11 | hc11
        · replace hM := (if_pos hc11).symm.trans hM
          rw [hc11]
          replace hM := bind_some hM
          obtain ⟨v12, h13, hM⟩ := hM
          have hP := Own.pre (Xi := []) (X := []) (Si := []) hS forall0 forall0
          refine s_call 13 #[] (by kernel_rfl) (by kernel_rfl) ((intagliolaw07_awake_W hP doms_nil h13).mono ?_)
          rintro _ _ ⟨rfl, hQ⟩
          replace hS : Own w0 D R _ [] [] := hS.post hQ (.inl rfl)
          clear hP hQ
          refine ⟨_, rfl, ?_⟩
          refine segEnd [.int .i64 p0, .int .i64 p1, undef, undef, .bool v12, .int .i64 v1, .int .i64 v2, .tuple #[.int .i64 v1, .int .i64 v2], .int .i64 p0, .int .i64 p1, .tuple #[.int .i64 v1, .int .i64 v2], .int .i64 v1, .int .i64 v2, .bool (decide (p0 < 0)), .int .i64 p0, .bool (decide (p0 < 0)), undef, undef, undef, undef, undef, undef, undef, undef, undef, .bool (decide (p0 ≥ p1)), .int .i64 p0, .int .i64 p1, .bool (decide (p0 ≥ p1)), .int .i64 v1, .bool true, .bool true, .int .i64 v2, .bool true, .bool true, .bool true, .bool v12, .bool v12, undef, undef, undef, undef, undef, undef, undef, undef, undef, undef, undef, undef, undef, undef, undef, undef, undef, undef, undef, undef, undef] (by kernel_rfl) ?_
          refine then_normal ?_
          refine wp_ret ?_
          refine in_ret ?_
          refine then_ret ?_
          replace hS : Own w0 D R _ [] [] := hS.dropS forall0
          obtain rfl := Option.some.inj hM
          refine ret_v (.bool v12) (by kernel_rfl) ⟨rfl, hS⟩
        · replace hM := (if_neg (Bool.eq_false_iff.1 hc11)).symm.trans hM
          rw [hc11]
          refine segEnd [.int .i64 p0, .int .i64 p1, undef, undef, .bool false, .int .i64 v1, .int .i64 v2, .tuple #[.int .i64 v1, .int .i64 v2], .int .i64 p0, .int .i64 p1, .tuple #[.int .i64 v1, .int .i64 v2], .int .i64 v1, .int .i64 v2, .bool (decide (p0 < 0)), .int .i64 p0, .bool (decide (p0 < 0)), undef, undef, undef, undef, undef, undef, undef, undef, undef, .bool (decide (p0 ≥ p1)), .int .i64 p0, .int .i64 p1, .bool (decide (p0 ≥ p1)), .int .i64 v1, .bool true, .bool true, .int .i64 v2, .bool false, .bool false, .bool false, undef, .bool false, undef, undef, undef, undef, undef, undef, undef, undef, undef, undef, undef, undef, undef, undef, undef, undef, undef, undef, undef, undef, undef] (by kernel_rfl) ?_
          refine then_normal ?_
          refine wp_ret ?_
          refine in_ret ?_
          refine then_ret ?_
          replace hS : Own w0 D R _ [] [] := hS.dropS forall0
          obtain rfl := Option.some.inj hM
          refine ret_v (.bool false) (by kernel_rfl) ⟨rfl, hS⟩
      · replace hM := (if_neg (Bool.eq_false_iff.1 hc10)).symm.trans hM
        rw [hc10]
        refine segEnd [.int .i64 p0, .int .i64 p1, undef, undef, .bool false, .int .i64 v1, .int .i64 v2, .tuple #[.int .i64 v1, .int .i64 v2], .int .i64 p0, .int .i64 p1, .tuple #[.int .i64 v1, .int .i64 v2], .int .i64 v1, .int .i64 v2, .bool (decide (p0 < 0)), .int .i64 p0, .bool (decide (p0 < 0)), undef, undef, undef, undef, undef, undef, undef, undef, undef, .bool (decide (p0 ≥ p1)), .int .i64 p0, .int .i64 p1, .bool (decide (p0 ≥ p1)), .int .i64 v1, .bool false, .bool false, undef, undef, .bool false, .bool false, undef, .bool false, undef, undef, undef, undef, undef, undef, undef, undef, undef, undef, undef, undef, undef, undef, undef, undef, undef, undef, undef, undef, undef] (by kernel_rfl) ?_
        refine then_normal ?_
        refine wp_ret ?_
        refine in_ret ?_
        refine then_ret ?_
        replace hS : Own w0 D R _ [] [] := hS.dropS forall0
        obtain rfl := Option.some.inj hM
        refine ret_v (.bool false) (by kernel_rfl) ⟨rfl, hS⟩
    · replace hM := (if_neg (Bool.eq_false_iff.1 hc9)).symm.trans hM
      refine wp_skip ?_
      refine in_normal ?_
      refine then_normal ?_
      refine wp_join (fun a w => ∃ (G21 : Nat → Value) (x20 : Bool), a = Fr [(G21 0), (G21 1), undef, undef, .bool x20, (G21 2), (G21 3), (G21 4), (G21 5), (G21 6), (G21 7), (G21 8), (G21 9), (G21 10), (G21 11), (G21 12), undef, undef, undef, undef, undef, undef, undef, undef, undef, (G21 13), (G21 14), (G21 15), (G21 16), undef, undef, undef, undef, undef, undef, undef, undef, undef, (G21 17), (G21 18), (G21 19), (G21 20), (G21 21), (G21 22), (G21 23), (G21 24), (G21 25), (G21 26), (G21 27), (G21 28), (G21 29), (G21 30), (G21 31), (G21 32), (G21 33), (G21 34), (G21 35), (G21 36), (G21 37)] ∧ Own w0 D R w [] [] ∧ intagliolaw07_KeysNext_J1 x20 = some r0) ?_ ?_
      ·
        refine wp_reg ?_
        refine seg 3 [.int .i64 p0, .int .i64 p1, undef, undef, .bool false, .int .i64 v1, .int .i64 v2, .tuple #[.int .i64 v1, .int .i64 v2], .int .i64 p0, .int .i64 p1, .tuple #[.int .i64 v1, .int .i64 v2], .int .i64 v1, .int .i64 v2, .bool (decide (p0 < 0)), .int .i64 p0, .bool (decide (p0 < 0)), undef, undef, undef, undef, undef, undef, undef, undef, undef, .bool (decide (p0 ≥ p1)), .int .i64 p0, .int .i64 p1, .bool (decide (p0 ≥ p1)), undef, undef, undef, undef, undef, undef, undef, undef, undef, .int .i64 v2, .bool (v2 == 0), .bool (v2 == 0), undef, undef, undef, undef, undef, undef, undef, undef, undef, undef, undef, undef, undef, undef, undef, undef, undef, undef] (by kernel_rfl) ?_
        rcases Bool.eq_false_or_eq_true (v2 == 0) with hc14 | hc14
        · replace hM := (if_pos hc14).symm.trans hM
          rw [hc14]
          refine seg 6 [.int .i64 p0, .int .i64 p1, undef, undef, .bool false, .int .i64 v1, .int .i64 v2, .tuple #[.int .i64 v1, .int .i64 v2], .int .i64 p0, .int .i64 p1, .tuple #[.int .i64 v1, .int .i64 v2], .int .i64 v1, .int .i64 v2, .bool (decide (p0 < 0)), .int .i64 p0, .bool (decide (p0 < 0)), undef, undef, undef, undef, undef, undef, undef, undef, undef, .bool (decide (p0 ≥ p1)), .int .i64 p0, .int .i64 p1, .bool (decide (p0 ≥ p1)), undef, undef, undef, undef, undef, undef, undef, undef, undef, .int .i64 v2, .bool true, .bool true, .int .i64 v1, .int .i64 (IntKind.i64.wrap (v1 - 1)), .int .i64 p0, .bool ((IntKind.i64.wrap (v1 - 1)) == p0), .bool ((IntKind.i64.wrap (v1 - 1)) == p0), .bool ((IntKind.i64.wrap (v1 - 1)) == p0), undef, undef, undef, undef, undef, undef, undef, undef, undef, undef, undef, undef] (by kernel_rfl) ?_
          rcases Bool.eq_false_or_eq_true ((IntKind.i64.wrap (v1 - 1)) == p0) with hc15 | hc15
          · replace hM := (if_pos hc15).symm.trans hM
            rw [hc15]
            refine seg 5 [.int .i64 p0, .int .i64 p1, undef, undef, .bool false, .int .i64 v1, .int .i64 v2, .tuple #[.int .i64 v1, .int .i64 v2], .int .i64 p0, .int .i64 p1, .tuple #[.int .i64 v1, .int .i64 v2], .int .i64 v1, .int .i64 v2, .bool (decide (p0 < 0)), .int .i64 p0, .bool (decide (p0 < 0)), undef, undef, undef, undef, undef, undef, undef, undef, undef, .bool (decide (p0 ≥ p1)), .int .i64 p0, .int .i64 p1, .bool (decide (p0 ≥ p1)), undef, undef, undef, undef, undef, undef, undef, undef, undef, .int .i64 v2, .bool true, .bool true, .int .i64 v1, .int .i64 (IntKind.i64.wrap (v1 - 1)), .int .i64 p0, .bool true, .bool true, .bool true, .int .i64 v1, .int .i64 p0, .bool (decide (v1 > p0)), .bool (decide (v1 > p0)), .bool (decide (v1 > p0)), undef, undef, undef, undef, undef, undef, undef] (by kernel_rfl) ?_
            rcases Bool.eq_false_or_eq_true (decide (v1 > p0)) with hc16 | hc16
            · replace hM := (if_pos hc16).symm.trans hM
              rw [hc16]
              refine seg 5 [.int .i64 p0, .int .i64 p1, undef, undef, .bool false, .int .i64 v1, .int .i64 v2, .tuple #[.int .i64 v1, .int .i64 v2], .int .i64 p0, .int .i64 p1, .tuple #[.int .i64 v1, .int .i64 v2], .int .i64 v1, .int .i64 v2, .bool (decide (p0 < 0)), .int .i64 p0, .bool (decide (p0 < 0)), undef, undef, undef, undef, undef, undef, undef, undef, undef, .bool (decide (p0 ≥ p1)), .int .i64 p0, .int .i64 p1, .bool (decide (p0 ≥ p1)), undef, undef, undef, undef, undef, undef, undef, undef, undef, .int .i64 v2, .bool true, .bool true, .int .i64 v1, .int .i64 (IntKind.i64.wrap (v1 - 1)), .int .i64 p0, .bool true, .bool true, .bool true, .int .i64 v1, .int .i64 p0, .bool true, .bool true, .bool true, .int .i64 v1, .int .i64 p1, .bool (decide (v1 ≤ p1)), .bool (decide (v1 ≤ p1)), .bool (decide (v1 ≤ p1)), undef, undef] (by kernel_rfl) ?_
              rcases Bool.eq_false_or_eq_true (decide (v1 ≤ p1)) with hc17 | hc17
              · replace hM := (if_pos hc17).symm.trans hM
                rw [hc17]
                replace hM := bind_some hM
                obtain ⟨v18, h19, hM⟩ := hM
                have hP := Own.pre (Xi := []) (X := []) (Si := []) hS forall0 forall0
                refine s_call 13 #[] (by kernel_rfl) (by kernel_rfl) ((intagliolaw07_awake_W hP doms_nil h19).mono ?_)
                rintro _ _ ⟨rfl, hQ⟩
                replace hS : Own w0 D R _ [] [] := hS.post hQ (.inl rfl)
                clear hP hQ
                refine ⟨_, rfl, ?_⟩
                refine segEnd [.int .i64 p0, .int .i64 p1, undef, undef, .bool v18, .int .i64 v1, .int .i64 v2, .tuple #[.int .i64 v1, .int .i64 v2], .int .i64 p0, .int .i64 p1, .tuple #[.int .i64 v1, .int .i64 v2], .int .i64 v1, .int .i64 v2, .bool (decide (p0 < 0)), .int .i64 p0, .bool (decide (p0 < 0)), undef, undef, undef, undef, undef, undef, undef, undef, undef, .bool (decide (p0 ≥ p1)), .int .i64 p0, .int .i64 p1, .bool (decide (p0 ≥ p1)), undef, undef, undef, undef, undef, undef, undef, undef, undef, .int .i64 v2, .bool true, .bool true, .int .i64 v1, .int .i64 (IntKind.i64.wrap (v1 - 1)), .int .i64 p0, .bool true, .bool true, .bool true, .int .i64 v1, .int .i64 p0, .bool true, .bool true, .bool true, .int .i64 v1, .int .i64 p1, .bool true, .bool true, .bool true, .bool v18, .bool v18] (by kernel_rfl) ?_
                refine then_normal ?_
                exact ⟨(fun i => ([.int .i64 p0, .int .i64 p1, .int .i64 v1, .int .i64 v2, .tuple #[.int .i64 v1, .int .i64 v2], .int .i64 p0, .int .i64 p1, .tuple #[.int .i64 v1, .int .i64 v2], .int .i64 v1, .int .i64 v2, .bool (decide (p0 < 0)), .int .i64 p0, .bool (decide (p0 < 0)), .bool (decide (p0 ≥ p1)), .int .i64 p0, .int .i64 p1, .bool (decide (p0 ≥ p1)), .int .i64 v2, .bool true, .bool true, .int .i64 v1, .int .i64 (IntKind.i64.wrap (v1 - 1)), .int .i64 p0, .bool true, .bool true, .bool true, .int .i64 v1, .int .i64 p0, .bool true, .bool true, .bool true, .int .i64 v1, .int .i64 p1, .bool true, .bool true, .bool true, .bool v18, .bool v18] : List Value).getD i undef), v18, (by kernel_rfl), hS, hM⟩
              · replace hM := (if_neg (Bool.eq_false_iff.1 hc17)).symm.trans hM
                rw [hc17]
                refine segEnd [.int .i64 p0, .int .i64 p1, undef, undef, .bool false, .int .i64 v1, .int .i64 v2, .tuple #[.int .i64 v1, .int .i64 v2], .int .i64 p0, .int .i64 p1, .tuple #[.int .i64 v1, .int .i64 v2], .int .i64 v1, .int .i64 v2, .bool (decide (p0 < 0)), .int .i64 p0, .bool (decide (p0 < 0)), undef, undef, undef, undef, undef, undef, undef, undef, undef, .bool (decide (p0 ≥ p1)), .int .i64 p0, .int .i64 p1, .bool (decide (p0 ≥ p1)), undef, undef, undef, undef, undef, undef, undef, undef, undef, .int .i64 v2, .bool true, .bool true, .int .i64 v1, .int .i64 (IntKind.i64.wrap (v1 - 1)), .int .i64 p0, .bool true, .bool true, .bool true, .int .i64 v1, .int .i64 p0, .bool true, .bool true, .bool true, .int .i64 v1, .int .i64 p1, .bool false, .bool false, .bool false, undef, .bool false] (by kernel_rfl) ?_
                refine then_normal ?_
                exact ⟨(fun i => ([.int .i64 p0, .int .i64 p1, .int .i64 v1, .int .i64 v2, .tuple #[.int .i64 v1, .int .i64 v2], .int .i64 p0, .int .i64 p1, .tuple #[.int .i64 v1, .int .i64 v2], .int .i64 v1, .int .i64 v2, .bool (decide (p0 < 0)), .int .i64 p0, .bool (decide (p0 < 0)), .bool (decide (p0 ≥ p1)), .int .i64 p0, .int .i64 p1, .bool (decide (p0 ≥ p1)), .int .i64 v2, .bool true, .bool true, .int .i64 v1, .int .i64 (IntKind.i64.wrap (v1 - 1)), .int .i64 p0, .bool true, .bool true, .bool true, .int .i64 v1, .int .i64 p0, .bool true, .bool true, .bool true, .int .i64 v1, .int .i64 p1, .bool false, .bool false, .bool false, undef, .bool false] : List Value).getD i undef), false, (by kernel_rfl), hS, hM⟩
            · replace hM := (if_neg (Bool.eq_false_iff.1 hc16)).symm.trans hM
              rw [hc16]
              refine segEnd [.int .i64 p0, .int .i64 p1, undef, undef, .bool false, .int .i64 v1, .int .i64 v2, .tuple #[.int .i64 v1, .int .i64 v2], .int .i64 p0, .int .i64 p1, .tuple #[.int .i64 v1, .int .i64 v2], .int .i64 v1, .int .i64 v2, .bool (decide (p0 < 0)), .int .i64 p0, .bool (decide (p0 < 0)), undef, undef, undef, undef, undef, undef, undef, undef, undef, .bool (decide (p0 ≥ p1)), .int .i64 p0, .int .i64 p1, .bool (decide (p0 ≥ p1)), undef, undef, undef, undef, undef, undef, undef, undef, undef, .int .i64 v2, .bool true, .bool true, .int .i64 v1, .int .i64 (IntKind.i64.wrap (v1 - 1)), .int .i64 p0, .bool true, .bool true, .bool true, .int .i64 v1, .int .i64 p0, .bool false, .bool false, .bool false, undef, undef, undef, .bool false, .bool false, undef, .bool false] (by kernel_rfl) ?_
              refine then_normal ?_
              exact ⟨(fun i => ([.int .i64 p0, .int .i64 p1, .int .i64 v1, .int .i64 v2, .tuple #[.int .i64 v1, .int .i64 v2], .int .i64 p0, .int .i64 p1, .tuple #[.int .i64 v1, .int .i64 v2], .int .i64 v1, .int .i64 v2, .bool (decide (p0 < 0)), .int .i64 p0, .bool (decide (p0 < 0)), .bool (decide (p0 ≥ p1)), .int .i64 p0, .int .i64 p1, .bool (decide (p0 ≥ p1)), .int .i64 v2, .bool true, .bool true, .int .i64 v1, .int .i64 (IntKind.i64.wrap (v1 - 1)), .int .i64 p0, .bool true, .bool true, .bool true, .int .i64 v1, .int .i64 p0, .bool false, .bool false, .bool false, undef, undef, undef, .bool false, .bool false, undef, .bool false] : List Value).getD i undef), false, (by kernel_rfl), hS, hM⟩
          · replace hM := (if_neg (Bool.eq_false_iff.1 hc15)).symm.trans hM
            rw [hc15]
            refine segEnd [.int .i64 p0, .int .i64 p1, undef, undef, .bool false, .int .i64 v1, .int .i64 v2, .tuple #[.int .i64 v1, .int .i64 v2], .int .i64 p0, .int .i64 p1, .tuple #[.int .i64 v1, .int .i64 v2], .int .i64 v1, .int .i64 v2, .bool (decide (p0 < 0)), .int .i64 p0, .bool (decide (p0 < 0)), undef, undef, undef, undef, undef, undef, undef, undef, undef, .bool (decide (p0 ≥ p1)), .int .i64 p0, .int .i64 p1, .bool (decide (p0 ≥ p1)), undef, undef, undef, undef, undef, undef, undef, undef, undef, .int .i64 v2, .bool true, .bool true, .int .i64 v1, .int .i64 (IntKind.i64.wrap (v1 - 1)), .int .i64 p0, .bool false, .bool false, .bool false, undef, undef, undef, .bool false, .bool false, undef, undef, undef, .bool false, .bool false, undef, .bool false] (by kernel_rfl) ?_
            refine then_normal ?_
            exact ⟨(fun i => ([.int .i64 p0, .int .i64 p1, .int .i64 v1, .int .i64 v2, .tuple #[.int .i64 v1, .int .i64 v2], .int .i64 p0, .int .i64 p1, .tuple #[.int .i64 v1, .int .i64 v2], .int .i64 v1, .int .i64 v2, .bool (decide (p0 < 0)), .int .i64 p0, .bool (decide (p0 < 0)), .bool (decide (p0 ≥ p1)), .int .i64 p0, .int .i64 p1, .bool (decide (p0 ≥ p1)), .int .i64 v2, .bool true, .bool true, .int .i64 v1, .int .i64 (IntKind.i64.wrap (v1 - 1)), .int .i64 p0, .bool false, .bool false, .bool false, undef, undef, undef, .bool false, .bool false, undef, undef, undef, .bool false, .bool false, undef, .bool false] : List Value).getD i undef), false, (by kernel_rfl), hS, hM⟩
        · replace hM := (if_neg (Bool.eq_false_iff.1 hc14)).symm.trans hM
          rw [hc14]
          refine segEnd [.int .i64 p0, .int .i64 p1, undef, undef, .bool false, .int .i64 v1, .int .i64 v2, .tuple #[.int .i64 v1, .int .i64 v2], .int .i64 p0, .int .i64 p1, .tuple #[.int .i64 v1, .int .i64 v2], .int .i64 v1, .int .i64 v2, .bool (decide (p0 < 0)), .int .i64 p0, .bool (decide (p0 < 0)), undef, undef, undef, undef, undef, undef, undef, undef, undef, .bool (decide (p0 ≥ p1)), .int .i64 p0, .int .i64 p1, .bool (decide (p0 ≥ p1)), undef, undef, undef, undef, undef, undef, undef, undef, undef, .int .i64 v2, .bool false, .bool false, undef, undef, undef, undef, .bool false, .bool false, undef, undef, undef, .bool false, .bool false, undef, undef, undef, .bool false, .bool false, undef, .bool false] (by kernel_rfl) ?_
          refine then_normal ?_
          exact ⟨(fun i => ([.int .i64 p0, .int .i64 p1, .int .i64 v1, .int .i64 v2, .tuple #[.int .i64 v1, .int .i64 v2], .int .i64 p0, .int .i64 p1, .tuple #[.int .i64 v1, .int .i64 v2], .int .i64 v1, .int .i64 v2, .bool (decide (p0 < 0)), .int .i64 p0, .bool (decide (p0 < 0)), .bool (decide (p0 ≥ p1)), .int .i64 p0, .int .i64 p1, .bool (decide (p0 ≥ p1)), .int .i64 v2, .bool false, .bool false, undef, undef, undef, undef, .bool false, .bool false, undef, undef, undef, .bool false, .bool false, undef, undef, undef, .bool false, .bool false, undef, .bool false] : List Value).getD i undef), false, (by kernel_rfl), hS, hM⟩
      · rintro a w ⟨G21, x20, rfl, hS, hM⟩
        unfold intagliolaw07_KeysNext_J1 at hM
        refine wp_ret ?_
        replace hS : Own w0 D R _ [] [] := hS.dropS forall0
        obtain rfl := Option.some.inj hM
        refine ret_v (.bool x20) (by kernel_rfl) ⟨rfl, hS⟩

end Go.Proofs.Ytcpddgjmopdlbaa
