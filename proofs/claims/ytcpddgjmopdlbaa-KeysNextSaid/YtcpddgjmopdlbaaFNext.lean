/- The Go functions come to what their models say (Next). -/
import Derived.Test.YtcpddgjmopdlbaaTy
import Derived.Test.YtcpddgjmopdlbaaMNext
namespace Go.Proofs.Ytcpddgjmopdlbaa
open Go Go.Lift
set_option maxRecDepth 100000
set_option maxHeartbeats 4000000
set_option linter.unusedVariables false

theorem keys_Next_W {w0 w : World} {D R : Nat → Prop} {p0 : Int} {p1 : Int} {r0 : Int} {r1 : Int} (hS : Own w0 D R w [] []) (hD : ∀ b, ¬ D b) (hM : keys_Next_M p0 p1 = some (r0, r1)) :
    Calls Go.Proofs.Try.prog 16 #[.int .i64 p0, .int .i64 p1] w (fun e w' => e = .returned (.tuple #[.int .i64 r0, .int .i64 r1]) ∧ Own w0 D R w' [] []) := by
  refine enter (fn := Go.Proofs.Try.f16) [.int .i64 p0, .int .i64 p1, undef, undef, undef, undef, undef, undef, undef, undef, undef, undef, undef, undef, undef] (by kernel_rfl) rfl (by kernel_rfl) ?_
  unfold keys_Next_M at hM
  refine wp_seq ?_
  refine wp_reg ?_
  refine segEnd [.int .i64 p0, .int .i64 p1, undef, undef, .int .i64 0, .int .i64 0, undef, undef, undef, undef, undef, undef, undef, undef, undef] (by kernel_rfl) ?_
  refine then_normal ?_
  refine wp_seq ?_
  refine wp_block ?_
  refine wp_seq ?_
  refine wp_reg ?_
  refine segEnd [.int .i64 p0, .int .i64 p1, undef, undef, .int .i64 0, .int .i64 0, .bool (decide (p0 < 0)), .int .i64 p0, .bool (decide (p0 < 0)), undef, undef, undef, undef, undef, undef] (by kernel_rfl) ?_
  refine then_normal ?_
  refine wp_cond_split (t := decide (p0 < 0)) (by kernel_rfl) (fun hc1 => ?_) (fun hc1 => ?_)
  · replace hM := (if_pos hc1).symm.trans hM
    refine wp_seq ?_
    refine wp_reg ?_
    refine segEnd [.int .i64 p0, .int .i64 p1, undef, undef, .int .i64 0, .int .i64 1, .bool (decide (p0 < 0)), .int .i64 p0, .bool (decide (p0 < 0)), undef, undef, undef, undef, undef, undef] (by kernel_rfl) ?_
    refine then_normal ?_
    refine wp_ret ?_
    refine in_ret ?_
    refine then_ret ?_
    replace hS : Own w0 D R _ [] [] := hS.dropS forall0
    simp only [Option.some.injEq, Prod.mk.injEq] at hM
    obtain ⟨rfl, rfl⟩ := hM
    refine ret_v (.tuple #[.int .i64 0, .int .i64 1]) (by kernel_rfl) ⟨rfl, hS⟩
  · replace hM := (if_neg (Bool.eq_false_iff.1 hc1)).symm.trans hM
    refine wp_seq ?_
    refine wp_reg ?_
    refine segEnd [.int .i64 p0, .int .i64 p1, undef, undef, .int .i64 0, .int .i64 0, .bool (decide (p0 < 0)), .int .i64 p0, .bool (decide (p0 < 0)), .bool (decide (p0 ≥ p1)), .int .i64 p0, .int .i64 p1, .bool (decide (p0 ≥ p1)), undef, undef] (by kernel_rfl) ?_
    refine then_normal ?_
    refine wp_cond_split (t := decide (p0 ≥ p1)) (by kernel_rfl) (fun hc2 => ?_) (fun hc2 => ?_)
    · replace hM := (if_pos hc2).symm.trans hM
      refine wp_seq ?_
      refine wp_reg ?_
      refine segEnd [.int .i64 p0, .int .i64 p1, undef, undef, .int .i64 0, .int .i64 7, .bool (decide (p0 < 0)), .int .i64 p0, .bool (decide (p0 < 0)), .bool (decide (p0 ≥ p1)), .int .i64 p0, .int .i64 p1, .bool (decide (p0 ≥ p1)), undef, undef] (by kernel_rfl) ?_
      refine then_normal ?_
      refine wp_ret ?_
      refine in_ret ?_
      refine then_ret ?_
      replace hS : Own w0 D R _ [] [] := hS.dropS forall0
      simp only [Option.some.injEq, Prod.mk.injEq] at hM
      obtain ⟨rfl, rfl⟩ := hM
      refine ret_v (.tuple #[.int .i64 0, .int .i64 7]) (by kernel_rfl) ⟨rfl, hS⟩
    · replace hM := (if_neg (Bool.eq_false_iff.1 hc2)).symm.trans hM
      refine wp_skip ?_
      refine in_normal ?_
      refine then_normal ?_
      refine wp_seq ?_
      refine wp_reg ?_
      refine segEnd [.int .i64 p0, .int .i64 p1, undef, undef, .int .i64 (IntKind.i64.wrap (p0 + 1)), .int .i64 0, .bool (decide (p0 < 0)), .int .i64 p0, .bool (decide (p0 < 0)), .bool (decide (p0 ≥ p1)), .int .i64 p0, .int .i64 p1, .bool (decide (p0 ≥ p1)), .int .i64 p0, .int .i64 (IntKind.i64.wrap (p0 + 1))] (by kernel_rfl) ?_
      refine then_normal ?_
      refine wp_ret ?_
      replace hS : Own w0 D R _ [] [] := hS.dropS forall0
      simp only [Option.some.injEq, Prod.mk.injEq] at hM
      obtain ⟨rfl, rfl⟩ := hM
      refine ret_v (.tuple #[.int .i64 (IntKind.i64.wrap (p0 + 1)), .int .i64 0]) (by kernel_rfl) ⟨rfl, hS⟩

end Go.Proofs.Ytcpddgjmopdlbaa
