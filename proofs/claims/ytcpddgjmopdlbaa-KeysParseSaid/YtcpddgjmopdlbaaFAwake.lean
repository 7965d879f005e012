/- The Go functions come to what their models say (Awake). -/
import Derived.Test.YtcpddgjmopdlbaaTy
import Derived.Test.YtcpddgjmopdlbaaMAwake
import Derived.Test.YtcpddgjmopdlbaaFKeys
namespace Go.Proofs.Ytcpddgjmopdlbaa
open Go Go.Lift
set_option maxRecDepth 100000
set_option maxHeartbeats 4000000
set_option linter.unusedVariables false

theorem intagliolaw07_awake_W {w0 w : World} {D R : Nat → Prop} {r0 : Bool} (hS : Own w0 D R w [] []) (hD : ∀ b, ¬ D b) (hM : intagliolaw07_awake_M = some r0) :
    Calls Go.Proofs.Try.prog 13 #[] w (fun e w' => e = .returned (.bool r0) ∧ Own w0 D R w' [] []) := by
  refine enter (fn := Go.Proofs.Try.f13) [undef, undef, undef, undef, undef, undef, undef, undef, undef, undef, undef, undef, undef, undef, undef, undef, undef, undef, undef] (by kernel_rfl) rfl (by kernel_rfl) ?_
  unfold intagliolaw07_awake_M at hM
  refine wp_seq ?_
  refine wp_reg ?_
  refine segEnd [.bool false, undef, undef, undef, undef, undef, undef, undef, undef, undef, undef, undef, undef, undef, undef, undef, undef, undef, undef] (by kernel_rfl) ?_
  refine then_normal ?_
  refine wp_seq ?_
  refine wp_reg ?_
  refine seg 1 [.bool false, undef, .agg #[.int .i64 3, .int .i64 0, .int .i64 2, .int .i64 0, .int .i64 0, .int .i64 0], undef, undef, undef, undef, undef, undef, undef, undef, undef, undef, undef, undef, undef, undef, undef, undef] (by kernel_rfl) ?_
  replace hM := bind_some hM
  obtain ⟨v1, h4, hM⟩ := hM
  have hP := Own.pre (Xi := []) (X := []) (Si := []) hS forall0 forall0
  refine s_call 11 #[.agg #[.int .i64 3, .int .i64 0, .int .i64 2, .int .i64 0, .int .i64 0, .int .i64 0]] (by kernel_rfl) (by kernel_rfl) ((keys_Bytes_W hP doms_nil h4).mono ?_)
  rintro _ _ ⟨A2, c3, rfl, hQ⟩
  replace hS : Own w0 D R _ [rowA (Enc.int .u8) A2 c3 v1] [] := hS.post hQ (.inl rfl)
  clear hP hQ
  refine ⟨_, rfl, ?_⟩
  refine segEnd [.bool false, .slice A2 v1.length c3, .agg #[.int .i64 3, .int .i64 0, .int .i64 2, .int .i64 0, .int .i64 0, .int .i64 0], .slice A2 v1.length c3, undef, undef, undef, undef, undef, undef, undef, undef, undef, undef, undef, undef, undef, undef, undef] (by kernel_rfl) ?_
  refine then_normal ?_
  refine wp_seq ?_
  refine wp_reg ?_
  refine seg 4 [.bool false, .slice A2 v1.length c3, .agg #[.int .i64 3, .int .i64 0, .int .i64 2, .int .i64 0, .int .i64 0, .int .i64 0], .slice A2 v1.length c3, .slice A2 v1.length c3, .int .i64 (v1.length : Int), .bool ((v1.length : Int) == 48), .bool ((v1.length : Int) == 48), undef, undef, undef, undef, undef, undef, undef, undef, undef, undef, undef] (by kernel_rfl) ?_
  rcases Bool.eq_false_or_eq_true ((v1.length : Int) == 48) with hc5 | hc5
  · replace hM := (if_pos hc5).symm.trans hM
    rw [hc5]
    refine seg 1 [.bool false, .slice A2 v1.length c3, .agg #[.int .i64 3, .int .i64 0, .int .i64 2, .int .i64 0, .int .i64 0, .int .i64 0], .slice A2 v1.length c3, .slice A2 v1.length c3, .int .i64 (v1.length : Int), .bool true, .bool true, .slice A2 v1.length c3, undef, undef, undef, undef, undef, undef, undef, undef, undef, undef] (by kernel_rfl) ?_
    replace hM := bind_some hM
    obtain ⟨y6, h7, hM⟩ := hM
    have hi10 := ix_some h7
    refine s_index (A := A2) (cap := c3) (.tmp 8) (.const (.int .i64 7)) 26 5 1 .i64 7 rfl u26 el5 (by kernel_rfl) (by kernel_rfl) (by kernel_rfl) (SlR.of_row (hS.row_mem (List.Mem.head _))) hi10.1 hi10.2.1 (fun p8 hp9 => ?_)
    refine s_load_el (.tmp 9) 5 1 p8 _ y6 rfl el5 (by kernel_rfl) (by kernel_rfl) hp9 (SlR.of_row (hS.row_mem (List.Mem.head _))) hi10.2.2 ?_
    refine seg 3 [.bool false, .slice A2 v1.length c3, .agg #[.int .i64 3, .int .i64 0, .int .i64 2, .int .i64 0, .int .i64 0, .int .i64 0], .slice A2 v1.length c3, .slice A2 v1.length c3, .int .i64 (v1.length : Int), .bool true, .bool true, .slice A2 v1.length c3, .pointer (some p8), .int .u8 y6, .bool (y6 == 3), .bool (y6 == 3), .bool (y6 == 3), undef, undef, undef, undef, undef] (by kernel_rfl) ?_
    rcases Bool.eq_false_or_eq_true (y6 == 3) with hc11 | hc11
    · replace hM := (if_pos hc11).symm.trans hM
      rw [hc11]
      refine seg 1 [.bool false, .slice A2 v1.length c3, .agg #[.int .i64 3, .int .i64 0, .int .i64 2, .int .i64 0, .int .i64 0, .int .i64 0], .slice A2 v1.length c3, .slice A2 v1.length c3, .int .i64 (v1.length : Int), .bool true, .bool true, .slice A2 v1.length c3, .pointer (some p8), .int .u8 y6, .bool true, .bool true, .bool true, .slice A2 v1.length c3, undef, undef, undef, undef] (by kernel_rfl) ?_
      replace hM := bind_some hM
      obtain ⟨y12, h13, hM⟩ := hM
      have hi16 := ix_some h13
      refine s_index (A := A2) (cap := c3) (.tmp 14) (.const (.int .i64 23)) 26 5 1 .i64 23 rfl u26 el5 (by kernel_rfl) (by kernel_rfl) (by kernel_rfl) (SlR.of_row (hS.row_mem (List.Mem.head _))) hi16.1 hi16.2.1 (fun p14 hp15 => ?_)
      refine s_load_el (.tmp 15) 5 1 p14 _ y12 rfl el5 (by kernel_rfl) (by kernel_rfl) hp15 (SlR.of_row (hS.row_mem (List.Mem.head _))) hi16.2.2 ?_
      refine segEnd [.bool (y12 == 2), .slice A2 v1.length c3, .agg #[.int .i64 3, .int .i64 0, .int .i64 2, .int .i64 0, .int .i64 0, .int .i64 0], .slice A2 v1.length c3, .slice A2 v1.length c3, .int .i64 (v1.length : Int), .bool true, .bool true, .slice A2 v1.length c3, .pointer (some p8), .int .u8 y6, .bool true, .bool true, .bool true, .slice A2 v1.length c3, .pointer (some p14), .int .u8 y12, .bool (y12 == 2), .bool (y12 == 2)] (by kernel_rfl) ?_
      refine then_normal ?_
      refine wp_ret ?_
      replace hS : Own w0 D R _ [] [] := hS.takeX 0
      replace hS : Own w0 D R _ [] [] := hS.dropS forall0
      obtain rfl := Option.some.inj hM
      refine ret_v (.bool (y12 == 2)) (by kernel_rfl) ⟨rfl, hS⟩
    · replace hM := (if_neg (Bool.eq_false_iff.1 hc11)).symm.trans hM
      rw [hc11]
      refine segEnd [.bool false, .slice A2 v1.length c3, .agg #[.int .i64 3, .int .i64 0, .int .i64 2, .int .i64 0, .int .i64 0, .int .i64 0], .slice A2 v1.length c3, .slice A2 v1.length c3, .int .i64 (v1.length : Int), .bool true, .bool true, .slice A2 v1.length c3, .pointer (some p8), .int .u8 y6, .bool false, .bool false, .bool false, undef, undef, undef, undef, .bool false] (by kernel_rfl) ?_
      refine then_normal ?_
      refine wp_ret ?_
      replace hS : Own w0 D R _ [] [] := hS.takeX 0
      replace hS : Own w0 D R _ [] [] := hS.dropS forall0
      obtain rfl := Option.some.inj hM
      refine ret_v (.bool false) (by kernel_rfl) ⟨rfl, hS⟩
  · replace hM := (if_neg (Bool.eq_false_iff.1 hc5)).symm.trans hM
    rw [hc5]
    refine segEnd [.bool false, .slice A2 v1.length c3, .agg #[.int .i64 3, .int .i64 0, .int .i64 2, .int .i64 0, .int .i64 0, .int .i64 0], .slice A2 v1.length c3, .slice A2 v1.length c3, .int .i64 (v1.length : Int), .bool false, .bool false, undef, undef, undef, undef, .bool false, .bool false, undef, undef, undef, undef, .bool false] (by kernel_rfl) ?_
    refine then_normal ?_
    refine wp_ret ?_
    replace hS : Own w0 D R _ [] [] := hS.takeX 0
    replace hS : Own w0 D R _ [] [] := hS.dropS forall0
    obtain rfl := Option.some.inj hM
    refine ret_v (.bool false) (by kernel_rfl) ⟨rfl, hS⟩

end Go.Proofs.Ytcpddgjmopdlbaa
