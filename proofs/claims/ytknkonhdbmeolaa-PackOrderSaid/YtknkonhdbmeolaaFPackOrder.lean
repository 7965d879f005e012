/- The Go functions come to what their models say (PackOrder). -/
import Derived.Test.YtknkonhdbmeolaaTy
import Derived.Test.YtknkonhdbmeolaaMPackOrder
import Derived.Test.YtknkonhdbmeolaaFAwake
import Derived.Test.YtknkonhdbmeolaaFCmp
import Derived.Test.YtknkonhdbmeolaaFPut
namespace Go.Proofs.Ytknkonhdbmeolaa
open Go Go.Lift
set_option maxRecDepth 100000
set_option maxHeartbeats 4000000
set_option linter.unusedVariables false

theorem intagliolaw01_PackOrder_W {w0 w : World} {D R : Nat → Prop} {p0 : Int} {p1 : Int} {r0 : Bool} (hS : Own w0 D R w [] []) (hD : ∀ b, ¬ D b) (hM : intagliolaw01_PackOrder_M p0 p1 = some r0) :
    Calls Go.Proofs.Try.prog 5 #[.int .u64 p0, .int .u64 p1] w (fun e w' => e = .returned (.bool r0) ∧ Own w0 D R w' [] []) := by
  refine enter (fn := Go.Proofs.Try.f5) [.int .u64 p0, .int .u64 p1, undef, undef, undef, undef, undef, undef, undef, undef, undef, undef, undef, undef, undef, undef, undef, undef, undef, undef, undef, undef, undef, undef, undef, undef, undef, undef, undef, undef, undef, undef, undef, undef, undef, undef, undef, undef, undef, undef, undef, undef, undef, undef, undef, undef, undef, undef, undef, undef, undef] (by kernel_rfl) rfl (by kernel_rfl) ?_
  unfold intagliolaw01_PackOrder_M at hM
  refine wp_seq ?_
  refine wp_reg ?_
  refine segEnd [.int .u64 p0, .int .u64 p1, undef, undef, .bool false, undef, undef, undef, undef, undef, undef, undef, undef, undef, undef, undef, undef, undef, undef, undef, undef, undef, undef, undef, undef, undef, undef, undef, undef, undef, undef, undef, undef, undef, undef, undef, undef, undef, undef, undef, undef, undef, undef, undef, undef, undef, undef, undef, undef, undef, undef] (by kernel_rfl) ?_
  refine then_normal ?_
  refine wp_seq ?_
  refine wp_reg ?_
  refine segEnd [.int .u64 p0, .int .u64 p1, undef, undef, .bool false, .int .u32 (IntKind.u32.wrap (p0)), .int .u32 (IntKind.u32.wrap (p1)), undef, .int .u64 p0, .int .u32 (IntKind.u32.wrap (p0)), .int .u64 p1, .int .u32 (IntKind.u32.wrap (p1)), undef, undef, undef, undef, undef, undef, undef, undef, undef, undef, undef, undef, undef, undef, undef, undef, undef, undef, undef, undef, undef, undef, undef, undef, undef, undef, undef, undef, undef, undef, undef, undef, undef, undef, undef, undef, undef, undef, undef] (by kernel_rfl) ?_
  refine then_normal ?_
  refine wp_join (fun a w => ∃ (G27 : Nat → Value) (x26 : Bool), a = Fr [.int .u64 p0, (G27 0), undef, undef, (G27 1), .int .u32 (IntKind.u32.wrap (p0)), (G27 2), .bool x26, (G27 3), (G27 4), (G27 5), (G27 6), (G27 7), (G27 8), (G27 9), (G27 10), (G27 11), (G27 12), (G27 13), (G27 14), (G27 15), (G27 16), (G27 17), (G27 18), (G27 19), (G27 20), (G27 21), (G27 22), (G27 23), (G27 24), (G27 25), (G27 26), undef, undef, undef, undef, undef, undef, undef, undef, undef, undef, undef, undef, undef, undef, undef, undef, undef, undef, undef] ∧ Own w0 D R w [] [] ∧ intagliolaw01_PackOrder_J1 p0 x26 = some r0) ?_ ?_
  ·
    refine wp_reg ?_
    refine seg 1 [.int .u64 p0, .int .u64 p1, undef, undef, .bool false, .int .u32 (IntKind.u32.wrap (p0)), .int .u32 (IntKind.u32.wrap (p1)), undef, .int .u64 p0, .int .u32 (IntKind.u32.wrap (p0)), .int .u64 p1, .int .u32 (IntKind.u32.wrap (p1)), .int .u64 p0, undef, undef, undef, undef, undef, undef, undef, undef, undef, undef, undef, undef, undef, undef, undef, undef, undef, undef, undef, undef, undef, undef, undef, undef, undef, undef, undef, undef, undef, undef, undef, undef, undef, undef, undef, undef, undef, undef] (by kernel_rfl) ?_
    replace hM := bind_some hM
    obtain ⟨v1, h4, hM⟩ := hM
    have hP := Own.pre (Xi := []) (X := []) (Si := [slA (fun _ => False) (Enc.int .u8) none 0 []]) hS (forall2 (sl_nil (fun _ => False) (Enc.int .u8) 0 _) forall0) (forall2 (fun _ h => h.elim) forall0)
    refine s_call 17 #[.slice none 0 0, .int .u64 p0] (by kernel_rfl) (by kernel_rfl) ((pack_Put64_W hP doms_nil h4).mono ?_)
    rintro _ _ ⟨A2, c3, rfl, hQ⟩
    replace hS : Own w0 D R _ [rowA (Enc.int .u8) A2 c3 v1] [] := hS.post hQ (.inl rfl)
    clear hP hQ
    refine ⟨_, rfl, ?_⟩
    refine seg 1 [.int .u64 p0, .int .u64 p1, undef, undef, .bool false, .int .u32 (IntKind.u32.wrap (p0)), .int .u32 (IntKind.u32.wrap (p1)), undef, .int .u64 p0, .int .u32 (IntKind.u32.wrap (p0)), .int .u64 p1, .int .u32 (IntKind.u32.wrap (p1)), .int .u64 p0, .slice A2 v1.length c3, .int .u64 p1, undef, undef, undef, undef, undef, undef, undef, undef, undef, undef, undef, undef, undef, undef, undef, undef, undef, undef, undef, undef, undef, undef, undef, undef, undef, undef, undef, undef, undef, undef, undef, undef, undef, undef, undef, undef] (by kernel_rfl) ?_
    replace hM := bind_some hM
    obtain ⟨v5, h8, hM⟩ := hM
    have hP := Own.pre (Xi := []) (X := [rowA (Enc.int .u8) A2 c3 v1]) (Si := [slA (fun _ => False) (Enc.int .u8) none 0 []]) hS (forall2 (sl_nil (fun _ => False) (Enc.int .u8) 0 _) forall0) (forall2 (fun _ h => h.elim) forall0)
    refine s_call 17 #[.slice none 0 0, .int .u64 p1] (by kernel_rfl) (by kernel_rfl) ((pack_Put64_W hP doms_nil h8).mono ?_)
    rintro _ _ ⟨A6, c7, rfl, hQ⟩
    replace hS : Own w0 D R _ [rowA (Enc.int .u8) A6 c7 v5, rowA (Enc.int .u8) A2 c3 v1] [] := hS.post hQ (.inl rfl)
    clear hP hQ
    refine ⟨_, rfl, ?_⟩
    replace hM := bind_some hM
    obtain ⟨v9, h10, hM⟩ := hM
    have hP := Own.pre (Xi := []) (X := [rowA (Enc.int .u8) A6 c7 v5, rowA (Enc.int .u8) A2 c3 v1]) (Si := [slA (blkOf A2) (Enc.int .u8) A2 c3 v1, slA (blkOf A6) (Enc.int .u8) A6 c7 v5]) hS (forall2 (sl_of_row (hS.row_mem (List.Mem.tail _ (List.Mem.head _)))) (forall2 (sl_of_row (hS.row_mem (List.Mem.head _))) forall0)) (forall2 (fun _ h => .inr ⟨_, (List.Mem.tail _ (List.Mem.head _)), h⟩) (forall2 (fun _ h => .inr ⟨_, (List.Mem.head _), h⟩) forall0))
    refine s_call 25 #[.slice A2 v1.length c3, .slice A6 v5.length c7] (by kernel_rfl) (by kernel_rfl) ((bytes_Compare_W hP doms_nil h10).mono ?_)
    rintro _ _ ⟨rfl, hQ⟩
    replace hS : Own w0 D R _ [rowA (Enc.int .u8) A6 c7 v5, rowA (Enc.int .u8) A2 c3 v1] [] := hS.post hQ (.inl rfl)
    clear hP hQ
    refine ⟨_, rfl, ?_⟩
    refine seg 2 [.int .u64 p0, .int .u64 p1, undef, undef, .bool false, .int .u32 (IntKind.u32.wrap (p0)), .int .u32 (IntKind.u32.wrap (p1)), undef, .int .u64 p0, .int .u32 (IntKind.u32.wrap (p0)), .int .u64 p1, .int .u32 (IntKind.u32.wrap (p1)), .int .u64 p0, .slice A2 v1.length c3, .int .u64 p1, .slice A6 v5.length c7, .int .i64 v9, .int .u64 p0, .int .u64 p1, undef, undef, undef, undef, undef, undef, undef, undef, undef, undef, undef, undef, undef, undef, undef, undef, undef, undef, undef, undef, undef, undef, undef, undef, undef, undef, undef, undef, undef, undef, undef, undef] (by kernel_rfl) ?_
    replace hM := bind_some hM
    obtain ⟨v11, h12, hM⟩ := hM
    have hP := Own.pre (Xi := []) (X := [rowA (Enc.int .u8) A6 c7 v5, rowA (Enc.int .u8) A2 c3 v1]) (Si := []) hS forall0 forall0
    refine s_call 26 #[.int .u64 p0, .int .u64 p1] (by kernel_rfl) (by kernel_rfl) ((cmp_Compare_uint64_W hP doms_nil h12).mono ?_)
    rintro _ _ ⟨rfl, hQ⟩
    replace hS : Own w0 D R _ [rowA (Enc.int .u8) A6 c7 v5, rowA (Enc.int .u8) A2 c3 v1] [] := hS.post hQ (.inl rfl)
    clear hP hQ
    refine ⟨_, rfl, ?_⟩
    refine seg 2 [.int .u64 p0, .int .u64 p1, undef, undef, .bool false, .int .u32 (IntKind.u32.wrap (p0)), .int .u32 (IntKind.u32.wrap (p1)), undef, .int .u64 p0, .int .u32 (IntKind.u32.wrap (p0)), .int .u64 p1, .int .u32 (IntKind.u32.wrap (p1)), .int .u64 p0, .slice A2 v1.length c3, .int .u64 p1, .slice A6 v5.length c7, .int .i64 v9, .int .u64 p0, .int .u64 p1, .int .i64 v11, .bool (v9 == v11), .bool (v9 == v11), undef, undef, undef, undef, undef, undef, undef, undef, undef, undef, undef, undef, undef, undef, undef, undef, undef, undef, undef, undef, undef, undef, undef, undef, undef, undef, undef, undef, undef] (by kernel_rfl) ?_
    rcases Bool.eq_false_or_eq_true (v9 == v11) with hc13 | hc13
    · replace hM := (if_pos hc13).symm.trans hM
      rw [hc13]
      refine seg 1 [.int .u64 p0, .int .u64 p1, undef, undef, .bool false, .int .u32 (IntKind.u32.wrap (p0)), .int .u32 (IntKind.u32.wrap (p1)), undef, .int .u64 p0, .int .u32 (IntKind.u32.wrap (p0)), .int .u64 p1, .int .u32 (IntKind.u32.wrap (p1)), .int .u64 p0, .slice A2 v1.length c3, .int .u64 p1, .slice A6 v5.length c7, .int .i64 v9, .int .u64 p0, .int .u64 p1, .int .i64 v11, .bool true, .bool true, .int .u32 (IntKind.u32.wrap (p0)), undef, undef, undef, undef, undef, undef, undef, undef, undef, undef, undef, undef, undef, undef, undef, undef, undef, undef, undef, undef, undef, undef, undef, undef, undef, undef, undef, undef] (by kernel_rfl) ?_
      replace hM := bind_some hM
      obtain ⟨v14, h17, hM⟩ := hM
      have hP := Own.pre (Xi := []) (X := [rowA (Enc.int .u8) A6 c7 v5, rowA (Enc.int .u8) A2 c3 v1]) (Si := [slA (fun _ => False) (Enc.int .u8) none 0 []]) hS (forall2 (sl_nil (fun _ => False) (Enc.int .u8) 0 _) forall0) (forall2 (fun _ h => h.elim) forall0)
      refine s_call 15 #[.slice none 0 0, .int .u32 (IntKind.u32.wrap (p0))] (by kernel_rfl) (by kernel_rfl) ((pack_Put32_W hP doms_nil h17).mono ?_)
      rintro _ _ ⟨A15, c16, rfl, hQ⟩
      replace hS : Own w0 D R _ [rowA (Enc.int .u8) A15 c16 v14, rowA (Enc.int .u8) A6 c7 v5, rowA (Enc.int .u8) A2 c3 v1] [] := hS.post hQ (.inl rfl)
      clear hP hQ
      refine ⟨_, rfl, ?_⟩
      refine seg 1 [.int .u64 p0, .int .u64 p1, undef, undef, .bool false, .int .u32 (IntKind.u32.wrap (p0)), .int .u32 (IntKind.u32.wrap (p1)), undef, .int .u64 p0, .int .u32 (IntKind.u32.wrap (p0)), .int .u64 p1, .int .u32 (IntKind.u32.wrap (p1)), .int .u64 p0, .slice A2 v1.length c3, .int .u64 p1, .slice A6 v5.length c7, .int .i64 v9, .int .u64 p0, .int .u64 p1, .int .i64 v11, .bool true, .bool true, .int .u32 (IntKind.u32.wrap (p0)), .slice A15 v14.length c16, .int .u32 (IntKind.u32.wrap (p1)), undef, undef, undef, undef, undef, undef, undef, undef, undef, undef, undef, undef, undef, undef, undef, undef, undef, undef, undef, undef, undef, undef, undef, undef, undef, undef] (by kernel_rfl) ?_
      replace hM := bind_some hM
      obtain ⟨v18, h21, hM⟩ := hM
      have hP := Own.pre (Xi := []) (X := [rowA (Enc.int .u8) A15 c16 v14, rowA (Enc.int .u8) A6 c7 v5, rowA (Enc.int .u8) A2 c3 v1]) (Si := [slA (fun _ => False) (Enc.int .u8) none 0 []]) hS (forall2 (sl_nil (fun _ => False) (Enc.int .u8) 0 _) forall0) (forall2 (fun _ h => h.elim) forall0)
      refine s_call 15 #[.slice none 0 0, .int .u32 (IntKind.u32.wrap (p1))] (by kernel_rfl) (by kernel_rfl) ((pack_Put32_W hP doms_nil h21).mono ?_)
      rintro _ _ ⟨A19, c20, rfl, hQ⟩
      replace hS : Own w0 D R _ [rowA (Enc.int .u8) A19 c20 v18, rowA (Enc.int .u8) A15 c16 v14, rowA (Enc.int .u8) A6 c7 v5, rowA (Enc.int .u8) A2 c3 v1] [] := hS.post hQ (.inl rfl)
      clear hP hQ
      refine ⟨_, rfl, ?_⟩
      replace hM := bind_some hM
      obtain ⟨v22, h23, hM⟩ := hM
      have hP := Own.pre (Xi := []) (X := [rowA (Enc.int .u8) A19 c20 v18, rowA (Enc.int .u8) A15 c16 v14, rowA (Enc.int .u8) A6 c7 v5, rowA (Enc.int .u8) A2 c3 v1]) (Si := [slA (blkOf A15) (Enc.int .u8) A15 c16 v14, slA (blkOf A19) (Enc.int .u8) A19 c20 v18]) hS (forall2 (sl_of_row (hS.row_mem (List.Mem.tail _ (List.Mem.head _)))) (forall2 (sl_of_row (hS.row_mem (List.Mem.head _))) forall0)) (forall2 (fun _ h => .inr ⟨_, (List.Mem.tail _ (List.Mem.head _)), h⟩) (forall2 (fun _ h => .inr ⟨_, (List.Mem.head _), h⟩) forall0))
      refine s_call 25 #[.slice A15 v14.length c16, .slice A19 v18.length c20] (by kernel_rfl) (by kernel_rfl) ((bytes_Compare_W hP doms_nil h23).mono ?_)
      rintro _ _ ⟨rfl, hQ⟩
      replace hS : Own w0 D R _ [rowA (Enc.int .u8) A19 c20 v18, rowA (Enc.int .u8) A15 c16 v14, rowA (Enc.int .u8) A6 c7 v5, rowA (Enc.int .u8) A2 c3 v1] [] := hS.post hQ (.inl rfl)
      clear hP hQ
      refine ⟨_, rfl, ?_⟩
      refine seg 2 [.int .u64 p0, .int .u64 p1, undef, undef, .bool false, .int .u32 (IntKind.u32.wrap (p0)), .int .u32 (IntKind.u32.wrap (p1)), undef, .int .u64 p0, .int .u32 (IntKind.u32.wrap (p0)), .int .u64 p1, .int .u32 (IntKind.u32.wrap (p1)), .int .u64 p0, .slice A2 v1.length c3, .int .u64 p1, .slice A6 v5.length c7, .int .i64 v9, .int .u64 p0, .int .u64 p1, .int .i64 v11, .bool true, .bool true, .int .u32 (IntKind.u32.wrap (p0)), .slice A15 v14.length c16, .int .u32 (IntKind.u32.wrap (p1)), .slice A19 v18.length c20, .int .i64 v22, .int .u32 (IntKind.u32.wrap (p0)), .int .u32 (IntKind.u32.wrap (p1)), undef, undef, undef, undef, undef, undef, undef, undef, undef, undef, undef, undef, undef, undef, undef, undef, undef, undef, undef, undef, undef, undef] (by kernel_rfl) ?_
      replace hM := bind_some hM
      obtain ⟨v24, h25, hM⟩ := hM
      have hP := Own.pre (Xi := []) (X := [rowA (Enc.int .u8) A19 c20 v18, rowA (Enc.int .u8) A15 c16 v14, rowA (Enc.int .u8) A6 c7 v5, rowA (Enc.int .u8) A2 c3 v1]) (Si := []) hS forall0 forall0
      refine s_call 27 #[.int .u32 (IntKind.u32.wrap (p0)), .int .u32 (IntKind.u32.wrap (p1))] (by kernel_rfl) (by kernel_rfl) ((cmp_Compare_uint32_W hP doms_nil h25).mono ?_)
      rintro _ _ ⟨rfl, hQ⟩
      replace hS : Own w0 D R _ [rowA (Enc.int .u8) A19 c20 v18, rowA (Enc.int .u8) A15 c16 v14, rowA (Enc.int .u8) A6 c7 v5, rowA (Enc.int .u8) A2 c3 v1] [] := hS.post hQ (.inl rfl)
      clear hP hQ
      refine ⟨_, rfl, ?_⟩
      refine segEnd [.int .u64 p0, .int .u64 p1, undef, undef, .bool false, .int .u32 (IntKind.u32.wrap (p0)), .int .u32 (IntKind.u32.wrap (p1)), .bool (v22 == v24), .int .u64 p0, .int .u32 (IntKind.u32.wrap (p0)), .int .u64 p1, .int .u32 (IntKind.u32.wrap (p1)), .int .u64 p0, .slice A2 v1.length c3, .int .u64 p1, .slice A6 v5.length c7, .int .i64 v9, .int .u64 p0, .int .u64 p1, .int .i64 v11, .bool true, .bool true, .int .u32 (IntKind.u32.wrap (p0)), .slice A15 v14.length c16, .int .u32 (IntKind.u32.wrap (p1)), .slice A19 v18.length c20, .int .i64 v22, .int .u32 (IntKind.u32.wrap (p0)), .int .u32 (IntKind.u32.wrap (p1)), .int .i64 v24, .bool (v22 == v24), .bool (v22 == v24), undef, undef, undef, undef, undef, undef, undef, undef, undef, undef, undef, undef, undef, undef, undef, undef, undef, undef, undef] (by kernel_rfl) ?_
      refine then_normal ?_
      replace hS : Own w0 D R _ [] [] := hS.takeX 0
      exact ⟨(fun i => ([.int .u64 p1, .bool false, .int .u32 (IntKind.u32.wrap (p1)), .int .u64 p0, .int .u32 (IntKind.u32.wrap (p0)), .int .u64 p1, .int .u32 (IntKind.u32.wrap (p1)), .int .u64 p0, .slice A2 v1.length c3, .int .u64 p1, .slice A6 v5.length c7, .int .i64 v9, .int .u64 p0, .int .u64 p1, .int .i64 v11, .bool true, .bool true, .int .u32 (IntKind.u32.wrap (p0)), .slice A15 v14.length c16, .int .u32 (IntKind.u32.wrap (p1)), .slice A19 v18.length c20, .int .i64 v22, .int .u32 (IntKind.u32.wrap (p0)), .int .u32 (IntKind.u32.wrap (p1)), .int .i64 v24, .bool (v22 == v24), .bool (v22 == v24)] : List Value).getD i undef), (v22 == v24), (by kernel_rfl), hS, hM⟩
    · replace hM := (if_neg (Bool.eq_false_iff.1 hc13)).symm.trans hM
      rw [hc13]
      refine segEnd [.int .u64 p0, .int .u64 p1, undef, undef, .bool false, .int .u32 (IntKind.u32.wrap (p0)), .int .u32 (IntKind.u32.wrap (p1)), .bool false, .int .u64 p0, .int .u32 (IntKind.u32.wrap (p0)), .int .u64 p1, .int .u32 (IntKind.u32.wrap (p1)), .int .u64 p0, .slice A2 v1.length c3, .int .u64 p1, .slice A6 v5.length c7, .int .i64 v9, .int .u64 p0, .int .u64 p1, .int .i64 v11, .bool false, .bool false, undef, undef, undef, undef, undef, undef, undef, undef, undef, .bool false, undef, undef, undef, undef, undef, undef, undef, undef, undef, undef, undef, undef, undef, undef, undef, undef, undef, undef, undef] (by kernel_rfl) ?_
      refine then_normal ?_
      replace hS : Own w0 D R _ [] [] := hS.takeX 0
      exact ⟨(fun i => ([.int .u64 p1, .bool false, .int .u32 (IntKind.u32.wrap (p1)), .int .u64 p0, .int .u32 (IntKind.u32.wrap (p0)), .int .u64 p1, .int .u32 (IntKind.u32.wrap (p1)), .int .u64 p0, .slice A2 v1.length c3, .int .u64 p1, .slice A6 v5.length c7, .int .i64 v9, .int .u64 p0, .int .u64 p1, .int .i64 v11, .bool false, .bool false, undef, undef, undef, undef, undef, undef, undef, undef, undef, .bool false] : List Value).getD i undef), false, (by kernel_rfl), hS, hM⟩
  · rintro a w ⟨G27, x26, rfl, hS, hM⟩
    unfold intagliolaw01_PackOrder_J1 at hM
    refine wp_seq ?_
    refine wp_reg ?_
    refine seg 2 [.int .u64 p0, (G27 0), undef, undef, (G27 1), .int .u32 (IntKind.u32.wrap (p0)), (G27 2), .bool x26, (G27 3), (G27 4), (G27 5), (G27 6), (G27 7), (G27 8), (G27 9), (G27 10), (G27 11), (G27 12), (G27 13), (G27 14), (G27 15), (G27 16), (G27 17), (G27 18), (G27 19), (G27 20), (G27 21), (G27 22), (G27 23), (G27 24), (G27 25), (G27 26), .bool x26, .bool x26, undef, undef, undef, undef, undef, undef, undef, undef, undef, undef, undef, undef, undef, undef, undef, undef, undef] (by kernel_rfl) ?_
    rcases Bool.eq_false_or_eq_true x26 with hc28 | hc28
    · replace hM := (if_pos hc28).symm.trans hM
      rw [hc28]
      refine seg 1 [.int .u64 p0, (G27 0), undef, undef, (G27 1), .int .u32 (IntKind.u32.wrap (p0)), (G27 2), .bool true, (G27 3), (G27 4), (G27 5), (G27 6), (G27 7), (G27 8), (G27 9), (G27 10), (G27 11), (G27 12), (G27 13), (G27 14), (G27 15), (G27 16), (G27 17), (G27 18), (G27 19), (G27 20), (G27 21), (G27 22), (G27 23), (G27 24), (G27 25), (G27 26), .bool true, .bool true, .int .u64 p0, undef, undef, undef, undef, undef, undef, undef, undef, undef, undef, undef, undef, undef, undef, undef, undef] (by kernel_rfl) ?_
      replace hM := bind_some hM
      obtain ⟨v29, h32, hM⟩ := hM
      have hP := Own.pre (Xi := []) (X := []) (Si := [slA (fun _ => False) (Enc.int .u8) none 0 []]) hS (forall2 (sl_nil (fun _ => False) (Enc.int .u8) 0 _) forall0) (forall2 (fun _ h => h.elim) forall0)
      refine s_call 24 #[.slice none 0 0, .int .u64 p0] (by kernel_rfl) (by kernel_rfl) ((pack_PutLe64_W hP doms_nil h32).mono ?_)
      rintro _ _ ⟨A30, c31, rfl, hQ⟩
      replace hS : Own w0 D R _ [rowA (Enc.int .u8) A30 c31 v29] [] := hS.post hQ (.inl rfl)
      clear hP hQ
      refine ⟨_, rfl, ?_⟩
      replace hM := bind_some hM
      obtain ⟨v33, h34, hM⟩ := hM
      have hP := Own.pre (Xi := []) (X := [rowA (Enc.int .u8) A30 c31 v29]) (Si := [slA (blkOf A30) (Enc.int .u8) A30 c31 v29]) hS (forall2 (sl_of_row (hS.row_mem (List.Mem.head _))) forall0) (forall2 (fun _ h => .inr ⟨_, (List.Mem.head _), h⟩) forall0)
      refine s_call 28 #[.slice A30 v29.length c31, .int .i64 0] (by kernel_rfl) (by kernel_rfl) ((pack_Le64_W hP doms_nil h34).mono ?_)
      rintro _ _ ⟨rfl, hQ⟩
      replace hS : Own w0 D R _ [rowA (Enc.int .u8) A30 c31 v29] [] := hS.post hQ (.inl rfl)
      clear hP hQ
      refine ⟨_, rfl, ?_⟩
      refine seg 4 [.int .u64 p0, (G27 0), undef, undef, (G27 1), .int .u32 (IntKind.u32.wrap (p0)), (G27 2), .bool true, (G27 3), (G27 4), (G27 5), (G27 6), (G27 7), (G27 8), (G27 9), (G27 10), (G27 11), (G27 12), (G27 13), (G27 14), (G27 15), (G27 16), (G27 17), (G27 18), (G27 19), (G27 20), (G27 21), (G27 22), (G27 23), (G27 24), (G27 25), (G27 26), .bool true, .bool true, .int .u64 p0, .slice A30 v29.length c31, .int .u64 v33, .int .u64 p0, .bool (v33 == p0), .bool (v33 == p0), .bool (v33 == p0), undef, undef, undef, undef, undef, undef, undef, undef, undef, undef] (by kernel_rfl) ?_
      rcases Bool.eq_false_or_eq_true (v33 == p0) with hc35 | hc35
      · replace hM := (if_pos hc35).symm.trans hM
        rw [hc35]
        refine s_lit 22 5 1 1 #[(0, .const (.int .u8 7))] (e := (Enc.int .u8)) ([7] : List Int) (.int .u8 0) rfl u22 (by kernel_rfl) (by decide) rfl (by kernel_rfl) (by kernel_rfl) hS (fun A36 c37 _ hS => ?_)
        refine seg 1 [.int .u64 p0, (G27 0), undef, undef, (G27 1), .int .u32 (IntKind.u32.wrap (p0)), (G27 2), .bool true, (G27 3), (G27 4), (G27 5), (G27 6), (G27 7), (G27 8), (G27 9), (G27 10), (G27 11), (G27 12), (G27 13), (G27 14), (G27 15), (G27 16), (G27 17), (G27 18), (G27 19), (G27 20), (G27 21), (G27 22), (G27 23), (G27 24), (G27 25), (G27 26), .bool true, .bool true, .int .u64 p0, .slice A30 v29.length c31, .int .u64 v33, .int .u64 p0, .bool true, .bool true, .bool true, .slice A36 ([7].length) c37, .int .u32 (IntKind.u32.wrap (p0)), undef, undef, undef, undef, undef, undef, undef, undef] (by kernel_rfl) ?_
        replace hM := bind_some hM
        obtain ⟨v38, h41, hM⟩ := hM
        have hP := Own.pre (Xi := []) (X := [rowA (Enc.int .u8) A36 c37 [7], rowA (Enc.int .u8) A30 c31 v29]) (Si := [slA (blkOf A36) (Enc.int .u8) A36 c37 [7]]) hS (forall2 (sl_of_row (hS.row_mem (List.Mem.head _))) forall0) (forall2 (fun _ h => .inr ⟨_, (List.Mem.head _), h⟩) forall0)
        refine s_call 21 #[.slice A36 ([7].length) c37, .int .u32 (IntKind.u32.wrap (p0))] (by kernel_rfl) (by kernel_rfl) ((pack_PutLe32_W hP doms_nil h41).mono ?_)
        rintro _ _ ⟨A39, c40, rfl, hQ⟩
        replace hS : Own w0 D R _ [rowA (Enc.int .u8) A39 c40 v38, rowA (Enc.int .u8) A36 c37 [7], rowA (Enc.int .u8) A30 c31 v29] [] := hS.post hQ (.inl rfl)
        clear hP hQ
        refine ⟨_, rfl, ?_⟩
        replace hM := bind_some hM
        obtain ⟨v42, h43, hM⟩ := hM
        have hP := Own.pre (Xi := []) (X := [rowA (Enc.int .u8) A39 c40 v38, rowA (Enc.int .u8) A36 c37 [7], rowA (Enc.int .u8) A30 c31 v29]) (Si := [slA (blkOf A39) (Enc.int .u8) A39 c40 v38]) hS (forall2 (sl_of_row (hS.row_mem (List.Mem.head _))) forall0) (forall2 (fun _ h => .inr ⟨_, (List.Mem.head _), h⟩) forall0)
        refine s_call 29 #[.slice A39 v38.length c40, .int .i64 1] (by kernel_rfl) (by kernel_rfl) ((pack_Le32_W hP doms_nil h43).mono ?_)
        rintro _ _ ⟨rfl, hQ⟩
        replace hS : Own w0 D R _ [rowA (Enc.int .u8) A39 c40 v38, rowA (Enc.int .u8) A36 c37 [7], rowA (Enc.int .u8) A30 c31 v29] [] := hS.post hQ (.inl rfl)
        clear hP hQ
        refine ⟨_, rfl, ?_⟩
        refine seg 4 [.int .u64 p0, (G27 0), undef, undef, (G27 1), .int .u32 (IntKind.u32.wrap (p0)), (G27 2), .bool true, (G27 3), (G27 4), (G27 5), (G27 6), (G27 7), (G27 8), (G27 9), (G27 10), (G27 11), (G27 12), (G27 13), (G27 14), (G27 15), (G27 16), (G27 17), (G27 18), (G27 19), (G27 20), (G27 21), (G27 22), (G27 23), (G27 24), (G27 25), (G27 26), .bool true, .bool true, .int .u64 p0, .slice A30 v29.length c31, .int .u64 v33, .int .u64 p0, .bool true, .bool true, .bool true, .slice A36 ([7].length) c37, .int .u32 (IntKind.u32.wrap (p0)), .slice A39 v38.length c40, .int .u32 v42, .int .u32 (IntKind.u32.wrap (p0)), .bool (v42 == (IntKind.u32.wrap (p0))), .bool (v42 == (IntKind.u32.wrap (p0))), .bool (v42 == (IntKind.u32.wrap (p0))), undef, undef] (by kernel_rfl) ?_
        rcases Bool.eq_false_or_eq_true (v42 == (IntKind.u32.wrap (p0))) with hc44 | hc44
        · replace hM := (if_pos hc44).symm.trans hM
          rw [hc44]
          replace hM := bind_some hM
          obtain ⟨v45, h46, hM⟩ := hM
          have hP := Own.pre (Xi := []) (X := [rowA (Enc.int .u8) A39 c40 v38, rowA (Enc.int .u8) A36 c37 [7], rowA (Enc.int .u8) A30 c31 v29]) (Si := []) hS forall0 forall0
          refine s_call 9 #[] (by kernel_rfl) (by kernel_rfl) ((intagliolaw01_awake_W hP doms_nil h46).mono ?_)
          rintro _ _ ⟨rfl, hQ⟩
          replace hS : Own w0 D R _ [rowA (Enc.int .u8) A39 c40 v38, rowA (Enc.int .u8) A36 c37 [7], rowA (Enc.int .u8) A30 c31 v29] [] := hS.post hQ (.inl rfl)
          clear hP hQ
          refine ⟨_, rfl, ?_⟩
          refine segEnd [.int .u64 p0, (G27 0), undef, undef, .bool v45, .int .u32 (IntKind.u32.wrap (p0)), (G27 2), .bool true, (G27 3), (G27 4), (G27 5), (G27 6), (G27 7), (G27 8), (G27 9), (G27 10), (G27 11), (G27 12), (G27 13), (G27 14), (G27 15), (G27 16), (G27 17), (G27 18), (G27 19), (G27 20), (G27 21), (G27 22), (G27 23), (G27 24), (G27 25), (G27 26), .bool true, .bool true, .int .u64 p0, .slice A30 v29.length c31, .int .u64 v33, .int .u64 p0, .bool true, .bool true, .bool true, .slice A36 ([7].length) c37, .int .u32 (IntKind.u32.wrap (p0)), .slice A39 v38.length c40, .int .u32 v42, .int .u32 (IntKind.u32.wrap (p0)), .bool true, .bool true, .bool true, .bool v45, .bool v45] (by kernel_rfl) ?_
          refine then_normal ?_
          refine wp_ret ?_
          replace hS : Own w0 D R _ [] [] := hS.takeX 0
          replace hS : Own w0 D R _ [] [] := hS.dropS forall0
          obtain rfl := Option.some.inj hM
          refine ret_v (.bool v45) (by kernel_rfl) ⟨rfl, hS⟩
        · replace hM := (if_neg (Bool.eq_false_iff.1 hc44)).symm.trans hM
          rw [hc44]
          refine segEnd [.int .u64 p0, (G27 0), undef, undef, .bool false, .int .u32 (IntKind.u32.wrap (p0)), (G27 2), .bool true, (G27 3), (G27 4), (G27 5), (G27 6), (G27 7), (G27 8), (G27 9), (G27 10), (G27 11), (G27 12), (G27 13), (G27 14), (G27 15), (G27 16), (G27 17), (G27 18), (G27 19), (G27 20), (G27 21), (G27 22), (G27 23), (G27 24), (G27 25), (G27 26), .bool true, .bool true, .int .u64 p0, .slice A30 v29.length c31, .int .u64 v33, .int .u64 p0, .bool true, .bool true, .bool true, .slice A36 ([7].length) c37, .int .u32 (IntKind.u32.wrap (p0)), .slice A39 v38.length c40, .int .u32 v42, .int .u32 (IntKind.u32.wrap (p0)), .bool false, .bool false, .bool false, undef, .bool false] (by kernel_rfl) ?_
          refine then_normal ?_
          refine wp_ret ?_
          replace hS : Own w0 D R _ [] [] := hS.takeX 0
          replace hS : Own w0 D R _ [] [] := hS.dropS forall0
          obtain rfl := Option.some.inj hM
          refine ret_v (.bool false) (by kernel_rfl) ⟨rfl, hS⟩
      · replace hM := (if_neg (Bool.eq_false_iff.1 hc35)).symm.trans hM
        rw [hc35]
        refine segEnd [.int .u64 p0, (G27 0), undef, undef, .bool false, .int .u32 (IntKind.u32.wrap (p0)), (G27 2), .bool true, (G27 3), (G27 4), (G27 5), (G27 6), (G27 7), (G27 8), (G27 9), (G27 10), (G27 11), (G27 12), (G27 13), (G27 14), (G27 15), (G27 16), (G27 17), (G27 18), (G27 19), (G27 20), (G27 21), (G27 22), (G27 23), (G27 24), (G27 25), (G27 26), .bool true, .bool true, .int .u64 p0, .slice A30 v29.length c31, .int .u64 v33, .int .u64 p0, .bool false, .bool false, .bool false, undef, undef, undef, undef, undef, undef, .bool false, .bool false, undef, .bool false] (by kernel_rfl) ?_
        refine then_normal ?_
        refine wp_ret ?_
        replace hS : Own w0 D R _ [] [] := hS.takeX 0
        replace hS : Own w0 D R _ [] [] := hS.dropS forall0
        obtain rfl := Option.some.inj hM
        refine ret_v (.bool false) (by kernel_rfl) ⟨rfl, hS⟩
    · replace hM := (if_neg (Bool.eq_false_iff.1 hc28)).symm.trans hM
      rw [hc28]
      refine segEnd [.int .u64 p0, (G27 0), undef, undef, .bool false, .int .u32 (IntKind.u32.wrap (p0)), (G27 2), .bool false, (G27 3), (G27 4), (G27 5), (G27 6), (G27 7), (G27 8), (G27 9), (G27 10), (G27 11), (G27 12), (G27 13), (G27 14), (G27 15), (G27 16), (G27 17), (G27 18), (G27 19), (G27 20), (G27 21), (G27 22), (G27 23), (G27 24), (G27 25), (G27 26), .bool false, .bool false, undef, undef, undef, undef, undef, .bool false, .bool false, undef, undef, undef, undef, undef, undef, .bool false, .bool false, undef, .bool false] (by kernel_rfl) ?_
      refine then_normal ?_
      refine wp_ret ?_
      replace hS : Own w0 D R _ [] [] := hS.dropS forall0
      obtain rfl := Option.some.inj hM
      refine ret_v (.bool false) (by kernel_rfl) ⟨rfl, hS⟩

end Go.Proofs.Ytknkonhdbmeolaa
