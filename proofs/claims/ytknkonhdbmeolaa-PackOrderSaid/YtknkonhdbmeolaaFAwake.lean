/- The Go functions come to what their models say (Awake). -/
import Derived.Test.YtknkonhdbmeolaaTy
import Derived.Test.YtknkonhdbmeolaaMAwake
import Derived.Test.YtknkonhdbmeolaaFBytes
import Derived.Test.YtknkonhdbmeolaaFPut
namespace Go.Proofs.Ytknkonhdbmeolaa
open Go Go.Lift
set_option maxRecDepth 100000
set_option maxHeartbeats 4000000
set_option linter.unusedVariables false

theorem intagliolaw01_awake_W {w0 w : World} {D R : Nat → Prop} {r0 : Bool} (hS : Own w0 D R w [] []) (hD : ∀ b, ¬ D b) (hM : intagliolaw01_awake_M = some r0) :
    Calls Go.Proofs.Try.prog 9 #[] w (fun e w' => e = .returned (.bool r0) ∧ Own w0 D R w' [] []) := by
  refine enter (fn := Go.Proofs.Try.f9) [undef, undef, undef, undef, undef, undef, undef, undef, undef, undef, undef] (by kernel_rfl) rfl (by kernel_rfl) ?_
  unfold intagliolaw01_awake_M at hM
  refine wp_seq ?_
  refine wp_reg ?_
  refine segEnd [.bool false, undef, undef, undef, undef, undef, undef, undef, undef, undef, undef] (by kernel_rfl) ?_
  refine then_normal ?_
  refine wp_seq ?_
  refine wp_reg ?_
  refine s_lit 22 5 1 2 #[(0, .const (.int .u8 97)), (1, .const (.int .u8 98))] (e := (Enc.int .u8)) ([97, 98] : List Int) (.int .u8 0) rfl u22 (by kernel_rfl) (by decide) rfl (by kernel_rfl) (by kernel_rfl) hS (fun A1 c2 _ hS => ?_)
  refine s_conv (.tmp 1) 22 5 ([97, 98].length) rfl u22 (by kernel_rfl) (by kernel_rfl) (row_ne hS.x0 (by decide)) (by kernel_rfl) hS hD (fun _ hS => ?_)
  replace hM := bind_some hM
  obtain ⟨v3, h6, hM⟩ := hM
  have hP := Own.pre (Xi := []) (X := []) (Si := [slA (fun _ => False) (Enc.int .u8) none 0 [], slA (blkOf A1) (Enc.int .u8) A1 c2 [97, 98]]) hS (forall2 (sl_nil (fun _ => False) (Enc.int .u8) 0 _) (forall2 (hS.sl_mem (List.Mem.head _)) forall0)) (forall2 (fun _ h => h.elim) (forall2 (fun _ h => .inl ⟨_, (List.Mem.head _), h⟩) forall0))
  refine s_call 12 #[.slice none 0 0, .slice A1 ([97, 98].length) c2] (by kernel_rfl) (by kernel_rfl) ((pack_Put_W hP doms_nil h6).mono ?_)
  rintro _ _ ⟨A4, c5, rfl, hQ⟩
  replace hS : Own w0 D R _ [rowA (Enc.int .u8) A4 c5 v3] [slA (blkOf A1) (Enc.int .u8) A1 c2 [97, 98]] := hS.post hQ (.inl rfl)
  clear hP hQ
  refine ⟨_, rfl, ?_⟩
  refine s_lit 22 5 1 6 #[(0, .const (.int .u8 0)), (1, .const (.int .u8 0)), (2, .const (.int .u8 0)), (3, .const (.int .u8 2)), (4, .const (.int .u8 97)), (5, .const (.int .u8 98))] (e := (Enc.int .u8)) ([0, 0, 0, 2, 97, 98] : List Int) (.int .u8 0) rfl u22 (by kernel_rfl) (by decide) rfl (by kernel_rfl) (by kernel_rfl) hS (fun A7 c8 _ hS => ?_)
  replace hM := bind_some hM
  obtain ⟨v9, h10, hM⟩ := hM
  have hP := Own.pre (Xi := []) (X := [rowA (Enc.int .u8) A7 c8 [0, 0, 0, 2, 97, 98], rowA (Enc.int .u8) A4 c5 v3]) (Si := [slA (blkOf A4) (Enc.int .u8) A4 c5 v3, slA (blkOf A7) (Enc.int .u8) A7 c8 [0, 0, 0, 2, 97, 98]]) hS (forall2 (sl_of_row (hS.row_mem (List.Mem.tail _ (List.Mem.head _)))) (forall2 (sl_of_row (hS.row_mem (List.Mem.head _))) forall0)) (forall2 (fun _ h => .inr ⟨_, (List.Mem.tail _ (List.Mem.head _)), h⟩) (forall2 (fun _ h => .inr ⟨_, (List.Mem.head _), h⟩) forall0))
  refine s_call 11 #[.slice A4 v3.length c5, .slice A7 ([0, 0, 0, 2, 97, 98].length) c8] (by kernel_rfl) (by kernel_rfl) ((bytes_Equal_W hP doms_nil h10).mono ?_)
  rintro _ _ ⟨rfl, hQ⟩
  replace hS : Own w0 D R _ [rowA (Enc.int .u8) A7 c8 [0, 0, 0, 2, 97, 98], rowA (Enc.int .u8) A4 c5 v3] [slA (blkOf A1) (Enc.int .u8) A1 c2 [97, 98]] := hS.post hQ (.inl rfl)
  clear hP hQ
  refine ⟨_, rfl, ?_⟩
  refine seg 1 [.bool false, .slice A1 ([97, 98].length) c2, .slice A1 ([97, 98].length) c2, .slice A4 v3.length c5, .slice A7 ([0, 0, 0, 2, 97, 98].length) c8, .bool v9, .bool v9, undef, undef, undef, undef] (by kernel_rfl) ?_
  rcases Bool.eq_false_or_eq_true v9 with hc11 | hc11
  · replace hM := (if_pos hc11).symm.trans hM
    rw [hc11]
    refine s_lit 22 5 1 2 #[(0, .const (.int .u8 1)), (1, .const (.int .u8 2))] (e := (Enc.int .u8)) ([1, 2] : List Int) (.int .u8 0) rfl u22 (by kernel_rfl) (by decide) rfl (by kernel_rfl) (by kernel_rfl) hS (fun A12 c13 _ hS => ?_)
    replace hM := bind_some hM
    obtain ⟨v14, h15, hM⟩ := hM
    have hP := Own.pre (Xi := []) (X := [rowA (Enc.int .u8) A12 c13 [1, 2], rowA (Enc.int .u8) A7 c8 [0, 0, 0, 2, 97, 98], rowA (Enc.int .u8) A4 c5 v3]) (Si := [slA (blkOf A12) (Enc.int .u8) A12 c13 [1, 2]]) hS (forall2 (sl_of_row (hS.row_mem (List.Mem.head _))) forall0) (forall2 (fun _ h => .inr ⟨_, (List.Mem.head _), h⟩) forall0)
    refine s_call 29 #[.slice A12 ([1, 2].length) c13, .int .i64 0] (by kernel_rfl) (by kernel_rfl) ((pack_Le32_W hP doms_nil h15).mono ?_)
    rintro _ _ ⟨rfl, hQ⟩
    replace hS : Own w0 D R _ [rowA (Enc.int .u8) A12 c13 [1, 2], rowA (Enc.int .u8) A7 c8 [0, 0, 0, 2, 97, 98], rowA (Enc.int .u8) A4 c5 v3] [slA (blkOf A1) (Enc.int .u8) A1 c2 [97, 98]] := hS.post hQ (.inl rfl)
    clear hP hQ
    refine ⟨_, rfl, ?_⟩
    refine segEnd [.bool (v14 == 513), .slice A1 ([97, 98].length) c2, .slice A1 ([97, 98].length) c2, .slice A4 v3.length c5, .slice A7 ([0, 0, 0, 2, 97, 98].length) c8, .bool true, .bool true, .slice A12 ([1, 2].length) c13, .int .u32 v14, .bool (v14 == 513), .bool (v14 == 513)] (by kernel_rfl) ?_
    refine then_normal ?_
    refine wp_ret ?_
    replace hS : Own w0 D R _ [] [slA (blkOf A1) (Enc.int .u8) A1 c2 [97, 98]] := hS.takeX 0
    replace hS : Own w0 D R _ [] [] := hS.dropS forall0
    obtain rfl := Option.some.inj hM
    refine ret_v (.bool (v14 == 513)) (by kernel_rfl) ⟨rfl, hS⟩
  · replace hM := (if_neg (Bool.eq_false_iff.1 hc11)).symm.trans hM
    rw [hc11]
    refine segEnd [.bool false, .slice A1 ([97, 98].length) c2, .slice A1 ([97, 98].length) c2, .slice A4 v3.length c5, .slice A7 ([0, 0, 0, 2, 97, 98].length) c8, .bool false, .bool false, undef, undef, undef, .bool false] (by kernel_rfl) ?_
    refine then_normal ?_
    refine wp_ret ?_
    replace hS : Own w0 D R _ [] [slA (blkOf A1) (Enc.int .u8) A1 c2 [97, 98]] := hS.takeX 0
    replace hS : Own w0 D R _ [] [] := hS.dropS forall0
    obtain rfl := Option.some.inj hM
    refine ret_v (.bool false) (by kernel_rfl) ⟨rfl, hS⟩

end Go.Proofs.Ytknkonhdbmeolaa
