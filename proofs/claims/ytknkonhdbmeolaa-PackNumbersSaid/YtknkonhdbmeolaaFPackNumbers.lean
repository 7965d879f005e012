/- The Go functions come to what their models say (PackNumbers). -/
import Derived.Test.YtknkonhdbmeolaaTy
import Derived.Test.YtknkonhdbmeolaaMPackNumbers
import Derived.Test.YtknkonhdbmeolaaFAwake
import Derived.Test.YtknkonhdbmeolaaFBytes
import Derived.Test.YtknkonhdbmeolaaFPut
import Derived.Test.YtknkonhdbmeolaaFRef
namespace Go.Proofs.Ytknkonhdbmeolaa
open Go Go.Lift
set_option maxRecDepth 100000
set_option maxHeartbeats 4000000
set_option linter.unusedVariables false

theorem intagliolaw01_PackNumbers_W {w0 w : World} {D R : Nat → Prop} {Rp0 : Nat → Prop} {Ap0 : Option Addr} {cp0 : Nat} {p0 : List Int} {p1 : Int} {p2 : Int} {r0 : Bool} (hS : Own w0 D R w [] [slA Rp0 (Enc.int .u8) Ap0 cp0 p0]) (hD : ∀ b, ¬ D b) (hM : intagliolaw01_PackNumbers_M p0 p1 p2 = some r0) :
    Calls Go.Proofs.Try.prog 4 #[.slice Ap0 p0.length cp0, .int .u64 p1, .int .i64 p2] w (fun e w' => e = .returned (.bool r0) ∧ Own w0 D R w' [] []) := by
  refine enter (fn := Go.Proofs.Try.f4) [.slice Ap0 p0.length cp0, .int .u64 p1, .int .i64 p2, undef, undef, undef, undef, undef, undef, undef, undef, undef, undef, undef, undef, undef, undef, undef, undef, undef, undef, undef, undef, undef, undef, undef, undef, undef, undef, undef, undef, undef, undef, undef, undef, undef, undef, undef, undef, undef, undef, undef, undef, undef, undef, undef, undef, undef, undef, undef, undef, undef, undef, undef, undef, undef, undef, undef, undef, undef, undef, undef, undef, undef, undef, undef, undef, undef, undef, undef, undef, undef, undef, undef] (by kernel_rfl) rfl (by kernel_rfl) ?_
  unfold intagliolaw01_PackNumbers_M at hM
  refine wp_seq ?_
  refine wp_reg ?_
  refine segEnd [.slice Ap0 p0.length cp0, .int .u64 p1, .int .i64 p2, undef, undef, undef, .bool false, undef, undef, undef, undef, undef, undef, undef, undef, undef, undef, undef, undef, undef, undef, undef, undef, undef, undef, undef, undef, undef, undef, undef, undef, undef, undef, undef, undef, undef, undef, undef, undef, undef, undef, undef, undef, undef, undef, undef, undef, undef, undef, undef, undef, undef, undef, undef, undef, undef, undef, undef, undef, undef, undef, undef, undef, undef, undef, undef, undef, undef, undef, undef, undef, undef, undef, undef] (by kernel_rfl) ?_
  refine then_normal ?_
  refine wp_seq ?_
  refine wp_seq ?_
  refine wp_reg ?_
  refine segEnd [.slice Ap0 p0.length cp0, .int .u64 p1, .int .i64 p2, undef, undef, undef, .bool false, undef, undef, undef, .slice Ap0 p0.length cp0, .int .i64 (p0.length : Int), .bool (decide ((p0.length : Int) > 5000)), undef, undef, undef, undef, undef, undef, undef, undef, undef, undef, undef, undef, undef, undef, undef, undef, undef, undef, undef, undef, undef, undef, undef, undef, undef, undef, undef, undef, undef, undef, undef, undef, undef, undef, undef, undef, undef, undef, undef, undef, undef, undef, undef, undef, undef, undef, undef, undef, undef, undef, undef, undef, undef, undef, undef, undef, undef, undef, undef, undef, undef] (by kernel_rfl) ?_
  refine then_normal ?_
  refine wp_cond_split (t := decide ((p0.length : Int) > 5000)) (by kernel_rfl) (fun hc1 => ?_) (fun hc1 => ?_)
  · replace hM := (if_pos hc1).symm.trans hM
    refine wp_seq ?_
    refine wp_reg ?_
    replace hM := bind_some hM
    obtain ⟨v2, h3, hM⟩ := hM
    have hP := Own.pre (Xi := []) (X := []) (Si := []) hS forall0 forall0
    refine s_call 9 #[] (by kernel_rfl) (by kernel_rfl) ((intagliolaw01_awake_W hP doms_nil h3).mono ?_)
    rintro _ _ ⟨rfl, hQ⟩
    replace hS : Own w0 D R _ [] [slA Rp0 (Enc.int .u8) Ap0 cp0 p0] := hS.post hQ (.inl rfl)
    clear hP hQ
    refine ⟨_, rfl, ?_⟩
    refine segEnd [.slice Ap0 p0.length cp0, .int .u64 p1, .int .i64 p2, undef, undef, undef, .bool v2, undef, undef, undef, .slice Ap0 p0.length cp0, .int .i64 (p0.length : Int), .bool (decide ((p0.length : Int) > 5000)), .bool v2, undef, undef, undef, undef, undef, undef, undef, undef, undef, undef, undef, undef, undef, undef, undef, undef, undef, undef, undef, undef, undef, undef, undef, undef, undef, undef, undef, undef, undef, undef, undef, undef, undef, undef, undef, undef, undef, undef, undef, undef, undef, undef, undef, undef, undef, undef, undef, undef, undef, undef, undef, undef, undef, undef, undef, undef, undef, undef, undef, undef] (by kernel_rfl) ?_
    refine then_normal ?_
    refine wp_ret ?_
    refine then_ret ?_
    replace hS : Own w0 D R _ [] [] := hS.dropS forall0
    obtain rfl := Option.some.inj hM
    refine ret_v (.bool v2) (by kernel_rfl) ⟨rfl, hS⟩
  · replace hM := (if_neg (Bool.eq_false_iff.1 hc1)).symm.trans hM
    refine wp_skip ?_
    refine then_normal ?_
    refine wp_seq ?_
    refine wp_reg ?_
    refine seg 1 [.slice Ap0 p0.length cp0, .int .u64 p1, .int .i64 p2, undef, undef, undef, .bool false, undef, undef, undef, .slice Ap0 p0.length cp0, .int .i64 (p0.length : Int), .bool (decide ((p0.length : Int) > 5000)), undef, .slice Ap0 p0.length cp0, undef, undef, undef, undef, undef, undef, undef, undef, undef, undef, undef, undef, undef, undef, undef, undef, undef, undef, undef, undef, undef, undef, undef, undef, undef, undef, undef, undef, undef, undef, undef, undef, undef, undef, undef, undef, undef, undef, undef, undef, undef, undef, undef, undef, undef, undef, undef, undef, undef, undef, undef, undef, undef, undef, undef, undef, undef, undef, undef] (by kernel_rfl) ?_
    replace hM := bind_some hM
    obtain ⟨v4, h7, hM⟩ := hM
    have hP := Own.pre (Xi := []) (X := []) (Si := [slA Rp0 (Enc.int .u8) Ap0 cp0 p0]) hS (forall2 (hS.sl_mem (List.Mem.head _)) forall0) (forall2 (fun _ h => .inl ⟨_, (List.Mem.head _), h⟩) forall0)
    refine s_call 10 #[.slice Ap0 p0.length cp0] (by kernel_rfl) (by kernel_rfl) ((bytes_Clone_W hP doms_nil h7).mono ?_)
    rintro _ _ ⟨A5, c6, rfl, hQ⟩
    replace hS : Own w0 D R _ [rowA (Enc.int .u8) A5 c6 v4] [slA Rp0 (Enc.int .u8) Ap0 cp0 p0] := hS.post hQ (.inl rfl)
    clear hP hQ
    refine ⟨_, rfl, ?_⟩
    refine segEnd [.slice Ap0 p0.length cp0, .int .u64 p1, .int .i64 p2, undef, undef, undef, .bool false, .slice A5 v4.length c6, undef, undef, .slice Ap0 p0.length cp0, .int .i64 (p0.length : Int), .bool (decide ((p0.length : Int) > 5000)), undef, .slice Ap0 p0.length cp0, .slice A5 v4.length c6, undef, undef, undef, undef, undef, undef, undef, undef, undef, undef, undef, undef, undef, undef, undef, undef, undef, undef, undef, undef, undef, undef, undef, undef, undef, undef, undef, undef, undef, undef, undef, undef, undef, undef, undef, undef, undef, undef, undef, undef, undef, undef, undef, undef, undef, undef, undef, undef, undef, undef, undef, undef, undef, undef, undef, undef, undef, undef] (by kernel_rfl) ?_
    refine then_normal ?_
    refine wp_seq ?_
    refine wp_reg ?_
    refine segEnd [.slice Ap0 p0.length cp0, .int .u64 p1, .int .i64 p2, undef, undef, undef, .bool false, .slice A5 v4.length c6, .int .u32 (IntKind.u32.wrap (p1)), undef, .slice Ap0 p0.length cp0, .int .i64 (p0.length : Int), .bool (decide ((p0.length : Int) > 5000)), undef, .slice Ap0 p0.length cp0, .slice A5 v4.length c6, .int .u64 p1, .int .u32 (IntKind.u32.wrap (p1)), undef, undef, undef, undef, undef, undef, undef, undef, undef, undef, undef, undef, undef, undef, undef, undef, undef, undef, undef, undef, undef, undef, undef, undef, undef, undef, undef, undef, undef, undef, undef, undef, undef, undef, undef, undef, undef, undef, undef, undef, undef, undef, undef, undef, undef, undef, undef, undef, undef, undef, undef, undef, undef, undef, undef, undef] (by kernel_rfl) ?_
    refine then_normal ?_
    refine wp_join (fun a w => ∃ (g40 : Value) (g41 : Value) (g43 : Value) (g44 : Value) (g45 : Value) (g46 : Value) (g47 : Value) (g48 : Value) (g49 : Value) (g50 : Value) (g51 : Value) (g52 : Value) (g53 : Value) (g54 : Value) (g55 : Value) (g56 : Value) (g57 : Value) (g58 : Value) (g59 : Value) (g60 : Value) (g61 : Value) (g62 : Value) (g63 : Value) (g64 : Value) (g65 : Value) (g66 : Value) (g67 : Value) (g68 : Value) (g69 : Value) (g70 : Value) (g71 : Value) (g72 : Value) (g73 : Value) (g74 : Value) (x42 : Bool), a = Fr [.slice Ap0 p0.length cp0, .int .u64 p1, g40, undef, undef, undef, g41, .slice A5 v4.length c6, .int .u32 (IntKind.u32.wrap (p1)), .bool x42, g43, g44, g45, undef, g46, g47, g48, g49, g50, g51, g52, g53, g54, g55, g56, g57, g58, g59, g60, g61, g62, g63, g64, g65, g66, g67, g68, g69, g70, g71, g72, g73, g74, undef, undef, undef, undef, undef, undef, undef, undef, undef, undef, undef, undef, undef, undef, undef, undef, undef, undef, undef, undef, undef, undef, undef, undef, undef, undef, undef, undef, undef, undef, undef] ∧ Own w0 D R w [rowA (Enc.int .u8) A5 c6 v4] [slA Rp0 (Enc.int .u8) Ap0 cp0 p0] ∧ intagliolaw01_PackNumbers_J1 p0 p1 v4 x42 = some r0) ?_ ?_
    ·
      refine wp_reg ?_
      refine seg 2 [.slice Ap0 p0.length cp0, .int .u64 p1, .int .i64 p2, undef, undef, undef, .bool false, .slice A5 v4.length c6, .int .u32 (IntKind.u32.wrap (p1)), undef, .slice Ap0 p0.length cp0, .int .i64 (p0.length : Int), .bool (decide ((p0.length : Int) > 5000)), undef, .slice Ap0 p0.length cp0, .slice A5 v4.length c6, .int .u64 p1, .int .u32 (IntKind.u32.wrap (p1)), .slice Ap0 p0.length cp0, .int .u32 (IntKind.u32.wrap (p1)), undef, undef, undef, undef, undef, undef, undef, undef, undef, undef, undef, undef, undef, undef, undef, undef, undef, undef, undef, undef, undef, undef, undef, undef, undef, undef, undef, undef, undef, undef, undef, undef, undef, undef, undef, undef, undef, undef, undef, undef, undef, undef, undef, undef, undef, undef, undef, undef, undef, undef, undef, undef, undef, undef] (by kernel_rfl) ?_
      replace hM := bind_some hM
      obtain ⟨v8, h11, hM⟩ := hM
      have hP := Own.pre (Xi := []) (X := [rowA (Enc.int .u8) A5 c6 v4]) (Si := [slA Rp0 (Enc.int .u8) Ap0 cp0 p0]) hS (forall2 (hS.sl_mem (List.Mem.head _)) forall0) (forall2 (fun _ h => .inl ⟨_, (List.Mem.head _), h⟩) forall0)
      refine s_call 15 #[.slice Ap0 p0.length cp0, .int .u32 (IntKind.u32.wrap (p1))] (by kernel_rfl) (by kernel_rfl) ((pack_Put32_W hP doms_nil h11).mono ?_)
      rintro _ _ ⟨A9, c10, rfl, hQ⟩
      replace hS : Own w0 D R _ [rowA (Enc.int .u8) A9 c10 v8, rowA (Enc.int .u8) A5 c6 v4] [slA Rp0 (Enc.int .u8) Ap0 cp0 p0] := hS.post hQ (.inl rfl)
      clear hP hQ
      refine ⟨_, rfl, ?_⟩
      refine seg 2 [.slice Ap0 p0.length cp0, .int .u64 p1, .int .i64 p2, undef, undef, undef, .bool false, .slice A5 v4.length c6, .int .u32 (IntKind.u32.wrap (p1)), undef, .slice Ap0 p0.length cp0, .int .i64 (p0.length : Int), .bool (decide ((p0.length : Int) > 5000)), undef, .slice Ap0 p0.length cp0, .slice A5 v4.length c6, .int .u64 p1, .int .u32 (IntKind.u32.wrap (p1)), .slice Ap0 p0.length cp0, .int .u32 (IntKind.u32.wrap (p1)), .slice A9 v8.length c10, .slice A5 v4.length c6, .int .u32 (IntKind.u32.wrap (p1)), undef, undef, undef, undef, undef, undef, undef, undef, undef, undef, undef, undef, undef, undef, undef, undef, undef, undef, undef, undef, undef, undef, undef, undef, undef, undef, undef, undef, undef, undef, undef, undef, undef, undef, undef, undef, undef, undef, undef, undef, undef, undef, undef, undef, undef, undef, undef, undef, undef, undef, undef] (by kernel_rfl) ?_
      replace hM := bind_some hM
      obtain ⟨v12, h15, hM⟩ := hM
      have hP := Own.pre (Xi := []) (X := [rowA (Enc.int .u8) A9 c10 v8, rowA (Enc.int .u8) A5 c6 v4]) (Si := [slA (blkOf A5) (Enc.int .u8) A5 c6 v4]) hS (forall2 (sl_of_row (hS.row_mem (List.Mem.tail _ (List.Mem.head _)))) forall0) (forall2 (fun _ h => .inr ⟨_, (List.Mem.tail _ (List.Mem.head _)), h⟩) forall0)
      refine s_call 16 #[.slice A5 v4.length c6, .int .u32 (IntKind.u32.wrap (p1))] (by kernel_rfl) (by kernel_rfl) ((intaglioref01_Put32_W hP doms_nil h15).mono ?_)
      rintro _ _ ⟨A13, c14, rfl, hQ⟩
      replace hS : Own w0 D R _ [rowA (Enc.int .u8) A13 c14 v12, rowA (Enc.int .u8) A9 c10 v8, rowA (Enc.int .u8) A5 c6 v4] [slA Rp0 (Enc.int .u8) Ap0 cp0 p0] := hS.post hQ (.inl rfl)
      clear hP hQ
      refine ⟨_, rfl, ?_⟩
      replace hM := bind_some hM
      obtain ⟨v16, h17, hM⟩ := hM
      have hP := Own.pre (Xi := []) (X := [rowA (Enc.int .u8) A13 c14 v12, rowA (Enc.int .u8) A9 c10 v8, rowA (Enc.int .u8) A5 c6 v4]) (Si := [slA (blkOf A9) (Enc.int .u8) A9 c10 v8, slA (blkOf A13) (Enc.int .u8) A13 c14 v12]) hS (forall2 (sl_of_row (hS.row_mem (List.Mem.tail _ (List.Mem.head _)))) (forall2 (sl_of_row (hS.row_mem (List.Mem.head _))) forall0)) (forall2 (fun _ h => .inr ⟨_, (List.Mem.tail _ (List.Mem.head _)), h⟩) (forall2 (fun _ h => .inr ⟨_, (List.Mem.head _), h⟩) forall0))
      refine s_call 11 #[.slice A9 v8.length c10, .slice A13 v12.length c14] (by kernel_rfl) (by kernel_rfl) ((bytes_Equal_W hP doms_nil h17).mono ?_)
      rintro _ _ ⟨rfl, hQ⟩
      replace hS : Own w0 D R _ [rowA (Enc.int .u8) A13 c14 v12, rowA (Enc.int .u8) A9 c10 v8, rowA (Enc.int .u8) A5 c6 v4] [slA Rp0 (Enc.int .u8) Ap0 cp0 p0] := hS.post hQ (.inl rfl)
      clear hP hQ
      refine ⟨_, rfl, ?_⟩
      refine seg 1 [.slice Ap0 p0.length cp0, .int .u64 p1, .int .i64 p2, undef, undef, undef, .bool false, .slice A5 v4.length c6, .int .u32 (IntKind.u32.wrap (p1)), undef, .slice Ap0 p0.length cp0, .int .i64 (p0.length : Int), .bool (decide ((p0.length : Int) > 5000)), undef, .slice Ap0 p0.length cp0, .slice A5 v4.length c6, .int .u64 p1, .int .u32 (IntKind.u32.wrap (p1)), .slice Ap0 p0.length cp0, .int .u32 (IntKind.u32.wrap (p1)), .slice A9 v8.length c10, .slice A5 v4.length c6, .int .u32 (IntKind.u32.wrap (p1)), .slice A13 v12.length c14, .bool v16, .bool v16, undef, undef, undef, undef, undef, undef, undef, undef, undef, undef, undef, undef, undef, undef, undef, undef, undef, undef, undef, undef, undef, undef, undef, undef, undef, undef, undef, undef, undef, undef, undef, undef, undef, undef, undef, undef, undef, undef, undef, undef, undef, undef, undef, undef, undef, undef, undef, undef] (by kernel_rfl) ?_
      rcases Bool.eq_false_or_eq_true v16 with hc18 | hc18
      · replace hM := (if_pos hc18).symm.trans hM
        rw [hc18]
        refine seg 2 [.slice Ap0 p0.length cp0, .int .u64 p1, .int .i64 p2, undef, undef, undef, .bool false, .slice A5 v4.length c6, .int .u32 (IntKind.u32.wrap (p1)), undef, .slice Ap0 p0.length cp0, .int .i64 (p0.length : Int), .bool (decide ((p0.length : Int) > 5000)), undef, .slice Ap0 p0.length cp0, .slice A5 v4.length c6, .int .u64 p1, .int .u32 (IntKind.u32.wrap (p1)), .slice Ap0 p0.length cp0, .int .u32 (IntKind.u32.wrap (p1)), .slice A9 v8.length c10, .slice A5 v4.length c6, .int .u32 (IntKind.u32.wrap (p1)), .slice A13 v12.length c14, .bool true, .bool true, .slice Ap0 p0.length cp0, .int .u64 p1, undef, undef, undef, undef, undef, undef, undef, undef, undef, undef, undef, undef, undef, undef, undef, undef, undef, undef, undef, undef, undef, undef, undef, undef, undef, undef, undef, undef, undef, undef, undef, undef, undef, undef, undef, undef, undef, undef, undef, undef, undef, undef, undef, undef, undef, undef] (by kernel_rfl) ?_
        replace hM := bind_some hM
        obtain ⟨v19, h22, hM⟩ := hM
        have hP := Own.pre (Xi := []) (X := [rowA (Enc.int .u8) A13 c14 v12, rowA (Enc.int .u8) A9 c10 v8, rowA (Enc.int .u8) A5 c6 v4]) (Si := [slA Rp0 (Enc.int .u8) Ap0 cp0 p0]) hS (forall2 (hS.sl_mem (List.Mem.head _)) forall0) (forall2 (fun _ h => .inl ⟨_, (List.Mem.head _), h⟩) forall0)
        refine s_call 17 #[.slice Ap0 p0.length cp0, .int .u64 p1] (by kernel_rfl) (by kernel_rfl) ((pack_Put64_W hP doms_nil h22).mono ?_)
        rintro _ _ ⟨A20, c21, rfl, hQ⟩
        replace hS : Own w0 D R _ [rowA (Enc.int .u8) A20 c21 v19, rowA (Enc.int .u8) A13 c14 v12, rowA (Enc.int .u8) A9 c10 v8, rowA (Enc.int .u8) A5 c6 v4] [slA Rp0 (Enc.int .u8) Ap0 cp0 p0] := hS.post hQ (.inl rfl)
        clear hP hQ
        refine ⟨_, rfl, ?_⟩
        refine seg 2 [.slice Ap0 p0.length cp0, .int .u64 p1, .int .i64 p2, undef, undef, undef, .bool false, .slice A5 v4.length c6, .int .u32 (IntKind.u32.wrap (p1)), undef, .slice Ap0 p0.length cp0, .int .i64 (p0.length : Int), .bool (decide ((p0.length : Int) > 5000)), undef, .slice Ap0 p0.length cp0, .slice A5 v4.length c6, .int .u64 p1, .int .u32 (IntKind.u32.wrap (p1)), .slice Ap0 p0.length cp0, .int .u32 (IntKind.u32.wrap (p1)), .slice A9 v8.length c10, .slice A5 v4.length c6, .int .u32 (IntKind.u32.wrap (p1)), .slice A13 v12.length c14, .bool true, .bool true, .slice Ap0 p0.length cp0, .int .u64 p1, .slice A20 v19.length c21, .slice A5 v4.length c6, .int .u64 p1, undef, undef, undef, undef, undef, undef, undef, undef, undef, undef, undef, undef, undef, undef, undef, undef, undef, undef, undef, undef, undef, undef, undef, undef, undef, undef, undef, undef, undef, undef, undef, undef, undef, undef, undef, undef, undef, undef, undef, undef, undef, undef, undef] (by kernel_rfl) ?_
        replace hM := bind_some hM
        obtain ⟨v23, h26, hM⟩ := hM
        have hP := Own.pre (Xi := []) (X := [rowA (Enc.int .u8) A20 c21 v19, rowA (Enc.int .u8) A13 c14 v12, rowA (Enc.int .u8) A9 c10 v8, rowA (Enc.int .u8) A5 c6 v4]) (Si := [slA (blkOf A5) (Enc.int .u8) A5 c6 v4]) hS (forall2 (sl_of_row (hS.row_mem (List.Mem.tail _ (List.Mem.tail _ (List.Mem.tail _ (List.Mem.head _)))))) forall0) (forall2 (fun _ h => .inr ⟨_, (List.Mem.tail _ (List.Mem.tail _ (List.Mem.tail _ (List.Mem.head _)))), h⟩) forall0)
        refine s_call 18 #[.slice A5 v4.length c6, .int .u64 p1] (by kernel_rfl) (by kernel_rfl) ((intaglioref01_Put64_W hP doms_nil h26).mono ?_)
        rintro _ _ ⟨A24, c25, rfl, hQ⟩
        replace hS : Own w0 D R _ [rowA (Enc.int .u8) A24 c25 v23, rowA (Enc.int .u8) A20 c21 v19, rowA (Enc.int .u8) A13 c14 v12, rowA (Enc.int .u8) A9 c10 v8, rowA (Enc.int .u8) A5 c6 v4] [slA Rp0 (Enc.int .u8) Ap0 cp0 p0] := hS.post hQ (.inl rfl)
        clear hP hQ
        refine ⟨_, rfl, ?_⟩
        replace hM := bind_some hM
        obtain ⟨v27, h28, hM⟩ := hM
        have hP := Own.pre (Xi := []) (X := [rowA (Enc.int .u8) A24 c25 v23, rowA (Enc.int .u8) A20 c21 v19, rowA (Enc.int .u8) A13 c14 v12, rowA (Enc.int .u8) A9 c10 v8, rowA (Enc.int .u8) A5 c6 v4]) (Si := [slA (blkOf A20) (Enc.int .u8) A20 c21 v19, slA (blkOf A24) (Enc.int .u8) A24 c25 v23]) hS (forall2 (sl_of_row (hS.row_mem (List.Mem.tail _ (List.Mem.head _)))) (forall2 (sl_of_row (hS.row_mem (List.Mem.head _))) forall0)) (forall2 (fun _ h => .inr ⟨_, (List.Mem.tail _ (List.Mem.head _)), h⟩) (forall2 (fun _ h => .inr ⟨_, (List.Mem.head _), h⟩) forall0))
        refine s_call 11 #[.slice A20 v19.length c21, .slice A24 v23.length c25] (by kernel_rfl) (by kernel_rfl) ((bytes_Equal_W hP doms_nil h28).mono ?_)
        rintro _ _ ⟨rfl, hQ⟩
        replace hS : Own w0 D R _ [rowA (Enc.int .u8) A24 c25 v23, rowA (Enc.int .u8) A20 c21 v19, rowA (Enc.int .u8) A13 c14 v12, rowA (Enc.int .u8) A9 c10 v8, rowA (Enc.int .u8) A5 c6 v4] [slA Rp0 (Enc.int .u8) Ap0 cp0 p0] := hS.post hQ (.inl rfl)
        clear hP hQ
        refine ⟨_, rfl, ?_⟩
        refine seg 2 [.slice Ap0 p0.length cp0, .int .u64 p1, .int .i64 p2, undef, undef, undef, .bool false, .slice A5 v4.length c6, .int .u32 (IntKind.u32.wrap (p1)), undef, .slice Ap0 p0.length cp0, .int .i64 (p0.length : Int), .bool (decide ((p0.length : Int) > 5000)), undef, .slice Ap0 p0.length cp0, .slice A5 v4.length c6, .int .u64 p1, .int .u32 (IntKind.u32.wrap (p1)), .slice Ap0 p0.length cp0, .int .u32 (IntKind.u32.wrap (p1)), .slice A9 v8.length c10, .slice A5 v4.length c6, .int .u32 (IntKind.u32.wrap (p1)), .slice A13 v12.length c14, .bool true, .bool true, .slice Ap0 p0.length cp0, .int .u64 p1, .slice A20 v19.length c21, .slice A5 v4.length c6, .int .u64 p1, .slice A24 v23.length c25, .bool v27, .bool v27, .bool v27, undef, undef, undef, undef, undef, undef, undef, undef, undef, undef, undef, undef, undef, undef, undef, undef, undef, undef, undef, undef, undef, undef, undef, undef, undef, undef, undef, undef, undef, undef, undef, undef, undef, undef, undef, undef, undef, undef, undef] (by kernel_rfl) ?_
        rcases Bool.eq_false_or_eq_true v27 with hc29 | hc29
        · replace hM := (if_pos hc29).symm.trans hM
          rw [hc29]
          refine seg 2 [.slice Ap0 p0.length cp0, .int .u64 p1, .int .i64 p2, undef, undef, undef, .bool false, .slice A5 v4.length c6, .int .u32 (IntKind.u32.wrap (p1)), undef, .slice Ap0 p0.length cp0, .int .i64 (p0.length : Int), .bool (decide ((p0.length : Int) > 5000)), undef, .slice Ap0 p0.length cp0, .slice A5 v4.length c6, .int .u64 p1, .int .u32 (IntKind.u32.wrap (p1)), .slice Ap0 p0.length cp0, .int .u32 (IntKind.u32.wrap (p1)), .slice A9 v8.length c10, .slice A5 v4.length c6, .int .u32 (IntKind.u32.wrap (p1)), .slice A13 v12.length c14, .bool true, .bool true, .slice Ap0 p0.length cp0, .int .u64 p1, .slice A20 v19.length c21, .slice A5 v4.length c6, .int .u64 p1, .slice A24 v23.length c25, .bool true, .bool true, .bool true, .slice Ap0 p0.length cp0, .int .i64 p2, undef, undef, undef, undef, undef, undef, undef, undef, undef, undef, undef, undef, undef, undef, undef, undef, undef, undef, undef, undef, undef, undef, undef, undef, undef, undef, undef, undef, undef, undef, undef, undef, undef, undef, undef, undef, undef] (by kernel_rfl) ?_
          replace hM := bind_some hM
          obtain ⟨v30, h33, hM⟩ := hM
          have hP := Own.pre (Xi := []) (X := [rowA (Enc.int .u8) A24 c25 v23, rowA (Enc.int .u8) A20 c21 v19, rowA (Enc.int .u8) A13 c14 v12, rowA (Enc.int .u8) A9 c10 v8, rowA (Enc.int .u8) A5 c6 v4]) (Si := [slA Rp0 (Enc.int .u8) Ap0 cp0 p0]) hS (forall2 (hS.sl_mem (List.Mem.head _)) forall0) (forall2 (fun _ h => .inl ⟨_, (List.Mem.head _), h⟩) forall0)
          refine s_call 19 #[.slice Ap0 p0.length cp0, .int .i64 p2] (by kernel_rfl) (by kernel_rfl) ((pack_PutNum_W hP doms_nil h33).mono ?_)
          rintro _ _ ⟨A31, c32, rfl, hQ⟩
          replace hS : Own w0 D R _ [rowA (Enc.int .u8) A31 c32 v30, rowA (Enc.int .u8) A24 c25 v23, rowA (Enc.int .u8) A20 c21 v19, rowA (Enc.int .u8) A13 c14 v12, rowA (Enc.int .u8) A9 c10 v8, rowA (Enc.int .u8) A5 c6 v4] [slA Rp0 (Enc.int .u8) Ap0 cp0 p0] := hS.post hQ (.inl rfl)
          clear hP hQ
          refine ⟨_, rfl, ?_⟩
          refine seg 2 [.slice Ap0 p0.length cp0, .int .u64 p1, .int .i64 p2, undef, undef, undef, .bool false, .slice A5 v4.length c6, .int .u32 (IntKind.u32.wrap (p1)), undef, .slice Ap0 p0.length cp0, .int .i64 (p0.length : Int), .bool (decide ((p0.length : Int) > 5000)), undef, .slice Ap0 p0.length cp0, .slice A5 v4.length c6, .int .u64 p1, .int .u32 (IntKind.u32.wrap (p1)), .slice Ap0 p0.length cp0, .int .u32 (IntKind.u32.wrap (p1)), .slice A9 v8.length c10, .slice A5 v4.length c6, .int .u32 (IntKind.u32.wrap (p1)), .slice A13 v12.length c14, .bool true, .bool true, .slice Ap0 p0.length cp0, .int .u64 p1, .slice A20 v19.length c21, .slice A5 v4.length c6, .int .u64 p1, .slice A24 v23.length c25, .bool true, .bool true, .bool true, .slice Ap0 p0.length cp0, .int .i64 p2, .slice A31 v30.length c32, .slice A5 v4.length c6, .int .i64 p2, undef, undef, undef, undef, undef, undef, undef, undef, undef, undef, undef, undef, undef, undef, undef, undef, undef, undef, undef, undef, undef, undef, undef, undef, undef, undef, undef, undef, undef, undef, undef, undef, undef, undef] (by kernel_rfl) ?_
          replace hM := bind_some hM
          obtain ⟨v34, h37, hM⟩ := hM
          have hP := Own.pre (Xi := []) (X := [rowA (Enc.int .u8) A31 c32 v30, rowA (Enc.int .u8) A24 c25 v23, rowA (Enc.int .u8) A20 c21 v19, rowA (Enc.int .u8) A13 c14 v12, rowA (Enc.int .u8) A9 c10 v8, rowA (Enc.int .u8) A5 c6 v4]) (Si := [slA (blkOf A5) (Enc.int .u8) A5 c6 v4]) hS (forall2 (sl_of_row (hS.row_mem (List.Mem.tail _ (List.Mem.tail _ (List.Mem.tail _ (List.Mem.tail _ (List.Mem.tail _ (List.Mem.head _)))))))) forall0) (forall2 (fun _ h => .inr ⟨_, (List.Mem.tail _ (List.Mem.tail _ (List.Mem.tail _ (List.Mem.tail _ (List.Mem.tail _ (List.Mem.head _)))))), h⟩) forall0)
          refine s_call 20 #[.slice A5 v4.length c6, .int .i64 p2] (by kernel_rfl) (by kernel_rfl) ((intaglioref01_PutNum_W hP doms_nil h37).mono ?_)
          rintro _ _ ⟨A35, c36, rfl, hQ⟩
          replace hS : Own w0 D R _ [rowA (Enc.int .u8) A35 c36 v34, rowA (Enc.int .u8) A31 c32 v30, rowA (Enc.int .u8) A24 c25 v23, rowA (Enc.int .u8) A20 c21 v19, rowA (Enc.int .u8) A13 c14 v12, rowA (Enc.int .u8) A9 c10 v8, rowA (Enc.int .u8) A5 c6 v4] [slA Rp0 (Enc.int .u8) Ap0 cp0 p0] := hS.post hQ (.inl rfl)
          clear hP hQ
          refine ⟨_, rfl, ?_⟩
          replace hM := bind_some hM
          obtain ⟨v38, h39, hM⟩ := hM
          have hP := Own.pre (Xi := []) (X := [rowA (Enc.int .u8) A35 c36 v34, rowA (Enc.int .u8) A31 c32 v30, rowA (Enc.int .u8) A24 c25 v23, rowA (Enc.int .u8) A20 c21 v19, rowA (Enc.int .u8) A13 c14 v12, rowA (Enc.int .u8) A9 c10 v8, rowA (Enc.int .u8) A5 c6 v4]) (Si := [slA (blkOf A31) (Enc.int .u8) A31 c32 v30, slA (blkOf A35) (Enc.int .u8) A35 c36 v34]) hS (forall2 (sl_of_row (hS.row_mem (List.Mem.tail _ (List.Mem.head _)))) (forall2 (sl_of_row (hS.row_mem (List.Mem.head _))) forall0)) (forall2 (fun _ h => .inr ⟨_, (List.Mem.tail _ (List.Mem.head _)), h⟩) (forall2 (fun _ h => .inr ⟨_, (List.Mem.head _), h⟩) forall0))
          refine s_call 11 #[.slice A31 v30.length c32, .slice A35 v34.length c36] (by kernel_rfl) (by kernel_rfl) ((bytes_Equal_W hP doms_nil h39).mono ?_)
          rintro _ _ ⟨rfl, hQ⟩
          replace hS : Own w0 D R _ [rowA (Enc.int .u8) A35 c36 v34, rowA (Enc.int .u8) A31 c32 v30, rowA (Enc.int .u8) A24 c25 v23, rowA (Enc.int .u8) A20 c21 v19, rowA (Enc.int .u8) A13 c14 v12, rowA (Enc.int .u8) A9 c10 v8, rowA (Enc.int .u8) A5 c6 v4] [slA Rp0 (Enc.int .u8) Ap0 cp0 p0] := hS.post hQ (.inl rfl)
          clear hP hQ
          refine ⟨_, rfl, ?_⟩
          refine segEnd [.slice Ap0 p0.length cp0, .int .u64 p1, .int .i64 p2, undef, undef, undef, .bool false, .slice A5 v4.length c6, .int .u32 (IntKind.u32.wrap (p1)), .bool v38, .slice Ap0 p0.length cp0, .int .i64 (p0.length : Int), .bool (decide ((p0.length : Int) > 5000)), undef, .slice Ap0 p0.length cp0, .slice A5 v4.length c6, .int .u64 p1, .int .u32 (IntKind.u32.wrap (p1)), .slice Ap0 p0.length cp0, .int .u32 (IntKind.u32.wrap (p1)), .slice A9 v8.length c10, .slice A5 v4.length c6, .int .u32 (IntKind.u32.wrap (p1)), .slice A13 v12.length c14, .bool true, .bool true, .slice Ap0 p0.length cp0, .int .u64 p1, .slice A20 v19.length c21, .slice A5 v4.length c6, .int .u64 p1, .slice A24 v23.length c25, .bool true, .bool true, .bool true, .slice Ap0 p0.length cp0, .int .i64 p2, .slice A31 v30.length c32, .slice A5 v4.length c6, .int .i64 p2, .slice A35 v34.length c36, .bool v38, .bool v38, undef, undef, undef, undef, undef, undef, undef, undef, undef, undef, undef, undef, undef, undef, undef, undef, undef, undef, undef, undef, undef, undef, undef, undef, undef, undef, undef, undef, undef, undef, undef] (by kernel_rfl) ?_
          refine then_normal ?_
          replace hS : Own w0 D R _ [rowA (Enc.int .u8) A5 c6 v4, rowA (Enc.int .u8) A35 c36 v34, rowA (Enc.int .u8) A31 c32 v30, rowA (Enc.int .u8) A24 c25 v23, rowA (Enc.int .u8) A20 c21 v19, rowA (Enc.int .u8) A13 c14 v12, rowA (Enc.int .u8) A9 c10 v8] [slA Rp0 (Enc.int .u8) Ap0 cp0 p0] := hS.pick 6 rfl
          replace hS : Own w0 D R _ [rowA (Enc.int .u8) A5 c6 v4] [slA Rp0 (Enc.int .u8) Ap0 cp0 p0] := hS.takeX 1
          exact ⟨(.int .i64 p2), (.bool false), (.slice Ap0 p0.length cp0), (.int .i64 (p0.length : Int)), (.bool (decide ((p0.length : Int) > 5000))), (.slice Ap0 p0.length cp0), (.slice A5 v4.length c6), (.int .u64 p1), (.int .u32 (IntKind.u32.wrap (p1))), (.slice Ap0 p0.length cp0), (.int .u32 (IntKind.u32.wrap (p1))), (.slice A9 v8.length c10), (.slice A5 v4.length c6), (.int .u32 (IntKind.u32.wrap (p1))), (.slice A13 v12.length c14), (.bool true), (.bool true), (.slice Ap0 p0.length cp0), (.int .u64 p1), (.slice A20 v19.length c21), (.slice A5 v4.length c6), (.int .u64 p1), (.slice A24 v23.length c25), (.bool true), (.bool true), (.bool true), (.slice Ap0 p0.length cp0), (.int .i64 p2), (.slice A31 v30.length c32), (.slice A5 v4.length c6), (.int .i64 p2), (.slice A35 v34.length c36), (.bool v38), (.bool v38), v38, (by kernel_rfl), hS, hM⟩
        · replace hM := (if_neg (Bool.eq_false_iff.1 hc29)).symm.trans hM
          rw [hc29]
          refine segEnd [.slice Ap0 p0.length cp0, .int .u64 p1, .int .i64 p2, undef, undef, undef, .bool false, .slice A5 v4.length c6, .int .u32 (IntKind.u32.wrap (p1)), .bool false, .slice Ap0 p0.length cp0, .int .i64 (p0.length : Int), .bool (decide ((p0.length : Int) > 5000)), undef, .slice Ap0 p0.length cp0, .slice A5 v4.length c6, .int .u64 p1, .int .u32 (IntKind.u32.wrap (p1)), .slice Ap0 p0.length cp0, .int .u32 (IntKind.u32.wrap (p1)), .slice A9 v8.length c10, .slice A5 v4.length c6, .int .u32 (IntKind.u32.wrap (p1)), .slice A13 v12.length c14, .bool true, .bool true, .slice Ap0 p0.length cp0, .int .u64 p1, .slice A20 v19.length c21, .slice A5 v4.length c6, .int .u64 p1, .slice A24 v23.length c25, .bool false, .bool false, .bool false, undef, undef, undef, undef, undef, undef, undef, .bool false, undef, undef, undef, undef, undef, undef, undef, undef, undef, undef, undef, undef, undef, undef, undef, undef, undef, undef, undef, undef, undef, undef, undef, undef, undef, undef, undef, undef, undef, undef, undef] (by kernel_rfl) ?_
          refine then_normal ?_
          replace hS : Own w0 D R _ [rowA (Enc.int .u8) A5 c6 v4, rowA (Enc.int .u8) A24 c25 v23, rowA (Enc.int .u8) A20 c21 v19, rowA (Enc.int .u8) A13 c14 v12, rowA (Enc.int .u8) A9 c10 v8] [slA Rp0 (Enc.int .u8) Ap0 cp0 p0] := hS.pick 4 rfl
          replace hS : Own w0 D R _ [rowA (Enc.int .u8) A5 c6 v4] [slA Rp0 (Enc.int .u8) Ap0 cp0 p0] := hS.takeX 1
          exact ⟨(.int .i64 p2), (.bool false), (.slice Ap0 p0.length cp0), (.int .i64 (p0.length : Int)), (.bool (decide ((p0.length : Int) > 5000))), (.slice Ap0 p0.length cp0), (.slice A5 v4.length c6), (.int .u64 p1), (.int .u32 (IntKind.u32.wrap (p1))), (.slice Ap0 p0.length cp0), (.int .u32 (IntKind.u32.wrap (p1))), (.slice A9 v8.length c10), (.slice A5 v4.length c6), (.int .u32 (IntKind.u32.wrap (p1))), (.slice A13 v12.length c14), (.bool true), (.bool true), (.slice Ap0 p0.length cp0), (.int .u64 p1), (.slice A20 v19.length c21), (.slice A5 v4.length c6), (.int .u64 p1), (.slice A24 v23.length c25), (.bool false), (.bool false), (.bool false), undef, undef, undef, undef, undef, undef, undef, (.bool false), false, (by kernel_rfl), hS, hM⟩
      · replace hM := (if_neg (Bool.eq_false_iff.1 hc18)).symm.trans hM
        rw [hc18]
        refine segEnd [.slice Ap0 p0.length cp0, .int .u64 p1, .int .i64 p2, undef, undef, undef, .bool false, .slice A5 v4.length c6, .int .u32 (IntKind.u32.wrap (p1)), .bool false, .slice Ap0 p0.length cp0, .int .i64 (p0.length : Int), .bool (decide ((p0.length : Int) > 5000)), undef, .slice Ap0 p0.length cp0, .slice A5 v4.length c6, .int .u64 p1, .int .u32 (IntKind.u32.wrap (p1)), .slice Ap0 p0.length cp0, .int .u32 (IntKind.u32.wrap (p1)), .slice A9 v8.length c10, .slice A5 v4.length c6, .int .u32 (IntKind.u32.wrap (p1)), .slice A13 v12.length c14, .bool false, .bool false, undef, undef, undef, undef, undef, undef, undef, .bool false, .bool false, undef, undef, undef, undef, undef, undef, undef, .bool false, undef, undef, undef, undef, undef, undef, undef, undef, undef, undef, undef, undef, undef, undef, undef, undef, undef, undef, undef, undef, undef, undef, undef, undef, undef, undef, undef, undef, undef, undef, undef] (by kernel_rfl) ?_
        refine then_normal ?_
        replace hS : Own w0 D R _ [rowA (Enc.int .u8) A5 c6 v4, rowA (Enc.int .u8) A13 c14 v12, rowA (Enc.int .u8) A9 c10 v8] [slA Rp0 (Enc.int .u8) Ap0 cp0 p0] := hS.pick 2 rfl
        replace hS : Own w0 D R _ [rowA (Enc.int .u8) A5 c6 v4] [slA Rp0 (Enc.int .u8) Ap0 cp0 p0] := hS.takeX 1
        exact ⟨(.int .i64 p2), (.bool false), (.slice Ap0 p0.length cp0), (.int .i64 (p0.length : Int)), (.bool (decide ((p0.length : Int) > 5000))), (.slice Ap0 p0.length cp0), (.slice A5 v4.length c6), (.int .u64 p1), (.int .u32 (IntKind.u32.wrap (p1))), (.slice Ap0 p0.length cp0), (.int .u32 (IntKind.u32.wrap (p1))), (.slice A9 v8.length c10), (.slice A5 v4.length c6), (.int .u32 (IntKind.u32.wrap (p1))), (.slice A13 v12.length c14), (.bool false), (.bool false), undef, undef, undef, undef, undef, undef, undef, (.bool false), (.bool false), undef, undef, undef, undef, undef, undef, undef, (.bool false), false, (by kernel_rfl), hS, hM⟩
    · rintro a w ⟨g40, g41, g43, g44, g45, g46, g47, g48, g49, g50, g51, g52, g53, g54, g55, g56, g57, g58, g59, g60, g61, g62, g63, g64, g65, g66, g67, g68, g69, g70, g71, g72, g73, g74, x42, rfl, hS, hM⟩
      unfold intagliolaw01_PackNumbers_J1 at hM
      refine wp_join (fun a w => ∃ (g105 : Value) (g106 : Value) (g108 : Value) (g109 : Value) (g110 : Value) (g111 : Value) (g112 : Value) (g113 : Value) (g114 : Value) (g115 : Value) (g116 : Value) (g117 : Value) (g118 : Value) (g119 : Value) (g120 : Value) (g121 : Value) (g122 : Value) (g123 : Value) (g124 : Value) (g125 : Value) (g126 : Value) (g127 : Value) (g128 : Value) (g129 : Value) (x107 : Bool), a = Fr [.slice Ap0 p0.length cp0, g105, g40, undef, undef, undef, g41, .slice A5 v4.length c6, g106, .bool x107, g43, g44, g45, undef, g46, g47, g48, g49, g50, g51, g52, g53, g54, g55, g56, g57, g58, g59, g60, g61, g62, g63, g64, g65, g66, g67, g68, g69, g70, g71, g72, g73, g74, g108, g109, g110, g111, g112, g113, g114, g115, g116, g117, g118, g119, g120, g121, g122, g123, g124, g125, g126, g127, g128, g129, undef, undef, undef, undef, undef, undef, undef, undef, undef] ∧ Own w0 D R w [rowA (Enc.int .u8) A5 c6 v4] [slA Rp0 (Enc.int .u8) Ap0 cp0 p0] ∧ intagliolaw01_PackNumbers_J2 p0 v4 x107 = some r0) ?_ ?_
      ·
        refine wp_reg ?_
        refine seg 2 [.slice Ap0 p0.length cp0, .int .u64 p1, g40, undef, undef, undef, g41, .slice A5 v4.length c6, .int .u32 (IntKind.u32.wrap (p1)), .bool x42, g43, g44, g45, undef, g46, g47, g48, g49, g50, g51, g52, g53, g54, g55, g56, g57, g58, g59, g60, g61, g62, g63, g64, g65, g66, g67, g68, g69, g70, g71, g72, g73, g74, .bool x42, .bool x42, undef, undef, undef, undef, undef, undef, undef, undef, undef, undef, undef, undef, undef, undef, undef, undef, undef, undef, undef, undef, undef, undef, undef, undef, undef, undef, undef, undef, undef] (by kernel_rfl) ?_
        rcases Bool.eq_false_or_eq_true x42 with hc75 | hc75
        · replace hM := (if_pos hc75).symm.trans hM
          rw [hc75]
          refine seg 2 [.slice Ap0 p0.length cp0, .int .u64 p1, g40, undef, undef, undef, g41, .slice A5 v4.length c6, .int .u32 (IntKind.u32.wrap (p1)), .bool true, g43, g44, g45, undef, g46, g47, g48, g49, g50, g51, g52, g53, g54, g55, g56, g57, g58, g59, g60, g61, g62, g63, g64, g65, g66, g67, g68, g69, g70, g71, g72, g73, g74, .bool true, .bool true, .slice Ap0 p0.length cp0, .int .u32 (IntKind.u32.wrap (p1)), undef, undef, undef, undef, undef, undef, undef, undef, undef, undef, undef, undef, undef, undef, undef, undef, undef, undef, undef, undef, undef, undef, undef, undef, undef, undef, undef] (by kernel_rfl) ?_
          replace hM := bind_some hM
          obtain ⟨v76, h79, hM⟩ := hM
          have hP := Own.pre (Xi := []) (X := [rowA (Enc.int .u8) A5 c6 v4]) (Si := [slA Rp0 (Enc.int .u8) Ap0 cp0 p0]) hS (forall2 (hS.sl_mem (List.Mem.head _)) forall0) (forall2 (fun _ h => .inl ⟨_, (List.Mem.head _), h⟩) forall0)
          refine s_call 21 #[.slice Ap0 p0.length cp0, .int .u32 (IntKind.u32.wrap (p1))] (by kernel_rfl) (by kernel_rfl) ((pack_PutLe32_W hP doms_nil h79).mono ?_)
          rintro _ _ ⟨A77, c78, rfl, hQ⟩
          replace hS : Own w0 D R _ [rowA (Enc.int .u8) A77 c78 v76, rowA (Enc.int .u8) A5 c6 v4] [slA Rp0 (Enc.int .u8) Ap0 cp0 p0] := hS.post hQ (.inl rfl)
          clear hP hQ
          refine ⟨_, rfl, ?_⟩
          refine seg 3 [.slice Ap0 p0.length cp0, .int .u64 p1, g40, undef, undef, undef, g41, .slice A5 v4.length c6, .int .u32 (IntKind.u32.wrap (p1)), .bool true, g43, g44, g45, undef, g46, g47, g48, g49, g50, g51, g52, g53, g54, g55, g56, g57, g58, g59, g60, g61, g62, g63, g64, g65, g66, g67, g68, g69, g70, g71, g72, g73, g74, .bool true, .bool true, .slice Ap0 p0.length cp0, .int .u32 (IntKind.u32.wrap (p1)), .slice A77 v76.length c78, .slice A5 v4.length c6, .int .u32 (IntKind.u32.wrap (p1)), .int .u64 (IntKind.u64.wrap ((IntKind.u32.wrap (p1)))), undef, undef, undef, undef, undef, undef, undef, undef, undef, undef, undef, undef, undef, undef, undef, undef, undef, undef, undef, undef, undef, undef, undef] (by kernel_rfl) ?_
          replace hM := bind_some hM
          obtain ⟨v80, h83, hM⟩ := hM
          have hP := Own.pre (Xi := []) (X := [rowA (Enc.int .u8) A77 c78 v76, rowA (Enc.int .u8) A5 c6 v4]) (Si := []) hS forall0 forall0
          refine s_call 23 #[.int .u64 (IntKind.u64.wrap ((IntKind.u32.wrap (p1)))), .int .i64 4] (by kernel_rfl) (by kernel_rfl) ((intaglioref01_Low_W hP doms_nil h83).mono ?_)
          rintro _ _ ⟨A81, c82, rfl, hQ⟩
          replace hS : Own w0 D R _ [rowA (Enc.int .u8) A81 c82 v80, rowA (Enc.int .u8) A77 c78 v76, rowA (Enc.int .u8) A5 c6 v4] [slA Rp0 (Enc.int .u8) Ap0 cp0 p0] := hS.post hQ (.inl rfl)
          clear hP hQ
          refine ⟨_, rfl, ?_⟩
          replace hM := bind_some hM
          obtain ⟨v84, h87, hM⟩ := hM
          have hP := Own.pre (Xi := []) (X := [rowA (Enc.int .u8) A81 c82 v80, rowA (Enc.int .u8) A77 c78 v76, rowA (Enc.int .u8) A5 c6 v4]) (Si := [slA (blkOf A5) (Enc.int .u8) A5 c6 v4, slA (blkOf A81) (Enc.int .u8) A81 c82 v80]) hS (forall2 (sl_of_row (hS.row_mem (List.Mem.tail _ (List.Mem.tail _ (List.Mem.head _))))) (forall2 (sl_of_row (hS.row_mem (List.Mem.head _))) forall0)) (forall2 (fun _ h => .inr ⟨_, (List.Mem.tail _ (List.Mem.tail _ (List.Mem.head _))), h⟩) (forall2 (fun _ h => .inr ⟨_, (List.Mem.head _), h⟩) forall0))
          refine s_call 22 #[.slice A5 v4.length c6, .slice A81 v80.length c82] (by kernel_rfl) (by kernel_rfl) ((intaglioref01_Both_W hP doms_nil h87).mono ?_)
          rintro _ _ ⟨A85, c86, rfl, hQ⟩
          replace hS : Own w0 D R _ [rowA (Enc.int .u8) A85 c86 v84, rowA (Enc.int .u8) A81 c82 v80, rowA (Enc.int .u8) A77 c78 v76, rowA (Enc.int .u8) A5 c6 v4] [slA Rp0 (Enc.int .u8) Ap0 cp0 p0] := hS.post hQ (.inl rfl)
          clear hP hQ
          refine ⟨_, rfl, ?_⟩
          replace hM := bind_some hM
          obtain ⟨v88, h89, hM⟩ := hM
          have hP := Own.pre (Xi := []) (X := [rowA (Enc.int .u8) A85 c86 v84, rowA (Enc.int .u8) A81 c82 v80, rowA (Enc.int .u8) A77 c78 v76, rowA (Enc.int .u8) A5 c6 v4]) (Si := [slA (blkOf A77) (Enc.int .u8) A77 c78 v76, slA (blkOf A85) (Enc.int .u8) A85 c86 v84]) hS (forall2 (sl_of_row (hS.row_mem (List.Mem.tail _ (List.Mem.tail _ (List.Mem.head _))))) (forall2 (sl_of_row (hS.row_mem (List.Mem.head _))) forall0)) (forall2 (fun _ h => .inr ⟨_, (List.Mem.tail _ (List.Mem.tail _ (List.Mem.head _))), h⟩) (forall2 (fun _ h => .inr ⟨_, (List.Mem.head _), h⟩) forall0))
          refine s_call 11 #[.slice A77 v76.length c78, .slice A85 v84.length c86] (by kernel_rfl) (by kernel_rfl) ((bytes_Equal_W hP doms_nil h89).mono ?_)
          rintro _ _ ⟨rfl, hQ⟩
          replace hS : Own w0 D R _ [rowA (Enc.int .u8) A85 c86 v84, rowA (Enc.int .u8) A81 c82 v80, rowA (Enc.int .u8) A77 c78 v76, rowA (Enc.int .u8) A5 c6 v4] [slA Rp0 (Enc.int .u8) Ap0 cp0 p0] := hS.post hQ (.inl rfl)
          clear hP hQ
          refine ⟨_, rfl, ?_⟩
          refine seg 2 [.slice Ap0 p0.length cp0, .int .u64 p1, g40, undef, undef, undef, g41, .slice A5 v4.length c6, .int .u32 (IntKind.u32.wrap (p1)), .bool true, g43, g44, g45, undef, g46, g47, g48, g49, g50, g51, g52, g53, g54, g55, g56, g57, g58, g59, g60, g61, g62, g63, g64, g65, g66, g67, g68, g69, g70, g71, g72, g73, g74, .bool true, .bool true, .slice Ap0 p0.length cp0, .int .u32 (IntKind.u32.wrap (p1)), .slice A77 v76.length c78, .slice A5 v4.length c6, .int .u32 (IntKind.u32.wrap (p1)), .int .u64 (IntKind.u64.wrap ((IntKind.u32.wrap (p1)))), .slice A81 v80.length c82, .slice A85 v84.length c86, .bool v88, .bool v88, .bool v88, undef, undef, undef, undef, undef, undef, undef, undef, undef, undef, undef, undef, undef, undef, undef, undef, undef, undef] (by kernel_rfl) ?_
          rcases Bool.eq_false_or_eq_true v88 with hc90 | hc90
          · replace hM := (if_pos hc90).symm.trans hM
            rw [hc90]
            refine seg 2 [.slice Ap0 p0.length cp0, .int .u64 p1, g40, undef, undef, undef, g41, .slice A5 v4.length c6, .int .u32 (IntKind.u32.wrap (p1)), .bool true, g43, g44, g45, undef, g46, g47, g48, g49, g50, g51, g52, g53, g54, g55, g56, g57, g58, g59, g60, g61, g62, g63, g64, g65, g66, g67, g68, g69, g70, g71, g72, g73, g74, .bool true, .bool true, .slice Ap0 p0.length cp0, .int .u32 (IntKind.u32.wrap (p1)), .slice A77 v76.length c78, .slice A5 v4.length c6, .int .u32 (IntKind.u32.wrap (p1)), .int .u64 (IntKind.u64.wrap ((IntKind.u32.wrap (p1)))), .slice A81 v80.length c82, .slice A85 v84.length c86, .bool true, .bool true, .bool true, .slice Ap0 p0.length cp0, .int .u64 p1, undef, undef, undef, undef, undef, undef, undef, undef, undef, undef, undef, undef, undef, undef, undef, undef] (by kernel_rfl) ?_
            replace hM := bind_some hM
            obtain ⟨v91, h94, hM⟩ := hM
            have hP := Own.pre (Xi := []) (X := [rowA (Enc.int .u8) A85 c86 v84, rowA (Enc.int .u8) A81 c82 v80, rowA (Enc.int .u8) A77 c78 v76, rowA (Enc.int .u8) A5 c6 v4]) (Si := [slA Rp0 (Enc.int .u8) Ap0 cp0 p0]) hS (forall2 (hS.sl_mem (List.Mem.head _)) forall0) (forall2 (fun _ h => .inl ⟨_, (List.Mem.head _), h⟩) forall0)
            refine s_call 24 #[.slice Ap0 p0.length cp0, .int .u64 p1] (by kernel_rfl) (by kernel_rfl) ((pack_PutLe64_W hP doms_nil h94).mono ?_)
            rintro _ _ ⟨A92, c93, rfl, hQ⟩
            replace hS : Own w0 D R _ [rowA (Enc.int .u8) A92 c93 v91, rowA (Enc.int .u8) A85 c86 v84, rowA (Enc.int .u8) A81 c82 v80, rowA (Enc.int .u8) A77 c78 v76, rowA (Enc.int .u8) A5 c6 v4] [slA Rp0 (Enc.int .u8) Ap0 cp0 p0] := hS.post hQ (.inl rfl)
            clear hP hQ
            refine ⟨_, rfl, ?_⟩
            refine seg 2 [.slice Ap0 p0.length cp0, .int .u64 p1, g40, undef, undef, undef, g41, .slice A5 v4.length c6, .int .u32 (IntKind.u32.wrap (p1)), .bool true, g43, g44, g45, undef, g46, g47, g48, g49, g50, g51, g52, g53, g54, g55, g56, g57, g58, g59, g60, g61, g62, g63, g64, g65, g66, g67, g68, g69, g70, g71, g72, g73, g74, .bool true, .bool true, .slice Ap0 p0.length cp0, .int .u32 (IntKind.u32.wrap (p1)), .slice A77 v76.length c78, .slice A5 v4.length c6, .int .u32 (IntKind.u32.wrap (p1)), .int .u64 (IntKind.u64.wrap ((IntKind.u32.wrap (p1)))), .slice A81 v80.length c82, .slice A85 v84.length c86, .bool true, .bool true, .bool true, .slice Ap0 p0.length cp0, .int .u64 p1, .slice A92 v91.length c93, .slice A5 v4.length c6, .int .u64 p1, undef, undef, undef, undef, undef, undef, undef, undef, undef, undef, undef, undef, undef] (by kernel_rfl) ?_
            replace hM := bind_some hM
            obtain ⟨v95, h98, hM⟩ := hM
            have hP := Own.pre (Xi := []) (X := [rowA (Enc.int .u8) A92 c93 v91, rowA (Enc.int .u8) A85 c86 v84, rowA (Enc.int .u8) A81 c82 v80, rowA (Enc.int .u8) A77 c78 v76, rowA (Enc.int .u8) A5 c6 v4]) (Si := []) hS forall0 forall0
            refine s_call 23 #[.int .u64 p1, .int .i64 8] (by kernel_rfl) (by kernel_rfl) ((intaglioref01_Low_W hP doms_nil h98).mono ?_)
            rintro _ _ ⟨A96, c97, rfl, hQ⟩
            replace hS : Own w0 D R _ [rowA (Enc.int .u8) A96 c97 v95, rowA (Enc.int .u8) A92 c93 v91, rowA (Enc.int .u8) A85 c86 v84, rowA (Enc.int .u8) A81 c82 v80, rowA (Enc.int .u8) A77 c78 v76, rowA (Enc.int .u8) A5 c6 v4] [slA Rp0 (Enc.int .u8) Ap0 cp0 p0] := hS.post hQ (.inl rfl)
            clear hP hQ
            refine ⟨_, rfl, ?_⟩
            replace hM := bind_some hM
            obtain ⟨v99, h102, hM⟩ := hM
            have hP := Own.pre (Xi := []) (X := [rowA (Enc.int .u8) A96 c97 v95, rowA (Enc.int .u8) A92 c93 v91, rowA (Enc.int .u8) A85 c86 v84, rowA (Enc.int .u8) A81 c82 v80, rowA (Enc.int .u8) A77 c78 v76, rowA (Enc.int .u8) A5 c6 v4]) (Si := [slA (blkOf A5) (Enc.int .u8) A5 c6 v4, slA (blkOf A96) (Enc.int .u8) A96 c97 v95]) hS (forall2 (sl_of_row (hS.row_mem (List.Mem.tail _ (List.Mem.tail _ (List.Mem.tail _ (List.Mem.tail _ (List.Mem.tail _ (List.Mem.head _)))))))) (forall2 (sl_of_row (hS.row_mem (List.Mem.head _))) forall0)) (forall2 (fun _ h => .inr ⟨_, (List.Mem.tail _ (List.Mem.tail _ (List.Mem.tail _ (List.Mem.tail _ (List.Mem.tail _ (List.Mem.head _)))))), h⟩) (forall2 (fun _ h => .inr ⟨_, (List.Mem.head _), h⟩) forall0))
            refine s_call 22 #[.slice A5 v4.length c6, .slice A96 v95.length c97] (by kernel_rfl) (by kernel_rfl) ((intaglioref01_Both_W hP doms_nil h102).mono ?_)
            rintro _ _ ⟨A100, c101, rfl, hQ⟩
            replace hS : Own w0 D R _ [rowA (Enc.int .u8) A100 c101 v99, rowA (Enc.int .u8) A96 c97 v95, rowA (Enc.int .u8) A92 c93 v91, rowA (Enc.int .u8) A85 c86 v84, rowA (Enc.int .u8) A81 c82 v80, rowA (Enc.int .u8) A77 c78 v76, rowA (Enc.int .u8) A5 c6 v4] [slA Rp0 (Enc.int .u8) Ap0 cp0 p0] := hS.post hQ (.inl rfl)
            clear hP hQ
            refine ⟨_, rfl, ?_⟩
            replace hM := bind_some hM
            obtain ⟨v103, h104, hM⟩ := hM
            have hP := Own.pre (Xi := []) (X := [rowA (Enc.int .u8) A100 c101 v99, rowA (Enc.int .u8) A96 c97 v95, rowA (Enc.int .u8) A92 c93 v91, rowA (Enc.int .u8) A85 c86 v84, rowA (Enc.int .u8) A81 c82 v80, rowA (Enc.int .u8) A77 c78 v76, rowA (Enc.int .u8) A5 c6 v4]) (Si := [slA (blkOf A92) (Enc.int .u8) A92 c93 v91, slA (blkOf A100) (Enc.int .u8) A100 c101 v99]) hS (forall2 (sl_of_row (hS.row_mem (List.Mem.tail _ (List.Mem.tail _ (List.Mem.head _))))) (forall2 (sl_of_row (hS.row_mem (List.Mem.head _))) forall0)) (forall2 (fun _ h => .inr ⟨_, (List.Mem.tail _ (List.Mem.tail _ (List.Mem.head _))), h⟩) (forall2 (fun _ h => .inr ⟨_, (List.Mem.head _), h⟩) forall0))
            refine s_call 11 #[.slice A92 v91.length c93, .slice A100 v99.length c101] (by kernel_rfl) (by kernel_rfl) ((bytes_Equal_W hP doms_nil h104).mono ?_)
            rintro _ _ ⟨rfl, hQ⟩
            replace hS : Own w0 D R _ [rowA (Enc.int .u8) A100 c101 v99, rowA (Enc.int .u8) A96 c97 v95, rowA (Enc.int .u8) A92 c93 v91, rowA (Enc.int .u8) A85 c86 v84, rowA (Enc.int .u8) A81 c82 v80, rowA (Enc.int .u8) A77 c78 v76, rowA (Enc.int .u8) A5 c6 v4] [slA Rp0 (Enc.int .u8) Ap0 cp0 p0] := hS.post hQ (.inl rfl)
            clear hP hQ
            refine ⟨_, rfl, ?_⟩
            refine segEnd [.slice Ap0 p0.length cp0, .int .u64 p1, g40, undef, undef, undef, g41, .slice A5 v4.length c6, .int .u32 (IntKind.u32.wrap (p1)), .bool v103, g43, g44, g45, undef, g46, g47, g48, g49, g50, g51, g52, g53, g54, g55, g56, g57, g58, g59, g60, g61, g62, g63, g64, g65, g66, g67, g68, g69, g70, g71, g72, g73, g74, .bool true, .bool true, .slice Ap0 p0.length cp0, .int .u32 (IntKind.u32.wrap (p1)), .slice A77 v76.length c78, .slice A5 v4.length c6, .int .u32 (IntKind.u32.wrap (p1)), .int .u64 (IntKind.u64.wrap ((IntKind.u32.wrap (p1)))), .slice A81 v80.length c82, .slice A85 v84.length c86, .bool true, .bool true, .bool true, .slice Ap0 p0.length cp0, .int .u64 p1, .slice A92 v91.length c93, .slice A5 v4.length c6, .int .u64 p1, .slice A96 v95.length c97, .slice A100 v99.length c101, .bool v103, .bool v103, undef, undef, undef, undef, undef, undef, undef, undef, undef] (by kernel_rfl) ?_
            refine then_normal ?_
            replace hS : Own w0 D R _ [rowA (Enc.int .u8) A5 c6 v4, rowA (Enc.int .u8) A100 c101 v99, rowA (Enc.int .u8) A96 c97 v95, rowA (Enc.int .u8) A92 c93 v91, rowA (Enc.int .u8) A85 c86 v84, rowA (Enc.int .u8) A81 c82 v80, rowA (Enc.int .u8) A77 c78 v76] [slA Rp0 (Enc.int .u8) Ap0 cp0 p0] := hS.pick 6 rfl
            replace hS : Own w0 D R _ [rowA (Enc.int .u8) A5 c6 v4] [slA Rp0 (Enc.int .u8) Ap0 cp0 p0] := hS.takeX 1
            exact ⟨(.int .u64 p1), (.int .u32 (IntKind.u32.wrap (p1))), (.bool true), (.bool true), (.slice Ap0 p0.length cp0), (.int .u32 (IntKind.u32.wrap (p1))), (.slice A77 v76.length c78), (.slice A5 v4.length c6), (.int .u32 (IntKind.u32.wrap (p1))), (.int .u64 (IntKind.u64.wrap ((IntKind.u32.wrap (p1))))), (.slice A81 v80.length c82), (.slice A85 v84.length c86), (.bool true), (.bool true), (.bool true), (.slice Ap0 p0.length cp0), (.int .u64 p1), (.slice A92 v91.length c93), (.slice A5 v4.length c6), (.int .u64 p1), (.slice A96 v95.length c97), (.slice A100 v99.length c101), (.bool v103), (.bool v103), v103, (by kernel_rfl), hS, hM⟩
          · replace hM := (if_neg (Bool.eq_false_iff.1 hc90)).symm.trans hM
            rw [hc90]
            refine segEnd [.slice Ap0 p0.length cp0, .int .u64 p1, g40, undef, undef, undef, g41, .slice A5 v4.length c6, .int .u32 (IntKind.u32.wrap (p1)), .bool false, g43, g44, g45, undef, g46, g47, g48, g49, g50, g51, g52, g53, g54, g55, g56, g57, g58, g59, g60, g61, g62, g63, g64, g65, g66, g67, g68, g69, g70, g71, g72, g73, g74, .bool true, .bool true, .slice Ap0 p0.length cp0, .int .u32 (IntKind.u32.wrap (p1)), .slice A77 v76.length c78, .slice A5 v4.length c6, .int .u32 (IntKind.u32.wrap (p1)), .int .u64 (IntKind.u64.wrap ((IntKind.u32.wrap (p1)))), .slice A81 v80.length c82, .slice A85 v84.length c86, .bool false, .bool false, .bool false, undef, undef, undef, undef, undef, undef, undef, undef, .bool false, undef, undef, undef, undef, undef, undef, undef, undef, undef] (by kernel_rfl) ?_
            refine then_normal ?_
            replace hS : Own w0 D R _ [rowA (Enc.int .u8) A5 c6 v4, rowA (Enc.int .u8) A85 c86 v84, rowA (Enc.int .u8) A81 c82 v80, rowA (Enc.int .u8) A77 c78 v76] [slA Rp0 (Enc.int .u8) Ap0 cp0 p0] := hS.pick 3 rfl
            replace hS : Own w0 D R _ [rowA (Enc.int .u8) A5 c6 v4] [slA Rp0 (Enc.int .u8) Ap0 cp0 p0] := hS.takeX 1
            exact ⟨(.int .u64 p1), (.int .u32 (IntKind.u32.wrap (p1))), (.bool true), (.bool true), (.slice Ap0 p0.length cp0), (.int .u32 (IntKind.u32.wrap (p1))), (.slice A77 v76.length c78), (.slice A5 v4.length c6), (.int .u32 (IntKind.u32.wrap (p1))), (.int .u64 (IntKind.u64.wrap ((IntKind.u32.wrap (p1))))), (.slice A81 v80.length c82), (.slice A85 v84.length c86), (.bool false), (.bool false), (.bool false), undef, undef, undef, undef, undef, undef, undef, undef, (.bool false), false, (by kernel_rfl), hS, hM⟩
        · replace hM := (if_neg (Bool.eq_false_iff.1 hc75)).symm.trans hM
          rw [hc75]
          refine segEnd [.slice Ap0 p0.length cp0, .int .u64 p1, g40, undef, undef, undef, g41, .slice A5 v4.length c6, .int .u32 (IntKind.u32.wrap (p1)), .bool false, g43, g44, g45, undef, g46, g47, g48, g49, g50, g51, g52, g53, g54, g55, g56, g57, g58, g59, g60, g61, g62, g63, g64, g65, g66, g67, g68, g69, g70, g71, g72, g73, g74, .bool false, .bool false, undef, undef, undef, undef, undef, undef, undef, undef, undef, .bool false, .bool false, undef, undef, undef, undef, undef, undef, undef, undef, .bool false, undef, undef, undef, undef, undef, undef, undef, undef, undef] (by kernel_rfl) ?_
          refine then_normal ?_
          exact ⟨(.int .u64 p1), (.int .u32 (IntKind.u32.wrap (p1))), (.bool false), (.bool false), undef, undef, undef, undef, undef, undef, undef, undef, undef, (.bool false), (.bool false), undef, undef, undef, undef, undef, undef, undef, undef, (.bool false), false, (by kernel_rfl), hS, hM⟩
      · rintro a w ⟨g105, g106, g108, g109, g110, g111, g112, g113, g114, g115, g116, g117, g118, g119, g120, g121, g122, g123, g124, g125, g126, g127, g128, g129, x107, rfl, hS, hM⟩
        unfold intagliolaw01_PackNumbers_J2 at hM
        refine wp_seq ?_
        refine wp_reg ?_
        refine seg 2 [.slice Ap0 p0.length cp0, g105, g40, undef, undef, undef, g41, .slice A5 v4.length c6, g106, .bool x107, g43, g44, g45, undef, g46, g47, g48, g49, g50, g51, g52, g53, g54, g55, g56, g57, g58, g59, g60, g61, g62, g63, g64, g65, g66, g67, g68, g69, g70, g71, g72, g73, g74, g108, g109, g110, g111, g112, g113, g114, g115, g116, g117, g118, g119, g120, g121, g122, g123, g124, g125, g126, g127, g128, g129, .bool x107, .bool x107, undef, undef, undef, undef, undef, undef, undef] (by kernel_rfl) ?_
        rcases Bool.eq_false_or_eq_true x107 with hc130 | hc130
        · replace hM := (if_pos hc130).symm.trans hM
          rw [hc130]
          refine seg 2 [.slice Ap0 p0.length cp0, g105, g40, undef, undef, undef, g41, .slice A5 v4.length c6, g106, .bool true, g43, g44, g45, undef, g46, g47, g48, g49, g50, g51, g52, g53, g54, g55, g56, g57, g58, g59, g60, g61, g62, g63, g64, g65, g66, g67, g68, g69, g70, g71, g72, g73, g74, g108, g109, g110, g111, g112, g113, g114, g115, g116, g117, g118, g119, g120, g121, g122, g123, g124, g125, g126, g127, g128, g129, .bool true, .bool true, .slice Ap0 p0.length cp0, .slice A5 v4.length c6, undef, undef, undef, undef, undef] (by kernel_rfl) ?_
          replace hM := bind_some hM
          obtain ⟨v131, h132, hM⟩ := hM
          have hP := Own.pre (Xi := []) (X := [rowA (Enc.int .u8) A5 c6 v4]) (Si := [slA Rp0 (Enc.int .u8) Ap0 cp0 p0, slA (blkOf A5) (Enc.int .u8) A5 c6 v4]) hS (forall2 (hS.sl_mem (List.Mem.head _)) (forall2 (sl_of_row (hS.row_mem (List.Mem.head _))) forall0)) (forall2 (fun _ h => .inl ⟨_, (List.Mem.head _), h⟩) (forall2 (fun _ h => .inr ⟨_, (List.Mem.head _), h⟩) forall0))
          refine s_call 11 #[.slice Ap0 p0.length cp0, .slice A5 v4.length c6] (by kernel_rfl) (by kernel_rfl) ((bytes_Equal_W hP doms_nil h132).mono ?_)
          rintro _ _ ⟨rfl, hQ⟩
          replace hS : Own w0 D R _ [rowA (Enc.int .u8) A5 c6 v4] [slA Rp0 (Enc.int .u8) Ap0 cp0 p0] := hS.post hQ (.inl rfl)
          clear hP hQ
          refine ⟨_, rfl, ?_⟩
          refine seg 2 [.slice Ap0 p0.length cp0, g105, g40, undef, undef, undef, g41, .slice A5 v4.length c6, g106, .bool true, g43, g44, g45, undef, g46, g47, g48, g49, g50, g51, g52, g53, g54, g55, g56, g57, g58, g59, g60, g61, g62, g63, g64, g65, g66, g67, g68, g69, g70, g71, g72, g73, g74, g108, g109, g110, g111, g112, g113, g114, g115, g116, g117, g118, g119, g120, g121, g122, g123, g124, g125, g126, g127, g128, g129, .bool true, .bool true, .slice Ap0 p0.length cp0, .slice A5 v4.length c6, .bool v131, .bool v131, .bool v131, undef, undef] (by kernel_rfl) ?_
          rcases Bool.eq_false_or_eq_true v131 with hc133 | hc133
          · replace hM := (if_pos hc133).symm.trans hM
            rw [hc133]
            replace hM := bind_some hM
            obtain ⟨v134, h135, hM⟩ := hM
            have hP := Own.pre (Xi := []) (X := [rowA (Enc.int .u8) A5 c6 v4]) (Si := []) hS forall0 forall0
            refine s_call 9 #[] (by kernel_rfl) (by kernel_rfl) ((intagliolaw01_awake_W hP doms_nil h135).mono ?_)
            rintro _ _ ⟨rfl, hQ⟩
            replace hS : Own w0 D R _ [rowA (Enc.int .u8) A5 c6 v4] [slA Rp0 (Enc.int .u8) Ap0 cp0 p0] := hS.post hQ (.inl rfl)
            clear hP hQ
            refine ⟨_, rfl, ?_⟩
            refine segEnd [.slice Ap0 p0.length cp0, g105, g40, undef, undef, undef, .bool v134, .slice A5 v4.length c6, g106, .bool true, g43, g44, g45, undef, g46, g47, g48, g49, g50, g51, g52, g53, g54, g55, g56, g57, g58, g59, g60, g61, g62, g63, g64, g65, g66, g67, g68, g69, g70, g71, g72, g73, g74, g108, g109, g110, g111, g112, g113, g114, g115, g116, g117, g118, g119, g120, g121, g122, g123, g124, g125, g126, g127, g128, g129, .bool true, .bool true, .slice Ap0 p0.length cp0, .slice A5 v4.length c6, .bool true, .bool true, .bool true, .bool v134, .bool v134] (by kernel_rfl) ?_
            refine then_normal ?_
            refine wp_ret ?_
            replace hS : Own w0 D R _ [] [slA Rp0 (Enc.int .u8) Ap0 cp0 p0] := hS.takeX 0
            replace hS : Own w0 D R _ [] [] := hS.dropS forall0
            obtain rfl := Option.some.inj hM
            refine ret_v (.bool v134) (by kernel_rfl) ⟨rfl, hS⟩
          · replace hM := (if_neg (Bool.eq_false_iff.1 hc133)).symm.trans hM
            rw [hc133]
            refine segEnd [.slice Ap0 p0.length cp0, g105, g40, undef, undef, undef, .bool false, .slice A5 v4.length c6, g106, .bool true, g43, g44, g45, undef, g46, g47, g48, g49, g50, g51, g52, g53, g54, g55, g56, g57, g58, g59, g60, g61, g62, g63, g64, g65, g66, g67, g68, g69, g70, g71, g72, g73, g74, g108, g109, g110, g111, g112, g113, g114, g115, g116, g117, g118, g119, g120, g121, g122, g123, g124, g125, g126, g127, g128, g129, .bool true, .bool true, .slice Ap0 p0.length cp0, .slice A5 v4.length c6, .bool false, .bool false, .bool false, undef, .bool false] (by kernel_rfl) ?_
            refine then_normal ?_
            refine wp_ret ?_
            replace hS : Own w0 D R _ [] [slA Rp0 (Enc.int .u8) Ap0 cp0 p0] := hS.takeX 0
            replace hS : Own w0 D R _ [] [] := hS.dropS forall0
            obtain rfl := Option.some.inj hM
            refine ret_v (.bool false) (by kernel_rfl) ⟨rfl, hS⟩
        · replace hM := (if_neg (Bool.eq_false_iff.1 hc130)).symm.trans hM
          rw [hc130]
          refine segEnd [.slice Ap0 p0.length cp0, g105, g40, undef, undef, undef, .bool false, .slice A5 v4.length c6, g106, .bool false, g43, g44, g45, undef, g46, g47, g48, g49, g50, g51, g52, g53, g54, g55, g56, g57, g58, g59, g60, g61, g62, g63, g64, g65, g66, g67, g68, g69, g70, g71, g72, g73, g74, g108, g109, g110, g111, g112, g113, g114, g115, g116, g117, g118, g119, g120, g121, g122, g123, g124, g125, g126, g127, g128, g129, .bool false, .bool false, undef, undef, undef, .bool false, .bool false, undef, .bool false] (by kernel_rfl) ?_
          refine then_normal ?_
          refine wp_ret ?_
          replace hS : Own w0 D R _ [] [slA Rp0 (Enc.int .u8) Ap0 cp0 p0] := hS.takeX 0
          replace hS : Own w0 D R _ [] [] := hS.dropS forall0
          obtain rfl := Option.some.inj hM
          refine ret_v (.bool false) (by kernel_rfl) ⟨rfl, hS⟩

end Go.Proofs.Ytknkonhdbmeolaa
