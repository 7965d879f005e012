/- The Go functions come to what their models say (KeysIds). -/
import Derived.Test.YtcpddgjmopdlbaaTy
import Derived.Test.YtcpddgjmopdlbaaMKeysIds
import Derived.Test.YtcpddgjmopdlbaaFAwake
import Derived.Test.YtcpddgjmopdlbaaFBytes
import Derived.Test.YtcpddgjmopdlbaaFKeys
import Derived.Test.YtcpddgjmopdlbaaFRKeys
namespace Go.Proofs.Ytcpddgjmopdlbaa
open Go Go.Lift
set_option maxRecDepth 100000
set_option maxHeartbeats 4000000
set_option linter.unusedVariables false

theorem intagliolaw07_KeysIds_W {w0 w : World} {D R : Nat → Prop} {p0_0 : Int} {p0_1 : Int} {p0_2 : Int} {p0_3 : Int} {p0_4 : Int} {p0_5 : Int} {r0 : Bool} (hS : Own w0 D R w [] []) (hD : ∀ b, ¬ D b) (hM : intagliolaw07_KeysIds_M p0_0 p0_1 p0_2 p0_3 p0_4 p0_5 = some r0) :
    Calls Go.Proofs.Try.prog 3 #[.agg #[.int .i64 p0_0, .int .i64 p0_1, .int .i64 p0_2, .int .i64 p0_3, .int .i64 p0_4, .int .i64 p0_5]] w (fun e w' => e = .returned (.bool r0) ∧ Own w0 D R w' [] []) := by
  refine enter (fn := Go.Proofs.Try.f3) [.agg #[.int .i64 p0_0, .int .i64 p0_1, .int .i64 p0_2, .int .i64 p0_3, .int .i64 p0_4, .int .i64 p0_5], undef, undef, undef, undef, undef, undef, undef, undef, undef, undef, undef, undef, undef, undef, undef, undef, undef] (by kernel_rfl) rfl (by kernel_rfl) ?_
  unfold intagliolaw07_KeysIds_M at hM
  refine wp_seq ?_
  refine wp_reg ?_
  refine s_box (.tmp 0) 23 [.int .i64 p0_0, .int .i64 p0_1, .int .i64 p0_2, .int .i64 p0_3, .int .i64 p0_4, .int .i64 p0_5] (.agg #[.int .i64 p0_0, .int .i64 p0_1, .int .i64 p0_2, .int .i64 p0_3, .int .i64 p0_4, .int .i64 p0_5]) rfl (by kernel_rfl) rfl (by kernel_rfl) hS (fun b1 _ hS => ?_)
  refine segEnd [.agg #[.int .i64 p0_0, .int .i64 p0_1, .int .i64 p0_2, .int .i64 p0_3, .int .i64 p0_4, .int .i64 p0_5], .pointer (some ⟨b1, 0, none⟩), .bool false, undef, undef, undef, undef, undef, undef, undef, undef, undef, undef, undef, undef, undef, undef, undef] (by kernel_rfl) ?_
  refine then_normal ?_
  refine wp_seq ?_
  refine region_chain [(true, 0), (true, 2), (false, 1), (false, 3), (true, 4), (true, 5), (true, 6), (true, 8), (false, 7), (false, 9), (false, 10), (true, 11), (true, 12), (false, 13), (true, 14), (false, 15)] (fun w => Has [boxA b1 [.int .i64 p0_0, .int .i64 p0_1, .int .i64 p0_2, .int .i64 p0_3, .int .i64 p0_4, .int .i64 p0_5]] [] w) (by kernel_rfl) (by kernel_rfl) hS (fun _ hS => ?_)
  refine Walk.float [.agg #[.int .i64 p0_0, .int .i64 p0_1, .int .i64 p0_2, .int .i64 p0_3, .int .i64 p0_4, .int .i64 p0_5], .pointer (some ⟨b1, 0, none⟩), .bool false, .agg #[.int .i64 p0_0, .int .i64 p0_1, .int .i64 p0_2, .int .i64 p0_3, .int .i64 p0_4, .int .i64 p0_5], undef, undef, undef, undef, undef, undef, undef, undef, undef, undef, undef, undef, undef, undef] rfl (by kernel_rfl) (fun _ hS => ?_) ?_
  · replace hS : Has [boxA b1 [.int .i64 p0_0, .int .i64 p0_1, .int .i64 p0_2, .int .i64 p0_3, .int .i64 p0_4, .int .i64 p0_5]] [] _ := hS
    refine s_load_box (.tmp 1) 23 b1 0 6 [.int .i64 p0_0, .int .i64 p0_1, .int .i64 p0_2, .int .i64 p0_3, .int .i64 p0_4, .int .i64 p0_5] [.int .i64 p0_0, .int .i64 p0_1, .int .i64 p0_2, .int .i64 p0_3, .int .i64 p0_4, .int .i64 p0_5] (.agg #[.int .i64 p0_0, .int .i64 p0_1, .int .i64 p0_2, .int .i64 p0_3, .int .i64 p0_4, .int .i64 p0_5]) rfl (by kernel_rfl) (by kernel_rfl) (hS.box_mem (List.Mem.head _)) rfl rfl (Or.inl ⟨by kernel_rfl, by kernel_rfl, rfl⟩) ?_
    exact wl_nil ⟨rfl, by kernel_rfl, rfl⟩
  refine Walk.float [.agg #[.int .i64 p0_0, .int .i64 p0_1, .int .i64 p0_2, .int .i64 p0_3, .int .i64 p0_4, .int .i64 p0_5], .pointer (some ⟨b1, 0, none⟩), .bool false, .agg #[.int .i64 p0_0, .int .i64 p0_1, .int .i64 p0_2, .int .i64 p0_3, .int .i64 p0_4, .int .i64 p0_5], undef, .agg #[.int .i64 p0_0, .int .i64 p0_1, .int .i64 p0_2, .int .i64 p0_3, .int .i64 p0_4, .int .i64 p0_5], undef, undef, undef, undef, undef, undef, undef, undef, undef, undef, undef, undef] rfl (by kernel_rfl) (fun _ hS => ?_) ?_
  · replace hS : Has [boxA b1 [.int .i64 p0_0, .int .i64 p0_1, .int .i64 p0_2, .int .i64 p0_3, .int .i64 p0_4, .int .i64 p0_5]] [] _ := hS
    refine s_load_box (.tmp 1) 23 b1 0 6 [.int .i64 p0_0, .int .i64 p0_1, .int .i64 p0_2, .int .i64 p0_3, .int .i64 p0_4, .int .i64 p0_5] [.int .i64 p0_0, .int .i64 p0_1, .int .i64 p0_2, .int .i64 p0_3, .int .i64 p0_4, .int .i64 p0_5] (.agg #[.int .i64 p0_0, .int .i64 p0_1, .int .i64 p0_2, .int .i64 p0_3, .int .i64 p0_4, .int .i64 p0_5]) rfl (by kernel_rfl) (by kernel_rfl) (hS.box_mem (List.Mem.head _)) rfl rfl (Or.inl ⟨by kernel_rfl, by kernel_rfl, rfl⟩) ?_
    exact wl_nil ⟨rfl, by kernel_rfl, rfl⟩
  refine Walk.link (hS.has (forall2 (List.Mem.head _) forall0) forall0) rfl ?_
  replace hM := bind_some hM
  obtain ⟨v20, h21, hM⟩ := hM
  have hP := Own.pre (Xi := []) (X := [boxA b1 [.int .i64 p0_0, .int .i64 p0_1, .int .i64 p0_2, .int .i64 p0_3, .int .i64 p0_4, .int .i64 p0_5]]) (Si := []) hS forall0 forall0
  refine s_call 8 #[.agg #[.int .i64 p0_0, .int .i64 p0_1, .int .i64 p0_2, .int .i64 p0_3, .int .i64 p0_4, .int .i64 p0_5]] (by kernel_rfl) (by kernel_rfl) ((keys_Valid_W hP doms_nil h21).mono ?_)
  rintro _ _ ⟨rfl, hQ⟩
  replace hS : Own w0 D R _ [boxA b1 [.int .i64 p0_0, .int .i64 p0_1, .int .i64 p0_2, .int .i64 p0_3, .int .i64 p0_4, .int .i64 p0_5]] [] := hS.post hQ (.inl rfl)
  clear hP hQ
  refine ⟨_, rfl, ?_⟩
  refine Walk.after ?_
  refine Walk.link (hS.has (forall2 (List.Mem.head _) forall0) forall0) rfl ?_
  replace hM := bind_some hM
  obtain ⟨v22, h23, hM⟩ := hM
  have hP := Own.pre (Xi := []) (X := [boxA b1 [.int .i64 p0_0, .int .i64 p0_1, .int .i64 p0_2, .int .i64 p0_3, .int .i64 p0_4, .int .i64 p0_5]]) (Si := []) hS forall0 forall0
  refine s_call 9 #[.agg #[.int .i64 p0_0, .int .i64 p0_1, .int .i64 p0_2, .int .i64 p0_3, .int .i64 p0_4, .int .i64 p0_5]] (by kernel_rfl) (by kernel_rfl) ((intaglioref07_Valid_W hP doms_nil h23).mono ?_)
  rintro _ _ ⟨rfl, hQ⟩
  replace hS : Own w0 D R _ [boxA b1 [.int .i64 p0_0, .int .i64 p0_1, .int .i64 p0_2, .int .i64 p0_3, .int .i64 p0_4, .int .i64 p0_5]] [] := hS.post hQ (.inl rfl)
  clear hP hQ
  refine ⟨_, rfl, ?_⟩
  refine Walk.after ?_
  refine Walk.seg (by kernel_rfl) 2 _ [.agg #[.int .i64 p0_0, .int .i64 p0_1, .int .i64 p0_2, .int .i64 p0_3, .int .i64 p0_4, .int .i64 p0_5], .pointer (some ⟨b1, 0, none⟩), .bool false, .agg #[.int .i64 p0_0, .int .i64 p0_1, .int .i64 p0_2, .int .i64 p0_3, .int .i64 p0_4, .int .i64 p0_5], .bool v20, .agg #[.int .i64 p0_0, .int .i64 p0_1, .int .i64 p0_2, .int .i64 p0_3, .int .i64 p0_4, .int .i64 p0_5], .bool v22, .bool (v20 == v22), .bool (v20 == v22), undef, undef, undef, undef, undef, undef, undef, undef, undef] (by kernel_rfl) (hS.has (forall2 (List.Mem.head _) forall0) forall0) ?_
  show Walk _ _ _ _ [(true, 6), (true, 8), (false, 7), (false, 9), (false, 10), (true, 11), (true, 12), (false, 13), (true, 14), (false, 15)] _ _
  rcases Bool.eq_false_or_eq_true (v20 == v22) with hc24 | hc24
  · replace hM := (if_pos hc24).symm.trans hM
    rw [hc24]
    refine Walk.float [.agg #[.int .i64 p0_0, .int .i64 p0_1, .int .i64 p0_2, .int .i64 p0_3, .int .i64 p0_4, .int .i64 p0_5], .pointer (some ⟨b1, 0, none⟩), .bool false, .agg #[.int .i64 p0_0, .int .i64 p0_1, .int .i64 p0_2, .int .i64 p0_3, .int .i64 p0_4, .int .i64 p0_5], .bool v20, .agg #[.int .i64 p0_0, .int .i64 p0_1, .int .i64 p0_2, .int .i64 p0_3, .int .i64 p0_4, .int .i64 p0_5], .bool v22, .bool true, .bool true, .agg #[.int .i64 p0_0, .int .i64 p0_1, .int .i64 p0_2, .int .i64 p0_3, .int .i64 p0_4, .int .i64 p0_5], undef, undef, undef, undef, undef, undef, undef, undef] rfl (by kernel_rfl) (fun _ hS => ?_) ?_
    · replace hS : Has [boxA b1 [.int .i64 p0_0, .int .i64 p0_1, .int .i64 p0_2, .int .i64 p0_3, .int .i64 p0_4, .int .i64 p0_5]] [] _ := hS
      refine s_load_box (.tmp 1) 23 b1 0 6 [.int .i64 p0_0, .int .i64 p0_1, .int .i64 p0_2, .int .i64 p0_3, .int .i64 p0_4, .int .i64 p0_5] [.int .i64 p0_0, .int .i64 p0_1, .int .i64 p0_2, .int .i64 p0_3, .int .i64 p0_4, .int .i64 p0_5] (.agg #[.int .i64 p0_0, .int .i64 p0_1, .int .i64 p0_2, .int .i64 p0_3, .int .i64 p0_4, .int .i64 p0_5]) rfl (by kernel_rfl) (by kernel_rfl) (hS.box_mem (List.Mem.head _)) rfl rfl (Or.inl ⟨by kernel_rfl, by kernel_rfl, rfl⟩) ?_
      exact wl_nil ⟨rfl, by kernel_rfl, rfl⟩
    refine Walk.float [.agg #[.int .i64 p0_0, .int .i64 p0_1, .int .i64 p0_2, .int .i64 p0_3, .int .i64 p0_4, .int .i64 p0_5], .pointer (some ⟨b1, 0, none⟩), .bool false, .agg #[.int .i64 p0_0, .int .i64 p0_1, .int .i64 p0_2, .int .i64 p0_3, .int .i64 p0_4, .int .i64 p0_5], .bool v20, .agg #[.int .i64 p0_0, .int .i64 p0_1, .int .i64 p0_2, .int .i64 p0_3, .int .i64 p0_4, .int .i64 p0_5], .bool v22, .bool true, .bool true, .agg #[.int .i64 p0_0, .int .i64 p0_1, .int .i64 p0_2, .int .i64 p0_3, .int .i64 p0_4, .int .i64 p0_5], undef, .agg #[.int .i64 p0_0, .int .i64 p0_1, .int .i64 p0_2, .int .i64 p0_3, .int .i64 p0_4, .int .i64 p0_5], undef, undef, undef, undef, undef, undef] rfl (by kernel_rfl) (fun _ hS => ?_) ?_
    · replace hS : Has [boxA b1 [.int .i64 p0_0, .int .i64 p0_1, .int .i64 p0_2, .int .i64 p0_3, .int .i64 p0_4, .int .i64 p0_5]] [] _ := hS
      refine s_load_box (.tmp 1) 23 b1 0 6 [.int .i64 p0_0, .int .i64 p0_1, .int .i64 p0_2, .int .i64 p0_3, .int .i64 p0_4, .int .i64 p0_5] [.int .i64 p0_0, .int .i64 p0_1, .int .i64 p0_2, .int .i64 p0_3, .int .i64 p0_4, .int .i64 p0_5] (.agg #[.int .i64 p0_0, .int .i64 p0_1, .int .i64 p0_2, .int .i64 p0_3, .int .i64 p0_4, .int .i64 p0_5]) rfl (by kernel_rfl) (by kernel_rfl) (hS.box_mem (List.Mem.head _)) rfl rfl (Or.inl ⟨by kernel_rfl, by kernel_rfl, rfl⟩) ?_
      exact wl_nil ⟨rfl, by kernel_rfl, rfl⟩
    refine Walk.link (hS.has (forall2 (List.Mem.head _) forall0) forall0) rfl ?_
    replace hM := bind_some hM
    obtain ⟨v25, h28, hM⟩ := hM
    have hP := Own.pre (Xi := []) (X := [boxA b1 [.int .i64 p0_0, .int .i64 p0_1, .int .i64 p0_2, .int .i64 p0_3, .int .i64 p0_4, .int .i64 p0_5]]) (Si := []) hS forall0 forall0
    refine s_call 11 #[.agg #[.int .i64 p0_0, .int .i64 p0_1, .int .i64 p0_2, .int .i64 p0_3, .int .i64 p0_4, .int .i64 p0_5]] (by kernel_rfl) (by kernel_rfl) ((keys_Bytes_W hP doms_nil h28).mono ?_)
    rintro _ _ ⟨A26, c27, rfl, hQ⟩
    replace hS : Own w0 D R _ [rowA (Enc.int .u8) A26 c27 v25, boxA b1 [.int .i64 p0_0, .int .i64 p0_1, .int .i64 p0_2, .int .i64 p0_3, .int .i64 p0_4, .int .i64 p0_5]] [] := hS.post hQ (.inl rfl)
    clear hP hQ
    refine ⟨_, rfl, ?_⟩
    refine Walk.after ?_
    refine Walk.link (hS.has (forall2 (List.Mem.tail _ (List.Mem.head _)) forall0) forall0) rfl ?_
    replace hM := bind_some hM
    obtain ⟨v29, h32, hM⟩ := hM
    have hP := Own.pre (Xi := []) (X := [rowA (Enc.int .u8) A26 c27 v25, boxA b1 [.int .i64 p0_0, .int .i64 p0_1, .int .i64 p0_2, .int .i64 p0_3, .int .i64 p0_4, .int .i64 p0_5]]) (Si := []) hS forall0 forall0
    refine s_call 12 #[.agg #[.int .i64 p0_0, .int .i64 p0_1, .int .i64 p0_2, .int .i64 p0_3, .int .i64 p0_4, .int .i64 p0_5]] (by kernel_rfl) (by kernel_rfl) ((intaglioref07_Bytes_W hP doms_nil h32).mono ?_)
    rintro _ _ ⟨A30, c31, rfl, hQ⟩
    replace hS : Own w0 D R _ [rowA (Enc.int .u8) A30 c31 v29, rowA (Enc.int .u8) A26 c27 v25, boxA b1 [.int .i64 p0_0, .int .i64 p0_1, .int .i64 p0_2, .int .i64 p0_3, .int .i64 p0_4, .int .i64 p0_5]] [] := hS.post hQ (.inl rfl)
    clear hP hQ
    refine ⟨_, rfl, ?_⟩
    refine Walk.after ?_
    refine Walk.link (hS.has (forall2 (List.Mem.tail _ (List.Mem.tail _ (List.Mem.head _))) forall0) forall0) rfl ?_
    replace hM := bind_some hM
    obtain ⟨v33, h34, hM⟩ := hM
    have hP := Own.pre (Xi := []) (X := [rowA (Enc.int .u8) A30 c31 v29, rowA (Enc.int .u8) A26 c27 v25, boxA b1 [.int .i64 p0_0, .int .i64 p0_1, .int .i64 p0_2, .int .i64 p0_3, .int .i64 p0_4, .int .i64 p0_5]]) (Si := [slA (blkOf A26) (Enc.int .u8) A26 c27 v25, slA (blkOf A30) (Enc.int .u8) A30 c31 v29]) hS (forall2 (sl_of_row (hS.row_mem (List.Mem.tail _ (List.Mem.head _)))) (forall2 (sl_of_row (hS.row_mem (List.Mem.head _))) forall0)) (forall2 (fun _ h => .inr ⟨_, (List.Mem.tail _ (List.Mem.head _)), h⟩) (forall2 (fun _ h => .inr ⟨_, (List.Mem.head _), h⟩) forall0))
    refine s_call 10 #[.slice A26 v25.length c27, .slice A30 v29.length c31] (by kernel_rfl) (by kernel_rfl) ((bytes_Equal_W hP doms_nil h34).mono ?_)
    rintro _ _ ⟨rfl, hQ⟩
    replace hS : Own w0 D R _ [rowA (Enc.int .u8) A30 c31 v29, rowA (Enc.int .u8) A26 c27 v25, boxA b1 [.int .i64 p0_0, .int .i64 p0_1, .int .i64 p0_2, .int .i64 p0_3, .int .i64 p0_4, .int .i64 p0_5]] [] := hS.post hQ (.inl rfl)
    clear hP hQ
    refine ⟨_, rfl, ?_⟩
    refine Walk.after ?_
    refine Walk.seg (by kernel_rfl) 2 _ [.agg #[.int .i64 p0_0, .int .i64 p0_1, .int .i64 p0_2, .int .i64 p0_3, .int .i64 p0_4, .int .i64 p0_5], .pointer (some ⟨b1, 0, none⟩), .bool false, .agg #[.int .i64 p0_0, .int .i64 p0_1, .int .i64 p0_2, .int .i64 p0_3, .int .i64 p0_4, .int .i64 p0_5], .bool v20, .agg #[.int .i64 p0_0, .int .i64 p0_1, .int .i64 p0_2, .int .i64 p0_3, .int .i64 p0_4, .int .i64 p0_5], .bool v22, .bool true, .bool true, .agg #[.int .i64 p0_0, .int .i64 p0_1, .int .i64 p0_2, .int .i64 p0_3, .int .i64 p0_4, .int .i64 p0_5], .slice A26 v25.length c27, .agg #[.int .i64 p0_0, .int .i64 p0_1, .int .i64 p0_2, .int .i64 p0_3, .int .i64 p0_4, .int .i64 p0_5], .slice A30 v29.length c31, .bool v33, .bool v33, .bool v33, undef, undef] (by kernel_rfl) (hS.has (forall2 (List.Mem.tail _ (List.Mem.tail _ (List.Mem.head _))) forall0) forall0) ?_
    show Walk _ _ _ _ [(false, 13), (true, 14), (false, 15)] _ _
    rcases Bool.eq_false_or_eq_true v33 with hc35 | hc35
    · replace hM := (if_pos hc35).symm.trans hM
      rw [hc35]
      refine Walk.link (hS.has (forall2 (List.Mem.tail _ (List.Mem.tail _ (List.Mem.head _))) forall0) forall0) rfl ?_
      replace hM := bind_some hM
      obtain ⟨v36, h37, hM⟩ := hM
      have hP := Own.pre (Xi := []) (X := [rowA (Enc.int .u8) A30 c31 v29, rowA (Enc.int .u8) A26 c27 v25, boxA b1 [.int .i64 p0_0, .int .i64 p0_1, .int .i64 p0_2, .int .i64 p0_3, .int .i64 p0_4, .int .i64 p0_5]]) (Si := []) hS forall0 forall0
      refine s_call 13 #[] (by kernel_rfl) (by kernel_rfl) ((intagliolaw07_awake_W hP doms_nil h37).mono ?_)
      rintro _ _ ⟨rfl, hQ⟩
      replace hS : Own w0 D R _ [rowA (Enc.int .u8) A30 c31 v29, rowA (Enc.int .u8) A26 c27 v25, boxA b1 [.int .i64 p0_0, .int .i64 p0_1, .int .i64 p0_2, .int .i64 p0_3, .int .i64 p0_4, .int .i64 p0_5]] [] := hS.post hQ (.inl rfl)
      clear hP hQ
      refine ⟨_, rfl, ?_⟩
      refine Walk.after ?_
      refine Walk.seg (by kernel_rfl) 2 _ [.agg #[.int .i64 p0_0, .int .i64 p0_1, .int .i64 p0_2, .int .i64 p0_3, .int .i64 p0_4, .int .i64 p0_5], .pointer (some ⟨b1, 0, none⟩), .bool v36, .agg #[.int .i64 p0_0, .int .i64 p0_1, .int .i64 p0_2, .int .i64 p0_3, .int .i64 p0_4, .int .i64 p0_5], .bool v20, .agg #[.int .i64 p0_0, .int .i64 p0_1, .int .i64 p0_2, .int .i64 p0_3, .int .i64 p0_4, .int .i64 p0_5], .bool v22, .bool true, .bool true, .agg #[.int .i64 p0_0, .int .i64 p0_1, .int .i64 p0_2, .int .i64 p0_3, .int .i64 p0_4, .int .i64 p0_5], .slice A26 v25.length c27, .agg #[.int .i64 p0_0, .int .i64 p0_1, .int .i64 p0_2, .int .i64 p0_3, .int .i64 p0_4, .int .i64 p0_5], .slice A30 v29.length c31, .bool true, .bool true, .bool true, .bool v36, .bool v36] (by kernel_rfl) (hS.has (forall2 (List.Mem.tail _ (List.Mem.tail _ (List.Mem.head _))) forall0) forall0) ?_
      show Walk _ _ _ _ [] _ _
      refine Walk.done (hS.has (forall2 (List.Mem.tail _ (List.Mem.tail _ (List.Mem.head _))) forall0) forall0) ?_
      refine then_normal ?_
      refine wp_ret ?_
      replace hS : Own w0 D R _ [] [] := hS.takeX 0
      replace hS : Own w0 D R _ [] [] := hS.dropS forall0
      obtain rfl := Option.some.inj hM
      refine ret_v (.bool v36) (by kernel_rfl) ⟨rfl, hS⟩
    · replace hM := (if_neg (Bool.eq_false_iff.1 hc35)).symm.trans hM
      rw [hc35]
      refine Walk.seg (by kernel_rfl) 3 _ [.agg #[.int .i64 p0_0, .int .i64 p0_1, .int .i64 p0_2, .int .i64 p0_3, .int .i64 p0_4, .int .i64 p0_5], .pointer (some ⟨b1, 0, none⟩), .bool false, .agg #[.int .i64 p0_0, .int .i64 p0_1, .int .i64 p0_2, .int .i64 p0_3, .int .i64 p0_4, .int .i64 p0_5], .bool v20, .agg #[.int .i64 p0_0, .int .i64 p0_1, .int .i64 p0_2, .int .i64 p0_3, .int .i64 p0_4, .int .i64 p0_5], .bool v22, .bool true, .bool true, .agg #[.int .i64 p0_0, .int .i64 p0_1, .int .i64 p0_2, .int .i64 p0_3, .int .i64 p0_4, .int .i64 p0_5], .slice A26 v25.length c27, .agg #[.int .i64 p0_0, .int .i64 p0_1, .int .i64 p0_2, .int .i64 p0_3, .int .i64 p0_4, .int .i64 p0_5], .slice A30 v29.length c31, .bool false, .bool false, .bool false, undef, .bool false] (by kernel_rfl) (hS.has (forall2 (List.Mem.tail _ (List.Mem.tail _ (List.Mem.head _))) forall0) forall0) ?_
      show Walk _ _ _ _ [] _ _
      refine Walk.done (hS.has (forall2 (List.Mem.tail _ (List.Mem.tail _ (List.Mem.head _))) forall0) forall0) ?_
      refine then_normal ?_
      refine wp_ret ?_
      replace hS : Own w0 D R _ [] [] := hS.takeX 0
      replace hS : Own w0 D R _ [] [] := hS.dropS forall0
      obtain rfl := Option.some.inj hM
      refine ret_v (.bool false) (by kernel_rfl) ⟨rfl, hS⟩
  · replace hM := (if_neg (Bool.eq_false_iff.1 hc24)).symm.trans hM
    rw [hc24]
    refine Walk.seg (by kernel_rfl) 10 _ [.agg #[.int .i64 p0_0, .int .i64 p0_1, .int .i64 p0_2, .int .i64 p0_3, .int .i64 p0_4, .int .i64 p0_5], .pointer (some ⟨b1, 0, none⟩), .bool false, .agg #[.int .i64 p0_0, .int .i64 p0_1, .int .i64 p0_2, .int .i64 p0_3, .int .i64 p0_4, .int .i64 p0_5], .bool v20, .agg #[.int .i64 p0_0, .int .i64 p0_1, .int .i64 p0_2, .int .i64 p0_3, .int .i64 p0_4, .int .i64 p0_5], .bool v22, .bool false, .bool false, undef, undef, undef, undef, undef, .bool false, .bool false, undef, .bool false] (by kernel_rfl) (hS.has (forall2 (List.Mem.head _) forall0) forall0) ?_
    show Walk _ _ _ _ [] _ _
    refine Walk.done (hS.has (forall2 (List.Mem.head _) forall0) forall0) ?_
    refine then_normal ?_
    refine wp_ret ?_
    replace hS : Own w0 D R _ [] [] := hS.takeX 0
    replace hS : Own w0 D R _ [] [] := hS.dropS forall0
    obtain rfl := Option.some.inj hM
    refine ret_v (.bool false) (by kernel_rfl) ⟨rfl, hS⟩

end Go.Proofs.Ytcpddgjmopdlbaa
