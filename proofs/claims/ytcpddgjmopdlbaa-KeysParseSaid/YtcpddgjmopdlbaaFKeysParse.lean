/- The Go functions come to what their models say (KeysParse). -/
import Derived.Test.YtcpddgjmopdlbaaTy
import Derived.Test.YtcpddgjmopdlbaaMKeysParse
import Derived.Test.YtcpddgjmopdlbaaFAwake
import Derived.Test.YtcpddgjmopdlbaaFParse
import Derived.Test.YtcpddgjmopdlbaaFRParse
namespace Go.Proofs.Ytcpddgjmopdlbaa
open Go Go.Lift
set_option maxRecDepth 100000
set_option maxHeartbeats 4000000
set_option linter.unusedVariables false

theorem intagliolaw07_KeysParse_W {w0 w : World} {D R : Nat → Prop} {Rp0 : Nat → Prop} {Ap0 : Option Addr} {cp0 : Nat} {p0 : List Int} {r0 : Bool} (hS : Own w0 D R w [] [slA Rp0 (Enc.int .u8) Ap0 cp0 p0]) (hD : ∀ b, ¬ D b) (hM : intagliolaw07_KeysParse_M p0 = some r0) :
    Calls Go.Proofs.Try.prog 6 #[.slice Ap0 p0.length cp0] w (fun e w' => e = .returned (.bool r0) ∧ Own w0 D R w' [] []) := by
  refine enter (fn := Go.Proofs.Try.f6) [.slice Ap0 p0.length cp0, undef, undef, undef, undef, undef, undef, undef, undef, undef, undef, undef, undef, undef, undef, undef, undef, undef, undef, undef, undef, undef, undef, undef, undef, undef, undef, undef, undef, undef, undef, undef] (by kernel_rfl) rfl (by kernel_rfl) ?_
  unfold intagliolaw07_KeysParse_M at hM
  refine wp_seq ?_
  refine wp_reg ?_
  refine segEnd [.slice Ap0 p0.length cp0, undef, .bool false, undef, undef, undef, undef, undef, undef, undef, undef, undef, undef, undef, undef, undef, undef, undef, undef, undef, undef, undef, undef, undef, undef, undef, undef, undef, undef, undef, undef, undef] (by kernel_rfl) ?_
  refine then_normal ?_
  refine wp_seq ?_
  refine wp_seq ?_
  refine wp_reg ?_
  refine segEnd [.slice Ap0 p0.length cp0, undef, .bool false, undef, undef, undef, undef, .slice Ap0 p0.length cp0, .int .i64 (p0.length : Int), .bool (decide ((p0.length : Int) > 200)), undef, undef, undef, undef, undef, undef, undef, undef, undef, undef, undef, undef, undef, undef, undef, undef, undef, undef, undef, undef, undef, undef] (by kernel_rfl) ?_
  refine then_normal ?_
  refine wp_cond_split (t := decide ((p0.length : Int) > 200)) (by kernel_rfl) (fun hc1 => ?_) (fun hc1 => ?_)
  · replace hM := (if_pos hc1).symm.trans hM
    refine wp_seq ?_
    refine wp_reg ?_
    replace hM := bind_some hM
    obtain ⟨v2, h3, hM⟩ := hM
    have hP := Own.pre (Xi := []) (X := []) (Si := []) hS forall0 forall0
    refine s_call 13 #[] (by kernel_rfl) (by kernel_rfl) ((intagliolaw07_awake_W hP doms_nil h3).mono ?_)
    rintro _ _ ⟨rfl, hQ⟩
    replace hS : Own w0 D R _ [] [slA Rp0 (Enc.int .u8) Ap0 cp0 p0] := hS.post hQ (.inl rfl)
    clear hP hQ
    refine ⟨_, rfl, ?_⟩
    refine segEnd [.slice Ap0 p0.length cp0, undef, .bool v2, undef, undef, undef, undef, .slice Ap0 p0.length cp0, .int .i64 (p0.length : Int), .bool (decide ((p0.length : Int) > 200)), .bool v2, undef, undef, undef, undef, undef, undef, undef, undef, undef, undef, undef, undef, undef, undef, undef, undef, undef, undef, undef, undef, undef] (by kernel_rfl) ?_
    refine then_normal ?_
    refine wp_ret ?_
    refine then_ret ?_
    replace hS : Own w0 D R _ [] [] := hS.dropS forall0
    obtain rfl := Option.some.inj hM
    refine ret_v (.bool v2) (by kernel_rfl) ⟨rfl, hS⟩
  · replace hM := (if_neg (Bool.eq_false_iff.1 hc1)).symm.trans hM
    refine wp_skip ?_
    refine then_normal ?_
    refine wp_seq ?_
    refine wp_reg ?_
    refine seg 1 [.slice Ap0 p0.length cp0, undef, .bool false, undef, undef, undef, undef, .slice Ap0 p0.length cp0, .int .i64 (p0.length : Int), .bool (decide ((p0.length : Int) > 200)), undef, undef, .slice Ap0 p0.length cp0, undef, undef, undef, undef, undef, undef, undef, undef, undef, undef, undef, undef, undef, undef, undef, undef, undef, undef, undef] (by kernel_rfl) ?_
    replace hM := bind_some hM
    obtain ⟨⟨v4, v5, v6, v7, v8, v9, v10⟩, h11, hM⟩ := hM
    have hP := Own.pre (Xi := []) (X := []) (Si := [slA Rp0 (Enc.int .u8) Ap0 cp0 p0]) hS (forall2 (hS.sl_mem (List.Mem.head _)) forall0) (forall2 (fun _ h => .inl ⟨_, (List.Mem.head _), h⟩) forall0)
    refine s_call 17 #[.slice Ap0 p0.length cp0] (by kernel_rfl) (by kernel_rfl) ((keys_Parse_W hP doms_nil h11).mono ?_)
    rintro _ _ ⟨rfl, hQ⟩
    replace hS : Own w0 D R _ [] [slA Rp0 (Enc.int .u8) Ap0 cp0 p0] := hS.post hQ (.inl rfl)
    clear hP hQ
    refine ⟨_, rfl, ?_⟩
    refine seg 3 [.slice Ap0 p0.length cp0, undef, .bool false, undef, undef, undef, undef, .slice Ap0 p0.length cp0, .int .i64 (p0.length : Int), .bool (decide ((p0.length : Int) > 200)), undef, .tuple #[.agg #[.int .i64 v4, .int .i64 v5, .int .i64 v6, .int .i64 v7, .int .i64 v8, .int .i64 v9], .bool v10], .slice Ap0 p0.length cp0, .tuple #[.agg #[.int .i64 v4, .int .i64 v5, .int .i64 v6, .int .i64 v7, .int .i64 v8, .int .i64 v9], .bool v10], .agg #[.int .i64 v4, .int .i64 v5, .int .i64 v6, .int .i64 v7, .int .i64 v8, .int .i64 v9], .bool v10, undef, undef, undef, undef, undef, undef, undef, undef, undef, undef, undef, undef, undef, undef, undef, undef] (by kernel_rfl) ?_
    refine s_alloc 23 [.int .i64 0, .int .i64 0, .int .i64 0, .int .i64 0, .int .i64 0, .int .i64 0] rfl ⟨.agg #[.int .i64 0, .int .i64 0, .int .i64 0, .int .i64 0, .int .i64 0, .int .i64 0], by kernel_rfl, rfl⟩ (by kernel_rfl) hS (fun b12 _ hS => ?_)
    refine s_store_box (.tmp 3) (.tmp 14) 23 b12 0 [.int .i64 0, .int .i64 0, .int .i64 0, .int .i64 0, .int .i64 0, .int .i64 0] [.int .i64 v4, .int .i64 v5, .int .i64 v6, .int .i64 v7, .int .i64 v8, .int .i64 v9] [.int .i64 v4, .int .i64 v5, .int .i64 v6, .int .i64 v7, .int .i64 v8, .int .i64 v9] (.agg #[.int .i64 v4, .int .i64 v5, .int .i64 v6, .int .i64 v7, .int .i64 v8, .int .i64 v9]) rfl (by kernel_rfl) (by kernel_rfl) (by kernel_rfl) rfl (by kernel_rfl) (forall2 rfl (forall2 rfl (forall2 rfl (forall2 rfl (forall2 rfl (forall2 rfl forall0)))))) (Nat.le_of_ble_eq_true (by kernel_rfl)) rfl hS (fun _ hS => ?_)
    refine segEnd [.slice Ap0 p0.length cp0, undef, .bool false, .pointer (some ⟨b12, 0, none⟩), .bool v10, undef, undef, .slice Ap0 p0.length cp0, .int .i64 (p0.length : Int), .bool (decide ((p0.length : Int) > 200)), undef, .tuple #[.agg #[.int .i64 v4, .int .i64 v5, .int .i64 v6, .int .i64 v7, .int .i64 v8, .int .i64 v9], .bool v10], .slice Ap0 p0.length cp0, .tuple #[.agg #[.int .i64 v4, .int .i64 v5, .int .i64 v6, .int .i64 v7, .int .i64 v8, .int .i64 v9], .bool v10], .agg #[.int .i64 v4, .int .i64 v5, .int .i64 v6, .int .i64 v7, .int .i64 v8, .int .i64 v9], .bool v10, undef, undef, undef, undef, undef, undef, undef, undef, undef, undef, undef, undef, undef, undef, undef, undef] (by kernel_rfl) ?_
    refine then_normal ?_
    refine wp_seq ?_
    refine wp_reg ?_
    refine seg 1 [.slice Ap0 p0.length cp0, undef, .bool false, .pointer (some ⟨b12, 0, none⟩), .bool v10, undef, undef, .slice Ap0 p0.length cp0, .int .i64 (p0.length : Int), .bool (decide ((p0.length : Int) > 200)), undef, .tuple #[.agg #[.int .i64 v4, .int .i64 v5, .int .i64 v6, .int .i64 v7, .int .i64 v8, .int .i64 v9], .bool v10], .slice Ap0 p0.length cp0, .tuple #[.agg #[.int .i64 v4, .int .i64 v5, .int .i64 v6, .int .i64 v7, .int .i64 v8, .int .i64 v9], .bool v10], .agg #[.int .i64 v4, .int .i64 v5, .int .i64 v6, .int .i64 v7, .int .i64 v8, .int .i64 v9], .bool v10, undef, .slice Ap0 p0.length cp0, undef, undef, undef, undef, undef, undef, undef, undef, undef, undef, undef, undef, undef, undef] (by kernel_rfl) ?_
    replace hM := bind_some hM
    obtain ⟨⟨v13, v14, v15, v16, v17, v18, v19⟩, h20, hM⟩ := hM
    have hP := Own.pre (Xi := []) (X := [boxA b12 [.int .i64 v4, .int .i64 v5, .int .i64 v6, .int .i64 v7, .int .i64 v8, .int .i64 v9]]) (Si := [slA Rp0 (Enc.int .u8) Ap0 cp0 p0]) hS (forall2 (hS.sl_mem (List.Mem.head _)) forall0) (forall2 (fun _ h => .inl ⟨_, (List.Mem.head _), h⟩) forall0)
    refine s_call 18 #[.slice Ap0 p0.length cp0] (by kernel_rfl) (by kernel_rfl) ((intaglioref07_Parse_W hP doms_nil h20).mono ?_)
    rintro _ _ ⟨rfl, hQ⟩
    replace hS : Own w0 D R _ [boxA b12 [.int .i64 v4, .int .i64 v5, .int .i64 v6, .int .i64 v7, .int .i64 v8, .int .i64 v9]] [slA Rp0 (Enc.int .u8) Ap0 cp0 p0] := hS.post hQ (.inl rfl)
    clear hP hQ
    refine ⟨_, rfl, ?_⟩
    refine seg 3 [.slice Ap0 p0.length cp0, undef, .bool false, .pointer (some ⟨b12, 0, none⟩), .bool v10, undef, undef, .slice Ap0 p0.length cp0, .int .i64 (p0.length : Int), .bool (decide ((p0.length : Int) > 200)), undef, .tuple #[.agg #[.int .i64 v4, .int .i64 v5, .int .i64 v6, .int .i64 v7, .int .i64 v8, .int .i64 v9], .bool v10], .slice Ap0 p0.length cp0, .tuple #[.agg #[.int .i64 v4, .int .i64 v5, .int .i64 v6, .int .i64 v7, .int .i64 v8, .int .i64 v9], .bool v10], .agg #[.int .i64 v4, .int .i64 v5, .int .i64 v6, .int .i64 v7, .int .i64 v8, .int .i64 v9], .bool v10, .tuple #[.agg #[.int .i64 v13, .int .i64 v14, .int .i64 v15, .int .i64 v16, .int .i64 v17, .int .i64 v18], .bool v19], .slice Ap0 p0.length cp0, .tuple #[.agg #[.int .i64 v13, .int .i64 v14, .int .i64 v15, .int .i64 v16, .int .i64 v17, .int .i64 v18], .bool v19], .agg #[.int .i64 v13, .int .i64 v14, .int .i64 v15, .int .i64 v16, .int .i64 v17, .int .i64 v18], .bool v19, undef, undef, undef, undef, undef, undef, undef, undef, undef, undef, undef] (by kernel_rfl) ?_
    refine s_alloc 23 [.int .i64 0, .int .i64 0, .int .i64 0, .int .i64 0, .int .i64 0, .int .i64 0] rfl ⟨.agg #[.int .i64 0, .int .i64 0, .int .i64 0, .int .i64 0, .int .i64 0, .int .i64 0], by kernel_rfl, rfl⟩ (by kernel_rfl) hS (fun b21 _ hS => ?_)
    refine s_store_box (.tmp 5) (.tmp 19) 23 b21 0 [.int .i64 0, .int .i64 0, .int .i64 0, .int .i64 0, .int .i64 0, .int .i64 0] [.int .i64 v13, .int .i64 v14, .int .i64 v15, .int .i64 v16, .int .i64 v17, .int .i64 v18] [.int .i64 v13, .int .i64 v14, .int .i64 v15, .int .i64 v16, .int .i64 v17, .int .i64 v18] (.agg #[.int .i64 v13, .int .i64 v14, .int .i64 v15, .int .i64 v16, .int .i64 v17, .int .i64 v18]) rfl (by kernel_rfl) (by kernel_rfl) (by kernel_rfl) rfl (by kernel_rfl) (forall2 rfl (forall2 rfl (forall2 rfl (forall2 rfl (forall2 rfl (forall2 rfl forall0)))))) (Nat.le_of_ble_eq_true (by kernel_rfl)) rfl hS (fun _ hS => ?_)
    refine segEnd [.slice Ap0 p0.length cp0, undef, .bool false, .pointer (some ⟨b12, 0, none⟩), .bool v10, .pointer (some ⟨b21, 0, none⟩), .bool v19, .slice Ap0 p0.length cp0, .int .i64 (p0.length : Int), .bool (decide ((p0.length : Int) > 200)), undef, .tuple #[.agg #[.int .i64 v4, .int .i64 v5, .int .i64 v6, .int .i64 v7, .int .i64 v8, .int .i64 v9], .bool v10], .slice Ap0 p0.length cp0, .tuple #[.agg #[.int .i64 v4, .int .i64 v5, .int .i64 v6, .int .i64 v7, .int .i64 v8, .int .i64 v9], .bool v10], .agg #[.int .i64 v4, .int .i64 v5, .int .i64 v6, .int .i64 v7, .int .i64 v8, .int .i64 v9], .bool v10, .tuple #[.agg #[.int .i64 v13, .int .i64 v14, .int .i64 v15, .int .i64 v16, .int .i64 v17, .int .i64 v18], .bool v19], .slice Ap0 p0.length cp0, .tuple #[.agg #[.int .i64 v13, .int .i64 v14, .int .i64 v15, .int .i64 v16, .int .i64 v17, .int .i64 v18], .bool v19], .agg #[.int .i64 v13, .int .i64 v14, .int .i64 v15, .int .i64 v16, .int .i64 v17, .int .i64 v18], .bool v19, undef, undef, undef, undef, undef, undef, undef, undef, undef, undef, undef] (by kernel_rfl) ?_
    refine then_normal ?_
    refine wp_seq ?_
    refine wp_reg ?_
    refine s_load_box (.tmp 3) 23 b12 0 6 [.int .i64 v4, .int .i64 v5, .int .i64 v6, .int .i64 v7, .int .i64 v8, .int .i64 v9] [.int .i64 v4, .int .i64 v5, .int .i64 v6, .int .i64 v7, .int .i64 v8, .int .i64 v9] (.agg #[.int .i64 v4, .int .i64 v5, .int .i64 v6, .int .i64 v7, .int .i64 v8, .int .i64 v9]) rfl (by kernel_rfl) (by kernel_rfl) (hS.box_mem (List.Mem.tail _ (List.Mem.head _))) rfl rfl (Or.inl ⟨by kernel_rfl, by kernel_rfl, rfl⟩) ?_
    refine s_load_box (.tmp 5) 23 b21 0 6 [.int .i64 v13, .int .i64 v14, .int .i64 v15, .int .i64 v16, .int .i64 v17, .int .i64 v18] [.int .i64 v13, .int .i64 v14, .int .i64 v15, .int .i64 v16, .int .i64 v17, .int .i64 v18] (.agg #[.int .i64 v13, .int .i64 v14, .int .i64 v15, .int .i64 v16, .int .i64 v17, .int .i64 v18]) rfl (by kernel_rfl) (by kernel_rfl) (hS.box_mem (List.Mem.head _)) rfl rfl (Or.inl ⟨by kernel_rfl, by kernel_rfl, rfl⟩) ?_
    refine s_eql_rec (xs := #[.int .i64 v4, .int .i64 v5, .int .i64 v6, .int .i64 v7, .int .i64 v8, .int .i64 v9]) (ys := #[.int .i64 v13, .int .i64 v14, .int .i64 v15, .int .i64 v16, .int .i64 v17, .int .i64 v18]) (.tmp 21) (.tmp 22) 23 23 ((v4 == v13) && ((v5 == v14) && ((v6 == v15) && ((v7 == v16) && ((v8 == v17) && ((v9 == v18) && true)))))) rfl (by kernel_rfl) (by kernel_rfl) (by kernel_rfl) (by kernel_rfl) (by kernel_rfl) (by kernel_rfl) (by kernel_rfl) ?_
    refine seg 1 [.slice Ap0 p0.length cp0, undef, .bool false, .pointer (some ⟨b12, 0, none⟩), .bool v10, .pointer (some ⟨b21, 0, none⟩), .bool v19, .slice Ap0 p0.length cp0, .int .i64 (p0.length : Int), .bool (decide ((p0.length : Int) > 200)), undef, .tuple #[.agg #[.int .i64 v4, .int .i64 v5, .int .i64 v6, .int .i64 v7, .int .i64 v8, .int .i64 v9], .bool v10], .slice Ap0 p0.length cp0, .tuple #[.agg #[.int .i64 v4, .int .i64 v5, .int .i64 v6, .int .i64 v7, .int .i64 v8, .int .i64 v9], .bool v10], .agg #[.int .i64 v4, .int .i64 v5, .int .i64 v6, .int .i64 v7, .int .i64 v8, .int .i64 v9], .bool v10, .tuple #[.agg #[.int .i64 v13, .int .i64 v14, .int .i64 v15, .int .i64 v16, .int .i64 v17, .int .i64 v18], .bool v19], .slice Ap0 p0.length cp0, .tuple #[.agg #[.int .i64 v13, .int .i64 v14, .int .i64 v15, .int .i64 v16, .int .i64 v17, .int .i64 v18], .bool v19], .agg #[.int .i64 v13, .int .i64 v14, .int .i64 v15, .int .i64 v16, .int .i64 v17, .int .i64 v18], .bool v19, .agg #[.int .i64 v4, .int .i64 v5, .int .i64 v6, .int .i64 v7, .int .i64 v8, .int .i64 v9], .agg #[.int .i64 v13, .int .i64 v14, .int .i64 v15, .int .i64 v16, .int .i64 v17, .int .i64 v18], .bool ((v4 == v13) && ((v5 == v14) && ((v6 == v15) && ((v7 == v16) && ((v8 == v17) && ((v9 == v18) && true)))))), .bool ((v4 == v13) && ((v5 == v14) && ((v6 == v15) && ((v7 == v16) && ((v8 == v17) && ((v9 == v18) && true)))))), undef, undef, undef, undef, undef, undef, undef] (by kernel_rfl) ?_
    rcases Bool.eq_false_or_eq_true ((v4 == v13) && ((v5 == v14) && ((v6 == v15) && ((v7 == v16) && ((v8 == v17) && ((v9 == v18) && true)))))) with hc22 | hc22
    · replace hM := (if_pos hc22).symm.trans hM
      rw [hc22]
      refine seg 5 [.slice Ap0 p0.length cp0, undef, .bool false, .pointer (some ⟨b12, 0, none⟩), .bool v10, .pointer (some ⟨b21, 0, none⟩), .bool v19, .slice Ap0 p0.length cp0, .int .i64 (p0.length : Int), .bool (decide ((p0.length : Int) > 200)), undef, .tuple #[.agg #[.int .i64 v4, .int .i64 v5, .int .i64 v6, .int .i64 v7, .int .i64 v8, .int .i64 v9], .bool v10], .slice Ap0 p0.length cp0, .tuple #[.agg #[.int .i64 v4, .int .i64 v5, .int .i64 v6, .int .i64 v7, .int .i64 v8, .int .i64 v9], .bool v10], .agg #[.int .i64 v4, .int .i64 v5, .int .i64 v6, .int .i64 v7, .int .i64 v8, .int .i64 v9], .bool v10, .tuple #[.agg #[.int .i64 v13, .int .i64 v14, .int .i64 v15, .int .i64 v16, .int .i64 v17, .int .i64 v18], .bool v19], .slice Ap0 p0.length cp0, .tuple #[.agg #[.int .i64 v13, .int .i64 v14, .int .i64 v15, .int .i64 v16, .int .i64 v17, .int .i64 v18], .bool v19], .agg #[.int .i64 v13, .int .i64 v14, .int .i64 v15, .int .i64 v16, .int .i64 v17, .int .i64 v18], .bool v19, .agg #[.int .i64 v4, .int .i64 v5, .int .i64 v6, .int .i64 v7, .int .i64 v8, .int .i64 v9], .agg #[.int .i64 v13, .int .i64 v14, .int .i64 v15, .int .i64 v16, .int .i64 v17, .int .i64 v18], .bool true, .bool true, .bool v10, .bool v19, .bool (v10 == v19), .bool (v10 == v19), .bool (v10 == v19), undef, undef] (by kernel_rfl) ?_
      rcases Bool.eq_false_or_eq_true (v10 == v19) with hc23 | hc23
      · replace hM := (if_pos hc23).symm.trans hM
        rw [hc23]
        replace hM := bind_some hM
        obtain ⟨v24, h25, hM⟩ := hM
        have hP := Own.pre (Xi := []) (X := [boxA b21 [.int .i64 v13, .int .i64 v14, .int .i64 v15, .int .i64 v16, .int .i64 v17, .int .i64 v18], boxA b12 [.int .i64 v4, .int .i64 v5, .int .i64 v6, .int .i64 v7, .int .i64 v8, .int .i64 v9]]) (Si := []) hS forall0 forall0
        refine s_call 13 #[] (by kernel_rfl) (by kernel_rfl) ((intagliolaw07_awake_W hP doms_nil h25).mono ?_)
        rintro _ _ ⟨rfl, hQ⟩
        replace hS : Own w0 D R _ [boxA b21 [.int .i64 v13, .int .i64 v14, .int .i64 v15, .int .i64 v16, .int .i64 v17, .int .i64 v18], boxA b12 [.int .i64 v4, .int .i64 v5, .int .i64 v6, .int .i64 v7, .int .i64 v8, .int .i64 v9]] [slA Rp0 (Enc.int .u8) Ap0 cp0 p0] := hS.post hQ (.inl rfl)
        clear hP hQ
        refine ⟨_, rfl, ?_⟩
        refine segEnd [.slice Ap0 p0.length cp0, undef, .bool v24, .pointer (some ⟨b12, 0, none⟩), .bool v10, .pointer (some ⟨b21, 0, none⟩), .bool v19, .slice Ap0 p0.length cp0, .int .i64 (p0.length : Int), .bool (decide ((p0.length : Int) > 200)), undef, .tuple #[.agg #[.int .i64 v4, .int .i64 v5, .int .i64 v6, .int .i64 v7, .int .i64 v8, .int .i64 v9], .bool v10], .slice Ap0 p0.length cp0, .tuple #[.agg #[.int .i64 v4, .int .i64 v5, .int .i64 v6, .int .i64 v7, .int .i64 v8, .int .i64 v9], .bool v10], .agg #[.int .i64 v4, .int .i64 v5, .int .i64 v6, .int .i64 v7, .int .i64 v8, .int .i64 v9], .bool v10, .tuple #[.agg #[.int .i64 v13, .int .i64 v14, .int .i64 v15, .int .i64 v16, .int .i64 v17, .int .i64 v18], .bool v19], .slice Ap0 p0.length cp0, .tuple #[.agg #[.int .i64 v13, .int .i64 v14, .int .i64 v15, .int .i64 v16, .int .i64 v17, .int .i64 v18], .bool v19], .agg #[.int .i64 v13, .int .i64 v14, .int .i64 v15, .int .i64 v16, .int .i64 v17, .int .i64 v18], .bool v19, .agg #[.int .i64 v4, .int .i64 v5, .int .i64 v6, .int .i64 v7, .int .i64 v8, .int .i64 v9], .agg #[.int .i64 v13, .int .i64 v14, .int .i64 v15, .int .i64 v16, .int .i64 v17, .int .i64 v18], .bool true, .bool true, .bool v10, .bool v19, .bool true, .bool true, .bool true, .bool v24, .bool v24] (by kernel_rfl) ?_
        refine then_normal ?_
        refine wp_ret ?_
        replace hS : Own w0 D R _ [] [slA Rp0 (Enc.int .u8) Ap0 cp0 p0] := hS.takeX 0
        replace hS : Own w0 D R _ [] [] := hS.dropS forall0
        obtain rfl := Option.some.inj hM
        refine ret_v (.bool v24) (by kernel_rfl) ⟨rfl, hS⟩
      · replace hM := (if_neg (Bool.eq_false_iff.1 hc23)).symm.trans hM
        rw [hc23]
        refine segEnd [.slice Ap0 p0.length cp0, undef, .bool false, .pointer (some ⟨b12, 0, none⟩), .bool v10, .pointer (some ⟨b21, 0, none⟩), .bool v19, .slice Ap0 p0.length cp0, .int .i64 (p0.length : Int), .bool (decide ((p0.length : Int) > 200)), undef, .tuple #[.agg #[.int .i64 v4, .int .i64 v5, .int .i64 v6, .int .i64 v7, .int .i64 v8, .int .i64 v9], .bool v10], .slice Ap0 p0.length cp0, .tuple #[.agg #[.int .i64 v4, .int .i64 v5, .int .i64 v6, .int .i64 v7, .int .i64 v8, .int .i64 v9], .bool v10], .agg #[.int .i64 v4, .int .i64 v5, .int .i64 v6, .int .i64 v7, .int .i64 v8, .int .i64 v9], .bool v10, .tuple #[.agg #[.int .i64 v13, .int .i64 v14, .int .i64 v15, .int .i64 v16, .int .i64 v17, .int .i64 v18], .bool v19], .slice Ap0 p0.length cp0, .tuple #[.agg #[.int .i64 v13, .int .i64 v14, .int .i64 v15, .int .i64 v16, .int .i64 v17, .int .i64 v18], .bool v19], .agg #[.int .i64 v13, .int .i64 v14, .int .i64 v15, .int .i64 v16, .int .i64 v17, .int .i64 v18], .bool v19, .agg #[.int .i64 v4, .int .i64 v5, .int .i64 v6, .int .i64 v7, .int .i64 v8, .int .i64 v9], .agg #[.int .i64 v13, .int .i64 v14, .int .i64 v15, .int .i64 v16, .int .i64 v17, .int .i64 v18], .bool true, .bool true, .bool v10, .bool v19, .bool false, .bool false, .bool false, undef, .bool false] (by kernel_rfl) ?_
        refine then_normal ?_
        refine wp_ret ?_
        replace hS : Own w0 D R _ [] [slA Rp0 (Enc.int .u8) Ap0 cp0 p0] := hS.takeX 0
        replace hS : Own w0 D R _ [] [] := hS.dropS forall0
        obtain rfl := Option.some.inj hM
        refine ret_v (.bool false) (by kernel_rfl) ⟨rfl, hS⟩
    · replace hM := (if_neg (Bool.eq_false_iff.1 hc22)).symm.trans hM
      rw [hc22]
      refine segEnd [.slice Ap0 p0.length cp0, undef, .bool false, .pointer (some ⟨b12, 0, none⟩), .bool v10, .pointer (some ⟨b21, 0, none⟩), .bool v19, .slice Ap0 p0.length cp0, .int .i64 (p0.length : Int), .bool (decide ((p0.length : Int) > 200)), undef, .tuple #[.agg #[.int .i64 v4, .int .i64 v5, .int .i64 v6, .int .i64 v7, .int .i64 v8, .int .i64 v9], .bool v10], .slice Ap0 p0.length cp0, .tuple #[.agg #[.int .i64 v4, .int .i64 v5, .int .i64 v6, .int .i64 v7, .int .i64 v8, .int .i64 v9], .bool v10], .agg #[.int .i64 v4, .int .i64 v5, .int .i64 v6, .int .i64 v7, .int .i64 v8, .int .i64 v9], .bool v10, .tuple #[.agg #[.int .i64 v13, .int .i64 v14, .int .i64 v15, .int .i64 v16, .int .i64 v17, .int .i64 v18], .bool v19], .slice Ap0 p0.length cp0, .tuple #[.agg #[.int .i64 v13, .int .i64 v14, .int .i64 v15, .int .i64 v16, .int .i64 v17, .int .i64 v18], .bool v19], .agg #[.int .i64 v13, .int .i64 v14, .int .i64 v15, .int .i64 v16, .int .i64 v17, .int .i64 v18], .bool v19, .agg #[.int .i64 v4, .int .i64 v5, .int .i64 v6, .int .i64 v7, .int .i64 v8, .int .i64 v9], .agg #[.int .i64 v13, .int .i64 v14, .int .i64 v15, .int .i64 v16, .int .i64 v17, .int .i64 v18], .bool false, .bool false, undef, undef, undef, .bool false, .bool false, undef, .bool false] (by kernel_rfl) ?_
      refine then_normal ?_
      refine wp_ret ?_
      replace hS : Own w0 D R _ [] [slA Rp0 (Enc.int .u8) Ap0 cp0 p0] := hS.takeX 0
      replace hS : Own w0 D R _ [] [] := hS.dropS forall0
      obtain rfl := Option.some.inj hM
      refine ret_v (.bool false) (by kernel_rfl) ⟨rfl, hS⟩

end Go.Proofs.Ytcpddgjmopdlbaa
