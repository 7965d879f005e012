/- The Go functions come to what their models say (Cmp). -/
import Derived.Test.YtknkonhdbmeolaaTy
import Derived.Test.YtknkonhdbmeolaaMCmp
namespace Go.Proofs.Ytknkonhdbmeolaa
open Go Go.Lift
set_option maxRecDepth 100000
set_option maxHeartbeats 4000000
set_option linter.unusedVariables false

theorem bytes_Compare_W {w0 w : World} {D R : Nat → Prop} {Rp0 : Nat → Prop} {Ap0 : Option Addr} {cp0 : Nat} {Rp1 : Nat → Prop} {Ap1 : Option Addr} {cp1 : Nat} {p0 : List Int} {p1 : List Int} {r0 : Int} (hS : Own w0 D R w [] [slA Rp0 (Enc.int .u8) Ap0 cp0 p0, slA Rp1 (Enc.int .u8) Ap1 cp1 p1]) (hD : ∀ b, ¬ D b) (hM : bytes_Compare_M p0 p1 = some r0) :
    Calls Go.Proofs.Try.prog 25 #[.slice Ap0 p0.length cp0, .slice Ap1 p1.length cp1] w (fun e w' => e = .returned (.int .i64 r0) ∧ Own w0 D R w' [] []) := by
  refine enter (fn := Go.Proofs.Try.f25) [.slice Ap0 p0.length cp0, .slice Ap1 p1.length cp1, undef, undef, undef, undef, undef, undef] (by kernel_rfl) rfl (by kernel_rfl) ?_
  unfold bytes_Compare_M at hM
  refine wp_seq ?_
  refine wp_reg ?_
  refine segEnd [.slice Ap0 p0.length cp0, .slice Ap1 p1.length cp1, undef, undef, .int .i64 0, undef, undef, undef] (by kernel_rfl) ?_
  refine then_normal ?_
  refine wp_seq ?_
  refine wp_reg ?_
  refine seg 2 [.slice Ap0 p0.length cp0, .slice Ap1 p1.length cp1, undef, undef, .int .i64 0, .slice Ap0 p0.length cp0, .slice Ap1 p1.length cp1, undef] (by kernel_rfl) ?_
  refine s_compare 50 Go.Proofs.Try.f50 (A := Ap0) (B := Ap1) (ca := cp0) (cb := cp1) (xs := p0) (ys := p1) (by kernel_rfl) (by kernel_rfl) (by kernel_rfl) (by kernel_rfl) (by kernel_rfl) (by kernel_rfl) (by kernel_rfl) (SlR.of_sl (hS.sl_mem (List.Mem.head _))) (SlR.of_sl (hS.sl_mem (List.Mem.tail _ (List.Mem.head _)))) ?_
  refine segEnd [.slice Ap0 p0.length cp0, .slice Ap1 p1.length cp1, undef, undef, .int .i64 (cmpB p0 p1), .slice Ap0 p0.length cp0, .slice Ap1 p1.length cp1, .int .i64 (cmpB p0 p1)] (by kernel_rfl) ?_
  refine then_normal ?_
  refine wp_ret ?_
  replace hS : Own w0 D R _ [] [] := hS.dropS forall0
  obtain rfl := Option.some.inj hM
  refine ret_v (.int .i64 (cmpB p0 p1)) (by kernel_rfl) ⟨rfl, hS⟩

theorem cmp_isNaN_uint64_W {w0 w : World} {D R : Nat → Prop} {p0 : Int} {r0 : Bool} (hS : Own w0 D R w [] []) (hD : ∀ b, ¬ D b) (hM : cmp_isNaN_uint64_M p0 = some r0) :
    Calls Go.Proofs.Try.prog 51 #[.int .u64 p0] w (fun e w' => e = .returned (.bool r0) ∧ Own w0 D R w' [] []) := by
  refine enter (fn := Go.Proofs.Try.f51) [.int .u64 p0, undef, undef, undef, undef, undef] (by kernel_rfl) rfl (by kernel_rfl) ?_
  unfold cmp_isNaN_uint64_M at hM
  refine wp_seq ?_
  refine wp_reg ?_
  refine segEnd [.int .u64 p0, undef, .bool false, undef, undef, undef] (by kernel_rfl) ?_
  refine then_normal ?_
  refine wp_seq ?_
  refine wp_reg ?_
  refine segEnd [.int .u64 p0, undef, .bool (p0 != p0), .int .u64 p0, .int .u64 p0, .bool (p0 != p0)] (by kernel_rfl) ?_
  refine then_normal ?_
  refine wp_ret ?_
  replace hS : Own w0 D R _ [] [] := hS.dropS forall0
  obtain rfl := Option.some.inj hM
  refine ret_v (.bool (p0 != p0)) (by kernel_rfl) ⟨rfl, hS⟩

theorem cmp_isNaN_uint32_W {w0 w : World} {D R : Nat → Prop} {p0 : Int} {r0 : Bool} (hS : Own w0 D R w [] []) (hD : ∀ b, ¬ D b) (hM : cmp_isNaN_uint32_M p0 = some r0) :
    Calls Go.Proofs.Try.prog 52 #[.int .u32 p0] w (fun e w' => e = .returned (.bool r0) ∧ Own w0 D R w' [] []) := by
  refine enter (fn := Go.Proofs.Try.f52) [.int .u32 p0, undef, undef, undef, undef, undef] (by kernel_rfl) rfl (by kernel_rfl) ?_
  unfold cmp_isNaN_uint32_M at hM
  refine wp_seq ?_
  refine wp_reg ?_
  refine segEnd [.int .u32 p0, undef, .bool false, undef, undef, undef] (by kernel_rfl) ?_
  refine then_normal ?_
  refine wp_seq ?_
  refine wp_reg ?_
  refine segEnd [.int .u32 p0, undef, .bool (p0 != p0), .int .u32 p0, .int .u32 p0, .bool (p0 != p0)] (by kernel_rfl) ?_
  refine then_normal ?_
  refine wp_ret ?_
  replace hS : Own w0 D R _ [] [] := hS.dropS forall0
  obtain rfl := Option.some.inj hM
  refine ret_v (.bool (p0 != p0)) (by kernel_rfl) ⟨rfl, hS⟩

theorem cmp_Compare_uint64_W {w0 w : World} {D R : Nat → Prop} {p0 : Int} {p1 : Int} {r0 : Int} (hS : Own w0 D R w [] []) (hD : ∀ b, ¬ D b) (hM : cmp_Compare_uint64_M p0 p1 = some r0) :
    Calls Go.Proofs.Try.prog 26 #[.int .u64 p0, .int .u64 p1] w (fun e w' => e = .returned (.int .i64 r0) ∧ Own w0 D R w' [] []) := by
  refine enter (fn := Go.Proofs.Try.f26) [.int .u64 p0, .int .u64 p1, undef, undef, undef, undef, undef, undef, undef, undef, undef, undef, undef, undef, undef, undef, undef, undef, undef, undef] (by kernel_rfl) rfl (by kernel_rfl) ?_
  unfold cmp_Compare_uint64_M at hM
  refine wp_seq ?_
  refine wp_reg ?_
  refine segEnd [.int .u64 p0, .int .u64 p1, undef, undef, .int .i64 0, undef, undef, undef, undef, undef, undef, undef, undef, undef, undef, undef, undef, undef, undef, undef] (by kernel_rfl) ?_
  refine then_normal ?_
  refine wp_seq ?_
  refine wp_reg ?_
  refine seg 1 [.int .u64 p0, .int .u64 p1, undef, undef, .int .i64 0, undef, undef, .int .u64 p0, undef, undef, undef, undef, undef, undef, undef, undef, undef, undef, undef, undef] (by kernel_rfl) ?_
  replace hM := bind_some hM
  obtain ⟨v1, h2, hM⟩ := hM
  have hP := Own.pre (Xi := []) (X := []) (Si := []) hS forall0 forall0
  refine s_call 51 #[.int .u64 p0] (by kernel_rfl) (by kernel_rfl) ((cmp_isNaN_uint64_W hP doms_nil h2).mono ?_)
  rintro _ _ ⟨rfl, hQ⟩
  replace hS : Own w0 D R _ [] [] := hS.post hQ (.inl rfl)
  clear hP hQ
  refine ⟨_, rfl, ?_⟩
  refine segEnd [.int .u64 p0, .int .u64 p1, undef, undef, .int .i64 0, .bool v1, undef, .int .u64 p0, .bool v1, undef, undef, undef, undef, undef, undef, undef, undef, undef, undef, undef] (by kernel_rfl) ?_
  refine then_normal ?_
  refine wp_seq ?_
  refine wp_reg ?_
  refine seg 1 [.int .u64 p0, .int .u64 p1, undef, undef, .int .i64 0, .bool v1, undef, .int .u64 p0, .bool v1, .int .u64 p1, undef, undef, undef, undef, undef, undef, undef, undef, undef, undef] (by kernel_rfl) ?_
  replace hM := bind_some hM
  obtain ⟨v3, h4, hM⟩ := hM
  have hP := Own.pre (Xi := []) (X := []) (Si := []) hS forall0 forall0
  refine s_call 51 #[.int .u64 p1] (by kernel_rfl) (by kernel_rfl) ((cmp_isNaN_uint64_W hP doms_nil h4).mono ?_)
  rintro _ _ ⟨rfl, hQ⟩
  replace hS : Own w0 D R _ [] [] := hS.post hQ (.inl rfl)
  clear hP hQ
  refine ⟨_, rfl, ?_⟩
  refine segEnd [.int .u64 p0, .int .u64 p1, undef, undef, .int .i64 0, .bool v1, .bool v3, .int .u64 p0, .bool v1, .int .u64 p1, .bool v3, undef, undef, undef, undef, undef, undef, undef, undef, undef] (by kernel_rfl) ?_
  refine then_normal ?_
  refine wp_seq ?_
  refine wp_seq ?_
  refine wp_reg ?_
  refine segEnd [.int .u64 p0, .int .u64 p1, undef, undef, .int .i64 0, .bool v1, .bool v3, .int .u64 p0, .bool v1, .int .u64 p1, .bool v3, .bool v1, undef, undef, undef, undef, undef, undef, undef, undef] (by kernel_rfl) ?_
  refine then_normal ?_
  refine wp_cond_split (t := v1) (by kernel_rfl) (fun hc5 => ?_) (fun hc5 => ?_)
  · replace hM := (if_pos hc5).symm.trans hM
    refine wp_seq ?_
    refine wp_seq ?_
    refine wp_reg ?_
    refine segEnd [.int .u64 p0, .int .u64 p1, undef, undef, .int .i64 0, .bool v1, .bool v3, .int .u64 p0, .bool v1, .int .u64 p1, .bool v3, .bool v1, .bool v3, undef, undef, undef, undef, undef, undef, undef] (by kernel_rfl) ?_
    refine then_normal ?_
    refine wp_cond_split (t := v3) (by kernel_rfl) (fun hc6 => ?_) (fun hc6 => ?_)
    · replace hM := (if_pos hc6).symm.trans hM
      refine wp_seq ?_
      refine wp_reg ?_
      refine segEnd [.int .u64 p0, .int .u64 p1, undef, undef, .int .i64 0, .bool v1, .bool v3, .int .u64 p0, .bool v1, .int .u64 p1, .bool v3, .bool v1, .bool v3, undef, undef, undef, undef, undef, undef, undef] (by kernel_rfl) ?_
      refine then_normal ?_
      refine wp_ret ?_
      refine then_ret ?_
      refine then_ret ?_
      replace hS : Own w0 D R _ [] [] := hS.dropS forall0
      obtain rfl := Option.some.inj hM
      refine ret_v (.int .i64 0) (by kernel_rfl) ⟨rfl, hS⟩
    · replace hM := (if_neg (Bool.eq_false_iff.1 hc6)).symm.trans hM
      refine wp_skip ?_
      refine then_normal ?_
      refine wp_seq ?_
      refine wp_reg ?_
      refine segEnd [.int .u64 p0, .int .u64 p1, undef, undef, .int .i64 (-1), .bool v1, .bool v3, .int .u64 p0, .bool v1, .int .u64 p1, .bool v3, .bool v1, .bool v3, undef, undef, undef, undef, undef, undef, undef] (by kernel_rfl) ?_
      refine then_normal ?_
      refine wp_ret ?_
      refine then_ret ?_
      replace hS : Own w0 D R _ [] [] := hS.dropS forall0
      obtain rfl := Option.some.inj hM
      refine ret_v (.int .i64 (-1)) (by kernel_rfl) ⟨rfl, hS⟩
  · replace hM := (if_neg (Bool.eq_false_iff.1 hc5)).symm.trans hM
    refine wp_skip ?_
    refine then_normal ?_
    refine wp_seq ?_
    refine wp_seq ?_
    refine wp_reg ?_
    refine segEnd [.int .u64 p0, .int .u64 p1, undef, undef, .int .i64 0, .bool v1, .bool v3, .int .u64 p0, .bool v1, .int .u64 p1, .bool v3, .bool v1, undef, .bool v3, undef, undef, undef, undef, undef, undef] (by kernel_rfl) ?_
    refine then_normal ?_
    refine wp_cond_split (t := v3) (by kernel_rfl) (fun hc7 => ?_) (fun hc7 => ?_)
    · replace hM := (if_pos hc7).symm.trans hM
      refine wp_seq ?_
      refine wp_reg ?_
      refine segEnd [.int .u64 p0, .int .u64 p1, undef, undef, .int .i64 1, .bool v1, .bool v3, .int .u64 p0, .bool v1, .int .u64 p1, .bool v3, .bool v1, undef, .bool v3, undef, undef, undef, undef, undef, undef] (by kernel_rfl) ?_
      refine then_normal ?_
      refine wp_ret ?_
      refine then_ret ?_
      replace hS : Own w0 D R _ [] [] := hS.dropS forall0
      obtain rfl := Option.some.inj hM
      refine ret_v (.int .i64 1) (by kernel_rfl) ⟨rfl, hS⟩
    · replace hM := (if_neg (Bool.eq_false_iff.1 hc7)).symm.trans hM
      refine wp_skip ?_
      refine then_normal ?_
      refine wp_seq ?_
      refine wp_seq ?_
      refine wp_reg ?_
      refine segEnd [.int .u64 p0, .int .u64 p1, undef, undef, .int .i64 0, .bool v1, .bool v3, .int .u64 p0, .bool v1, .int .u64 p1, .bool v3, .bool v1, undef, .bool v3, .int .u64 p0, .int .u64 p1, .bool (decide (p0 < p1)), undef, undef, undef] (by kernel_rfl) ?_
      refine then_normal ?_
      refine wp_cond_split (t := decide (p0 < p1)) (by kernel_rfl) (fun hc8 => ?_) (fun hc8 => ?_)
      · replace hM := (if_pos hc8).symm.trans hM
        refine wp_seq ?_
        refine wp_reg ?_
        refine segEnd [.int .u64 p0, .int .u64 p1, undef, undef, .int .i64 (-1), .bool v1, .bool v3, .int .u64 p0, .bool v1, .int .u64 p1, .bool v3, .bool v1, undef, .bool v3, .int .u64 p0, .int .u64 p1, .bool (decide (p0 < p1)), undef, undef, undef] (by kernel_rfl) ?_
        refine then_normal ?_
        refine wp_ret ?_
        refine then_ret ?_
        replace hS : Own w0 D R _ [] [] := hS.dropS forall0
        obtain rfl := Option.some.inj hM
        refine ret_v (.int .i64 (-1)) (by kernel_rfl) ⟨rfl, hS⟩
      · replace hM := (if_neg (Bool.eq_false_iff.1 hc8)).symm.trans hM
        refine wp_skip ?_
        refine then_normal ?_
        refine wp_seq ?_
        refine wp_seq ?_
        refine wp_reg ?_
        refine segEnd [.int .u64 p0, .int .u64 p1, undef, undef, .int .i64 0, .bool v1, .bool v3, .int .u64 p0, .bool v1, .int .u64 p1, .bool v3, .bool v1, undef, .bool v3, .int .u64 p0, .int .u64 p1, .bool (decide (p0 < p1)), .int .u64 p0, .int .u64 p1, .bool (decide (p0 > p1))] (by kernel_rfl) ?_
        refine then_normal ?_
        refine wp_cond_split (t := decide (p0 > p1)) (by kernel_rfl) (fun hc9 => ?_) (fun hc9 => ?_)
        · replace hM := (if_pos hc9).symm.trans hM
          refine wp_seq ?_
          refine wp_reg ?_
          refine segEnd [.int .u64 p0, .int .u64 p1, undef, undef, .int .i64 1, .bool v1, .bool v3, .int .u64 p0, .bool v1, .int .u64 p1, .bool v3, .bool v1, undef, .bool v3, .int .u64 p0, .int .u64 p1, .bool (decide (p0 < p1)), .int .u64 p0, .int .u64 p1, .bool (decide (p0 > p1))] (by kernel_rfl) ?_
          refine then_normal ?_
          refine wp_ret ?_
          refine then_ret ?_
          replace hS : Own w0 D R _ [] [] := hS.dropS forall0
          obtain rfl := Option.some.inj hM
          refine ret_v (.int .i64 1) (by kernel_rfl) ⟨rfl, hS⟩
        · replace hM := (if_neg (Bool.eq_false_iff.1 hc9)).symm.trans hM
          refine wp_skip ?_
          refine then_normal ?_
          refine wp_seq ?_
          refine wp_reg ?_
          refine segEnd [.int .u64 p0, .int .u64 p1, undef, undef, .int .i64 0, .bool v1, .bool v3, .int .u64 p0, .bool v1, .int .u64 p1, .bool v3, .bool v1, undef, .bool v3, .int .u64 p0, .int .u64 p1, .bool (decide (p0 < p1)), .int .u64 p0, .int .u64 p1, .bool (decide (p0 > p1))] (by kernel_rfl) ?_
          refine then_normal ?_
          refine wp_ret ?_
          replace hS : Own w0 D R _ [] [] := hS.dropS forall0
          obtain rfl := Option.some.inj hM
          refine ret_v (.int .i64 0) (by kernel_rfl) ⟨rfl, hS⟩

theorem cmp_Compare_uint32_W {w0 w : World} {D R : Nat → Prop} {p0 : Int} {p1 : Int} {r0 : Int} (hS : Own w0 D R w [] []) (hD : ∀ b, ¬ D b) (hM : cmp_Compare_uint32_M p0 p1 = some r0) :
    Calls Go.Proofs.Try.prog 27 #[.int .u32 p0, .int .u32 p1] w (fun e w' => e = .returned (.int .i64 r0) ∧ Own w0 D R w' [] []) := by
  refine enter (fn := Go.Proofs.Try.f27) [.int .u32 p0, .int .u32 p1, undef, undef, undef, undef, undef, undef, undef, undef, undef, undef, undef, undef, undef, undef, undef, undef, undef, undef] (by kernel_rfl) rfl (by kernel_rfl) ?_
  unfold cmp_Compare_uint32_M at hM
  refine wp_seq ?_
  refine wp_reg ?_
  refine segEnd [.int .u32 p0, .int .u32 p1, undef, undef, .int .i64 0, undef, undef, undef, undef, undef, undef, undef, undef, undef, undef, undef, undef, undef, undef, undef] (by kernel_rfl) ?_
  refine then_normal ?_
  refine wp_seq ?_
  refine wp_reg ?_
  refine seg 1 [.int .u32 p0, .int .u32 p1, undef, undef, .int .i64 0, undef, undef, .int .u32 p0, undef, undef, undef, undef, undef, undef, undef, undef, undef, undef, undef, undef] (by kernel_rfl) ?_
  replace hM := bind_some hM
  obtain ⟨v1, h2, hM⟩ := hM
  have hP := Own.pre (Xi := []) (X := []) (Si := []) hS forall0 forall0
  refine s_call 52 #[.int .u32 p0] (by kernel_rfl) (by kernel_rfl) ((cmp_isNaN_uint32_W hP doms_nil h2).mono ?_)
  rintro _ _ ⟨rfl, hQ⟩
  replace hS : Own w0 D R _ [] [] := hS.post hQ (.inl rfl)
  clear hP hQ
  refine ⟨_, rfl, ?_⟩
  refine segEnd [.int .u32 p0, .int .u32 p1, undef, undef, .int .i64 0, .bool v1, undef, .int .u32 p0, .bool v1, undef, undef, undef, undef, undef, undef, undef, undef, undef, undef, undef] (by kernel_rfl) ?_
  refine then_normal ?_
  refine wp_seq ?_
  refine wp_reg ?_
  refine seg 1 [.int .u32 p0, .int .u32 p1, undef, undef, .int .i64 0, .bool v1, undef, .int .u32 p0, .bool v1, .int .u32 p1, undef, undef, undef, undef, undef, undef, undef, undef, undef, undef] (by kernel_rfl) ?_
  replace hM := bind_some hM
  obtain ⟨v3, h4, hM⟩ := hM
  have hP := Own.pre (Xi := []) (X := []) (Si := []) hS forall0 forall0
  refine s_call 52 #[.int .u32 p1] (by kernel_rfl) (by kernel_rfl) ((cmp_isNaN_uint32_W hP doms_nil h4).mono ?_)
  rintro _ _ ⟨rfl, hQ⟩
  replace hS : Own w0 D R _ [] [] := hS.post hQ (.inl rfl)
  clear hP hQ
  refine ⟨_, rfl, ?_⟩
  refine segEnd [.int .u32 p0, .int .u32 p1, undef, undef, .int .i64 0, .bool v1, .bool v3, .int .u32 p0, .bool v1, .int .u32 p1, .bool v3, undef, undef, undef, undef, undef, undef, undef, undef, undef] (by kernel_rfl) ?_
  refine then_normal ?_
  refine wp_seq ?_
  refine wp_seq ?_
  refine wp_reg ?_
  refine segEnd [.int .u32 p0, .int .u32 p1, undef, undef, .int .i64 0, .bool v1, .bool v3, .int .u32 p0, .bool v1, .int .u32 p1, .bool v3, .bool v1, undef, undef, undef, undef, undef, undef, undef, undef] (by kernel_rfl) ?_
  refine then_normal ?_
  refine wp_cond_split (t := v1) (by kernel_rfl) (fun hc5 => ?_) (fun hc5 => ?_)
  · replace hM := (if_pos hc5).symm.trans hM
    refine wp_seq ?_
    refine wp_seq ?_
    refine wp_reg ?_
    refine segEnd [.int .u32 p0, .int .u32 p1, undef, undef, .int .i64 0, .bool v1, .bool v3, .int .u32 p0, .bool v1, .int .u32 p1, .bool v3, .bool v1, .bool v3, undef, undef, undef, undef, undef, undef, undef] (by kernel_rfl) ?_
    refine then_normal ?_
    refine wp_cond_split (t := v3) (by kernel_rfl) (fun hc6 => ?_) (fun hc6 => ?_)
    · replace hM := (if_pos hc6).symm.trans hM
      refine wp_seq ?_
      refine wp_reg ?_
      refine segEnd [.int .u32 p0, .int .u32 p1, undef, undef, .int .i64 0, .bool v1, .bool v3, .int .u32 p0, .bool v1, .int .u32 p1, .bool v3, .bool v1, .bool v3, undef, undef, undef, undef, undef, undef, undef] (by kernel_rfl) ?_
      refine then_normal ?_
      refine wp_ret ?_
      refine then_ret ?_
      refine then_ret ?_
      replace hS : Own w0 D R _ [] [] := hS.dropS forall0
      obtain rfl := Option.some.inj hM
      refine ret_v (.int .i64 0) (by kernel_rfl) ⟨rfl, hS⟩
    · replace hM := (if_neg (Bool.eq_false_iff.1 hc6)).symm.trans hM
      refine wp_skip ?_
      refine then_normal ?_
      refine wp_seq ?_
      refine wp_reg ?_
      refine segEnd [.int .u32 p0, .int .u32 p1, undef, undef, .int .i64 (-1), .bool v1, .bool v3, .int .u32 p0, .bool v1, .int .u32 p1, .bool v3, .bool v1, .bool v3, undef, undef, undef, undef, undef, undef, undef] (by kernel_rfl) ?_
      refine then_normal ?_
      refine wp_ret ?_
      refine then_ret ?_
      replace hS : Own w0 D R _ [] [] := hS.dropS forall0
      obtain rfl := Option.some.inj hM
      refine ret_v (.int .i64 (-1)) (by kernel_rfl) ⟨rfl, hS⟩
  · replace hM := (if_neg (Bool.eq_false_iff.1 hc5)).symm.trans hM
    refine wp_skip ?_
    refine then_normal ?_
    refine wp_seq ?_
    refine wp_seq ?_
    refine wp_reg ?_
    refine segEnd [.int .u32 p0, .int .u32 p1, undef, undef, .int .i64 0, .bool v1, .bool v3, .int .u32 p0, .bool v1, .int .u32 p1, .bool v3, .bool v1, undef, .bool v3, undef, undef, undef, undef, undef, undef] (by kernel_rfl) ?_
    refine then_normal ?_
    refine wp_cond_split (t := v3) (by kernel_rfl) (fun hc7 => ?_) (fun hc7 => ?_)
    · replace hM := (if_pos hc7).symm.trans hM
      refine wp_seq ?_
      refine wp_reg ?_
      refine segEnd [.int .u32 p0, .int .u32 p1, undef, undef, .int .i64 1, .bool v1, .bool v3, .int .u32 p0, .bool v1, .int .u32 p1, .bool v3, .bool v1, undef, .bool v3, undef, undef, undef, undef, undef, undef] (by kernel_rfl) ?_
      refine then_normal ?_
      refine wp_ret ?_
      refine then_ret ?_
      replace hS : Own w0 D R _ [] [] := hS.dropS forall0
      obtain rfl := Option.some.inj hM
      refine ret_v (.int .i64 1) (by kernel_rfl) ⟨rfl, hS⟩
    · replace hM := (if_neg (Bool.eq_false_iff.1 hc7)).symm.trans hM
      refine wp_skip ?_
      refine then_normal ?_
      refine wp_seq ?_
      refine wp_seq ?_
      refine wp_reg ?_
      refine segEnd [.int .u32 p0, .int .u32 p1, undef, undef, .int .i64 0, .bool v1, .bool v3, .int .u32 p0, .bool v1, .int .u32 p1, .bool v3, .bool v1, undef, .bool v3, .int .u32 p0, .int .u32 p1, .bool (decide (p0 < p1)), undef, undef, undef] (by kernel_rfl) ?_
      refine then_normal ?_
      refine wp_cond_split (t := decide (p0 < p1)) (by kernel_rfl) (fun hc8 => ?_) (fun hc8 => ?_)
      · replace hM := (if_pos hc8).symm.trans hM
        refine wp_seq ?_
        refine wp_reg ?_
        refine segEnd [.int .u32 p0, .int .u32 p1, undef, undef, .int .i64 (-1), .bool v1, .bool v3, .int .u32 p0, .bool v1, .int .u32 p1, .bool v3, .bool v1, undef, .bool v3, .int .u32 p0, .int .u32 p1, .bool (decide (p0 < p1)), undef, undef, undef] (by kernel_rfl) ?_
        refine then_normal ?_
        refine wp_ret ?_
        refine then_ret ?_
        replace hS : Own w0 D R _ [] [] := hS.dropS forall0
        obtain rfl := Option.some.inj hM
        refine ret_v (.int .i64 (-1)) (by kernel_rfl) ⟨rfl, hS⟩
      · replace hM := (if_neg (Bool.eq_false_iff.1 hc8)).symm.trans hM
        refine wp_skip ?_
        refine then_normal ?_
        refine wp_seq ?_
        refine wp_seq ?_
        refine wp_reg ?_
        refine segEnd [.int .u32 p0, .int .u32 p1, undef, undef, .int .i64 0, .bool v1, .bool v3, .int .u32 p0, .bool v1, .int .u32 p1, .bool v3, .bool v1, undef, .bool v3, .int .u32 p0, .int .u32 p1, .bool (decide (p0 < p1)), .int .u32 p0, .int .u32 p1, .bool (decide (p0 > p1))] (by kernel_rfl) ?_
        refine then_normal ?_
        refine wp_cond_split (t := decide (p0 > p1)) (by kernel_rfl) (fun hc9 => ?_) (fun hc9 => ?_)
        · replace hM := (if_pos hc9).symm.trans hM
          refine wp_seq ?_
          refine wp_reg ?_
          refine segEnd [.int .u32 p0, .int .u32 p1, undef, undef, .int .i64 1, .bool v1, .bool v3, .int .u32 p0, .bool v1, .int .u32 p1, .bool v3, .bool v1, undef, .bool v3, .int .u32 p0, .int .u32 p1, .bool (decide (p0 < p1)), .int .u32 p0, .int .u32 p1, .bool (decide (p0 > p1))] (by kernel_rfl) ?_
          refine then_normal ?_
          refine wp_ret ?_
          refine then_ret ?_
          replace hS : Own w0 D R _ [] [] := hS.dropS forall0
          obtain rfl := Option.some.inj hM
          refine ret_v (.int .i64 1) (by kernel_rfl) ⟨rfl, hS⟩
        · replace hM := (if_neg (Bool.eq_false_iff.1 hc9)).symm.trans hM
          refine wp_skip ?_
          refine then_normal ?_
          refine wp_seq ?_
          refine wp_reg ?_
          refine segEnd [.int .u32 p0, .int .u32 p1, undef, undef, .int .i64 0, .bool v1, .bool v3, .int .u32 p0, .bool v1, .int .u32 p1, .bool v3, .bool v1, undef, .bool v3, .int .u32 p0, .int .u32 p1, .bool (decide (p0 < p1)), .int .u32 p0, .int .u32 p1, .bool (decide (p0 > p1))] (by kernel_rfl) ?_
          refine then_normal ?_
          refine wp_ret ?_
          replace hS : Own w0 D R _ [] [] := hS.dropS forall0
          obtain rfl := Option.some.inj hM
          refine ret_v (.int .i64 0) (by kernel_rfl) ⟨rfl, hS⟩

end Go.Proofs.Ytknkonhdbmeolaa
