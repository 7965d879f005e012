/- The Go functions come to what their models say (Bytes). -/
import Derived.Test.YtknkonhdbmeolaaTy
import Derived.Test.YtknkonhdbmeolaaMBytes
namespace Go.Proofs.Ytknkonhdbmeolaa
open Go Go.Lift
set_option maxRecDepth 100000
set_option maxHeartbeats 4000000
set_option linter.unusedVariables false

theorem bytes_Clone_W {w0 w : World} {D R : Nat → Prop} {Rp0 : Nat → Prop} {Ap0 : Option Addr} {cp0 : Nat} {p0 : List Int} {r0 : List Int} (hS : Own w0 D R w [] [slA Rp0 (Enc.int .u8) Ap0 cp0 p0]) (hD : ∀ b, ¬ D b) (hM : bytes_Clone_M p0 = some r0) :
    Calls Go.Proofs.Try.prog 10 #[.slice Ap0 p0.length cp0] w (fun e w' => ∃ (ZA1 : Option Addr) (Zc2 : Nat), e = .returned (.slice ZA1 r0.length Zc2) ∧ Own w0 D R w' [rowA (Enc.int .u8) ZA1 Zc2 r0] []) := by
  refine enter (fn := Go.Proofs.Try.f10) [.slice Ap0 p0.length cp0, undef, undef, undef, undef, undef, undef, undef] (by kernel_rfl) rfl (by kernel_rfl) ?_
  unfold bytes_Clone_M at hM
  refine wp_seq ?_
  refine wp_reg ?_
  refine segEnd [.slice Ap0 p0.length cp0, undef, .slice none 0 0, undef, undef, undef, undef, undef] (by kernel_rfl) ?_
  refine then_normal ?_
  refine wp_seq ?_
  refine wp_seq ?_
  refine wp_reg ?_
  refine seg 1 [.slice Ap0 p0.length cp0, undef, .slice none 0 0, .slice Ap0 p0.length cp0, undef, undef, undef, undef] (by kernel_rfl) ?_
  refine s_sleq_nil (A := Ap0) (cap := cp0) (.tmp 3) 22 5 p0.length rfl u22 (by kernel_rfl) (by kernel_rfl) ?_
  refine wl_nil ?_
  refine then_normal ?_
  refine wp_cond_split (t := Ap0.isNone) (by kernel_rfl) (fun hc1 => ?_) (fun hc1 => ?_)
  · have hnil := SlR.nil_of (SlR.of_sl (hS.sl_mem (List.Mem.head _))) hc1
    subst hnil
    replace hM : some [] = some r0 := by simpa [room, maxLen] using hM
    refine wp_seq ?_
    refine wp_reg ?_
    refine segEnd [.slice Ap0 0 cp0, undef, .slice none 0 0, .slice Ap0 0 cp0, .bool Ap0.isNone, undef, undef, undef] (by kernel_rfl) ?_
    refine then_normal ?_
    refine wp_ret ?_
    refine then_ret ?_
    replace hS : Own w0 D R _ [rowA (Enc.int .u8) none 0 []] [slA Rp0 (Enc.int .u8) Ap0 cp0 []] := hS.addNil (Enc.int .u8)
    replace hS : Own w0 D R _ [rowA (Enc.int .u8) none 0 []] [] := hS.dropS forall0
    obtain rfl := Option.some.inj hM
    refine ret_v (.slice none 0 0) (by kernel_rfl) ⟨none, 0, rfl, hS⟩
  ·
    refine wp_skip ?_
    refine then_normal ?_
    refine wp_seq ?_
    refine wp_reg ?_
    refine s_lit 22 5 1 0 #[] (e := (Enc.int .u8)) ([] : List Int) (.int .u8 0) rfl u22 (by kernel_rfl) (by decide) rfl (by kernel_rfl) (by kernel_rfl) hS (fun A2 c3 _ hS => ?_)
    refine seg 1 [.slice Ap0 p0.length cp0, undef, .slice none 0 0, .slice Ap0 p0.length cp0, .bool Ap0.isNone, .slice A2 0 c3, .slice Ap0 p0.length cp0, undef] (by kernel_rfl) ?_
    replace hM := bind_some hM
    obtain ⟨_, h4, hM⟩ := hM
    refine s_append (.tmp 5) (.tmp 6) 22 22 5 1 (.slice Ap0 p0.length cp0) (e := (Enc.int .u8)) (xs := []) (ys := p0) rfl u22 el5 (by kernel_rfl) (by kernel_rfl) (by kernel_rfl) hS ((SlR.of_sl (hS.sl_mem (List.Mem.head _))).src u22) (room_some h4).1 (room_some h4).2 (fun A5 c6 _ hS => ?_)
    refine segEnd [.slice Ap0 p0.length cp0, undef, .slice A5 (([] ++ p0).length) c6, .slice Ap0 p0.length cp0, .bool Ap0.isNone, .slice A2 0 c3, .slice Ap0 p0.length cp0, .slice A5 (([] ++ p0).length) c6] (by kernel_rfl) ?_
    refine then_normal ?_
    refine wp_ret ?_
    replace hS : Own w0 D R _ [rowA (Enc.int .u8) A5 c6 ([] ++ p0)] [] := hS.dropS forall0
    obtain rfl := Option.some.inj hM
    refine ret_v (.slice A5 (([] ++ p0).length) c6) (by kernel_rfl) ⟨A5, c6, rfl, hS⟩

theorem bytes_Equal_W {w0 w : World} {D R : Nat → Prop} {Rp0 : Nat → Prop} {Ap0 : Option Addr} {cp0 : Nat} {Rp1 : Nat → Prop} {Ap1 : Option Addr} {cp1 : Nat} {p0 : List Int} {p1 : List Int} {r0 : Bool} (hS : Own w0 D R w [] [slA Rp0 (Enc.int .u8) Ap0 cp0 p0, slA Rp1 (Enc.int .u8) Ap1 cp1 p1]) (hD : ∀ b, ¬ D b) (hM : bytes_Equal_M p0 p1 = some r0) :
    Calls Go.Proofs.Try.prog 11 #[.slice Ap0 p0.length cp0, .slice Ap1 p1.length cp1] w (fun e w' => e = .returned (.bool r0) ∧ Own w0 D R w' [] []) := by
  refine enter (fn := Go.Proofs.Try.f11) [.slice Ap0 p0.length cp0, .slice Ap1 p1.length cp1, undef, undef, undef, undef, undef, undef, undef, undef] (by kernel_rfl) rfl (by kernel_rfl) ?_
  unfold bytes_Equal_M at hM
  refine wp_seq ?_
  refine wp_reg ?_
  refine segEnd [.slice Ap0 p0.length cp0, .slice Ap1 p1.length cp1, undef, undef, .bool false, undef, undef, undef, undef, undef] (by kernel_rfl) ?_
  refine then_normal ?_
  refine wp_seq ?_
  refine wp_reg ?_
  refine seg 1 [.slice Ap0 p0.length cp0, .slice Ap1 p1.length cp1, undef, undef, .bool false, .slice Ap0 p0.length cp0, undef, undef, undef, undef] (by kernel_rfl) ?_
  refine s_str (.tmp 5) 22 9 5 p0 Ap0 _ cp0 rfl u22 (by kernel_rfl) (by kernel_rfl) (by kernel_rfl) rfl (by kernel_rfl) (SlR.of_sl (hS.sl_mem (List.Mem.head _))) ?_
  refine seg 1 [.slice Ap0 p0.length cp0, .slice Ap1 p1.length cp1, undef, undef, .bool false, .slice Ap0 p0.length cp0, .string ⟨(b8 p0).toArray⟩, .slice Ap1 p1.length cp1, undef, undef] (by kernel_rfl) ?_
  refine s_str (.tmp 7) 22 9 5 p1 Ap1 _ cp1 rfl u22 (by kernel_rfl) (by kernel_rfl) (by kernel_rfl) rfl (by kernel_rfl) (SlR.of_sl (hS.sl_mem (List.Mem.tail _ (List.Mem.head _)))) ?_
  refine s_streq (.tmp 6) (.tmp 8) 9 9 (b8 p0) (b8 p1) rfl (by kernel_rfl) (by kernel_rfl) (by kernel_rfl) ?_
  refine segEnd [.slice Ap0 p0.length cp0, .slice Ap1 p1.length cp1, undef, undef, .bool ((b8 p0) == (b8 p1)), .slice Ap0 p0.length cp0, .string ⟨(b8 p0).toArray⟩, .slice Ap1 p1.length cp1, .string ⟨(b8 p1).toArray⟩, .bool ((b8 p0) == (b8 p1))] (by kernel_rfl) ?_
  refine then_normal ?_
  refine wp_ret ?_
  replace hS : Own w0 D R _ [] [] := hS.dropS forall0
  obtain rfl := Option.some.inj hM
  refine ret_v (.bool ((b8 p0) == (b8 p1))) (by kernel_rfl) ⟨rfl, hS⟩

end Go.Proofs.Ytknkonhdbmeolaa
