/- The Go functions come to what their models say (Bytes). -/
import Derived.Test.YtcpddgjmopdlbaaTy
import Derived.Test.YtcpddgjmopdlbaaMBytes
namespace Go.Proofs.Ytcpddgjmopdlbaa
open Go Go.Lift
set_option maxRecDepth 100000
set_option maxHeartbeats 4000000
set_option linter.unusedVariables false

theorem bytes_Equal_W {w0 w : World} {D R : Nat → Prop} {Rp0 : Nat → Prop} {Ap0 : Option Addr} {cp0 : Nat} {Rp1 : Nat → Prop} {Ap1 : Option Addr} {cp1 : Nat} {p0 : List Int} {p1 : List Int} {r0 : Bool} (hS : Own w0 D R w [] [slA Rp0 (Enc.int .u8) Ap0 cp0 p0, slA Rp1 (Enc.int .u8) Ap1 cp1 p1]) (hD : ∀ b, ¬ D b) (hM : bytes_Equal_M p0 p1 = some r0) :
    Calls Go.Proofs.Try.prog 10 #[.slice Ap0 p0.length cp0, .slice Ap1 p1.length cp1] w (fun e w' => e = .returned (.bool r0) ∧ Own w0 D R w' [] []) := by
  refine enter (fn := Go.Proofs.Try.f10) [.slice Ap0 p0.length cp0, .slice Ap1 p1.length cp1, undef, undef, undef, undef, undef, undef, undef, undef] (by kernel_rfl) rfl (by kernel_rfl) ?_
  unfold bytes_Equal_M at hM
  refine wp_seq ?_
  refine wp_reg ?_
  refine segEnd [.slice Ap0 p0.length cp0, .slice Ap1 p1.length cp1, undef, undef, .bool false, undef, undef, undef, undef, undef] (by kernel_rfl) ?_
  refine then_normal ?_
  refine wp_seq ?_
  refine wp_reg ?_
  refine seg 1 [.slice Ap0 p0.length cp0, .slice Ap1 p1.length cp1, undef, undef, .bool false, .slice Ap0 p0.length cp0, undef, undef, undef, undef] (by kernel_rfl) ?_
  refine s_str (.tmp 5) 26 9 5 p0 Ap0 _ cp0 rfl u26 (by kernel_rfl) (by kernel_rfl) (by kernel_rfl) rfl (by kernel_rfl) (SlR.of_sl (hS.sl_mem (List.Mem.head _))) ?_
  refine seg 1 [.slice Ap0 p0.length cp0, .slice Ap1 p1.length cp1, undef, undef, .bool false, .slice Ap0 p0.length cp0, .string ⟨(b8 p0).toArray⟩, .slice Ap1 p1.length cp1, undef, undef] (by kernel_rfl) ?_
  refine s_str (.tmp 7) 26 9 5 p1 Ap1 _ cp1 rfl u26 (by kernel_rfl) (by kernel_rfl) (by kernel_rfl) rfl (by kernel_rfl) (SlR.of_sl (hS.sl_mem (List.Mem.tail _ (List.Mem.head _)))) ?_
  refine s_streq (.tmp 6) (.tmp 8) 9 9 (b8 p0) (b8 p1) rfl (by kernel_rfl) (by kernel_rfl) (by kernel_rfl) ?_
  refine segEnd [.slice Ap0 p0.length cp0, .slice Ap1 p1.length cp1, undef, undef, .bool ((b8 p0) == (b8 p1)), .slice Ap0 p0.length cp0, .string ⟨(b8 p0).toArray⟩, .slice Ap1 p1.length cp1, .string ⟨(b8 p1).toArray⟩, .bool ((b8 p0) == (b8 p1))] (by kernel_rfl) ?_
  refine then_normal ?_
  refine wp_ret ?_
  replace hS : Own w0 D R _ [] [] := hS.dropS forall0
  obtain rfl := Option.some.inj hM
  refine ret_v (.bool ((b8 p0) == (b8 p1))) (by kernel_rfl) ⟨rfl, hS⟩

end Go.Proofs.Ytcpddgjmopdlbaa
