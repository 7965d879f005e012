/- The Go functions come to what their models say. -/
import Derived.Test.YtknkonhdbmeolaaGMAll
import Derived.Test.YtknkonhdbmeolaaProg
import Derived.KernelRfl
namespace Go.Proofs.Ytknkonhdbmeolaa
open Go Go.Lift
set_option maxRecDepth 100000
set_option maxHeartbeats 4000000
set_option linter.unusedVariables false
theorem bytes_Equal_ok : FnOk Go.Proofs.Try.prog GL 11 bytes_Equal_C := fn_of_exec (Γ := []) (fn := Go.Proofs.Try.f11) (code := Func.code Go.Proofs.Try.f11) (hs := []) (kp := 0) (T := bytes_Equal_T) (Ts := [(.slc (.int .u8)), (.slc (.int .u8))]) (outs := bytes_Equal_O) (Uss := [[.bool]]) (M := bytes_Equal_MM)
  gam_nil (by kernel_rfl) (by kernel_rfl) .nil (by kernel_rfl) (fun x => by kernel_rfl)

theorem pack_high_uint32_L1_ok : FragOk Go.Proofs.Try.prog GL (subC (Func.code Go.Proofs.Try.f45) [1, 1, 0, 1, 0]) pack_high_uint32_L1_C := loop_frag' (p' := [1, 1, 0, 1, 0, 0]) (L := pack_high_uint32_L1_MM) (by kernel_rfl) (by kernel_rfl) (by kernel_rfl) (frag_of_exec (Γ := []) (hs := []) (kp := 0) (T := pack_high_uint32_L1_T) (Ts := [(.int .u32), (.int .i64), (.slc (.int .u8))]) (outs := (.normal, pack_high_uint32_L1_T) :: pack_high_uint32_L1_O) (Uss := [(.int .u32), (.int .i64), (.slc (.int .u8))] :: [[(.slc (.int .u8))]]) (M := pack_high_uint32_L1_MM)
  gam_nil .nil (by kernel_rfl) (fun x => by kernel_rfl))
theorem pack_high_uint32_ok : FnOk Go.Proofs.Try.prog GL 45 pack_high_uint32_C := fn_of_exec (Γ := []) (fn := Go.Proofs.Try.f45) (code := Func.code Go.Proofs.Try.f45) (hs := [([1, 1, 0, 1, 0], .cut pack_high_uint32_L1_C)]) (kp := 0) (T := pack_high_uint32_T) (Ts := [(.slc (.int .u8)), (.int .u32), (.int .i64)]) (outs := pack_high_uint32_O) (Uss := [[(.slc (.int .u8))]]) (M := pack_high_uint32_MM)
  gam_nil (by kernel_rfl) (by kernel_rfl) (.cut pack_high_uint32_L1_ok .nil) (by kernel_rfl) (fun x => by kernel_rfl)

theorem pack_Put32_ok : FnOk Go.Proofs.Try.prog GL 15 pack_Put32_C := fn_of_exec (Γ := [(45, pack_high_uint32_C)]) (fn := Go.Proofs.Try.f15) (code := Func.code Go.Proofs.Try.f15) (hs := []) (kp := 0) (T := pack_Put32_T) (Ts := [(.slc (.int .u8)), (.int .u32)]) (outs := pack_Put32_O) (Uss := [[(.slc (.int .u8))]]) (M := pack_Put32_MM)
  (gam_cons pack_high_uint32_ok gam_nil) (by kernel_rfl) (by kernel_rfl) .nil (by kernel_rfl) (fun x => by kernel_rfl)

theorem pack_Put_ok : FnOk Go.Proofs.Try.prog GL 12 pack_Put_C := fn_of_exec (Γ := [(15, pack_Put32_C)]) (fn := Go.Proofs.Try.f12) (code := Func.code Go.Proofs.Try.f12) (hs := []) (kp := 0) (T := pack_Put_T) (Ts := [(.slc (.int .u8)), (.slc (.int .u8))]) (outs := pack_Put_O) (Uss := [[(.slc (.int .u8))]]) (M := pack_Put_MM)
  (gam_cons pack_Put32_ok gam_nil) (by kernel_rfl) (by kernel_rfl) .nil (by kernel_rfl) (fun x => by kernel_rfl)

theorem pack_take_L1_ok : FragOk Go.Proofs.Try.prog GL (subC (Func.code Go.Proofs.Try.f53) [1, 1, 0, 1, 0]) pack_take_L1_C := loop_frag' (p' := [1, 1, 0, 1, 0, 0]) (L := pack_take_L1_MM) (by kernel_rfl) (by kernel_rfl) (by kernel_rfl) (frag_of_exec (Γ := []) (hs := []) (kp := 0) (T := pack_take_L1_T) (Ts := [(.slc (.int .u8)), (.int .i64), (.int .u64), (.int .i64), (.int .i64)]) (outs := (.normal, pack_take_L1_T) :: pack_take_L1_O) (Uss := [(.slc (.int .u8)), (.int .i64), (.int .u64), (.int .i64), (.int .i64)] :: [[(.int .u64)]]) (M := pack_take_L1_MM)
  gam_nil .nil (by kernel_rfl) (fun x => by kernel_rfl))
theorem pack_take_ok : FnOk Go.Proofs.Try.prog GL 53 pack_take_C := fn_of_exec (Γ := []) (fn := Go.Proofs.Try.f53) (code := Func.code Go.Proofs.Try.f53) (hs := [([1, 1, 0, 1, 0], .cut pack_take_L1_C)]) (kp := 0) (T := pack_take_T) (Ts := [(.slc (.int .u8)), (.int .i64), (.int .i64)]) (outs := pack_take_O) (Uss := [[(.int .u64)]]) (M := pack_take_MM)
  gam_nil (by kernel_rfl) (by kernel_rfl) (.cut pack_take_L1_ok .nil) (by kernel_rfl) (fun x => by kernel_rfl)

theorem pack_Le32_ok : FnOk Go.Proofs.Try.prog GL 29 pack_Le32_C := fn_of_exec (Γ := [(53, pack_take_C)]) (fn := Go.Proofs.Try.f29) (code := Func.code Go.Proofs.Try.f29) (hs := []) (kp := 0) (T := pack_Le32_T) (Ts := [(.slc (.int .u8)), (.int .i64)]) (outs := pack_Le32_O) (Uss := [[(.int .u32)]]) (M := pack_Le32_MM)
  (gam_cons pack_take_ok gam_nil) (by kernel_rfl) (by kernel_rfl) .nil (by kernel_rfl) (fun x => by kernel_rfl)

theorem intagliolaw01_awake_ok : FnOk Go.Proofs.Try.prog GL 9 intagliolaw01_awake_C := fn_of_exec (Γ := [(11, bytes_Equal_C), (12, pack_Put_C), (29, pack_Le32_C)]) (fn := Go.Proofs.Try.f9) (code := Func.code Go.Proofs.Try.f9) (hs := []) (kp := 0) (T := intagliolaw01_awake_T) (Ts := []) (outs := intagliolaw01_awake_O) (Uss := [[.bool]]) (M := intagliolaw01_awake_MM)
  (gam_cons bytes_Equal_ok (gam_cons pack_Put_ok (gam_cons pack_Le32_ok gam_nil))) (by kernel_rfl) (by kernel_rfl) .nil (by kernel_rfl) (fun x => by kernel_rfl)

theorem pack_Reader_ok_n_ok : FnOk Go.Proofs.Try.prog GL 55 pack_Reader_ok_n_C := fn_of_exec (Γ := []) (fn := Go.Proofs.Try.f55) (code := Func.code Go.Proofs.Try.f55) (hs := []) (kp := 0) (T := pack_Reader_ok_n_T) (Ts := []) (outs := pack_Reader_ok_n_O) (Uss := [[.bool]]) (M := pack_Reader_ok_n_MM)
  gam_nil (by kernel_rfl) (by kernel_rfl) .nil (by kernel_rfl) (fun x => by kernel_rfl)

theorem pack_Reader_ok_ok : FnOk Go.Proofs.Try.prog GL 55 pack_Reader_ok_C := fn_of_exec (Γ := []) (fn := Go.Proofs.Try.f55) (code := Func.code Go.Proofs.Try.f55) (hs := []) (kp := 1) (T := pack_Reader_ok_T) (Ts := [(.slc (.int .u8)), (.int .i64), .bool]) (outs := pack_Reader_ok_O) (Uss := [[.bool, (.slc (.int .u8)), (.int .i64), .bool]]) (M := pack_Reader_ok_MM)
  gam_nil (by kernel_rfl) (by kernel_rfl) .nil (by kernel_rfl) (fun x => by kernel_rfl)

theorem pack_Reader_fail_ok : FnOk Go.Proofs.Try.prog GL 56 pack_Reader_fail_C := fn_of_exec (Γ := []) (fn := Go.Proofs.Try.f56) (code := Func.code Go.Proofs.Try.f56) (hs := []) (kp := 1) (T := pack_Reader_fail_T) (Ts := [(.int .i64), (.slc (.int .u8)), (.int .i64), .bool]) (outs := pack_Reader_fail_O) (Uss := [[(.int .i64), .bool]]) (M := pack_Reader_fail_MM)
  gam_nil (by kernel_rfl) (by kernel_rfl) .nil (by kernel_rfl) (fun x => by kernel_rfl)

theorem pack_Reader_next_n_ok : FnOk Go.Proofs.Try.prog GL 57 pack_Reader_next_n_C := fn_of_exec (Γ := [(55, pack_Reader_ok_n_C), (55, pack_Reader_ok_C), (56, pack_Reader_fail_C)]) (fn := Go.Proofs.Try.f57) (code := Func.code Go.Proofs.Try.f57) (hs := []) (kp := 0) (T := pack_Reader_next_n_T) (Ts := [(.int .i64)]) (outs := pack_Reader_next_n_O) (Uss := [[.bool]]) (M := pack_Reader_next_n_MM)
  (gam_cons pack_Reader_ok_n_ok (gam_cons pack_Reader_ok_ok (gam_cons pack_Reader_fail_ok gam_nil))) (by kernel_rfl) (by kernel_rfl) .nil (by kernel_rfl) (fun x => by kernel_rfl)

theorem pack_Reader_next_ok : FnOk Go.Proofs.Try.prog GL 57 pack_Reader_next_C := fn_of_exec (Γ := [(55, pack_Reader_ok_n_C), (55, pack_Reader_ok_C), (56, pack_Reader_fail_C)]) (fn := Go.Proofs.Try.f57) (code := Func.code Go.Proofs.Try.f57) (hs := []) (kp := 1) (T := pack_Reader_next_T) (Ts := [(.int .i64), (.slc (.int .u8)), (.int .i64), .bool]) (outs := pack_Reader_next_O) (Uss := [[(.slc (.int .u8)), .bool, (.slc (.int .u8)), (.int .i64), .bool]]) (M := pack_Reader_next_MM)
  (gam_cons pack_Reader_ok_n_ok (gam_cons pack_Reader_ok_ok (gam_cons pack_Reader_fail_ok gam_nil))) (by kernel_rfl) (by kernel_rfl) .nil (by kernel_rfl) (fun x => by kernel_rfl)

theorem pack_Reader_number_n_L1_ok : FragOk Go.Proofs.Try.prog GL (subC (Func.code Go.Proofs.Try.f54) [1, 1, 1, 0, 1, 0]) pack_Reader_number_n_L1_C := loop_frag' (p' := [1, 1, 1, 0, 1, 0, 0]) (L := pack_Reader_number_n_L1_MM) (by kernel_rfl) (by kernel_rfl) (by kernel_rfl) (frag_of_exec (Γ := [(57, pack_Reader_next_n_C), (57, pack_Reader_next_C)]) (hs := []) (kp := 0) (T := pack_Reader_number_n_L1_T) (Ts := [(.int .u64), (.int .i64), (.int .i64)]) (outs := (.normal, pack_Reader_number_n_L1_T) :: pack_Reader_number_n_L1_O) (Uss := [(.int .u64), (.int .i64), (.int .i64)] :: [[(.int .u64)]]) (M := pack_Reader_number_n_L1_MM)
  (gam_cons pack_Reader_next_n_ok (gam_cons pack_Reader_next_ok gam_nil)) .nil (by kernel_rfl) (fun x => by kernel_rfl))
theorem pack_Reader_number_n_ok : FnOk Go.Proofs.Try.prog GL 54 pack_Reader_number_n_C := fn_of_exec (Γ := [(57, pack_Reader_next_n_C), (57, pack_Reader_next_C)]) (fn := Go.Proofs.Try.f54) (code := Func.code Go.Proofs.Try.f54) (hs := [([1, 1, 1, 0, 1, 0], .cut pack_Reader_number_n_L1_C)]) (kp := 0) (T := pack_Reader_number_n_T) (Ts := [(.int .i64)]) (outs := pack_Reader_number_n_O) (Uss := [[(.int .u64)]]) (M := pack_Reader_number_n_MM)
  (gam_cons pack_Reader_next_n_ok (gam_cons pack_Reader_next_ok gam_nil)) (by kernel_rfl) (by kernel_rfl) (.cut pack_Reader_number_n_L1_ok .nil) (by kernel_rfl) (fun x => by kernel_rfl)

theorem pack_Reader_number_L1_ok : FragOk Go.Proofs.Try.prog GL (subC (Func.code Go.Proofs.Try.f54) [1, 1, 1, 0, 1, 0]) pack_Reader_number_L1_C := loop_frag' (p' := [1, 1, 1, 0, 1, 0, 0]) (L := pack_Reader_number_L1_MM) (by kernel_rfl) (by kernel_rfl) (by kernel_rfl) (frag_of_exec (Γ := [(57, pack_Reader_next_n_C), (57, pack_Reader_next_C)]) (hs := []) (kp := 0) (T := pack_Reader_number_L1_T) (Ts := [(.int .u64), (.slc (.int .u8)), (.int .i64), (.int .i64)]) (outs := (.normal, pack_Reader_number_L1_T) :: pack_Reader_number_L1_O) (Uss := [(.int .u64), (.slc (.int .u8)), (.int .i64), (.int .i64)] :: [[(.int .u64)]]) (M := pack_Reader_number_L1_MM)
  (gam_cons pack_Reader_next_n_ok (gam_cons pack_Reader_next_ok gam_nil)) .nil (by kernel_rfl) (fun x => by kernel_rfl))
theorem pack_Reader_number_ok : FnOk Go.Proofs.Try.prog GL 54 pack_Reader_number_C := fn_of_exec (Γ := [(57, pack_Reader_next_n_C), (57, pack_Reader_next_C)]) (fn := Go.Proofs.Try.f54) (code := Func.code Go.Proofs.Try.f54) (hs := [([1, 1, 1, 0, 1, 0], .cut pack_Reader_number_L1_C)]) (kp := 1) (T := pack_Reader_number_T) (Ts := [(.int .i64), (.slc (.int .u8)), (.int .i64), .bool]) (outs := pack_Reader_number_O) (Uss := [[(.int .u64), (.slc (.int .u8)), (.int .i64), .bool]]) (M := pack_Reader_number_MM)
  (gam_cons pack_Reader_next_n_ok (gam_cons pack_Reader_next_ok gam_nil)) (by kernel_rfl) (by kernel_rfl) (.cut pack_Reader_number_L1_ok .nil) (by kernel_rfl) (fun x => by kernel_rfl)

theorem pack_Reader_U8_n_ok : FnOk Go.Proofs.Try.prog GL 30 pack_Reader_U8_n_C := fn_of_exec (Γ := [(54, pack_Reader_number_n_C), (54, pack_Reader_number_C)]) (fn := Go.Proofs.Try.f30) (code := Func.code Go.Proofs.Try.f30) (hs := []) (kp := 0) (T := pack_Reader_U8_n_T) (Ts := []) (outs := pack_Reader_U8_n_O) (Uss := [[(.int .i64)]]) (M := pack_Reader_U8_n_MM)
  (gam_cons pack_Reader_number_n_ok (gam_cons pack_Reader_number_ok gam_nil)) (by kernel_rfl) (by kernel_rfl) .nil (by kernel_rfl) (fun x => by kernel_rfl)

theorem pack_Reader_U8_ok : FnOk Go.Proofs.Try.prog GL 30 pack_Reader_U8_C := fn_of_exec (Γ := [(54, pack_Reader_number_n_C), (54, pack_Reader_number_C)]) (fn := Go.Proofs.Try.f30) (code := Func.code Go.Proofs.Try.f30) (hs := []) (kp := 1) (T := pack_Reader_U8_T) (Ts := [(.slc (.int .u8)), (.int .i64), .bool]) (outs := pack_Reader_U8_O) (Uss := [[(.int .i64), (.slc (.int .u8)), (.int .i64), .bool]]) (M := pack_Reader_U8_MM)
  (gam_cons pack_Reader_number_n_ok (gam_cons pack_Reader_number_ok gam_nil)) (by kernel_rfl) (by kernel_rfl) .nil (by kernel_rfl) (fun x => by kernel_rfl)

theorem pack_Reader_U32_n_ok : FnOk Go.Proofs.Try.prog GL 31 pack_Reader_U32_n_C := fn_of_exec (Γ := [(54, pack_Reader_number_n_C), (54, pack_Reader_number_C)]) (fn := Go.Proofs.Try.f31) (code := Func.code Go.Proofs.Try.f31) (hs := []) (kp := 0) (T := pack_Reader_U32_n_T) (Ts := []) (outs := pack_Reader_U32_n_O) (Uss := [[(.int .u32)]]) (M := pack_Reader_U32_n_MM)
  (gam_cons pack_Reader_number_n_ok (gam_cons pack_Reader_number_ok gam_nil)) (by kernel_rfl) (by kernel_rfl) .nil (by kernel_rfl) (fun x => by kernel_rfl)

theorem pack_Reader_U32_ok : FnOk Go.Proofs.Try.prog GL 31 pack_Reader_U32_C := fn_of_exec (Γ := [(54, pack_Reader_number_n_C), (54, pack_Reader_number_C)]) (fn := Go.Proofs.Try.f31) (code := Func.code Go.Proofs.Try.f31) (hs := []) (kp := 1) (T := pack_Reader_U32_T) (Ts := [(.slc (.int .u8)), (.int .i64), .bool]) (outs := pack_Reader_U32_O) (Uss := [[(.int .u32), (.slc (.int .u8)), (.int .i64), .bool]]) (M := pack_Reader_U32_MM)
  (gam_cons pack_Reader_number_n_ok (gam_cons pack_Reader_number_ok gam_nil)) (by kernel_rfl) (by kernel_rfl) .nil (by kernel_rfl) (fun x => by kernel_rfl)

theorem pack_Reader_U64_n_ok : FnOk Go.Proofs.Try.prog GL 32 pack_Reader_U64_n_C := fn_of_exec (Γ := [(54, pack_Reader_number_n_C), (54, pack_Reader_number_C)]) (fn := Go.Proofs.Try.f32) (code := Func.code Go.Proofs.Try.f32) (hs := []) (kp := 0) (T := pack_Reader_U64_n_T) (Ts := []) (outs := pack_Reader_U64_n_O) (Uss := [[(.int .u64)]]) (M := pack_Reader_U64_n_MM)
  (gam_cons pack_Reader_number_n_ok (gam_cons pack_Reader_number_ok gam_nil)) (by kernel_rfl) (by kernel_rfl) .nil (by kernel_rfl) (fun x => by kernel_rfl)

theorem pack_Reader_U64_ok : FnOk Go.Proofs.Try.prog GL 32 pack_Reader_U64_C := fn_of_exec (Γ := [(54, pack_Reader_number_n_C), (54, pack_Reader_number_C)]) (fn := Go.Proofs.Try.f32) (code := Func.code Go.Proofs.Try.f32) (hs := []) (kp := 1) (T := pack_Reader_U64_T) (Ts := [(.slc (.int .u8)), (.int .i64), .bool]) (outs := pack_Reader_U64_O) (Uss := [[(.int .u64), (.slc (.int .u8)), (.int .i64), .bool]]) (M := pack_Reader_U64_MM)
  (gam_cons pack_Reader_number_n_ok (gam_cons pack_Reader_number_ok gam_nil)) (by kernel_rfl) (by kernel_rfl) .nil (by kernel_rfl) (fun x => by kernel_rfl)

theorem pack_Reader_Num_n_ok : FnOk Go.Proofs.Try.prog GL 33 pack_Reader_Num_n_C := fn_of_exec (Γ := [(32, pack_Reader_U64_n_C), (32, pack_Reader_U64_C), (55, pack_Reader_ok_n_C), (55, pack_Reader_ok_C), (56, pack_Reader_fail_C)]) (fn := Go.Proofs.Try.f33) (code := Func.code Go.Proofs.Try.f33) (hs := []) (kp := 0) (T := pack_Reader_Num_n_T) (Ts := [(.int .i64)]) (outs := pack_Reader_Num_n_O) (Uss := [[(.int .i64)]]) (M := pack_Reader_Num_n_MM)
  (gam_cons pack_Reader_U64_n_ok (gam_cons pack_Reader_U64_ok (gam_cons pack_Reader_ok_n_ok (gam_cons pack_Reader_ok_ok (gam_cons pack_Reader_fail_ok gam_nil))))) (by kernel_rfl) (by kernel_rfl) .nil (by kernel_rfl) (fun x => by kernel_rfl)

theorem pack_Reader_Num_ok : FnOk Go.Proofs.Try.prog GL 33 pack_Reader_Num_C := fn_of_exec (Γ := [(32, pack_Reader_U64_n_C), (32, pack_Reader_U64_C), (55, pack_Reader_ok_n_C), (55, pack_Reader_ok_C), (56, pack_Reader_fail_C)]) (fn := Go.Proofs.Try.f33) (code := Func.code Go.Proofs.Try.f33) (hs := []) (kp := 1) (T := pack_Reader_Num_T) (Ts := [(.int .i64), (.slc (.int .u8)), (.int .i64), .bool]) (outs := pack_Reader_Num_O) (Uss := [[(.int .i64), (.slc (.int .u8)), (.int .i64), .bool]]) (M := pack_Reader_Num_MM)
  (gam_cons pack_Reader_U64_n_ok (gam_cons pack_Reader_U64_ok (gam_cons pack_Reader_ok_n_ok (gam_cons pack_Reader_ok_ok (gam_cons pack_Reader_fail_ok gam_nil))))) (by kernel_rfl) (by kernel_rfl) .nil (by kernel_rfl) (fun x => by kernel_rfl)

theorem pack_Reader_Bytes_n_ok : FnOk Go.Proofs.Try.prog GL 34 pack_Reader_Bytes_n_C := fn_of_exec (Γ := [(31, pack_Reader_U32_n_C), (31, pack_Reader_U32_C), (55, pack_Reader_ok_n_C), (55, pack_Reader_ok_C), (56, pack_Reader_fail_C), (57, pack_Reader_next_n_C), (57, pack_Reader_next_C)]) (fn := Go.Proofs.Try.f34) (code := Func.code Go.Proofs.Try.f34) (hs := [([1, 1, 0, 1, 0, 1], .gh (.mkrow 4 (.int .u8))), ([1, 1, 1, 0, 1, 0, 1, 1], .gh (.mkrow 4 (.int .u8))), ([1, 1, 1, 1, 1, 1], .gh (.mkrow 4 (.int .u8)))]) (kp := 0) (T := pack_Reader_Bytes_n_T) (Ts := [(.int .i64)]) (outs := pack_Reader_Bytes_n_O) (Uss := [[(.slc (.int .u8))]]) (M := pack_Reader_Bytes_n_MM)
  (gam_cons pack_Reader_U32_n_ok (gam_cons pack_Reader_U32_ok (gam_cons pack_Reader_ok_n_ok (gam_cons pack_Reader_ok_ok (gam_cons pack_Reader_fail_ok (gam_cons pack_Reader_next_n_ok (gam_cons pack_Reader_next_ok gam_nil))))))) (by kernel_rfl) (by kernel_rfl) (.gh (.gh (.gh .nil))) (by kernel_rfl) (fun x => by kernel_rfl)

theorem pack_Reader_Bytes_ok : FnOk Go.Proofs.Try.prog GL 34 pack_Reader_Bytes_C := fn_of_exec (Γ := [(31, pack_Reader_U32_n_C), (31, pack_Reader_U32_C), (55, pack_Reader_ok_n_C), (55, pack_Reader_ok_C), (56, pack_Reader_fail_C), (57, pack_Reader_next_n_C), (57, pack_Reader_next_C)]) (fn := Go.Proofs.Try.f34) (code := Func.code Go.Proofs.Try.f34) (hs := [([1, 1, 0, 1, 0, 1], .gh (.mkrow 4 (.int .u8))), ([1, 1, 1, 0, 1, 0, 1, 1], .gh (.mkrow 4 (.int .u8))), ([1, 1, 1, 1, 1, 1], .gh (.mkrow 4 (.int .u8)))]) (kp := 1) (T := pack_Reader_Bytes_T) (Ts := [(.int .i64), (.slc (.int .u8)), (.int .i64), .bool]) (outs := pack_Reader_Bytes_O) (Uss := [[(.slc (.int .u8)), (.int .i64), .bool, (.slc (.int .u8))]]) (M := pack_Reader_Bytes_MM)
  (gam_cons pack_Reader_U32_n_ok (gam_cons pack_Reader_U32_ok (gam_cons pack_Reader_ok_n_ok (gam_cons pack_Reader_ok_ok (gam_cons pack_Reader_fail_ok (gam_cons pack_Reader_next_n_ok (gam_cons pack_Reader_next_ok gam_nil))))))) (by kernel_rfl) (by kernel_rfl) (.gh (.gh (.gh .nil))) (by kernel_rfl) (fun x => by kernel_rfl)

theorem pack_Reader_Left_n_ok : FnOk Go.Proofs.Try.prog GL 36 pack_Reader_Left_n_C := fn_of_exec (Γ := []) (fn := Go.Proofs.Try.f36) (code := Func.code Go.Proofs.Try.f36) (hs := []) (kp := 0) (T := pack_Reader_Left_n_T) (Ts := []) (outs := pack_Reader_Left_n_O) (Uss := [[(.int .i64)]]) (M := pack_Reader_Left_n_MM)
  gam_nil (by kernel_rfl) (by kernel_rfl) .nil (by kernel_rfl) (fun x => by kernel_rfl)

theorem pack_Reader_Left_ok : FnOk Go.Proofs.Try.prog GL 36 pack_Reader_Left_C := fn_of_exec (Γ := []) (fn := Go.Proofs.Try.f36) (code := Func.code Go.Proofs.Try.f36) (hs := []) (kp := 1) (T := pack_Reader_Left_T) (Ts := [(.slc (.int .u8)), (.int .i64), .bool]) (outs := pack_Reader_Left_O) (Uss := [[(.int .i64), (.slc (.int .u8)), (.int .i64), .bool]]) (M := pack_Reader_Left_MM)
  gam_nil (by kernel_rfl) (by kernel_rfl) .nil (by kernel_rfl) (fun x => by kernel_rfl)

theorem pack_Reader_Rest_n_ok : FnOk Go.Proofs.Try.prog GL 35 pack_Reader_Rest_n_C := fn_of_exec (Γ := [(36, pack_Reader_Left_n_C), (36, pack_Reader_Left_C), (57, pack_Reader_next_n_C), (57, pack_Reader_next_C)]) (fn := Go.Proofs.Try.f35) (code := Func.code Go.Proofs.Try.f35) (hs := []) (kp := 0) (T := pack_Reader_Rest_n_T) (Ts := []) (outs := pack_Reader_Rest_n_O) (Uss := [[(.slc (.int .u8))]]) (M := pack_Reader_Rest_n_MM)
  (gam_cons pack_Reader_Left_n_ok (gam_cons pack_Reader_Left_ok (gam_cons pack_Reader_next_n_ok (gam_cons pack_Reader_next_ok gam_nil)))) (by kernel_rfl) (by kernel_rfl) .nil (by kernel_rfl) (fun x => by kernel_rfl)

theorem pack_Reader_Rest_ok : FnOk Go.Proofs.Try.prog GL 35 pack_Reader_Rest_C := fn_of_exec (Γ := [(36, pack_Reader_Left_n_C), (36, pack_Reader_Left_C), (57, pack_Reader_next_n_C), (57, pack_Reader_next_C)]) (fn := Go.Proofs.Try.f35) (code := Func.code Go.Proofs.Try.f35) (hs := []) (kp := 1) (T := pack_Reader_Rest_T) (Ts := [(.slc (.int .u8)), (.int .i64), .bool]) (outs := pack_Reader_Rest_O) (Uss := [[(.slc (.int .u8)), (.int .i64), .bool, (.slc (.int .u8))]]) (M := pack_Reader_Rest_MM)
  (gam_cons pack_Reader_Left_n_ok (gam_cons pack_Reader_Left_ok (gam_cons pack_Reader_next_n_ok (gam_cons pack_Reader_next_ok gam_nil)))) (by kernel_rfl) (by kernel_rfl) .nil (by kernel_rfl) (fun x => by kernel_rfl)

theorem pack_Reader_Err_n_ok : FnOk Go.Proofs.Try.prog GL 37 pack_Reader_Err_n_C := fn_of_exec (Γ := []) (fn := Go.Proofs.Try.f37) (code := Func.code Go.Proofs.Try.f37) (hs := []) (kp := 0) (T := pack_Reader_Err_n_T) (Ts := []) (outs := pack_Reader_Err_n_O) (Uss := [[(.int .i64)]]) (M := pack_Reader_Err_n_MM)
  gam_nil (by kernel_rfl) (by kernel_rfl) .nil (by kernel_rfl) (fun x => by kernel_rfl)

theorem pack_Reader_Err_ok : FnOk Go.Proofs.Try.prog GL 37 pack_Reader_Err_C := fn_of_exec (Γ := []) (fn := Go.Proofs.Try.f37) (code := Func.code Go.Proofs.Try.f37) (hs := []) (kp := 1) (T := pack_Reader_Err_T) (Ts := [(.slc (.int .u8)), (.int .i64), .bool]) (outs := pack_Reader_Err_O) (Uss := [[(.int .i64), (.slc (.int .u8)), (.int .i64), .bool]]) (M := pack_Reader_Err_MM)
  gam_nil (by kernel_rfl) (by kernel_rfl) .nil (by kernel_rfl) (fun x => by kernel_rfl)

theorem pack_Reader_End_n_ok : FnOk Go.Proofs.Try.prog GL 38 pack_Reader_End_n_C := fn_of_exec (Γ := [(36, pack_Reader_Left_n_C), (36, pack_Reader_Left_C), (37, pack_Reader_Err_n_C), (37, pack_Reader_Err_C)]) (fn := Go.Proofs.Try.f38) (code := Func.code Go.Proofs.Try.f38) (hs := []) (kp := 0) (T := pack_Reader_End_n_T) (Ts := []) (outs := pack_Reader_End_n_O) (Uss := [[(.int .i64)]]) (M := pack_Reader_End_n_MM)
  (gam_cons pack_Reader_Left_n_ok (gam_cons pack_Reader_Left_ok (gam_cons pack_Reader_Err_n_ok (gam_cons pack_Reader_Err_ok gam_nil)))) (by kernel_rfl) (by kernel_rfl) .nil (by kernel_rfl) (fun x => by kernel_rfl)

theorem pack_Reader_End_ok : FnOk Go.Proofs.Try.prog GL 38 pack_Reader_End_C := fn_of_exec (Γ := [(36, pack_Reader_Left_n_C), (36, pack_Reader_Left_C), (37, pack_Reader_Err_n_C), (37, pack_Reader_Err_C)]) (fn := Go.Proofs.Try.f38) (code := Func.code Go.Proofs.Try.f38) (hs := []) (kp := 1) (T := pack_Reader_End_T) (Ts := [(.slc (.int .u8)), (.int .i64), .bool]) (outs := pack_Reader_End_O) (Uss := [[(.int .i64), (.slc (.int .u8)), (.int .i64), .bool]]) (M := pack_Reader_End_MM)
  (gam_cons pack_Reader_Left_n_ok (gam_cons pack_Reader_Left_ok (gam_cons pack_Reader_Err_n_ok (gam_cons pack_Reader_Err_ok gam_nil)))) (by kernel_rfl) (by kernel_rfl) .nil (by kernel_rfl) (fun x => by kernel_rfl)

theorem intagliolaw01_PackNobody_ok : FnOk Go.Proofs.Try.prog GL 6 intagliolaw01_PackNobody_C := fn_of_exec (Γ := [(9, intagliolaw01_awake_C), (30, pack_Reader_U8_n_C), (30, pack_Reader_U8_C), (31, pack_Reader_U32_n_C), (31, pack_Reader_U32_C), (32, pack_Reader_U64_n_C), (32, pack_Reader_U64_C), (33, pack_Reader_Num_n_C), (33, pack_Reader_Num_C), (34, pack_Reader_Bytes_n_C), (34, pack_Reader_Bytes_C), (35, pack_Reader_Rest_n_C), (35, pack_Reader_Rest_C), (36, pack_Reader_Left_n_C), (36, pack_Reader_Left_C), (37, pack_Reader_Err_n_C), (37, pack_Reader_Err_C), (38, pack_Reader_End_n_C), (38, pack_Reader_End_C)]) (fn := Go.Proofs.Try.f6) (code := Func.code Go.Proofs.Try.f6) (hs := [([1, 1, 0, 1, 0], .unroll 3)]) (kp := 0) (T := intagliolaw01_PackNobody_T) (Ts := [(.int .i64)]) (outs := intagliolaw01_PackNobody_O) (Uss := [[.bool]]) (M := intagliolaw01_PackNobody_MM)
  (gam_cons intagliolaw01_awake_ok (gam_cons pack_Reader_U8_n_ok (gam_cons pack_Reader_U8_ok (gam_cons pack_Reader_U32_n_ok (gam_cons pack_Reader_U32_ok (gam_cons pack_Reader_U64_n_ok (gam_cons pack_Reader_U64_ok (gam_cons pack_Reader_Num_n_ok (gam_cons pack_Reader_Num_ok (gam_cons pack_Reader_Bytes_n_ok (gam_cons pack_Reader_Bytes_ok (gam_cons pack_Reader_Rest_n_ok (gam_cons pack_Reader_Rest_ok (gam_cons pack_Reader_Left_n_ok (gam_cons pack_Reader_Left_ok (gam_cons pack_Reader_Err_n_ok (gam_cons pack_Reader_Err_ok (gam_cons pack_Reader_End_n_ok (gam_cons pack_Reader_End_ok gam_nil))))))))))))))))))) (by kernel_rfl) (by kernel_rfl) (.unroll .nil) (by kernel_rfl) (fun x => by kernel_rfl)
end Go.Proofs.Ytknkonhdbmeolaa
