/- The Go functions come to what their models say. -/
import Derived.Test.YtcpddgjmopdlbaaGMAll
import Derived.Test.YtcpddgjmopdlbaaProg
import Derived.KernelRfl
namespace Go.Proofs.Ytcpddgjmopdlbaa
open Go Go.Lift
set_option maxRecDepth 100000
set_option maxHeartbeats 4000000
set_option linter.unusedVariables false
theorem keys_numbers_ok : FnOk Go.Proofs.Try.prog GL 19 keys_numbers_C := fn_of_exec (Γ := []) (fn := Go.Proofs.Try.f19) (code := Func.code Go.Proofs.Try.f19) (hs := []) (kp := 0) (T := keys_numbers_T) (Ts := [(.int .i64), (.int .i64), (.int .i64), (.int .i64), (.int .i64), (.int .i64)]) (outs := keys_numbers_O) (Uss := [[(.arr 6 (.int .i64))]]) (M := keys_numbers_MM)
  gam_nil (by kernel_rfl) (by kernel_rfl) .nil (by kernel_rfl) (fun x => by kernel_rfl)

theorem keys_Valid_L1_ok : FragOk Go.Proofs.Try.prog GL (subC (Func.code Go.Proofs.Try.f8) [1, 0, 1, 0]) keys_Valid_L1_C := loop_frag' (p' := [1, 0, 1, 0, 0]) (L := keys_Valid_L1_MM) (by kernel_rfl) (by kernel_rfl) (by kernel_rfl) (frag_of_exec (Γ := [(19, keys_numbers_C)]) (hs := []) (kp := 1) (T := keys_Valid_L1_T) (Ts := [(.arr 6 (.int .i64)), (.int .i64), (.int .i64), (.int .i64), (.int .i64), (.int .i64), (.int .i64), (.int .i64)]) (outs := (.normal, keys_Valid_L1_T) :: keys_Valid_L1_O) (Uss := [(.arr 6 (.int .i64)), (.int .i64), (.int .i64), (.int .i64), (.int .i64), (.int .i64), (.int .i64), (.int .i64)] :: [[(.int .i64), (.int .i64), (.int .i64), (.int .i64), (.int .i64), (.int .i64)], [.bool, (.int .i64), (.int .i64), (.int .i64), (.int .i64), (.int .i64), (.int .i64)]]) (M := keys_Valid_L1_MM)
  (gam_cons keys_numbers_ok gam_nil) .nil (by kernel_rfl) (fun x => by kernel_rfl))
theorem keys_Valid_ok : FnOk Go.Proofs.Try.prog GL 8 keys_Valid_C := fn_of_exec (Γ := [(19, keys_numbers_C)]) (fn := Go.Proofs.Try.f8) (code := Func.code Go.Proofs.Try.f8) (hs := [([1, 0, 1, 0], .cut keys_Valid_L1_C)]) (kp := 0) (T := keys_Valid_T) (Ts := [(.int .i64), (.int .i64), (.int .i64), (.int .i64), (.int .i64), (.int .i64)]) (outs := keys_Valid_O) (Uss := [[.bool]]) (M := keys_Valid_MM)
  (gam_cons keys_numbers_ok gam_nil) (by kernel_rfl) (by kernel_rfl) (.cut keys_Valid_L1_ok .nil) (by kernel_rfl) (fun x => by kernel_rfl)

theorem pack_high_uint64_L1_ok : FragOk Go.Proofs.Try.prog GL (subC (Func.code Go.Proofs.Try.f38) [1, 1, 0, 1, 0]) pack_high_uint64_L1_C := loop_frag' (p' := [1, 1, 0, 1, 0, 0]) (L := pack_high_uint64_L1_MM) (by kernel_rfl) (by kernel_rfl) (by kernel_rfl) (frag_of_exec (Γ := []) (hs := []) (kp := 0) (T := pack_high_uint64_L1_T) (Ts := [(.int .u64), (.int .i64), (.slc (.int .u8))]) (outs := (.normal, pack_high_uint64_L1_T) :: pack_high_uint64_L1_O) (Uss := [(.int .u64), (.int .i64), (.slc (.int .u8))] :: [[(.slc (.int .u8))]]) (M := pack_high_uint64_L1_MM)
  gam_nil .nil (by kernel_rfl) (fun x => by kernel_rfl))
theorem pack_high_uint64_ok : FnOk Go.Proofs.Try.prog GL 38 pack_high_uint64_C := fn_of_exec (Γ := []) (fn := Go.Proofs.Try.f38) (code := Func.code Go.Proofs.Try.f38) (hs := [([1, 1, 0, 1, 0], .cut pack_high_uint64_L1_C)]) (kp := 0) (T := pack_high_uint64_T) (Ts := [(.slc (.int .u8)), (.int .u64), (.int .i64)]) (outs := pack_high_uint64_O) (Uss := [[(.slc (.int .u8))]]) (M := pack_high_uint64_MM)
  gam_nil (by kernel_rfl) (by kernel_rfl) (.cut pack_high_uint64_L1_ok .nil) (by kernel_rfl) (fun x => by kernel_rfl)

theorem pack_Put64_ok : FnOk Go.Proofs.Try.prog GL 29 pack_Put64_C := fn_of_exec (Γ := [(38, pack_high_uint64_C)]) (fn := Go.Proofs.Try.f29) (code := Func.code Go.Proofs.Try.f29) (hs := []) (kp := 0) (T := pack_Put64_T) (Ts := [(.slc (.int .u8)), (.int .u64)]) (outs := pack_Put64_O) (Uss := [[(.slc (.int .u8))]]) (M := pack_Put64_MM)
  (gam_cons pack_high_uint64_ok gam_nil) (by kernel_rfl) (by kernel_rfl) .nil (by kernel_rfl) (fun x => by kernel_rfl)

theorem pack_PutNum_ok : FnOk Go.Proofs.Try.prog GL 21 pack_PutNum_C := fn_of_exec (Γ := [(29, pack_Put64_C)]) (fn := Go.Proofs.Try.f21) (code := Func.code Go.Proofs.Try.f21) (hs := []) (kp := 0) (T := pack_PutNum_T) (Ts := [(.slc (.int .u8)), (.int .i64)]) (outs := pack_PutNum_O) (Uss := [[(.slc (.int .u8))]]) (M := pack_PutNum_MM)
  (gam_cons pack_Put64_ok gam_nil) (by kernel_rfl) (by kernel_rfl) .nil (by kernel_rfl) (fun x => by kernel_rfl)

theorem keys_Bytes_L1_ok : FragOk Go.Proofs.Try.prog GL (subC (Func.code Go.Proofs.Try.f11) [1, 1, 1, 0, 1, 0]) keys_Bytes_L1_C := loop_frag' (p' := [1, 1, 1, 0, 1, 0, 0]) (L := keys_Bytes_L1_MM) (by kernel_rfl) (by kernel_rfl) (by kernel_rfl) (frag_of_exec (Γ := [(8, keys_Valid_C), (19, keys_numbers_C), (21, pack_PutNum_C)]) (hs := []) (kp := 0) (T := keys_Bytes_L1_T) (Ts := [(.arr 6 (.int .i64)), (.int .i64), (.slc (.int .u8))]) (outs := (.normal, keys_Bytes_L1_T) :: keys_Bytes_L1_O) (Uss := [(.arr 6 (.int .i64)), (.int .i64), (.slc (.int .u8))] :: [[(.slc (.int .u8))]]) (M := keys_Bytes_L1_MM)
  (gam_cons keys_Valid_ok (gam_cons keys_numbers_ok (gam_cons pack_PutNum_ok gam_nil))) .nil (by kernel_rfl) (fun x => by kernel_rfl))
theorem keys_Bytes_ok : FnOk Go.Proofs.Try.prog GL 11 keys_Bytes_C := fn_of_exec (Γ := [(8, keys_Valid_C), (19, keys_numbers_C), (21, pack_PutNum_C)]) (fn := Go.Proofs.Try.f11) (code := Func.code Go.Proofs.Try.f11) (hs := [([1, 0, 1, 0, 1], .gh (.mkrow 2 (.int .u8))), ([1, 1, 1, 0, 1, 0], .gh (.mkrow 3 (.int .u8))), ([1, 1, 1, 0, 1, 0], .cut keys_Bytes_L1_C), ([1, 1, 1, 1, 1], .gh (.mkrow 2 (.int .u8)))]) (kp := 0) (T := keys_Bytes_T) (Ts := [(.int .i64), (.int .i64), (.int .i64), (.int .i64), (.int .i64), (.int .i64)]) (outs := keys_Bytes_O) (Uss := [[(.slc (.int .u8))]]) (M := keys_Bytes_MM)
  (gam_cons keys_Valid_ok (gam_cons keys_numbers_ok (gam_cons pack_PutNum_ok gam_nil))) (by kernel_rfl) (by kernel_rfl) (.gh (.gh (.cut keys_Bytes_L1_ok (.gh .nil)))) (by kernel_rfl) (fun x => by kernel_rfl)

theorem intagliolaw07_awake_ok : FnOk Go.Proofs.Try.prog GL 13 intagliolaw07_awake_C := fn_of_exec (Γ := [(11, keys_Bytes_C)]) (fn := Go.Proofs.Try.f13) (code := Func.code Go.Proofs.Try.f13) (hs := []) (kp := 0) (T := intagliolaw07_awake_T) (Ts := []) (outs := intagliolaw07_awake_O) (Uss := [[.bool]]) (M := intagliolaw07_awake_MM)
  (gam_cons keys_Bytes_ok gam_nil) (by kernel_rfl) (by kernel_rfl) .nil (by kernel_rfl) (fun x => by kernel_rfl)

theorem keys_Nonce_ok : FnOk Go.Proofs.Try.prog GL 14 keys_Nonce_C := fn_of_exec (Γ := [(21, pack_PutNum_C)]) (fn := Go.Proofs.Try.f14) (code := Func.code Go.Proofs.Try.f14) (hs := []) (kp := 0) (T := keys_Nonce_T) (Ts := [(.int .i64)]) (outs := keys_Nonce_O) (Uss := [[(.arr 12 (.int .u8)), .bool]]) (M := keys_Nonce_MM)
  (gam_cons pack_PutNum_ok gam_nil) (by kernel_rfl) (by kernel_rfl) .nil (by kernel_rfl) (fun x => by kernel_rfl)

theorem intaglioref07_in_ok : FnOk Go.Proofs.Try.prog GL 20 intaglioref07_in_C := fn_of_exec (Γ := []) (fn := Go.Proofs.Try.f20) (code := Func.code Go.Proofs.Try.f20) (hs := []) (kp := 0) (T := intaglioref07_in_T) (Ts := [(.int .i64)]) (outs := intaglioref07_in_O) (Uss := [[.bool]]) (M := intaglioref07_in_MM)
  gam_nil (by kernel_rfl) (by kernel_rfl) .nil (by kernel_rfl) (fun x => by kernel_rfl)

theorem intaglioref01_Both_ok : FnOk Go.Proofs.Try.prog GL 26 intaglioref01_Both_C := fn_of_exec (Γ := []) (fn := Go.Proofs.Try.f26) (code := Func.code Go.Proofs.Try.f26) (hs := []) (kp := 0) (T := intaglioref01_Both_T) (Ts := [(.slc (.int .u8)), (.slc (.int .u8))]) (outs := intaglioref01_Both_O) (Uss := [[(.slc (.int .u8))]]) (M := intaglioref01_Both_MM)
  gam_nil (by kernel_rfl) (by kernel_rfl) .nil (by kernel_rfl) (fun x => by kernel_rfl)

theorem intaglioref01_High_L1_ok : FragOk Go.Proofs.Try.prog GL (subC (Func.code Go.Proofs.Try.f39) [1, 1, 0, 1, 0]) intaglioref01_High_L1_C := loop_frag' (p' := [1, 1, 0, 1, 0, 0]) (L := intaglioref01_High_L1_MM) (by kernel_rfl) (by kernel_rfl) (by kernel_rfl) (frag_of_exec (Γ := []) (hs := []) (kp := 0) (T := intaglioref01_High_L1_T) (Ts := [(.int .u64), (.int .i64), (.int .i64), (.slc (.int .u8))]) (outs := (.normal, intaglioref01_High_L1_T) :: intaglioref01_High_L1_O) (Uss := [(.int .u64), (.int .i64), (.int .i64), (.slc (.int .u8))] :: [[(.slc (.int .u8))]]) (M := intaglioref01_High_L1_MM)
  gam_nil .nil (by kernel_rfl) (fun x => by kernel_rfl))
theorem intaglioref01_High_ok : FnOk Go.Proofs.Try.prog GL 39 intaglioref01_High_C := fn_of_exec (Γ := []) (fn := Go.Proofs.Try.f39) (code := Func.code Go.Proofs.Try.f39) (hs := [([1, 1, 0, 1, 0], .cut intaglioref01_High_L1_C)]) (kp := 0) (T := intaglioref01_High_T) (Ts := [(.int .u64), (.int .i64)]) (outs := intaglioref01_High_O) (Uss := [[(.slc (.int .u8))]]) (M := intaglioref01_High_MM)
  gam_nil (by kernel_rfl) (by kernel_rfl) (.cut intaglioref01_High_L1_ok .nil) (by kernel_rfl) (fun x => by kernel_rfl)

theorem intaglioref01_Put64_ok : FnOk Go.Proofs.Try.prog GL 30 intaglioref01_Put64_C := fn_of_exec (Γ := [(26, intaglioref01_Both_C), (39, intaglioref01_High_C)]) (fn := Go.Proofs.Try.f30) (code := Func.code Go.Proofs.Try.f30) (hs := []) (kp := 0) (T := intaglioref01_Put64_T) (Ts := [(.slc (.int .u8)), (.int .u64)]) (outs := intaglioref01_Put64_O) (Uss := [[(.slc (.int .u8))]]) (M := intaglioref01_Put64_MM)
  (gam_cons intaglioref01_Both_ok (gam_cons intaglioref01_High_ok gam_nil)) (by kernel_rfl) (by kernel_rfl) .nil (by kernel_rfl) (fun x => by kernel_rfl)

theorem intaglioref01_PutNum_ok : FnOk Go.Proofs.Try.prog GL 22 intaglioref01_PutNum_C := fn_of_exec (Γ := [(30, intaglioref01_Put64_C)]) (fn := Go.Proofs.Try.f22) (code := Func.code Go.Proofs.Try.f22) (hs := []) (kp := 0) (T := intaglioref01_PutNum_T) (Ts := [(.slc (.int .u8)), (.int .i64)]) (outs := intaglioref01_PutNum_O) (Uss := [[(.slc (.int .u8))]]) (M := intaglioref01_PutNum_MM)
  (gam_cons intaglioref01_Put64_ok gam_nil) (by kernel_rfl) (by kernel_rfl) .nil (by kernel_rfl) (fun x => by kernel_rfl)

theorem intaglioref07_Nonce_L1_ok : FragOk Go.Proofs.Try.prog GL (subC (Func.code Go.Proofs.Try.f15) [1, 1, 1, 1, 0, 1, 0]) intaglioref07_Nonce_L1_C := loop_frag' (p' := [1, 1, 1, 1, 0, 1, 0, 0]) (L := intaglioref07_Nonce_L1_MM) (by kernel_rfl) (by kernel_rfl) (by kernel_rfl) (frag_of_exec (Γ := [(20, intaglioref07_in_C), (22, intaglioref01_PutNum_C)]) (hs := []) (kp := 2) (T := intaglioref07_Nonce_L1_T) (Ts := [(.int .i64), (.arr 12 (.int .u8)), (.arr 12 (.int .u8)), (.slc (.int .u8))]) (outs := (.normal, intaglioref07_Nonce_L1_T) :: intaglioref07_Nonce_L1_O) (Uss := [(.int .i64), (.arr 12 (.int .u8)), (.arr 12 (.int .u8)), (.slc (.int .u8))] :: [[(.arr 12 (.int .u8)), (.arr 12 (.int .u8))]]) (M := intaglioref07_Nonce_L1_MM)
  (gam_cons intaglioref07_in_ok (gam_cons intaglioref01_PutNum_ok gam_nil)) .nil (by kernel_rfl) (fun x => by kernel_rfl))
theorem intaglioref07_Nonce_ok : FnOk Go.Proofs.Try.prog GL 15 intaglioref07_Nonce_C := fn_of_exec (Γ := [(20, intaglioref07_in_C), (22, intaglioref01_PutNum_C)]) (fn := Go.Proofs.Try.f15) (code := Func.code Go.Proofs.Try.f15) (hs := [([1, 1, 1, 1, 0, 1, 0], .cut intaglioref07_Nonce_L1_C)]) (kp := 0) (T := intaglioref07_Nonce_T) (Ts := [(.int .i64)]) (outs := intaglioref07_Nonce_O) (Uss := [[(.arr 12 (.int .u8)), .bool]]) (M := intaglioref07_Nonce_MM)
  (gam_cons intaglioref07_in_ok (gam_cons intaglioref01_PutNum_ok gam_nil)) (by kernel_rfl) (by kernel_rfl) (.cut intaglioref07_Nonce_L1_ok .nil) (by kernel_rfl) (fun x => by kernel_rfl)

theorem intagliolaw07_KeysNonces_ok : FnOk Go.Proofs.Try.prog GL 4 intagliolaw07_KeysNonces_C := fn_of_exec (Γ := [(13, intagliolaw07_awake_C), (14, keys_Nonce_C), (15, intaglioref07_Nonce_C)]) (fn := Go.Proofs.Try.f4) (code := Func.code Go.Proofs.Try.f4) (hs := []) (kp := 0) (T := intagliolaw07_KeysNonces_T) (Ts := [(.int .i64), (.int .i64)]) (outs := intagliolaw07_KeysNonces_O) (Uss := [[.bool]]) (M := intagliolaw07_KeysNonces_MM)
  (gam_cons intagliolaw07_awake_ok (gam_cons keys_Nonce_ok (gam_cons intaglioref07_Nonce_ok gam_nil))) (by kernel_rfl) (by kernel_rfl) .nil (by kernel_rfl) (fun x => by kernel_rfl)
end Go.Proofs.Ytcpddgjmopdlbaa
