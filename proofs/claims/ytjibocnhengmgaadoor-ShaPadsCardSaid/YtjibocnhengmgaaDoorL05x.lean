/- The laws of chapter 05: what their models answer, whatever comes in. -/
import Derived.Test.YtjibocnhengmgaaDoorL05
import Derived.Test.YtjibocnhengmgaaDoorEd
namespace Go.Proofs.YtjibocnhengmgaaDoor
open Go Go.Lift

theorem ok_i64 {n : Int} (h : Ty.ok (.int .i64) n) : -9223372036854775808 ≤ n ∧ n ≤ 9223372036854775807 := wf_i64 h
theorem ok_bytes {l : List Int} (h : Ty.ok (.slc (.int .u8)) l) : By l := fun n hn => wf_u8 (h.2 n hn)

theorem intagliolaw05_ShaPads_pure (n : Int) (h : Ty.ok (.int .i64) n) : intagliolaw05_ShaPads_M n = some true := shaPads_pure (ok_i64 h).1 (by have := (ok_i64 h).2; omega)
theorem intagliolaw05_ShaSum_pure (b : List Int) (h : Ty.ok (.slc (.int .u8)) b) : intagliolaw05_ShaSum_M b = some true := shaSum_pure (ok_bytes h)
theorem intagliolaw05_ShaPieces_pure (b : List Int) (c : Arr 2 Int) (h : Ty.ok (.slc (.int .u8)) b) (hc : Ty.ok (.arr 2 (.int .u16)) c) : intagliolaw05_ShaPieces_M b c = some true :=
  shaPieces_pure (ok_bytes h) fun x hx => wf_u16 (hc x hx)
theorem intagliolaw05_ShaHashes_pure (l : List (List Int)) (h : Ty.ok (.slc (.slc (.int .u8))) l) : intagliolaw05_ShaHashes_M l = some true := shaHashes_pure fun b hb => ok_bytes (h.2 b hb)
end Go.Proofs.YtjibocnhengmgaaDoor
