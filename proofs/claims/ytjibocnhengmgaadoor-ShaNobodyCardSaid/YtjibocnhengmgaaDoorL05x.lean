/- The laws of chapter 05: what their models answer, whatever comes in. -/
import Derived.Test.YtjibocnhengmgaaDoorL05
import Derived.Test.YtjibocnhengmgaaDoorEd
namespace Go.Proofs.YtjibocnhengmgaaDoor
open Go Go.Lift

theorem ok_i64 {n : Int} (h : Ty.ok (.int .i64) n) : -9223372036854775808 ≤ n ∧ n ≤ 9223372036854775807 := wf_i64 h
theorem ok_bytes {l : List Int} (h : Ty.ok (.slc (.int .u8)) l) : By l := fun n hn => wf_u8 (h.2 n hn)

theorem intagliolaw05_ShaPads_pure (n : Int) (h : Ty.ok (.int .i64) n) : intagliolaw05_ShaPads_M n = some true := shaPads_pure (ok_i64 h).1 (by have := (ok_i64 h).2; omega)
theorem intagliolaw05_ShaSum_pure (b : List Int) (h : Ty.ok (.slc (.int .u8)) b) : intagliolaw05_ShaSum_M b = some true := shaSum_pure (ok_bytes h)
theorem intagliolaw05_ShaPieces_pure (b : List Int) (c : Arr 2 Int) (h : Ty.ok (.slc (.int .u8)) b) (hc : Ty.ok (.arr 2 (.int .u16)) c) : intagliolaw05_ShaPieces_M b c = some true :=
  shaPieces_pure (ok_bytes h) fun x hx => wf_u16 (hc x hx)
theorem intagliolaw05_ShaHashes_pure (l : List (List Int)) (h : Ty.ok (.slc (.slc (.int .u8))) l) : intagliolaw05_ShaHashes_M l = some true := shaHashes_pure fun b hb => ok_bytes (h.2 b hb)
theorem intagliolaw05_ShaNobody_pure (b : List Int) (h : Ty.ok (.slc (.int .u8)) b) : intagliolaw05_ShaNobody_M b = some true := by
  have e0 : sha_Hash_Write_n_M b = some () := by kernel_rfl
  have e1 : sha_Hash_Write_M b (Arr.rep 8 0) 0 false [] = some (Arr.rep 8 0, 0, false, []) := rfl
  have e2 : sha_Hash_Sum_M (Arr.rep 8 0) 0 false [] = some (Arr.rep 32 0, Arr.rep 8 0, 0, false, []) := rfl
  have i0 : inb (nat_lit 2) 0 = some () := rfl
  have i1 : inb (nat_lit 2) 1 = some () := rfl
  unfold intagliolaw05_ShaNobody_M
  simp only [i0, i1, Option.bind_some, sha_Hash_Write_n_P, sha_Hash_Write_P, e0, e1, sha_Hash_Sum_n_P, sha_Hash_Sum_P, sha_Hash_Len_n_P, sha_Hash_Len_P]
  rw [show sha_Hash_Sum_n_M = some (Arr.rep 32 0) by kernel_rfl, Option.bind_some, if_neg (by decide), show sha_Hash_Len_n_M = some 0 by kernel_rfl, Option.bind_some, if_neg (by decide)]
  rw [e2, Option.bind_some, if_neg (by decide)]
  simp only
  rw [len_is, Option.bind_some, if_neg (by decide)]
  simp only [sha_New_P, sha_Sum_P, intagliolaw05_awake_P, awake_is, Option.bind_some]
  rw [new_is, Option.bind_some]
  have := sum_is (t := []) By.nil (by decide)
  rw [E_nil] at this
  simp only [List.length_nil] at this ⊢
  rw [show ((0 : Int)) = ((0 : Nat) : Int) from rfl, this, Option.bind_some, Sum_is By.nil (by decide), Option.bind_some, if_pos (eqI_self _)]
end Go.Proofs.YtjibocnhengmgaaDoor
