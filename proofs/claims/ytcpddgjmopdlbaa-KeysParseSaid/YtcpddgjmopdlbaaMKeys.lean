/- Plain models of Go functions (Keys). -/
import Derived.Test.YtcpddgjmopdlbaaExt
import Derived.Test.YtcpddgjmopdlbaaMPut
namespace Go.Proofs.Ytcpddgjmopdlbaa
open Go Go.Lift
set_option maxRecDepth 100000
set_option maxHeartbeats 4000000
set_option linter.unusedVariables false

def keys_numbers_M (p0_0 : Int) (p0_1 : Int) (p0_2 : Int) (p0_3 : Int) (p0_4 : Int) (p0_5 : Int) : Option ((Int × Int × Int × Int × Int × Int)) :=
  some (p0_0, p0_1, p0_2, p0_3, p0_4, p0_5)

def keys_Valid_L1 (v2 : Int) (v3 : Int) (v4 : Int) (v5 : Int) (v6 : Int) (v7 : Int) (x21 : Int) : Option (Int ⊕ (Unit ⊕ Bool)) :=
  if (decide (x21 < 6)) = true then
    Option.bind (ix [v2, v3, v4, v5, v6, v7] x21) fun y24 =>
    if (decide (y24 < 0)) = true then
      some (.inr (.inr false))
    else
      if (decide (y24 > 1099511627776)) = true then
        some (.inr (.inr false))
      else
        some (.inl (IntKind.i64.wrap (x21 + 1)))
  else
    some (.inr (.inl ()))

def keys_Valid_J1 (p0_0 : Int) (p0_4 : Int) : Option (Bool) :=
  if (decide (p0_0 ≥ 1)) = true then
    if (decide (p0_0 ≤ 6)) = true then
      some (decide (p0_4 ≤ 1))
    else
      some false
  else
    some false

def keys_Valid_M (p0_0 : Int) (p0_1 : Int) (p0_2 : Int) (p0_3 : Int) (p0_4 : Int) (p0_5 : Int) : Option (Bool) :=
  Option.bind (keys_numbers_M p0_0 p0_1 p0_2 p0_3 p0_4 p0_5) fun (v2, v3, v4, v5, v6, v7) =>
  Option.bind (loop (fun (s : Int) => keys_Valid_L1 v2 v3 v4 v5 v6 v7 s) 0) (fun r => match r with | .inl _ => keys_Valid_J1 p0_0 p0_4 | .inr q32 => some q32)

def keys_Bytes_L1 (v5 : Int) (v6 : Int) (v7 : Int) (v8 : Int) (v9 : Int) (v10 : Int) (l41 : List Int) (x42 : Int) : Option (((List Int) × Int) ⊕ (List Int)) :=
  if (decide (x42 < 6)) = true then
    Option.bind (ix [v5, v6, v7, v8, v9, v10] x42) fun y45 =>
    Option.bind (pack_PutNum_M l41 y45) fun v48 =>
    some (.inl (v48, (IntKind.i64.wrap (x42 + 1))))
  else
    some (.inr l41)

def keys_Bytes_J1 (l54 : List Int) : Option (List Int) :=
  some l54

def keys_Bytes_M (p0_0 : Int) (p0_1 : Int) (p0_2 : Int) (p0_3 : Int) (p0_4 : Int) (p0_5 : Int) : Option (List Int) :=
  Option.bind (keys_Valid_M p0_0 p0_1 p0_2 p0_3 p0_4 p0_5) fun v2 =>
  if (!v2) = true then
    some []
  else
    Option.bind (keys_numbers_M p0_0 p0_1 p0_2 p0_3 p0_4 p0_5) fun (v5, v6, v7, v8, v9, v10) =>
    Option.bind (loop (fun (s : ((List Int) × Int)) => keys_Bytes_L1 v5 v6 v7 v8 v9 v10 s.1 s.2) ([], 0)) (fun q56 => keys_Bytes_J1 q56)

end Go.Proofs.Ytcpddgjmopdlbaa
