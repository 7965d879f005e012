/- Plain models of Go functions (Reader). -/
import Derived.Test.YtcpddgjmopdlbaaExt
namespace Go.Proofs.Ytcpddgjmopdlbaa
open Go Go.Lift
set_option maxRecDepth 100000
set_option maxHeartbeats 4000000
set_option linter.unusedVariables false

def pack_Reader_ok_M (p0_0 : List Int) (p0_1 : Int) (p0_2 : Bool) : Option (Bool) :=
  if p0_2 = true then
    some (p0_1 == 0)
  else
    some false

def pack_Reader_fail_M (p0_0 : List Int) (p0_1 : Int) (p0_2 : Bool) (p1 : Int) : Option (((List Int) × Int × Bool)) :=
  some ([], p1, p0_2)

def pack_Reader_next_M (p0_0 : List Int) (p0_1 : Int) (p0_2 : Bool) (p1 : Int) : Option (((List Int) × Bool × (List Int) × Int × Bool)) :=
  Option.bind (pack_Reader_ok_M p0_0 p0_1 p0_2) fun v1 =>
  if (!v1) = true then
    some ([], false, p0_0, p0_1, p0_2)
  else
    if (decide (p1 > (p0_0.length : Int))) = true then
      Option.bind (pack_Reader_fail_M p0_0 p0_1 p0_2 4) fun (v5, v8, v9) =>
      some ([], false, v5, v8, v9)
    else
      Option.bind (sub p0_0 0 p1) fun y11 =>
      Option.bind (sub p0_0 p1 (p0_0.length : Int)) fun y16 =>
      some (y11, true, y16, p0_1, p0_2)

def pack_Reader_number_L1 (v1 : List Int) (x24 : Int) (x25 : Int) : Option ((Int × Int) ⊕ Int) :=
  if (decide (x25 < (v1.length : Int))) = true then
    Option.bind (ix v1 x25) fun y28 =>
    some (.inl ((bor .u64 (IntKind.u64.wrap (x24 * 2 ^ 8)) (IntKind.u64.wrap (y28))), (IntKind.i64.wrap (x25 + 1))))
  else
    some (.inr x24)

def pack_Reader_number_J1 (v5 : List Int) (v8 : Int) (v9 : Bool) (x33 : Int) : Option ((Int × (List Int) × Int × Bool)) :=
  some (x33, v5, v8, v9)

def pack_Reader_number_M (p0_0 : List Int) (p0_1 : Int) (p0_2 : Bool) (p1 : Int) : Option ((Int × (List Int) × Int × Bool)) :=
  Option.bind (pack_Reader_next_M p0_0 p0_1 p0_2 p1) fun (v1, v4, v5, v8, v9) =>
  Option.bind (loop (fun (s : (Int × Int)) => pack_Reader_number_L1 v1 s.1 s.2) (0, 0)) (fun q35 => pack_Reader_number_J1 v5 v8 v9 q35)

def pack_Reader_U64_M (p0_0 : List Int) (p0_1 : Int) (p0_2 : Bool) : Option ((Int × (List Int) × Int × Bool)) :=
  Option.bind (pack_Reader_number_M p0_0 p0_1 p0_2 8) fun (v1, v2, v5, v6) =>
  some (v1, v2, v5, v6)

def pack_Reader_Num_M (p0_0 : List Int) (p0_1 : Int) (p0_2 : Bool) (p1 : Int) : Option ((Int × (List Int) × Int × Bool)) :=
  Option.bind (pack_Reader_U64_M p0_0 p0_1 p0_2) fun (v1, v2, v5, v6) =>
  Option.bind (pack_Reader_ok_M v2 v5 v6) fun v8 =>
  if (!v8) = true then
    some (0, v2, v5, v6)
  else
    if ((Int.fdiv v1 (2 ^ 63)) == 1) = true then
      Option.bind (pack_Reader_fail_M v2 v5 v6 5) fun (v12, v15, v16) =>
      some (0, v12, v15, v16)
    else
      if (decide ((IntKind.i64.wrap (v1)) > p1)) = true then
        Option.bind (pack_Reader_fail_M v2 v5 v6 5) fun (v19, v22, v23) =>
        some (0, v19, v22, v23)
      else
        some ((IntKind.i64.wrap (v1)), v2, v5, v6)

def pack_Reader_Left_M (p0_0 : List Int) (p0_1 : Int) (p0_2 : Bool) : Option (Int) :=
  some (p0_0.length : Int)

def pack_Reader_Err_M (p0_0 : List Int) (p0_1 : Int) (p0_2 : Bool) : Option (Int) :=
  if (!p0_2) = true then
    some 2
  else
    some p0_1

def pack_Reader_End_M (p0_0 : List Int) (p0_1 : Int) (p0_2 : Bool) : Option (Int) :=
  Option.bind (pack_Reader_Err_M p0_0 p0_1 p0_2) fun v1 =>
  if (v1 == 0) = true then
    Option.bind (pack_Reader_Left_M p0_0 p0_1 p0_2) fun v4 =>
    if (decide (v4 > 0)) = true then
      some 3
    else
      Option.bind (pack_Reader_Err_M p0_0 p0_1 p0_2) fun v7 =>
      some v7
  else
    Option.bind (pack_Reader_Err_M p0_0 p0_1 p0_2) fun v9 =>
    some v9

def pack_Read_M (p0 : List Int) : Option (((List Int) × Int × Bool)) :=
  Option.bind (room 1 (([] : List Int).length + p0.length)) fun _ =>
  some (([] ++ p0), 0, true)

end Go.Proofs.Ytcpddgjmopdlbaa
