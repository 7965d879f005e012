/- Plain models of Go functions (Reader). -/
import Derived.Test.YtknkonhdbmeolaaMore
namespace Go.Proofs.Ytknkonhdbmeolaa
open Go Go.Lift
set_option maxRecDepth 100000
set_option maxHeartbeats 4000000
set_option linter.unusedVariables false

def pack_Reader_ok_M (p0_0 : List Int) (p0_1 : Int) (p0_2 : Bool) : Option ((Bool × (List Int) × Int × Bool)) :=
  if p0_2 = true then
    some ((p0_1 == 0), p0_0, p0_1, p0_2)
  else
    some (false, p0_0, p0_1, p0_2)

def pack_Reader_fail_M (p0_0 : List Int) (p0_1 : Int) (p0_2 : Bool) (p1 : Int) : Option (((List Int) × Int × Bool)) :=
  some ([], p1, p0_2)

def pack_Reader_next_M (p0_0 : List Int) (p0_1 : Int) (p0_2 : Bool) (p1 : Int) : Option (((List Int) × Bool × (List Int) × Int × Bool)) :=
  Option.bind (pack_Reader_ok_M p0_0 p0_1 p0_2) fun (v1, v2, v5, v6) =>
  if (!v1) = true then
    some ([], false, v2, v5, v6)
  else
    if (decide (p1 > (v2.length : Int))) = true then
      Option.bind (pack_Reader_fail_M v2 v5 v6 4) fun (v10, v13, v14) =>
      some ([], false, v10, v13, v14)
    else
      Option.bind (sub v2 0 p1) fun y16 =>
      Option.bind (sub v2 p1 (v2.length : Int)) fun y21 =>
      some (y16, true, y21, v5, v6)

def pack_Reader_number_L1 (v1 : List Int) (x47 : Int) (x55 : Int) : Option ((Int × Int) ⊕ Int) :=
  if (decide (x55 < (v1.length : Int))) = true then
    Option.bind (ix v1 x55) fun y66 =>
    some (.inl ((bor .u64 (IntKind.u64.wrap (x47 * 2 ^ 8)) (IntKind.u64.wrap (y66))), (IntKind.i64.wrap (x55 + 1))))
  else
    some (.inr x47)

def pack_Reader_number_J1 (v5 : List Int) (v8 : Int) (v9 : Bool) (x75 : Int) : Option ((Int × (List Int) × Int × Bool)) :=
  some (x75, v5, v8, v9)

def pack_Reader_number_M (p0_0 : List Int) (p0_1 : Int) (p0_2 : Bool) (p1 : Int) : Option ((Int × (List Int) × Int × Bool)) :=
  Option.bind (pack_Reader_next_M p0_0 p0_1 p0_2 p1) fun (v1, v4, v5, v8, v9) =>
  Option.bind (loop (fun (s : (Int × Int)) => pack_Reader_number_L1 v1 s.1 s.2) (0, 0)) (fun q95 => pack_Reader_number_J1 v5 v8 v9 q95)

def pack_Reader_U8_M (p0_0 : List Int) (p0_1 : Int) (p0_2 : Bool) : Option ((Int × (List Int) × Int × Bool)) :=
  Option.bind (pack_Reader_number_M p0_0 p0_1 p0_2 1) fun (v1, v2, v5, v6) =>
  some ((IntKind.i64.wrap (v1)), v2, v5, v6)

def pack_Reader_U32_M (p0_0 : List Int) (p0_1 : Int) (p0_2 : Bool) : Option ((Int × (List Int) × Int × Bool)) :=
  Option.bind (pack_Reader_number_M p0_0 p0_1 p0_2 4) fun (v1, v2, v5, v6) =>
  some ((IntKind.u32.wrap (v1)), v2, v5, v6)

def pack_Reader_U64_M (p0_0 : List Int) (p0_1 : Int) (p0_2 : Bool) : Option ((Int × (List Int) × Int × Bool)) :=
  Option.bind (pack_Reader_number_M p0_0 p0_1 p0_2 8) fun (v1, v2, v5, v6) =>
  some (v1, v2, v5, v6)

def pack_Reader_Num_M (p0_0 : List Int) (p0_1 : Int) (p0_2 : Bool) (p1 : Int) : Option ((Int × (List Int) × Int × Bool)) :=
  Option.bind (pack_Reader_U64_M p0_0 p0_1 p0_2) fun (v1, v2, v5, v6) =>
  Option.bind (pack_Reader_ok_M v2 v5 v6) fun (v8, v9, v12, v13) =>
  if (!v8) = true then
    some (0, v9, v12, v13)
  else
    if ((Int.fdiv v1 (2 ^ 63)) == 1) = true then
      Option.bind (pack_Reader_fail_M v9 v12 v13 5) fun (v17, v20, v21) =>
      some (0, v17, v20, v21)
    else
      if (decide ((IntKind.i64.wrap (v1)) > p1)) = true then
        Option.bind (pack_Reader_fail_M v9 v12 v13 5) fun (v24, v27, v28) =>
        some (0, v24, v27, v28)
      else
        some ((IntKind.i64.wrap (v1)), v9, v12, v13)

def pack_Reader_Bytes_M (p0_0 : List Int) (p0_1 : Int) (p0_2 : Bool) (p1 : Int) : Option (((List Int) × (List Int) × Int × Bool)) :=
  Option.bind (pack_Reader_U32_M p0_0 p0_1 p0_2) fun (v1, v2, v5, v6) =>
  Option.bind (pack_Reader_ok_M v2 v5 v6) fun (v8, v9, v12, v13) =>
  if (!v8) = true then
    some ([], v9, v12, v13)
  else
    if (decide ((IntKind.i64.wrap (v1)) > p1)) = true then
      Option.bind (pack_Reader_fail_M v9 v12 v13 5) fun (v17, v20, v21) =>
      some ([], v17, v20, v21)
    else
      Option.bind (pack_Reader_next_M v9 v12 v13 (IntKind.i64.wrap (v1))) fun (v23, v26, v27, v30, v31) =>
      Option.bind (room 1 (([] : List Int).length + v23.length)) fun _ =>
      some (([] ++ v23), v27, v30, v31)

def pack_Reader_Left_M (p0_0 : List Int) (p0_1 : Int) (p0_2 : Bool) : Option ((Int × (List Int) × Int × Bool)) :=
  some ((p0_0.length : Int), p0_0, p0_1, p0_2)

def pack_Reader_Rest_M (p0_0 : List Int) (p0_1 : Int) (p0_2 : Bool) : Option (((List Int) × (List Int) × Int × Bool)) :=
  Option.bind (pack_Reader_Left_M p0_0 p0_1 p0_2) fun (v1, v2, v5, v6) =>
  Option.bind (pack_Reader_next_M v2 v5 v6 v1) fun (v8, v11, v12, v15, v16) =>
  Option.bind (room 1 (([] : List Int).length + v8.length)) fun _ =>
  some (([] ++ v8), v12, v15, v16)

def pack_Reader_Err_M (p0_0 : List Int) (p0_1 : Int) (p0_2 : Bool) : Option ((Int × (List Int) × Int × Bool)) :=
  if (!p0_2) = true then
    some (2, p0_0, p0_1, p0_2)
  else
    some (p0_1, p0_0, p0_1, p0_2)

def pack_Reader_End_M (p0_0 : List Int) (p0_1 : Int) (p0_2 : Bool) : Option ((Int × (List Int) × Int × Bool)) :=
  Option.bind (pack_Reader_Err_M p0_0 p0_1 p0_2) fun (v1, v2, v5, v6) =>
  if (v1 == 0) = true then
    Option.bind (pack_Reader_Left_M v2 v5 v6) fun (v9, v10, v13, v14) =>
    if (decide (v9 > 0)) = true then
      some (3, v10, v13, v14)
    else
      Option.bind (pack_Reader_Err_M v10 v13 v14) fun (v17, v18, v21, v22) =>
      some (v17, v18, v21, v22)
  else
    Option.bind (pack_Reader_Err_M v2 v5 v6) fun (v24, v25, v28, v29) =>
    some (v24, v25, v28, v29)

def pack_Read_M (p0 : List Int) : Option (((List Int) × Int × Bool)) :=
  Option.bind (room 1 (([] : List Int).length + p0.length)) fun _ =>
  some (([] ++ p0), 0, true)

end Go.Proofs.Ytknkonhdbmeolaa
