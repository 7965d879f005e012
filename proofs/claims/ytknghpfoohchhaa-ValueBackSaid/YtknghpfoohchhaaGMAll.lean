/- Plain models of Go functions. -/
import Derived.Test.YtknghpfoohchhaaGMAlla
namespace Go.Proofs.Ytknghpfoohchhaa
open Go Go.Lift
set_option maxRecDepth 100000
set_option maxHeartbeats 4000000
set_option linter.unusedVariables false
noncomputable section

def pack_Reader_Num_T : Tm := ⟨[(0, false, [.ptr 0 0]), (1, false, [.hole (.int .i64)])], 2, [.box [.hole (.slc (.int .u8)), .hole (.int .i64), .hole .bool]]⟩
def pack_Reader_Num_O : List (Ex × Tm) := [(.ret, ⟨[(0, false, [.hole (.int .i64)])], 1, [.box [.hole (.slc (.int .u8)), .hole (.int .i64), .hole .bool]]⟩)]
def pack_Reader_Num_M (s1 : Int) (m0_0 : List Int) (m0_1 : Int) (m0_2 : Bool) : Option (Int × (List Int) × Int × Bool) :=
  Option.bind (pack_Reader_U64_P (m0_0, m0_1, m0_2)) fun (v0 : (Int × ((List Int) × (Int × Bool)))) =>
  Option.bind (pack_Reader_ok_P (v0.snd.fst, v0.snd.snd.fst, v0.snd.snd.snd)) fun (v1 : (Bool × ((List Int) × (Int × Bool)))) =>
  if (!v1.fst) = true then
    some ((0 : Int), v1.snd.fst, v1.snd.snd.fst, v1.snd.snd.snd)
  else
  Option.bind (gshr IntKind.u64 v0.fst (63 : Int)) fun (v2 : Int) =>
  if (v2 == (1 : Int)) = true then
    Option.bind (pack_Reader_fail_P ((5 : Int), v1.snd.fst, v1.snd.snd.fst, v1.snd.snd.snd)) fun (v3 : (Int × Bool)) =>
    some ((0 : Int), [], v3.fst, v3.snd)
  else
  if decide (IntKind.wrap IntKind.i64 v0.fst > s1) = true then
    Option.bind (pack_Reader_fail_P ((5 : Int), v1.snd.fst, v1.snd.snd.fst, v1.snd.snd.snd)) fun (v4 : (Int × Bool)) =>
    some ((0 : Int), [], v4.fst, v4.snd)
  else
  some (IntKind.wrap IntKind.i64 v0.fst, v1.snd.fst, v1.snd.snd.fst, v1.snd.snd.snd)
def pack_Reader_Num_P : Int × (List Int) × Int × Bool → Option (Int × (List Int) × Int × Bool) := fun p => pack_Reader_Num_M p.1 p.2.1 p.2.2.1 p.2.2.2
def pack_Reader_Num_MM : HL [(.int .i64), (.slc (.int .u8)), (.int .i64), .bool] → Option (SumL [[(.int .i64), (.slc (.int .u8)), (.int .i64), .bool]]) := fun p => pack_Reader_Num_M p.1 p.2.1 p.2.2.1 p.2.2.2
def pack_Reader_Num_C : Con := ⟨1, pack_Reader_Num_T, pack_Reader_Num_O, stdCn [(.int .i64), (.slc (.int .u8)), (.int .i64), .bool] [[(.int .i64), (.slc (.int .u8)), (.int .i64), .bool]] pack_Reader_Num_MM, []⟩

def pack_Reader_U8_T : Tm := ⟨[(0, false, [.ptr 0 0])], 1, [.box [.hole (.slc (.int .u8)), .hole (.int .i64), .hole .bool]]⟩
def pack_Reader_U8_O : List (Ex × Tm) := [(.ret, ⟨[(0, false, [.hole (.int .i64)])], 1, [.box [.hole (.slc (.int .u8)), .hole (.int .i64), .hole .bool]]⟩)]
def pack_Reader_U8_M (m0_0 : List Int) (m0_1 : Int) (m0_2 : Bool) : Option (Int × (List Int) × Int × Bool) :=
  Option.bind (pack_Reader_number_P ((1 : Int), m0_0, m0_1, m0_2)) fun (v0 : (Int × ((List Int) × (Int × Bool)))) =>
  some (IntKind.wrap IntKind.i64 v0.fst, v0.snd.fst, v0.snd.snd.fst, v0.snd.snd.snd)
def pack_Reader_U8_P : (List Int) × Int × Bool → Option (Int × (List Int) × Int × Bool) := fun p => pack_Reader_U8_M p.1 p.2.1 p.2.2
def pack_Reader_U8_MM : HL [(.slc (.int .u8)), (.int .i64), .bool] → Option (SumL [[(.int .i64), (.slc (.int .u8)), (.int .i64), .bool]]) := fun p => pack_Reader_U8_M p.1 p.2.1 p.2.2
def pack_Reader_U8_C : Con := ⟨1, pack_Reader_U8_T, pack_Reader_U8_O, stdCn [(.slc (.int .u8)), (.int .i64), .bool] [[(.int .i64), (.slc (.int .u8)), (.int .i64), .bool]] pack_Reader_U8_MM, []⟩

def pack_Reader_Err_T : Tm := ⟨[(0, false, [.ptr 0 0])], 1, [.box [.hole (.slc (.int .u8)), .hole (.int .i64), .hole .bool]]⟩
def pack_Reader_Err_O : List (Ex × Tm) := [(.ret, ⟨[(0, false, [.hole (.int .i64)])], 1, [.box [.hole (.slc (.int .u8)), .hole (.int .i64), .hole .bool]]⟩)]
def pack_Reader_Err_M (m0_0 : List Int) (m0_1 : Int) (m0_2 : Bool) : Option (Int × (List Int) × Int × Bool) :=
  if (!m0_2) = true then
    some ((2 : Int), m0_0, m0_1, m0_2)
  else
  some (m0_1, m0_0, m0_1, m0_2)
def pack_Reader_Err_P : (List Int) × Int × Bool → Option (Int × (List Int) × Int × Bool) := fun p => pack_Reader_Err_M p.1 p.2.1 p.2.2
def pack_Reader_Err_MM : HL [(.slc (.int .u8)), (.int .i64), .bool] → Option (SumL [[(.int .i64), (.slc (.int .u8)), (.int .i64), .bool]]) := fun p => pack_Reader_Err_M p.1 p.2.1 p.2.2
def pack_Reader_Err_C : Con := ⟨1, pack_Reader_Err_T, pack_Reader_Err_O, stdCn [(.slc (.int .u8)), (.int .i64), .bool] [[(.int .i64), (.slc (.int .u8)), (.int .i64), .bool]] pack_Reader_Err_MM, []⟩

def pack_Reader_Left_T : Tm := ⟨[(0, false, [.ptr 0 0])], 1, [.box [.hole (.slc (.int .u8)), .hole (.int .i64), .hole .bool]]⟩
def pack_Reader_Left_O : List (Ex × Tm) := [(.ret, ⟨[(0, false, [.hole (.int .i64)])], 1, [.box [.hole (.slc (.int .u8)), .hole (.int .i64), .hole .bool]]⟩)]
def pack_Reader_Left_M (m0_0 : List Int) (m0_1 : Int) (m0_2 : Bool) : Option (Int × (List Int) × Int × Bool) :=
  some ((((List.length m0_0) : Nat) : Int), m0_0, m0_1, m0_2)
def pack_Reader_Left_P : (List Int) × Int × Bool → Option (Int × (List Int) × Int × Bool) := fun p => pack_Reader_Left_M p.1 p.2.1 p.2.2
def pack_Reader_Left_MM : HL [(.slc (.int .u8)), (.int .i64), .bool] → Option (SumL [[(.int .i64), (.slc (.int .u8)), (.int .i64), .bool]]) := fun p => pack_Reader_Left_M p.1 p.2.1 p.2.2
def pack_Reader_Left_C : Con := ⟨1, pack_Reader_Left_T, pack_Reader_Left_O, stdCn [(.slc (.int .u8)), (.int .i64), .bool] [[(.int .i64), (.slc (.int .u8)), (.int .i64), .bool]] pack_Reader_Left_MM, []⟩

def pack_Reader_End_T : Tm := ⟨[(0, false, [.ptr 0 0])], 1, [.box [.hole (.slc (.int .u8)), .hole (.int .i64), .hole .bool]]⟩
def pack_Reader_End_O : List (Ex × Tm) := [(.ret, ⟨[(0, false, [.hole (.int .i64)])], 1, [.box [.hole (.slc (.int .u8)), .hole (.int .i64), .hole .bool]]⟩)]
def pack_Reader_End_M (m0_0 : List Int) (m0_1 : Int) (m0_2 : Bool) : Option (Int × (List Int) × Int × Bool) :=
  Option.bind (pack_Reader_Err_P (m0_0, m0_1, m0_2)) fun (v0 : (Int × ((List Int) × (Int × Bool)))) =>
  if (v0.fst == (0 : Int)) = true then
    Option.bind (pack_Reader_Left_P (v0.snd.fst, v0.snd.snd.fst, v0.snd.snd.snd)) fun (v1 : (Int × ((List Int) × (Int × Bool)))) =>
    if decide (v1.fst > (0 : Int)) = true then
      some ((3 : Int), v1.snd.fst, v1.snd.snd.fst, v1.snd.snd.snd)
    else
    Option.bind (pack_Reader_Err_P (v1.snd.fst, v1.snd.snd.fst, v1.snd.snd.snd)) fun (v2 : (Int × ((List Int) × (Int × Bool)))) =>
    some (v2.fst, v2.snd.fst, v2.snd.snd.fst, v2.snd.snd.snd)
  else
  Option.bind (pack_Reader_Err_P (v0.snd.fst, v0.snd.snd.fst, v0.snd.snd.snd)) fun (v3 : (Int × ((List Int) × (Int × Bool)))) =>
  some (v3.fst, v3.snd.fst, v3.snd.snd.fst, v3.snd.snd.snd)
def pack_Reader_End_P : (List Int) × Int × Bool → Option (Int × (List Int) × Int × Bool) := fun p => pack_Reader_End_M p.1 p.2.1 p.2.2
def pack_Reader_End_MM : HL [(.slc (.int .u8)), (.int .i64), .bool] → Option (SumL [[(.int .i64), (.slc (.int .u8)), (.int .i64), .bool]]) := fun p => pack_Reader_End_M p.1 p.2.1 p.2.2
def pack_Reader_End_C : Con := ⟨1, pack_Reader_End_T, pack_Reader_End_O, stdCn [(.slc (.int .u8)), (.int .i64), .bool] [[(.int .i64), (.slc (.int .u8)), (.int .i64), .bool]] pack_Reader_End_MM, []⟩

def value_Decode_R1_T : Tm := ⟨[(2, false, [.ptr 0 0]), (4, false, [.ptr 1 0])], 45, [.box [.hole .str, .hole (.int .i64), .hole .str, .nils, .nils, .nils, .hole (.int .i64)], .box [.hole (.slc (.int .u8)), .hole (.int .i64), .hole .bool]]⟩
def value_Decode_R1_O : List (Ex × Tm) := [(.normal, ⟨[(2, false, [.ptr 0 0]), (4, false, [.ptr 1 0]), (5, false, [.ptr 2 0])], 45, [.box [.hole .str, .hole (.int .i64), .hole .str, .nils, .nils, .nils, .hole (.int .i64)], .box [.hole (.slc (.int .u8)), .hole (.int .i64), .hole .bool], .box [.hole .str, .hole (.int .i64), .hole .str, .nils, .nils, .nils, .hole (.int .i64)]]⟩)]
def value_Decode_R1_X (m0_0 : List UInt8) (m0_1 : Int) (m0_2 : List UInt8) (m0_3 : Int) (m1_0 : List Int) (m1_1 : Int) (m1_2 : Bool) : Option ((List UInt8) × Int × (List UInt8) × Int × (List Int) × Int × Bool × (List UInt8) × Int × (List UInt8) × Int) :=
  agree (
    Option.bind (pack_Reader_Bytes_P ((64 : Int), m1_0, m1_1, m1_2)) fun (v0 : ((List Int) × (Int × (Bool × (List Int))))) =>
    agree (
      agree (
        Option.bind (pack_Reader_Num_P ((1099511627776 : Int), v0.fst, v0.snd.fst, v0.snd.snd.fst)) fun (v1 : (Int × ((List Int) × (Int × Bool)))) =>
        some (m0_0, m0_1, m0_2, m0_3, v1.snd.fst, v1.snd.snd.fst, v1.snd.snd.snd, b8 v0.snd.snd.snd, (0 : Int), [], v1.fst)
      ) (
        Option.bind (pack_Reader_Num_P ((1099511627776 : Int), v0.fst, v0.snd.fst, v0.snd.snd.fst)) fun (v2 : (Int × ((List Int) × (Int × Bool)))) =>
        some (m0_0, m0_1, m0_2, m0_3, v2.snd.fst, v2.snd.snd.fst, v2.snd.snd.snd, b8 v0.snd.snd.snd, (0 : Int), [], v2.fst)
      )
    ) (
      agree (
        Option.bind (pack_Reader_Num_P ((1099511627776 : Int), v0.fst, v0.snd.fst, v0.snd.snd.fst)) fun (v3 : (Int × ((List Int) × (Int × Bool)))) =>
        agree (
          some (m0_0, m0_1, m0_2, m0_3, v3.snd.fst, v3.snd.snd.fst, v3.snd.snd.snd, b8 v0.snd.snd.snd, (0 : Int), [], v3.fst)
        ) (
          some (m0_0, m0_1, m0_2, m0_3, v3.snd.fst, v3.snd.snd.fst, v3.snd.snd.snd, b8 v0.snd.snd.snd, (0 : Int), [], v3.fst)
        )
      ) (
        agree (
          Option.bind (pack_Reader_Num_P ((1099511627776 : Int), v0.fst, v0.snd.fst, v0.snd.snd.fst)) fun (v4 : (Int × ((List Int) × (Int × Bool)))) =>
          some (m0_0, m0_1, m0_2, m0_3, v4.snd.fst, v4.snd.snd.fst, v4.snd.snd.snd, b8 v0.snd.snd.snd, (0 : Int), [], v4.fst)
        ) (
          Option.bind (pack_Reader_Num_P ((1099511627776 : Int), v0.fst, v0.snd.fst, v0.snd.snd.fst)) fun (v5 : (Int × ((List Int) × (Int × Bool)))) =>
          some (m0_0, m0_1, m0_2, m0_3, v5.snd.fst, v5.snd.snd.fst, v5.snd.snd.snd, b8 v0.snd.snd.snd, (0 : Int), [], v5.fst)
        )
      )
    )
  ) (
    Option.bind (pack_Reader_Bytes_P ((64 : Int), m1_0, m1_1, m1_2)) fun (v6 : ((List Int) × (Int × (Bool × (List Int))))) =>
    agree (
      Option.bind (pack_Reader_Num_P ((1099511627776 : Int), v6.fst, v6.snd.fst, v6.snd.snd.fst)) fun (v7 : (Int × ((List Int) × (Int × Bool)))) =>
      some (m0_0, m0_1, m0_2, m0_3, v7.snd.fst, v7.snd.snd.fst, v7.snd.snd.snd, b8 v6.snd.snd.snd, (0 : Int), [], v7.fst)
    ) (
      Option.bind (pack_Reader_Num_P ((1099511627776 : Int), v6.fst, v6.snd.fst, v6.snd.snd.fst)) fun (v8 : (Int × ((List Int) × (Int × Bool)))) =>
      some (m0_0, m0_1, m0_2, m0_3, v8.snd.fst, v8.snd.snd.fst, v8.snd.snd.snd, b8 v6.snd.snd.snd, (0 : Int), [], v8.fst)
    )
  )
def value_Decode_R1 (m0_0 : List UInt8) (m0_1 : Int) (m0_2 : List UInt8) (m0_3 : Int) (m1_0 : List Int) (m1_1 : Int) (m1_2 : Bool) : Option ((List UInt8) × Int × (List UInt8) × Int × (List Int) × Int × Bool × (List UInt8) × Int × (List UInt8) × Int) :=
    Option.bind (pack_Reader_Bytes_P ((64 : Int), m1_0, m1_1, m1_2)) fun (v0 : ((List Int) × (Int × (Bool × (List Int))))) =>
        Option.bind (pack_Reader_Num_P ((1099511627776 : Int), v0.fst, v0.snd.fst, v0.snd.snd.fst)) fun (v1 : (Int × ((List Int) × (Int × Bool)))) =>
        some (m0_0, m0_1, m0_2, m0_3, v1.snd.fst, v1.snd.snd.fst, v1.snd.snd.snd, b8 v0.snd.snd.snd, (0 : Int), [], v1.fst)
theorem value_Decode_R1_eq (m0_0 : List UInt8) (m0_1 : Int) (m0_2 : List UInt8) (m0_3 : Int) (m1_0 : List Int) (m1_1 : Int) (m1_2 : Bool) : value_Decode_R1_X m0_0 m0_1 m0_2 m0_3 m1_0 m1_1 m1_2 = value_Decode_R1 m0_0 m0_1 m0_2 m0_3 m1_0 m1_1 m1_2 := by unfold value_Decode_R1_X; simp only [agree_self]; rfl
def value_Decode_R1_P : (List UInt8) × Int × (List UInt8) × Int × (List Int) × Int × Bool → Option ((List UInt8) × Int × (List UInt8) × Int × (List Int) × Int × Bool × (List UInt8) × Int × (List UInt8) × Int) := fun p => value_Decode_R1 p.1 p.2.1 p.2.2.1 p.2.2.2.1 p.2.2.2.2.1 p.2.2.2.2.2.1 p.2.2.2.2.2.2
def value_Decode_R1_MM : HL [.str, (.int .i64), .str, (.int .i64), (.slc (.int .u8)), (.int .i64), .bool] → Option (SumL [[.str, (.int .i64), .str, (.int .i64), (.slc (.int .u8)), (.int .i64), .bool, .str, (.int .i64), .str, (.int .i64)]]) := fun p => value_Decode_R1 p.1 p.2.1 p.2.2.1 p.2.2.2.1 p.2.2.2.2.1 p.2.2.2.2.2.1 p.2.2.2.2.2.2
def value_Decode_R1_C : Con := ⟨2, value_Decode_R1_T, value_Decode_R1_O, stdCn [.str, (.int .i64), .str, (.int .i64), (.slc (.int .u8)), (.int .i64), .bool] [[.str, (.int .i64), .str, (.int .i64), (.slc (.int .u8)), (.int .i64), .bool, .str, (.int .i64), .str, (.int .i64)]] value_Decode_R1_MM, []⟩
def value_Decode_L2_T : Tm := ⟨[(2, false, [.ptr 0 0]), (4, false, [.ptr 1 0]), (5, false, [.ptr 2 0]), (28, false, [.hole (.int .i64)]), (29, false, [.hole (.int .i64)])], 45, [.box [.hole .str, .hole (.int .i64), .hole .str, .nils, .nils, .nils, .hole (.int .i64)], .box [.hole (.slc (.int .u8)), .hole (.int .i64), .hole .bool], .box [.hole .str, .hole (.int .i64), .hole .str, .row 3, .row 4, .row 5, .hole (.int .i64)], .row (.pair .str (.pair .str .unit)), .row .str, .row (.pair .str (.pair (.int .i64) .unit))]⟩
def value_Decode_L2_O : List (Ex × Tm) := [(.exit 0, ⟨[(2, false, [.ptr 0 0]), (4, false, [.ptr 1 0]), (5, false, [.ptr 2 0])], 45, [.box [.hole .str, .hole (.int .i64), .hole .str, .nils, .nils, .nils, .hole (.int .i64)], .box [.hole (.slc (.int .u8)), .hole (.int .i64), .hole .bool], .box [.hole .str, .hole (.int .i64), .hole .str, .row 3, .row 4, .row 5, .hole (.int .i64)], .row (.pair .str (.pair .str .unit)), .row .str, .row (.pair .str (.pair (.int .i64) .unit))]⟩)]
def value_Decode_L2 (s28 : Int) (s29 : Int) (m0_0 : List UInt8) (m0_1 : Int) (m0_2 : List UInt8) (m0_3 : Int) (m1_0 : List Int) (m1_1 : Int) (m1_2 : Bool) (m2_0 : List UInt8) (m2_1 : Int) (m2_2 : List UInt8) (m2_3 : Int) (r3 : List ((List UInt8) × (List UInt8) × Unit)) (r4 : List (List UInt8)) (r5 : List ((List UInt8) × Int × Unit)) : Option ((Int × Int × (List UInt8) × Int × (List UInt8) × Int × (List Int) × Int × Bool × (List UInt8) × Int × (List UInt8) × Int × (List ((List UInt8) × (List UInt8) × Unit)) × (List (List UInt8)) × (List ((List UInt8) × Int × Unit))) ⊕ (((List UInt8) × Int × (List UInt8) × Int × (List Int) × Int × Bool × (List UInt8) × Int × (List UInt8) × Int × (List ((List UInt8) × (List UInt8) × Unit)) × (List (List UInt8)) × (List ((List UInt8) × Int × Unit))))) :=
  if decide (s29 < s28) = true then
    Option.bind (pack_Reader_Bytes_P ((512 : Int), m1_0, m1_1, m1_2)) fun (v0 : ((List Int) × (Int × (Bool × (List Int))))) =>
    if (m2_1 == (2 : Int)) = true then
      Option.bind (pack_Reader_Bytes_P ((512 : Int), v0.fst, v0.snd.fst, v0.snd.snd.fst)) fun (v1 : ((List Int) × (Int × (Bool × (List Int))))) =>
      Option.bind (room (32 : Nat) (List.length r3 + List.length [(b8 v0.snd.snd.snd, b8 v1.snd.snd.snd, ())])) fun _ =>
      some (.inl (s28, IntKind.wrap IntKind.i64 (s29 + (1 : Int)), m0_0, m0_1, m0_2, m0_3, v1.fst, v1.snd.fst, v1.snd.snd.fst, m2_0, m2_1, m2_2, m2_3, r3 ++ [(b8 v0.snd.snd.snd, b8 v1.snd.snd.snd, ())], r4, r5))
    else
    if (m2_1 == (5 : Int)) = true then
      Option.bind (pack_Reader_U64_P (v0.fst, v0.snd.fst, v0.snd.snd.fst)) fun (v3 : (Int × ((List Int) × (Int × Bool)))) =>
      Option.bind (room (24 : Nat) (List.length r5 + List.length [(b8 v0.snd.snd.snd, IntKind.wrap IntKind.i64 v3.fst, ())])) fun _ =>
      some (.inl (s28, IntKind.wrap IntKind.i64 (s29 + (1 : Int)), m0_0, m0_1, m0_2, m0_3, v3.snd.fst, v3.snd.snd.fst, v3.snd.snd.snd, m2_0, m2_1, m2_2, m2_3, r3, r4, r5 ++ [(b8 v0.snd.snd.snd, IntKind.wrap IntKind.i64 v3.fst, ())]))
    else
    Option.bind (room (16 : Nat) (List.length r4 + List.length [b8 v0.snd.snd.snd])) fun _ =>
    some (.inl (s28, IntKind.wrap IntKind.i64 (s29 + (1 : Int)), m0_0, m0_1, m0_2, m0_3, v0.fst, v0.snd.fst, v0.snd.snd.fst, m2_0, m2_1, m2_2, m2_3, r3, r4 ++ [b8 v0.snd.snd.snd], r5))
  else
  some (.inr (m0_0, m0_1, m0_2, m0_3, m1_0, m1_1, m1_2, m2_0, m2_1, m2_2, m2_3, r3, r4, r5))
def value_Decode_L2_P : Int × Int × (List UInt8) × Int × (List UInt8) × Int × (List Int) × Int × Bool × (List UInt8) × Int × (List UInt8) × Int × (List ((List UInt8) × (List UInt8) × Unit)) × (List (List UInt8)) × (List ((List UInt8) × Int × Unit)) → Option ((Int × Int × (List UInt8) × Int × (List UInt8) × Int × (List Int) × Int × Bool × (List UInt8) × Int × (List UInt8) × Int × (List ((List UInt8) × (List UInt8) × Unit)) × (List (List UInt8)) × (List ((List UInt8) × Int × Unit))) ⊕ (((List UInt8) × Int × (List UInt8) × Int × (List Int) × Int × Bool × (List UInt8) × Int × (List UInt8) × Int × (List ((List UInt8) × (List UInt8) × Unit)) × (List (List UInt8)) × (List ((List UInt8) × Int × Unit))))) := fun p => value_Decode_L2 p.1 p.2.1 p.2.2.1 p.2.2.2.1 p.2.2.2.2.1 p.2.2.2.2.2.1 p.2.2.2.2.2.2.1 p.2.2.2.2.2.2.2.1 p.2.2.2.2.2.2.2.2.1 p.2.2.2.2.2.2.2.2.2.1 p.2.2.2.2.2.2.2.2.2.2.1 p.2.2.2.2.2.2.2.2.2.2.2.1 p.2.2.2.2.2.2.2.2.2.2.2.2.1 p.2.2.2.2.2.2.2.2.2.2.2.2.2.1 p.2.2.2.2.2.2.2.2.2.2.2.2.2.2.1 p.2.2.2.2.2.2.2.2.2.2.2.2.2.2.2
def value_Decode_L2_MM : HL [(.int .i64), (.int .i64), .str, (.int .i64), .str, (.int .i64), (.slc (.int .u8)), (.int .i64), .bool, .str, (.int .i64), .str, (.int .i64), (.slc (.pair .str (.pair .str .unit))), (.slc .str), (.slc (.pair .str (.pair (.int .i64) .unit)))] → Option (HL [(.int .i64), (.int .i64), .str, (.int .i64), .str, (.int .i64), (.slc (.int .u8)), (.int .i64), .bool, .str, (.int .i64), .str, (.int .i64), (.slc (.pair .str (.pair .str .unit))), (.slc .str), (.slc (.pair .str (.pair (.int .i64) .unit)))] ⊕ SumL [[.str, (.int .i64), .str, (.int .i64), (.slc (.int .u8)), (.int .i64), .bool, .str, (.int .i64), .str, (.int .i64), (.slc (.pair .str (.pair .str .unit))), (.slc .str), (.slc (.pair .str (.pair (.int .i64) .unit)))]]) := fun p => value_Decode_L2 p.1 p.2.1 p.2.2.1 p.2.2.2.1 p.2.2.2.2.1 p.2.2.2.2.2.1 p.2.2.2.2.2.2.1 p.2.2.2.2.2.2.2.1 p.2.2.2.2.2.2.2.2.1 p.2.2.2.2.2.2.2.2.2.1 p.2.2.2.2.2.2.2.2.2.2.1 p.2.2.2.2.2.2.2.2.2.2.2.1 p.2.2.2.2.2.2.2.2.2.2.2.2.1 p.2.2.2.2.2.2.2.2.2.2.2.2.2.1 p.2.2.2.2.2.2.2.2.2.2.2.2.2.2.1 p.2.2.2.2.2.2.2.2.2.2.2.2.2.2.2
def value_Decode_L2_C : Con := ⟨3, value_Decode_L2_T, value_Decode_L2_O, stdCn [(.int .i64), (.int .i64), .str, (.int .i64), .str, (.int .i64), (.slc (.int .u8)), (.int .i64), .bool, .str, (.int .i64), .str, (.int .i64), (.slc (.pair .str (.pair .str .unit))), (.slc .str), (.slc (.pair .str (.pair (.int .i64) .unit)))] [[.str, (.int .i64), .str, (.int .i64), (.slc (.int .u8)), (.int .i64), .bool, .str, (.int .i64), .str, (.int .i64), (.slc (.pair .str (.pair .str .unit))), (.slc .str), (.slc (.pair .str (.pair (.int .i64) .unit)))]] (loop value_Decode_L2_MM), []⟩
def value_Decode_T : Tm := ⟨[(0, false, [.hole (.slc (.int .u8))])], 1, []⟩
def value_Decode_O : List (Ex × Tm) := [(.ret, ⟨[(0, true, [.hole .str, .hole (.int .i64), .hole .str, .hole (.slc (.pair .str (.pair .str .unit))), .hole (.slc .str), .hole (.slc (.pair .str (.pair (.int .i64) .unit))), .hole (.int .i64)]), (1, false, [.hole (.int .i64)])], 2, []⟩)]
def value_Decode_M (s0 : List Int) : Option ((List UInt8) × Int × (List UInt8) × (List ((List UInt8) × (List UInt8) × Unit)) × (List (List UInt8)) × (List ((List UInt8) × Int × Unit)) × Int × Int) :=
  Option.bind (pack_Read_P s0) fun (v0 : ((List Int) × (Int × Bool))) =>
  Option.bind (value_Decode_R1_P ([], (0 : Int), [], (0 : Int), v0.fst, v0.snd.fst, v0.snd.snd)) fun (v1 : ((List UInt8) × (Int × ((List UInt8) × (Int × ((List Int) × (Int × (Bool × ((List UInt8) × (Int × ((List UInt8) × Int))))))))))) =>
  Option.bind (pack_Reader_U8_P (v1.snd.snd.snd.snd.fst, v1.snd.snd.snd.snd.snd.fst, v1.snd.snd.snd.snd.snd.snd.fst)) fun (v2 : (Int × ((List Int) × (Int × Bool)))) =>
  if (v2.fst == (1 : Int)) = true then
    Option.bind (pack_Reader_Bytes_P ((512 : Int), v2.snd.fst, v2.snd.snd.fst, v2.snd.snd.snd)) fun (v3 : ((List Int) × (Int × (Bool × (List Int))))) =>
    Option.bind (pack_Reader_End_P (v3.fst, v3.snd.fst, v3.snd.snd.fst)) fun (v4 : (Int × ((List Int) × (Int × Bool)))) =>
    if (v4.fst != (0 : Int)) = true then
      some ([], (0 : Int), [], [], [], [], (0 : Int), (3 : Int))
    else
    Option.bind (value_Entry_P (v1.snd.snd.snd.snd.snd.snd.snd.fst, v2.fst, b8 v3.snd.snd.snd, [], [], [], v1.snd.snd.snd.snd.snd.snd.snd.snd.snd.snd)) fun (v5 : Int) =>
    if (v5 != (0 : Int)) = true then
      some ([], (0 : Int), [], [], [], [], (0 : Int), (3 : Int))
    else
    some (v1.snd.snd.snd.snd.snd.snd.snd.fst, v2.fst, b8 v3.snd.snd.snd, [], [], [], v1.snd.snd.snd.snd.snd.snd.snd.snd.snd.snd, (0 : Int))
  else
  Option.bind (pack_Reader_Num_P ((200 : Int), v2.snd.fst, v2.snd.snd.fst, v2.snd.snd.snd)) fun (v6 : (Int × ((List Int) × (Int × Bool)))) =>
  Option.bind (loop value_Decode_L2_P (v6.fst, (0 : Int), v1.fst, v1.snd.fst, v1.snd.snd.fst, v1.snd.snd.snd.fst, v6.snd.fst, v6.snd.snd.fst, v6.snd.snd.snd, v1.snd.snd.snd.snd.snd.snd.snd.fst, v2.fst, v1.snd.snd.snd.snd.snd.snd.snd.snd.snd.fst, v1.snd.snd.snd.snd.snd.snd.snd.snd.snd.snd, [], [], [])) fun (v7 : ((List UInt8) × (Int × ((List UInt8) × (Int × ((List Int) × (Int × (Bool × ((List UInt8) × (Int × ((List UInt8) × (Int × ((List ((List UInt8) × ((List UInt8) × Unit))) × ((List (List UInt8)) × (List ((List UInt8) × (Int × Unit))))))))))))))))) =>
  Option.bind (pack_Reader_End_P (v7.snd.snd.snd.snd.fst, v7.snd.snd.snd.snd.snd.fst, v7.snd.snd.snd.snd.snd.snd.fst)) fun (v8 : (Int × ((List Int) × (Int × Bool)))) =>
  if (v8.fst != (0 : Int)) = true then
    some ([], (0 : Int), [], [], [], [], (0 : Int), (3 : Int))
  else
  Option.bind (value_Entry_P (v7.snd.snd.snd.snd.snd.snd.snd.fst, v7.snd.snd.snd.snd.snd.snd.snd.snd.fst, v7.snd.snd.snd.snd.snd.snd.snd.snd.snd.fst, v7.snd.snd.snd.snd.snd.snd.snd.snd.snd.snd.snd.fst, v7.snd.snd.snd.snd.snd.snd.snd.snd.snd.snd.snd.snd.fst, v7.snd.snd.snd.snd.snd.snd.snd.snd.snd.snd.snd.snd.snd, v7.snd.snd.snd.snd.snd.snd.snd.snd.snd.snd.fst)) fun (v9 : Int) =>
  if (v9 != (0 : Int)) = true then
    some ([], (0 : Int), [], [], [], [], (0 : Int), (3 : Int))
  else
  some (v7.snd.snd.snd.snd.snd.snd.snd.fst, v7.snd.snd.snd.snd.snd.snd.snd.snd.fst, v7.snd.snd.snd.snd.snd.snd.snd.snd.snd.fst, v7.snd.snd.snd.snd.snd.snd.snd.snd.snd.snd.snd.fst, v7.snd.snd.snd.snd.snd.snd.snd.snd.snd.snd.snd.snd.fst, v7.snd.snd.snd.snd.snd.snd.snd.snd.snd.snd.snd.snd.snd, v7.snd.snd.snd.snd.snd.snd.snd.snd.snd.snd.fst, (0 : Int))
def value_Decode_P : (List Int) → Option ((List UInt8) × Int × (List UInt8) × (List ((List UInt8) × (List UInt8) × Unit)) × (List (List UInt8)) × (List ((List UInt8) × Int × Unit)) × Int × Int) := fun p => value_Decode_M p
def value_Decode_MM : HL [(.slc (.int .u8))] → Option (SumL [[.str, (.int .i64), .str, (.slc (.pair .str (.pair .str .unit))), (.slc .str), (.slc (.pair .str (.pair (.int .i64) .unit))), (.int .i64), (.int .i64)]]) := fun p => value_Decode_M p
def value_Decode_C : Con := ⟨0, value_Decode_T, value_Decode_O, stdCn [(.slc (.int .u8))] [[.str, (.int .i64), .str, (.slc (.pair .str (.pair .str .unit))), (.slc .str), (.slc (.pair .str (.pair (.int .i64) .unit))), (.int .i64), (.int .i64)]] value_Decode_MM, []⟩

def intaglioref01_In_fail_T : Tm := ⟨[(0, false, [.ptr 0 0]), (1, false, [.hole (.int .i64)])], 2, [.box [.hole (.slc (.int .u8)), .hole (.int .i64)]]⟩
def intaglioref01_In_fail_O : List (Ex × Tm) := [(.ret, ⟨[], 0, [.box [.nils, .hole (.int .i64)]]⟩)]
def intaglioref01_In_fail_M (s1 : Int) (m0_0 : List Int) (m0_1 : Int) : Option (Int) :=
  if (m0_1 == (0 : Int)) = true then
    some (s1)
  else
  some (m0_1)
def intaglioref01_In_fail_P : Int × (List Int) × Int → Option (Int) := fun p => intaglioref01_In_fail_M p.1 p.2.1 p.2.2
def intaglioref01_In_fail_MM : HL [(.int .i64), (.slc (.int .u8)), (.int .i64)] → Option (SumL [[(.int .i64)]]) := fun p => intaglioref01_In_fail_M p.1 p.2.1 p.2.2
def intaglioref01_In_fail_C : Con := ⟨1, intaglioref01_In_fail_T, intaglioref01_In_fail_O, stdCn [(.int .i64), (.slc (.int .u8)), (.int .i64)] [[(.int .i64)]] intaglioref01_In_fail_MM, []⟩

def intaglioref01_In_U_L1_T : Tm := ⟨[(0, false, [.ptr 0 0]), (1, false, [.hole (.int .i64)]), (5, false, [.hole (.int .u64)]), (6, false, [.hole (.int .i64)])], 42, [.box [.hole (.slc (.int .u8)), .hole (.int .i64)]]⟩
def intaglioref01_In_U_L1_O : List (Ex × Tm) := [(.exit 0, ⟨[(0, false, [.ptr 0 0]), (1, false, [.hole (.int .i64)]), (5, false, [.hole (.int .u64)])], 42, [.box [.hole (.slc (.int .u8)), .hole (.int .i64)]]⟩)]
def intaglioref01_In_U_L1 (s1 : Int) (s5 : Int) (s6 : Int) (m0_0 : List Int) (m0_1 : Int) : Option ((Int × Int × Int × (List Int) × Int) ⊕ ((Int × Int × (List Int) × Int))) :=
  if decide (s6 < s1) = true then
    Option.bind (ix m0_0 s6) fun (v0 : Int) =>
    some (.inl (s1, IntKind.wrap IntKind.u64 (IntKind.wrap IntKind.u64 ((256 : Int) * s5) + IntKind.wrap IntKind.u64 v0), IntKind.wrap IntKind.i64 (s6 + (1 : Int)), m0_0, m0_1))
  else
  some (.inr (s1, s5, m0_0, m0_1))
def intaglioref01_In_U_L1_P : Int × Int × Int × (List Int) × Int → Option ((Int × Int × Int × (List Int) × Int) ⊕ ((Int × Int × (List Int) × Int))) := fun p => intaglioref01_In_U_L1 p.1 p.2.1 p.2.2.1 p.2.2.2.1 p.2.2.2.2
def intaglioref01_In_U_L1_MM : HL [(.int .i64), (.int .u64), (.int .i64), (.slc (.int .u8)), (.int .i64)] → Option (HL [(.int .i64), (.int .u64), (.int .i64), (.slc (.int .u8)), (.int .i64)] ⊕ SumL [[(.int .i64), (.int .u64), (.slc (.int .u8)), (.int .i64)]]) := fun p => intaglioref01_In_U_L1 p.1 p.2.1 p.2.2.1 p.2.2.2.1 p.2.2.2.2
def intaglioref01_In_U_L1_C : Con := ⟨1, intaglioref01_In_U_L1_T, intaglioref01_In_U_L1_O, stdCn [(.int .i64), (.int .u64), (.int .i64), (.slc (.int .u8)), (.int .i64)] [[(.int .i64), (.int .u64), (.slc (.int .u8)), (.int .i64)]] (loop intaglioref01_In_U_L1_MM), []⟩
def intaglioref01_In_U_T : Tm := ⟨[(0, false, [.ptr 0 0]), (1, false, [.hole (.int .i64)])], 2, [.box [.hole (.slc (.int .u8)), .hole (.int .i64)]]⟩
def intaglioref01_In_U_O : List (Ex × Tm) := [(.ret, ⟨[(0, false, [.hole (.int .u64)])], 1, [.box [.hole (.slc (.int .u8)), .hole (.int .i64)]]⟩)]
def intaglioref01_In_U_M (s1 : Int) (m0_0 : List Int) (m0_1 : Int) : Option (Int × (List Int) × Int) :=
  if decide ((((List.length m0_0) : Nat) : Int) < s1) = true then
    Option.bind (intaglioref01_In_fail_P ((4 : Int), m0_0, m0_1)) fun (v0 : Int) =>
    some ((0 : Int), [], v0)
  else
  Option.bind (loop intaglioref01_In_U_L1_P (s1, (0 : Int), (0 : Int), m0_0, m0_1)) fun (v1 : (Int × (Int × ((List Int) × Int)))) =>
  Option.bind (sub v1.snd.snd.fst v1.fst (((List.length v1.snd.snd.fst) : Nat) : Int)) fun (v2 : (List Int)) =>
  some (v1.snd.fst, v2, v1.snd.snd.snd)
def intaglioref01_In_U_P : Int × (List Int) × Int → Option (Int × (List Int) × Int) := fun p => intaglioref01_In_U_M p.1 p.2.1 p.2.2
def intaglioref01_In_U_MM : HL [(.int .i64), (.slc (.int .u8)), (.int .i64)] → Option (SumL [[(.int .u64), (.slc (.int .u8)), (.int .i64)]]) := fun p => intaglioref01_In_U_M p.1 p.2.1 p.2.2
def intaglioref01_In_U_C : Con := ⟨1, intaglioref01_In_U_T, intaglioref01_In_U_O, stdCn [(.int .i64), (.slc (.int .u8)), (.int .i64)] [[(.int .u64), (.slc (.int .u8)), (.int .i64)]] intaglioref01_In_U_MM, []⟩

def intaglioref01_In_Bytes_T : Tm := ⟨[(0, false, [.ptr 0 0]), (1, false, [.hole (.int .i64)])], 2, [.box [.hole (.slc (.int .u8)), .hole (.int .i64)]]⟩
def intaglioref01_In_Bytes_O : List (Ex × Tm) := [(.ret, ⟨[(0, false, [.row 1])], 1, [.box [.hole (.slc (.int .u8)), .hole (.int .i64)], .row (.int .u8)]⟩)]
def intaglioref01_In_Bytes_M (s1 : Int) (m0_0 : List Int) (m0_1 : Int) : Option ((List Int) × Int × (List Int)) :=
  Option.bind (intaglioref01_In_U_P ((4 : Int), m0_0, m0_1)) fun (v0 : (Int × ((List Int) × Int))) =>
  if (v0.snd.snd == (0 : Int)) = true then
    if decide (IntKind.wrap IntKind.i64 v0.fst > s1) = true then
      Option.bind (intaglioref01_In_fail_P ((5 : Int), v0.snd.fst, v0.snd.snd)) fun (v1 : Int) =>
      if (v1 == (0 : Int)) = true then
        if decide (IntKind.wrap IntKind.i64 v0.fst > (0 : Int)) = true then
          Option.bind (intaglioref01_In_fail_P ((4 : Int), [], v1)) fun (v2 : Int) =>
          if (v2 != (0 : Int)) = true then
            some ([], v2, [])
          else
          Option.bind (subn (0 : Nat) (0 : Int) (IntKind.wrap IntKind.i64 v0.fst)) fun _ =>
          Option.bind (intaglioref01_Both_P ([], [])) fun (v4 : (List Int)) =>
          Option.bind (subn (0 : Nat) (IntKind.wrap IntKind.i64 v0.fst) (0 : Int)) fun _ =>
          some ([], v2, v4)
        else
        if (v1 != (0 : Int)) = true then
          some ([], v1, [])
        else
        Option.bind (subn (0 : Nat) (0 : Int) (IntKind.wrap IntKind.i64 v0.fst)) fun _ =>
        Option.bind (intaglioref01_Both_P ([], [])) fun (v7 : (List Int)) =>
        Option.bind (subn (0 : Nat) (IntKind.wrap IntKind.i64 v0.fst) (0 : Int)) fun _ =>
        some ([], v1, v7)
      else
      if (v1 != (0 : Int)) = true then
        some ([], v1, [])
      else
      Option.bind (subn (0 : Nat) (0 : Int) (IntKind.wrap IntKind.i64 v0.fst)) fun _ =>
      Option.bind (intaglioref01_Both_P ([], [])) fun (v10 : (List Int)) =>
      Option.bind (subn (0 : Nat) (IntKind.wrap IntKind.i64 v0.fst) (0 : Int)) fun _ =>
      some ([], v1, v10)
    else
    if (v0.snd.snd == (0 : Int)) = true then
      if decide (IntKind.wrap IntKind.i64 v0.fst > (((List.length v0.snd.fst) : Nat) : Int)) = true then
        Option.bind (intaglioref01_In_fail_P ((4 : Int), v0.snd.fst, v0.snd.snd)) fun (v12 : Int) =>
        if (v12 != (0 : Int)) = true then
          some ([], v12, [])
        else
        Option.bind (subn (0 : Nat) (0 : Int) (IntKind.wrap IntKind.i64 v0.fst)) fun _ =>
        Option.bind (intaglioref01_Both_P ([], [])) fun (v14 : (List Int)) =>
        Option.bind (subn (0 : Nat) (IntKind.wrap IntKind.i64 v0.fst) (0 : Int)) fun _ =>
        some ([], v12, v14)
      else
      if (v0.snd.snd != (0 : Int)) = true then
        some (v0.snd.fst, v0.snd.snd, [])
      else
      Option.bind (sub v0.snd.fst (0 : Int) (IntKind.wrap IntKind.i64 v0.fst)) fun (v16 : (List Int)) =>
      Option.bind (intaglioref01_Both_P ([], v16)) fun (v17 : (List Int)) =>
      Option.bind (sub v0.snd.fst (IntKind.wrap IntKind.i64 v0.fst) (((List.length v0.snd.fst) : Nat) : Int)) fun (v18 : (List Int)) =>
      some (v18, v0.snd.snd, v17)
    else
    if (v0.snd.snd != (0 : Int)) = true then
      some (v0.snd.fst, v0.snd.snd, [])
    else
    Option.bind (sub v0.snd.fst (0 : Int) (IntKind.wrap IntKind.i64 v0.fst)) fun (v19 : (List Int)) =>
    Option.bind (intaglioref01_Both_P ([], v19)) fun (v20 : (List Int)) =>
    Option.bind (sub v0.snd.fst (IntKind.wrap IntKind.i64 v0.fst) (((List.length v0.snd.fst) : Nat) : Int)) fun (v21 : (List Int)) =>
    some (v21, v0.snd.snd, v20)
  else
  if (v0.snd.snd == (0 : Int)) = true then
    if decide (IntKind.wrap IntKind.i64 v0.fst > (((List.length v0.snd.fst) : Nat) : Int)) = true then
      Option.bind (intaglioref01_In_fail_P ((4 : Int), v0.snd.fst, v0.snd.snd)) fun (v22 : Int) =>
      if (v22 != (0 : Int)) = true then
        some ([], v22, [])
      else
      Option.bind (subn (0 : Nat) (0 : Int) (IntKind.wrap IntKind.i64 v0.fst)) fun _ =>
      Option.bind (intaglioref01_Both_P ([], [])) fun (v24 : (List Int)) =>
      Option.bind (subn (0 : Nat) (IntKind.wrap IntKind.i64 v0.fst) (0 : Int)) fun _ =>
      some ([], v22, v24)
    else
    if (v0.snd.snd != (0 : Int)) = true then
      some (v0.snd.fst, v0.snd.snd, [])
    else
    Option.bind (sub v0.snd.fst (0 : Int) (IntKind.wrap IntKind.i64 v0.fst)) fun (v26 : (List Int)) =>
    Option.bind (intaglioref01_Both_P ([], v26)) fun (v27 : (List Int)) =>
    Option.bind (sub v0.snd.fst (IntKind.wrap IntKind.i64 v0.fst) (((List.length v0.snd.fst) : Nat) : Int)) fun (v28 : (List Int)) =>
    some (v28, v0.snd.snd, v27)
  else
  if (v0.snd.snd != (0 : Int)) = true then
    some (v0.snd.fst, v0.snd.snd, [])
  else
  Option.bind (sub v0.snd.fst (0 : Int) (IntKind.wrap IntKind.i64 v0.fst)) fun (v29 : (List Int)) =>
  Option.bind (intaglioref01_Both_P ([], v29)) fun (v30 : (List Int)) =>
  Option.bind (sub v0.snd.fst (IntKind.wrap IntKind.i64 v0.fst) (((List.length v0.snd.fst) : Nat) : Int)) fun (v31 : (List Int)) =>
  some (v31, v0.snd.snd, v30)
def intaglioref01_In_Bytes_P : Int × (List Int) × Int → Option ((List Int) × Int × (List Int)) := fun p => intaglioref01_In_Bytes_M p.1 p.2.1 p.2.2
def intaglioref01_In_Bytes_MM : HL [(.int .i64), (.slc (.int .u8)), (.int .i64)] → Option (SumL [[(.slc (.int .u8)), (.int .i64), (.slc (.int .u8))]]) := fun p => intaglioref01_In_Bytes_M p.1 p.2.1 p.2.2
def intaglioref01_In_Bytes_C : Con := ⟨1, intaglioref01_In_Bytes_T, intaglioref01_In_Bytes_O, stdCn [(.int .i64), (.slc (.int .u8)), (.int .i64)] [[(.slc (.int .u8)), (.int .i64), (.slc (.int .u8))]] intaglioref01_In_Bytes_MM, []⟩

def intaglioref01_In_Num_T : Tm := ⟨[(0, false, [.ptr 0 0]), (1, false, [.hole (.int .i64)])], 2, [.box [.hole (.slc (.int .u8)), .hole (.int .i64)]]⟩
def intaglioref01_In_Num_O : List (Ex × Tm) := [(.ret, ⟨[(0, false, [.hole (.int .i64)])], 1, [.box [.hole (.slc (.int .u8)), .hole (.int .i64)]]⟩)]
def intaglioref01_In_Num_M (s1 : Int) (m0_0 : List Int) (m0_1 : Int) : Option (Int × (List Int) × Int) :=
  Option.bind (intaglioref01_In_U_P ((8 : Int), m0_0, m0_1)) fun (v0 : (Int × ((List Int) × Int))) =>
  if (v0.snd.snd == (0 : Int)) = true then
    if decide (v0.fst ≥ (9223372036854775808 : Int)) = true then
      Option.bind (intaglioref01_In_fail_P ((5 : Int), v0.snd.fst, v0.snd.snd)) fun (v1 : Int) =>
      some ((0 : Int), [], v1)
    else
    if decide (IntKind.wrap IntKind.i64 v0.fst > s1) = true then
      Option.bind (intaglioref01_In_fail_P ((5 : Int), v0.snd.fst, v0.snd.snd)) fun (v2 : Int) =>
      some ((0 : Int), [], v2)
    else
    some (IntKind.wrap IntKind.i64 v0.fst, v0.snd.fst, v0.snd.snd)
  else
  some (IntKind.wrap IntKind.i64 v0.fst, v0.snd.fst, v0.snd.snd)
def intaglioref01_In_Num_P : Int × (List Int) × Int → Option (Int × (List Int) × Int) := fun p => intaglioref01_In_Num_M p.1 p.2.1 p.2.2
def intaglioref01_In_Num_MM : HL [(.int .i64), (.slc (.int .u8)), (.int .i64)] → Option (SumL [[(.int .i64), (.slc (.int .u8)), (.int .i64)]]) := fun p => intaglioref01_In_Num_M p.1 p.2.1 p.2.2
def intaglioref01_In_Num_C : Con := ⟨1, intaglioref01_In_Num_T, intaglioref01_In_Num_O, stdCn [(.int .i64), (.slc (.int .u8)), (.int .i64)] [[(.int .i64), (.slc (.int .u8)), (.int .i64)]] intaglioref01_In_Num_MM, []⟩

def intaglioref07_Same_L1_T : Tm := ⟨[(0, false, [.hole (.slc (.int .u8))]), (1, false, [.hole (.slc (.int .u8))]), (5, false, [.hole (.int .i64)])], 26, []⟩
def intaglioref07_Same_L1_O : List (Ex × Tm) := [(.exit 0, ⟨[], 26, []⟩), (.ret, ⟨[(4, false, [.hole .bool])], 26, []⟩)]
def intaglioref07_Same_L1 (s0 : List Int) (s1 : List Int) (s5 : Int) : Option (((List Int) × (List Int) × Int) ⊕ ((Unit) ⊕ (Bool))) :=
  if decide (s5 < (((List.length s0) : Nat) : Int)) = true then
    Option.bind (ix s0 s5) fun (v0 : Int) =>
    Option.bind (ix s1 s5) fun (v1 : Int) =>
    if (v0 != v1) = true then
      some (.inr (.inr (false)))
    else
    some (.inl (s0, s1, IntKind.wrap IntKind.i64 (s5 + (1 : Int))))
  else
  some (.inr (.inl (())))
def intaglioref07_Same_L1_P : (List Int) × (List Int) × Int → Option (((List Int) × (List Int) × Int) ⊕ ((Unit) ⊕ (Bool))) := fun p => intaglioref07_Same_L1 p.1 p.2.1 p.2.2
def intaglioref07_Same_L1_MM : HL [(.slc (.int .u8)), (.slc (.int .u8)), (.int .i64)] → Option (HL [(.slc (.int .u8)), (.slc (.int .u8)), (.int .i64)] ⊕ SumL [[], [.bool]]) := fun p => intaglioref07_Same_L1 p.1 p.2.1 p.2.2
def intaglioref07_Same_L1_C : Con := ⟨0, intaglioref07_Same_L1_T, intaglioref07_Same_L1_O, stdCn [(.slc (.int .u8)), (.slc (.int .u8)), (.int .i64)] [[], [.bool]] (loop intaglioref07_Same_L1_MM), []⟩
def intaglioref07_Same_T : Tm := ⟨[(0, false, [.hole (.slc (.int .u8))]), (1, false, [.hole (.slc (.int .u8))])], 2, []⟩
def intaglioref07_Same_O : List (Ex × Tm) := [(.ret, ⟨[(0, false, [.hole .bool])], 1, []⟩)]
def intaglioref07_Same_M (s0 : List Int) (s1 : List Int) : Option (Bool) :=
  if ((((List.length s0) : Nat) : Int) != (((List.length s1) : Nat) : Int)) = true then
    some (false)
  else
  Option.bind (loop intaglioref07_Same_L1_P (s0, s1, (0 : Int))) fun (v0 : (Unit ⊕ Bool)) =>
  Sum.elim (fun _ =>
      some (true)
    ) (fun (v2 : Bool) =>
    some (v2)
  ) (v0)
def intaglioref07_Same_P : (List Int) × (List Int) → Option (Bool) := fun p => intaglioref07_Same_M p.1 p.2
def intaglioref07_Same_MM : HL [(.slc (.int .u8)), (.slc (.int .u8))] → Option (SumL [[.bool]]) := fun p => intaglioref07_Same_M p.1 p.2
def intaglioref07_Same_C : Con := ⟨0, intaglioref07_Same_T, intaglioref07_Same_O, stdCn [(.slc (.int .u8)), (.slc (.int .u8))] [[.bool]] intaglioref07_Same_MM, []⟩

def intaglioref15_Decode_L1_T : Tm := ⟨[(0, false, [.hole (.slc (.int .u8))]), (2, false, [.ptr 0 0]), (4, false, [.ptr 1 0]), (5, false, [.ptr 2 0]), (6, false, [.hole (.int .i64)]), (7, false, [.hole (.int .i64)])], 109, [.box [.hole .str, .hole (.int .i64), .hole .str, .nils, .nils, .nils, .hole (.int .i64)], .box [.hole (.slc (.int .u8)), .hole (.int .i64)], .box [.hole .str, .hole (.int .i64), .hole .str, .row 3, .row 4, .row 5, .hole (.int .i64)], .row (.pair .str (.pair .str .unit)), .row .str, .row (.pair .str (.pair (.int .i64) .unit))]⟩
def intaglioref15_Decode_L1_O : List (Ex × Tm) := [(.exit 0, ⟨[(0, false, [.hole (.slc (.int .u8))]), (2, false, [.ptr 0 0]), (4, false, [.ptr 1 0]), (5, false, [.ptr 2 0])], 109, [.box [.hole .str, .hole (.int .i64), .hole .str, .nils, .nils, .nils, .hole (.int .i64)], .box [.hole (.slc (.int .u8)), .hole (.int .i64)], .box [.hole .str, .hole (.int .i64), .hole .str, .row 3, .row 4, .row 5, .hole (.int .i64)], .row (.pair .str (.pair .str .unit)), .row .str, .row (.pair .str (.pair (.int .i64) .unit))]⟩)]
def intaglioref15_Decode_L1 (s0 : List Int) (s6 : Int) (s7 : Int) (m0_0 : List UInt8) (m0_1 : Int) (m0_2 : List UInt8) (m0_3 : Int) (m1_0 : List Int) (m1_1 : Int) (m2_0 : List UInt8) (m2_1 : Int) (m2_2 : List UInt8) (m2_3 : Int) (r3 : List ((List UInt8) × (List UInt8) × Unit)) (r4 : List (List UInt8)) (r5 : List ((List UInt8) × Int × Unit)) : Option (((List Int) × Int × Int × (List UInt8) × Int × (List UInt8) × Int × (List Int) × Int × (List UInt8) × Int × (List UInt8) × Int × (List ((List UInt8) × (List UInt8) × Unit)) × (List (List UInt8)) × (List ((List UInt8) × Int × Unit))) ⊕ (((List Int) × (List UInt8) × Int × (List UInt8) × Int × (List Int) × Int × (List UInt8) × Int × (List UInt8) × Int × (List ((List UInt8) × (List UInt8) × Unit)) × (List (List UInt8)) × (List ((List UInt8) × Int × Unit))))) :=
  if decide (s7 < s6) = true then
    Option.bind (intaglioref01_In_Bytes_P ((512 : Int), m1_0, m1_1)) fun (v0 : ((List Int) × (Int × (List Int)))) =>
    if (m2_1 == (2 : Int)) = true then
      Option.bind (intaglioref01_In_Bytes_P ((512 : Int), v0.fst, v0.snd.fst)) fun (v1 : ((List Int) × (Int × (List Int)))) =>
      Option.bind (room (32 : Nat) (List.length r3 + List.length [(b8 v0.snd.snd, b8 v1.snd.snd, ())])) fun _ =>
      some (.inl (s0, s6, IntKind.wrap IntKind.i64 (s7 + (1 : Int)), m0_0, m0_1, m0_2, m0_3, v1.fst, v1.snd.fst, m2_0, m2_1, m2_2, m2_3, r3 ++ [(b8 v0.snd.snd, b8 v1.snd.snd, ())], r4, r5))
    else
    if (m2_1 == (5 : Int)) = true then
      Option.bind (intaglioref01_In_U_P ((8 : Int), v0.fst, v0.snd.fst)) fun (v3 : (Int × ((List Int) × Int))) =>
      Option.bind (room (24 : Nat) (List.length r5 + List.length [(b8 v0.snd.snd, IntKind.wrap IntKind.i64 v3.fst, ())])) fun _ =>
      some (.inl (s0, s6, IntKind.wrap IntKind.i64 (s7 + (1 : Int)), m0_0, m0_1, m0_2, m0_3, v3.snd.fst, v3.snd.snd, m2_0, m2_1, m2_2, m2_3, r3, r4, r5 ++ [(b8 v0.snd.snd, IntKind.wrap IntKind.i64 v3.fst, ())]))
    else
    Option.bind (room (16 : Nat) (List.length r4 + List.length [b8 v0.snd.snd])) fun _ =>
    some (.inl (s0, s6, IntKind.wrap IntKind.i64 (s7 + (1 : Int)), m0_0, m0_1, m0_2, m0_3, v0.fst, v0.snd.fst, m2_0, m2_1, m2_2, m2_3, r3, r4 ++ [b8 v0.snd.snd], r5))
  else
  some (.inr (s0, m0_0, m0_1, m0_2, m0_3, m1_0, m1_1, m2_0, m2_1, m2_2, m2_3, r3, r4, r5))
def intaglioref15_Decode_L1_P : (List Int) × Int × Int × (List UInt8) × Int × (List UInt8) × Int × (List Int) × Int × (List UInt8) × Int × (List UInt8) × Int × (List ((List UInt8) × (List UInt8) × Unit)) × (List (List UInt8)) × (List ((List UInt8) × Int × Unit)) → Option (((List Int) × Int × Int × (List UInt8) × Int × (List UInt8) × Int × (List Int) × Int × (List UInt8) × Int × (List UInt8) × Int × (List ((List UInt8) × (List UInt8) × Unit)) × (List (List UInt8)) × (List ((List UInt8) × Int × Unit))) ⊕ (((List Int) × (List UInt8) × Int × (List UInt8) × Int × (List Int) × Int × (List UInt8) × Int × (List UInt8) × Int × (List ((List UInt8) × (List UInt8) × Unit)) × (List (List UInt8)) × (List ((List UInt8) × Int × Unit))))) := fun p => intaglioref15_Decode_L1 p.1 p.2.1 p.2.2.1 p.2.2.2.1 p.2.2.2.2.1 p.2.2.2.2.2.1 p.2.2.2.2.2.2.1 p.2.2.2.2.2.2.2.1 p.2.2.2.2.2.2.2.2.1 p.2.2.2.2.2.2.2.2.2.1 p.2.2.2.2.2.2.2.2.2.2.1 p.2.2.2.2.2.2.2.2.2.2.2.1 p.2.2.2.2.2.2.2.2.2.2.2.2.1 p.2.2.2.2.2.2.2.2.2.2.2.2.2.1 p.2.2.2.2.2.2.2.2.2.2.2.2.2.2.1 p.2.2.2.2.2.2.2.2.2.2.2.2.2.2.2
def intaglioref15_Decode_L1_MM : HL [(.slc (.int .u8)), (.int .i64), (.int .i64), .str, (.int .i64), .str, (.int .i64), (.slc (.int .u8)), (.int .i64), .str, (.int .i64), .str, (.int .i64), (.slc (.pair .str (.pair .str .unit))), (.slc .str), (.slc (.pair .str (.pair (.int .i64) .unit)))] → Option (HL [(.slc (.int .u8)), (.int .i64), (.int .i64), .str, (.int .i64), .str, (.int .i64), (.slc (.int .u8)), (.int .i64), .str, (.int .i64), .str, (.int .i64), (.slc (.pair .str (.pair .str .unit))), (.slc .str), (.slc (.pair .str (.pair (.int .i64) .unit)))] ⊕ SumL [[(.slc (.int .u8)), .str, (.int .i64), .str, (.int .i64), (.slc (.int .u8)), (.int .i64), .str, (.int .i64), .str, (.int .i64), (.slc (.pair .str (.pair .str .unit))), (.slc .str), (.slc (.pair .str (.pair (.int .i64) .unit)))]]) := fun p => intaglioref15_Decode_L1 p.1 p.2.1 p.2.2.1 p.2.2.2.1 p.2.2.2.2.1 p.2.2.2.2.2.1 p.2.2.2.2.2.2.1 p.2.2.2.2.2.2.2.1 p.2.2.2.2.2.2.2.2.1 p.2.2.2.2.2.2.2.2.2.1 p.2.2.2.2.2.2.2.2.2.2.1 p.2.2.2.2.2.2.2.2.2.2.2.1 p.2.2.2.2.2.2.2.2.2.2.2.2.1 p.2.2.2.2.2.2.2.2.2.2.2.2.2.1 p.2.2.2.2.2.2.2.2.2.2.2.2.2.2.1 p.2.2.2.2.2.2.2.2.2.2.2.2.2.2.2
def intaglioref15_Decode_L1_C : Con := ⟨3, intaglioref15_Decode_L1_T, intaglioref15_Decode_L1_O, stdCn [(.slc (.int .u8)), (.int .i64), (.int .i64), .str, (.int .i64), .str, (.int .i64), (.slc (.int .u8)), (.int .i64), .str, (.int .i64), .str, (.int .i64), (.slc (.pair .str (.pair .str .unit))), (.slc .str), (.slc (.pair .str (.pair (.int .i64) .unit)))] [[(.slc (.int .u8)), .str, (.int .i64), .str, (.int .i64), (.slc (.int .u8)), (.int .i64), .str, (.int .i64), .str, (.int .i64), (.slc (.pair .str (.pair .str .unit))), (.slc .str), (.slc (.pair .str (.pair (.int .i64) .unit)))]] (loop intaglioref15_Decode_L1_MM), []⟩
def intaglioref15_Decode_T : Tm := ⟨[(0, false, [.hole (.slc (.int .u8))])], 1, []⟩
def intaglioref15_Decode_O : List (Ex × Tm) := [(.ret, ⟨[(0, true, [.hole .str, .hole (.int .i64), .hole .str, .hole (.slc (.pair .str (.pair .str .unit))), .hole (.slc .str), .hole (.slc (.pair .str (.pair (.int .i64) .unit))), .hole (.int .i64)]), (1, false, [.hole (.int .i64)])], 2, []⟩)]
def intaglioref15_Decode_M (s0 : List Int) : Option ((List UInt8) × Int × (List UInt8) × (List ((List UInt8) × (List UInt8) × Unit)) × (List (List UInt8)) × (List ((List UInt8) × Int × Unit)) × Int × Int) :=
  Option.bind (intaglioref01_Both_P ([], s0)) fun (v0 : (List Int)) =>
  Option.bind (intaglioref01_In_Bytes_P ((64 : Int), v0, (0 : Int))) fun (v1 : ((List Int) × (Int × (List Int)))) =>
  Option.bind (intaglioref01_In_Num_P ((1099511627776 : Int), v1.fst, v1.snd.fst)) fun (v2 : (Int × ((List Int) × Int))) =>
  Option.bind (intaglioref01_In_U_P ((1 : Int), v2.snd.fst, v2.snd.snd)) fun (v3 : (Int × ((List Int) × Int))) =>
  if (IntKind.wrap IntKind.i64 v3.fst == (1 : Int)) = true then
    Option.bind (intaglioref01_In_Bytes_P ((512 : Int), v3.snd.fst, v3.snd.snd)) fun (v4 : ((List Int) × (Int × (List Int)))) =>
    Option.bind (loop intaglioref15_Decode_L1_P (s0, (0 : Int), (0 : Int), [], (0 : Int), [], (0 : Int), v4.fst, v4.snd.fst, b8 v1.snd.snd, IntKind.wrap IntKind.i64 v3.fst, b8 v4.snd.snd, v2.fst, [], [], [])) fun (v5 : ((List Int) × ((List UInt8) × (Int × ((List UInt8) × (Int × ((List Int) × (Int × ((List UInt8) × (Int × ((List UInt8) × (Int × ((List ((List UInt8) × ((List UInt8) × Unit))) × ((List (List UInt8)) × (List ((List UInt8) × (Int × Unit))))))))))))))))) =>
    Option.bind (intaglioref15_Encode_P (v5.snd.snd.snd.snd.snd.snd.snd.fst, v5.snd.snd.snd.snd.snd.snd.snd.snd.fst, v5.snd.snd.snd.snd.snd.snd.snd.snd.snd.fst, v5.snd.snd.snd.snd.snd.snd.snd.snd.snd.snd.snd.fst, v5.snd.snd.snd.snd.snd.snd.snd.snd.snd.snd.snd.snd.fst, v5.snd.snd.snd.snd.snd.snd.snd.snd.snd.snd.snd.snd.snd, v5.snd.snd.snd.snd.snd.snd.snd.snd.snd.snd.fst)) fun (v6 : (Int × (List Int))) =>
    if (v5.snd.snd.snd.snd.snd.snd.fst != (0 : Int)) = true then
      some ([], (0 : Int), [], [], [], [], (0 : Int), (3 : Int))
    else
    if (v6.fst != (0 : Int)) = true then
      some ([], (0 : Int), [], [], [], [], (0 : Int), (3 : Int))
    else
    Option.bind (intaglioref07_Same_P (v6.snd, v5.fst)) fun (v7 : Bool) =>
    if (!v7) = true then
      some ([], (0 : Int), [], [], [], [], (0 : Int), (3 : Int))
    else
    some (v5.snd.snd.snd.snd.snd.snd.snd.fst, v5.snd.snd.snd.snd.snd.snd.snd.snd.fst, v5.snd.snd.snd.snd.snd.snd.snd.snd.snd.fst, v5.snd.snd.snd.snd.snd.snd.snd.snd.snd.snd.snd.fst, v5.snd.snd.snd.snd.snd.snd.snd.snd.snd.snd.snd.snd.fst, v5.snd.snd.snd.snd.snd.snd.snd.snd.snd.snd.snd.snd.snd, v5.snd.snd.snd.snd.snd.snd.snd.snd.snd.snd.fst, (0 : Int))
  else
  Option.bind (intaglioref01_In_Num_P ((200 : Int), v3.snd.fst, v3.snd.snd)) fun (v8 : (Int × ((List Int) × Int))) =>
  Option.bind (loop intaglioref15_Decode_L1_P (s0, v8.fst, (0 : Int), [], (0 : Int), [], (0 : Int), v8.snd.fst, v8.snd.snd, b8 v1.snd.snd, IntKind.wrap IntKind.i64 v3.fst, [], v2.fst, [], [], [])) fun (v9 : ((List Int) × ((List UInt8) × (Int × ((List UInt8) × (Int × ((List Int) × (Int × ((List UInt8) × (Int × ((List UInt8) × (Int × ((List ((List UInt8) × ((List UInt8) × Unit))) × ((List (List UInt8)) × (List ((List UInt8) × (Int × Unit))))))))))))))))) =>
  Option.bind (intaglioref15_Encode_P (v9.snd.snd.snd.snd.snd.snd.snd.fst, v9.snd.snd.snd.snd.snd.snd.snd.snd.fst, v9.snd.snd.snd.snd.snd.snd.snd.snd.snd.fst, v9.snd.snd.snd.snd.snd.snd.snd.snd.snd.snd.snd.fst, v9.snd.snd.snd.snd.snd.snd.snd.snd.snd.snd.snd.snd.fst, v9.snd.snd.snd.snd.snd.snd.snd.snd.snd.snd.snd.snd.snd, v9.snd.snd.snd.snd.snd.snd.snd.snd.snd.snd.fst)) fun (v10 : (Int × (List Int))) =>
  if (v9.snd.snd.snd.snd.snd.snd.fst != (0 : Int)) = true then
    some ([], (0 : Int), [], [], [], [], (0 : Int), (3 : Int))
  else
  if (v10.fst != (0 : Int)) = true then
    some ([], (0 : Int), [], [], [], [], (0 : Int), (3 : Int))
  else
  Option.bind (intaglioref07_Same_P (v10.snd, v9.fst)) fun (v11 : Bool) =>
  if (!v11) = true then
    some ([], (0 : Int), [], [], [], [], (0 : Int), (3 : Int))
  else
  some (v9.snd.snd.snd.snd.snd.snd.snd.fst, v9.snd.snd.snd.snd.snd.snd.snd.snd.fst, v9.snd.snd.snd.snd.snd.snd.snd.snd.snd.fst, v9.snd.snd.snd.snd.snd.snd.snd.snd.snd.snd.snd.fst, v9.snd.snd.snd.snd.snd.snd.snd.snd.snd.snd.snd.snd.fst, v9.snd.snd.snd.snd.snd.snd.snd.snd.snd.snd.snd.snd.snd, v9.snd.snd.snd.snd.snd.snd.snd.snd.snd.snd.fst, (0 : Int))
def intaglioref15_Decode_P : (List Int) → Option ((List UInt8) × Int × (List UInt8) × (List ((List UInt8) × (List UInt8) × Unit)) × (List (List UInt8)) × (List ((List UInt8) × Int × Unit)) × Int × Int) := fun p => intaglioref15_Decode_M p
def intaglioref15_Decode_MM : HL [(.slc (.int .u8))] → Option (SumL [[.str, (.int .i64), .str, (.slc (.pair .str (.pair .str .unit))), (.slc .str), (.slc (.pair .str (.pair (.int .i64) .unit))), (.int .i64), (.int .i64)]]) := fun p => intaglioref15_Decode_M p
def intaglioref15_Decode_C : Con := ⟨0, intaglioref15_Decode_T, intaglioref15_Decode_O, stdCn [(.slc (.int .u8))] [[.str, (.int .i64), .str, (.slc (.pair .str (.pair .str .unit))), (.slc .str), (.slc (.pair .str (.pair (.int .i64) .unit))), (.int .i64), (.int .i64)]] intaglioref15_Decode_MM, []⟩

def intaglioref15_SameEntries_L1_T : Tm := ⟨[(0, false, [.hole (.slc (.pair .str (.pair (.pair (.int .i64) (.pair .str (.pair (.slc (.pair .str (.pair .str .unit))) (.pair (.slc .str) (.pair (.slc (.pair .str (.pair (.int .i64) .unit))) .unit))))) (.pair (.int .i64) .unit))))]), (1, false, [.hole (.slc (.pair .str (.pair (.pair (.int .i64) (.pair .str (.pair (.slc (.pair .str (.pair .str .unit))) (.pair (.slc .str) (.pair (.slc (.pair .str (.pair (.int .i64) .unit))) .unit))))) (.pair (.int .i64) .unit))))]), (5, false, [.hole (.int .i64)])], 55, []⟩
def intaglioref15_SameEntries_L1_O : List (Ex × Tm) := [(.exit 0, ⟨[], 55, []⟩), (.ret, ⟨[(4, false, [.hole .bool])], 55, []⟩)]
def intaglioref15_SameEntries_L1 (s0 : List ((List UInt8) × (Int × (List UInt8) × (List ((List UInt8) × (List UInt8) × Unit)) × (List (List UInt8)) × (List ((List UInt8) × Int × Unit)) × Unit) × Int × Unit)) (s1 : List ((List UInt8) × (Int × (List UInt8) × (List ((List UInt8) × (List UInt8) × Unit)) × (List (List UInt8)) × (List ((List UInt8) × Int × Unit)) × Unit) × Int × Unit)) (s5 : Int) : Option (((List ((List UInt8) × (Int × (List UInt8) × (List ((List UInt8) × (List UInt8) × Unit)) × (List (List UInt8)) × (List ((List UInt8) × Int × Unit)) × Unit) × Int × Unit)) × (List ((List UInt8) × (Int × (List UInt8) × (List ((List UInt8) × (List UInt8) × Unit)) × (List (List UInt8)) × (List ((List UInt8) × Int × Unit)) × Unit) × Int × Unit)) × Int) ⊕ ((Unit) ⊕ (Bool))) :=
  if decide (s5 < (((List.length s0) : Nat) : Int)) = true then
    Option.bind (ix s0 s5) fun (v0 : ((List UInt8) × ((Int × ((List UInt8) × ((List ((List UInt8) × ((List UInt8) × Unit))) × ((List (List UInt8)) × ((List ((List UInt8) × (Int × Unit))) × Unit))))) × (Int × Unit)))) =>
    Option.bind (ix s1 s5) fun (v1 : ((List UInt8) × ((Int × ((List UInt8) × ((List ((List UInt8) × ((List UInt8) × Unit))) × ((List (List UInt8)) × ((List ((List UInt8) × (Int × Unit))) × Unit))))) × (Int × Unit)))) =>
    if (!v0.fst == v1.fst) = true then
      some (.inr (.inr (false)))
    else
    Option.bind (ix s0 s5) fun (v2 : ((List UInt8) × ((Int × ((List UInt8) × ((List ((List UInt8) × ((List UInt8) × Unit))) × ((List (List UInt8)) × ((List ((List UInt8) × (Int × Unit))) × Unit))))) × (Int × Unit)))) =>
    Option.bind (ix s1 s5) fun (v3 : ((List UInt8) × ((Int × ((List UInt8) × ((List ((List UInt8) × ((List UInt8) × Unit))) × ((List (List UInt8)) × ((List ((List UInt8) × (Int × Unit))) × Unit))))) × (Int × Unit)))) =>
    if (v2.snd.snd.fst != v3.snd.snd.fst) = true then
      some (.inr (.inr (false)))
    else
    Option.bind (ix s0 s5) fun (v4 : ((List UInt8) × ((Int × ((List UInt8) × ((List ((List UInt8) × ((List UInt8) × Unit))) × ((List (List UInt8)) × ((List ((List UInt8) × (Int × Unit))) × Unit))))) × (Int × Unit)))) =>
    Option.bind (ix s1 s5) fun (v5 : ((List UInt8) × ((Int × ((List UInt8) × ((List ((List UInt8) × ((List UInt8) × Unit))) × ((List (List UInt8)) × ((List ((List UInt8) × (Int × Unit))) × Unit))))) × (Int × Unit)))) =>
    Option.bind (intaglioref15_Same_P (v4.snd.fst.fst, v4.snd.fst.snd.fst, v4.snd.fst.snd.snd.fst, v4.snd.fst.snd.snd.snd.fst, v4.snd.fst.snd.snd.snd.snd.fst, v5.snd.fst.fst, v5.snd.fst.snd.fst, v5.snd.fst.snd.snd.fst, v5.snd.fst.snd.snd.snd.fst, v5.snd.fst.snd.snd.snd.snd.fst)) fun (v6 : Bool) =>
    if (!v6) = true then
      some (.inr (.inr (false)))
    else
    some (.inl (s0, s1, IntKind.wrap IntKind.i64 (s5 + (1 : Int))))
  else
  some (.inr (.inl (())))
def intaglioref15_SameEntries_L1_P : (List ((List UInt8) × (Int × (List UInt8) × (List ((List UInt8) × (List UInt8) × Unit)) × (List (List UInt8)) × (List ((List UInt8) × Int × Unit)) × Unit) × Int × Unit)) × (List ((List UInt8) × (Int × (List UInt8) × (List ((List UInt8) × (List UInt8) × Unit)) × (List (List UInt8)) × (List ((List UInt8) × Int × Unit)) × Unit) × Int × Unit)) × Int → Option (((List ((List UInt8) × (Int × (List UInt8) × (List ((List UInt8) × (List UInt8) × Unit)) × (List (List UInt8)) × (List ((List UInt8) × Int × Unit)) × Unit) × Int × Unit)) × (List ((List UInt8) × (Int × (List UInt8) × (List ((List UInt8) × (List UInt8) × Unit)) × (List (List UInt8)) × (List ((List UInt8) × Int × Unit)) × Unit) × Int × Unit)) × Int) ⊕ ((Unit) ⊕ (Bool))) := fun p => intaglioref15_SameEntries_L1 p.1 p.2.1 p.2.2
def intaglioref15_SameEntries_L1_MM : HL [(.slc (.pair .str (.pair (.pair (.int .i64) (.pair .str (.pair (.slc (.pair .str (.pair .str .unit))) (.pair (.slc .str) (.pair (.slc (.pair .str (.pair (.int .i64) .unit))) .unit))))) (.pair (.int .i64) .unit)))), (.slc (.pair .str (.pair (.pair (.int .i64) (.pair .str (.pair (.slc (.pair .str (.pair .str .unit))) (.pair (.slc .str) (.pair (.slc (.pair .str (.pair (.int .i64) .unit))) .unit))))) (.pair (.int .i64) .unit)))), (.int .i64)] → Option (HL [(.slc (.pair .str (.pair (.pair (.int .i64) (.pair .str (.pair (.slc (.pair .str (.pair .str .unit))) (.pair (.slc .str) (.pair (.slc (.pair .str (.pair (.int .i64) .unit))) .unit))))) (.pair (.int .i64) .unit)))), (.slc (.pair .str (.pair (.pair (.int .i64) (.pair .str (.pair (.slc (.pair .str (.pair .str .unit))) (.pair (.slc .str) (.pair (.slc (.pair .str (.pair (.int .i64) .unit))) .unit))))) (.pair (.int .i64) .unit)))), (.int .i64)] ⊕ SumL [[], [.bool]]) := fun p => intaglioref15_SameEntries_L1 p.1 p.2.1 p.2.2
def intaglioref15_SameEntries_L1_C : Con := ⟨0, intaglioref15_SameEntries_L1_T, intaglioref15_SameEntries_L1_O, stdCn [(.slc (.pair .str (.pair (.pair (.int .i64) (.pair .str (.pair (.slc (.pair .str (.pair .str .unit))) (.pair (.slc .str) (.pair (.slc (.pair .str (.pair (.int .i64) .unit))) .unit))))) (.pair (.int .i64) .unit)))), (.slc (.pair .str (.pair (.pair (.int .i64) (.pair .str (.pair (.slc (.pair .str (.pair .str .unit))) (.pair (.slc .str) (.pair (.slc (.pair .str (.pair (.int .i64) .unit))) .unit))))) (.pair (.int .i64) .unit)))), (.int .i64)] [[], [.bool]] (loop intaglioref15_SameEntries_L1_MM), []⟩
def intaglioref15_SameEntries_T : Tm := ⟨[(0, false, [.hole (.slc (.pair .str (.pair (.pair (.int .i64) (.pair .str (.pair (.slc (.pair .str (.pair .str .unit))) (.pair (.slc .str) (.pair (.slc (.pair .str (.pair (.int .i64) .unit))) .unit))))) (.pair (.int .i64) .unit))))]), (1, false, [.hole (.slc (.pair .str (.pair (.pair (.int .i64) (.pair .str (.pair (.slc (.pair .str (.pair .str .unit))) (.pair (.slc .str) (.pair (.slc (.pair .str (.pair (.int .i64) .unit))) .unit))))) (.pair (.int .i64) .unit))))])], 2, []⟩
def intaglioref15_SameEntries_O : List (Ex × Tm) := [(.ret, ⟨[(0, false, [.hole .bool])], 1, []⟩)]
def intaglioref15_SameEntries_M (s0 : List ((List UInt8) × (Int × (List UInt8) × (List ((List UInt8) × (List UInt8) × Unit)) × (List (List UInt8)) × (List ((List UInt8) × Int × Unit)) × Unit) × Int × Unit)) (s1 : List ((List UInt8) × (Int × (List UInt8) × (List ((List UInt8) × (List UInt8) × Unit)) × (List (List UInt8)) × (List ((List UInt8) × Int × Unit)) × Unit) × Int × Unit)) : Option (Bool) :=
  if ((((List.length s0) : Nat) : Int) != (((List.length s1) : Nat) : Int)) = true then
    some (false)
  else
  Option.bind (loop intaglioref15_SameEntries_L1_P (s0, s1, (0 : Int))) fun (v0 : (Unit ⊕ Bool)) =>
  Sum.elim (fun _ =>
      some (true)
    ) (fun (v2 : Bool) =>
    some (v2)
  ) (v0)
def intaglioref15_SameEntries_P : (List ((List UInt8) × (Int × (List UInt8) × (List ((List UInt8) × (List UInt8) × Unit)) × (List (List UInt8)) × (List ((List UInt8) × Int × Unit)) × Unit) × Int × Unit)) × (List ((List UInt8) × (Int × (List UInt8) × (List ((List UInt8) × (List UInt8) × Unit)) × (List (List UInt8)) × (List ((List UInt8) × Int × Unit)) × Unit) × Int × Unit)) → Option (Bool) := fun p => intaglioref15_SameEntries_M p.1 p.2
def intaglioref15_SameEntries_MM : HL [(.slc (.pair .str (.pair (.pair (.int .i64) (.pair .str (.pair (.slc (.pair .str (.pair .str .unit))) (.pair (.slc .str) (.pair (.slc (.pair .str (.pair (.int .i64) .unit))) .unit))))) (.pair (.int .i64) .unit)))), (.slc (.pair .str (.pair (.pair (.int .i64) (.pair .str (.pair (.slc (.pair .str (.pair .str .unit))) (.pair (.slc .str) (.pair (.slc (.pair .str (.pair (.int .i64) .unit))) .unit))))) (.pair (.int .i64) .unit))))] → Option (SumL [[.bool]]) := fun p => intaglioref15_SameEntries_M p.1 p.2
def intaglioref15_SameEntries_C : Con := ⟨0, intaglioref15_SameEntries_T, intaglioref15_SameEntries_O, stdCn [(.slc (.pair .str (.pair (.pair (.int .i64) (.pair .str (.pair (.slc (.pair .str (.pair .str .unit))) (.pair (.slc .str) (.pair (.slc (.pair .str (.pair (.int .i64) .unit))) .unit))))) (.pair (.int .i64) .unit)))), (.slc (.pair .str (.pair (.pair (.int .i64) (.pair .str (.pair (.slc (.pair .str (.pair .str .unit))) (.pair (.slc .str) (.pair (.slc (.pair .str (.pair (.int .i64) .unit))) .unit))))) (.pair (.int .i64) .unit))))] [[.bool]] intaglioref15_SameEntries_MM, []⟩

def intagliolaw15_ValueDecodes_T : Tm := ⟨[(0, false, [.hole (.slc (.int .u8))])], 1, []⟩
def intagliolaw15_ValueDecodes_O : List (Ex × Tm) := [(.ret, ⟨[(0, false, [.hole .bool])], 1, []⟩)]
def intagliolaw15_ValueDecodes_M (s0 : List Int) : Option (Bool) :=
  if decide ((((List.length s0) : Nat) : Int) > (5000 : Int)) = true then
    Option.bind (intagliolaw15_awake_P ()) fun (v0 : Bool) =>
    some (v0)
  else
  Option.bind (value_Decode_P s0) fun (v1 : ((List UInt8) × (Int × ((List UInt8) × ((List ((List UInt8) × ((List UInt8) × Unit))) × ((List (List UInt8)) × ((List ((List UInt8) × (Int × Unit))) × (Int × Int)))))))) =>
  Option.bind (intaglioref15_Decode_P s0) fun (v2 : ((List UInt8) × (Int × ((List UInt8) × ((List ((List UInt8) × ((List UInt8) × Unit))) × ((List (List UInt8)) × ((List ((List UInt8) × (Int × Unit))) × (Int × Int)))))))) =>
  Option.bind (intaglioref15_SameEntries_P ([(v1.fst, (v1.snd.fst, v1.snd.snd.fst, v1.snd.snd.snd.fst, v1.snd.snd.snd.snd.fst, v1.snd.snd.snd.snd.snd.fst, ()), v1.snd.snd.snd.snd.snd.snd.fst, ())], [(v2.fst, (v2.snd.fst, v2.snd.snd.fst, v2.snd.snd.snd.fst, v2.snd.snd.snd.snd.fst, v2.snd.snd.snd.snd.snd.fst, ()), v2.snd.snd.snd.snd.snd.snd.fst, ())])) fun (v3 : Bool) =>
  if v3 = true then
    if (v1.snd.snd.snd.snd.snd.snd.snd == v2.snd.snd.snd.snd.snd.snd.snd) = true then
      Option.bind (intagliolaw15_awake_P ()) fun (v4 : Bool) =>
      some (v4)
    else
    some (false)
  else
  some (false)
def intagliolaw15_ValueDecodes_P : (List Int) → Option (Bool) := fun p => intagliolaw15_ValueDecodes_M p
def intagliolaw15_ValueDecodes_MM : HL [(.slc (.int .u8))] → Option (SumL [[.bool]]) := fun p => intagliolaw15_ValueDecodes_M p
def intagliolaw15_ValueDecodes_C : Con := ⟨0, intagliolaw15_ValueDecodes_T, intagliolaw15_ValueDecodes_O, stdCn [(.slc (.int .u8))] [[.bool]] intagliolaw15_ValueDecodes_MM, []⟩

def intagliolaw15_ValueBack_T : Tm := ⟨[(0, true, [.hole .str, .hole (.int .i64), .hole .str, .hole (.slc (.pair .str (.pair .str .unit))), .hole (.slc .str), .hole (.slc (.pair .str (.pair (.int .i64) .unit))), .hole (.int .i64)]), (1, false, [.hole (.slc (.int .u8))])], 2, []⟩
def intagliolaw15_ValueBack_O : List (Ex × Tm) := [(.ret, ⟨[(0, false, [.hole .bool])], 1, []⟩)]
def intagliolaw15_ValueBack_M (s0_0 : List UInt8) (s0_1 : Int) (s0_2 : List UInt8) (s0_3 : List ((List UInt8) × (List UInt8) × Unit)) (s0_4 : List (List UInt8)) (s0_5 : List ((List UInt8) × Int × Unit)) (s0_6 : Int) (s1 : List Int) : Option (Bool) :=
  Option.bind (intaglioref15_Light_P (s0_1, s0_2, s0_3, s0_4, s0_5)) fun (v0 : Bool) =>
  if (!v0) = true then
    Option.bind (intagliolaw15_awake_P ()) fun (v1 : Bool) =>
    some (v1)
  else
  if decide ((((List.length s0_0) : Nat) : Int) > (200 : Int)) = true then
    Option.bind (intagliolaw15_awake_P ()) fun (v2 : Bool) =>
    some (v2)
  else
  if decide ((((List.length s1) : Nat) : Int) > (5000 : Int)) = true then
    Option.bind (intagliolaw15_awake_P ()) fun (v3 : Bool) =>
    some (v3)
  else
  Option.bind (value_Encode_P (s0_0, s0_1, s0_2, s0_3, s0_4, s0_5, s0_6)) fun (v4 : (Int × (List Int))) =>
  Option.bind (value_Decode_P v4.snd) fun (v5 : ((List UInt8) × (Int × ((List UInt8) × ((List ((List UInt8) × ((List UInt8) × Unit))) × ((List (List UInt8)) × ((List ((List UInt8) × (Int × Unit))) × (Int × Int)))))))) =>
  if (v4.fst == (0 : Int)) = true then
    if (v5.snd.snd.snd.snd.snd.snd.snd != (0 : Int)) = true then
      some (false)
    else
    Option.bind (intaglioref15_SameEntries_P ([(v5.fst, (v5.snd.fst, v5.snd.snd.fst, v5.snd.snd.snd.fst, v5.snd.snd.snd.snd.fst, v5.snd.snd.snd.snd.snd.fst, ()), v5.snd.snd.snd.snd.snd.snd.fst, ())], [(s0_0, (s0_1, s0_2, s0_3, s0_4, s0_5, ()), s0_6, ())])) fun (v6 : Bool) =>
    if (!v6) = true then
      some (false)
    else
    Option.bind (value_Decode_P s1) fun (v7 : ((List UInt8) × (Int × ((List UInt8) × ((List ((List UInt8) × ((List UInt8) × Unit))) × ((List (List UInt8)) × ((List ((List UInt8) × (Int × Unit))) × (Int × Int)))))))) =>
    if (v7.snd.snd.snd.snd.snd.snd.snd != (0 : Int)) = true then
      if (v7.fst == []) = true then
        if (v7.snd.snd.snd.snd.snd.snd.fst == (0 : Int)) = true then
          if (v7.snd.fst == (0 : Int)) = true then
            Option.bind (intagliolaw15_awake_P ()) fun (v8 : Bool) =>
            some (v8)
          else
          some (false)
        else
        some (false)
      else
      some (false)
    else
    Option.bind (value_Encode_P (v7.fst, v7.snd.fst, v7.snd.snd.fst, v7.snd.snd.snd.fst, v7.snd.snd.snd.snd.fst, v7.snd.snd.snd.snd.snd.fst, v7.snd.snd.snd.snd.snd.snd.fst)) fun (v9 : (Int × (List Int))) =>
    Option.bind (bytes_Equal_P (v9.snd, s1)) fun (v10 : Bool) =>
    if v10 = true then
      Option.bind (intagliolaw15_awake_P ()) fun (v11 : Bool) =>
      some (v11)
    else
    some (false)
  else
  Option.bind (value_Decode_P s1) fun (v12 : ((List UInt8) × (Int × ((List UInt8) × ((List ((List UInt8) × ((List UInt8) × Unit))) × ((List (List UInt8)) × ((List ((List UInt8) × (Int × Unit))) × (Int × Int)))))))) =>
  if (v12.snd.snd.snd.snd.snd.snd.snd != (0 : Int)) = true then
    if (v12.fst == []) = true then
      if (v12.snd.snd.snd.snd.snd.snd.fst == (0 : Int)) = true then
        if (v12.snd.fst == (0 : Int)) = true then
          Option.bind (intagliolaw15_awake_P ()) fun (v13 : Bool) =>
          some (v13)
        else
        some (false)
      else
      some (false)
    else
    some (false)
  else
  Option.bind (value_Encode_P (v12.fst, v12.snd.fst, v12.snd.snd.fst, v12.snd.snd.snd.fst, v12.snd.snd.snd.snd.fst, v12.snd.snd.snd.snd.snd.fst, v12.snd.snd.snd.snd.snd.snd.fst)) fun (v14 : (Int × (List Int))) =>
  Option.bind (bytes_Equal_P (v14.snd, s1)) fun (v15 : Bool) =>
  if v15 = true then
    Option.bind (intagliolaw15_awake_P ()) fun (v16 : Bool) =>
    some (v16)
  else
  some (false)
def intagliolaw15_ValueBack_P : (List UInt8) × Int × (List UInt8) × (List ((List UInt8) × (List UInt8) × Unit)) × (List (List UInt8)) × (List ((List UInt8) × Int × Unit)) × Int × (List Int) → Option (Bool) := fun p => intagliolaw15_ValueBack_M p.1 p.2.1 p.2.2.1 p.2.2.2.1 p.2.2.2.2.1 p.2.2.2.2.2.1 p.2.2.2.2.2.2.1 p.2.2.2.2.2.2.2
def intagliolaw15_ValueBack_MM : HL [.str, (.int .i64), .str, (.slc (.pair .str (.pair .str .unit))), (.slc .str), (.slc (.pair .str (.pair (.int .i64) .unit))), (.int .i64), (.slc (.int .u8))] → Option (SumL [[.bool]]) := fun p => intagliolaw15_ValueBack_M p.1 p.2.1 p.2.2.1 p.2.2.2.1 p.2.2.2.2.1 p.2.2.2.2.2.1 p.2.2.2.2.2.2.1 p.2.2.2.2.2.2.2
def intagliolaw15_ValueBack_C : Con := ⟨0, intagliolaw15_ValueBack_T, intagliolaw15_ValueBack_O, stdCn [.str, (.int .i64), .str, (.slc (.pair .str (.pair .str .unit))), (.slc .str), (.slc (.pair .str (.pair (.int .i64) .unit))), (.int .i64), (.slc (.int .u8))] [[.bool]] intagliolaw15_ValueBack_MM, []⟩
end
end Go.Proofs.Ytknghpfoohchhaa
