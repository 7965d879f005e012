/- Plain models of Go functions. -/
import Derived.Test.YtknkonhdbmeolaaEd
namespace Go.Proofs.Ytknkonhdbmeolaa
open Go Go.Lift
set_option maxRecDepth 100000
set_option maxHeartbeats 4000000
set_option linter.unusedVariables false
noncomputable section
def GL : Globs := []

def bytes_Equal_T : Tm := ⟨[(0, false, [.hole (.slc (.int .u8))]), (1, false, [.hole (.slc (.int .u8))])], 2, []⟩
def bytes_Equal_O : List (Ex × Tm) := [(.ret, ⟨[(0, false, [.hole .bool])], 1, []⟩)]
def bytes_Equal_M (s0 : List Int) (s1 : List Int) : Option (Bool) :=
  some (b8 s0 == b8 s1)
def bytes_Equal_P : (List Int) × (List Int) → Option (Bool) := fun p => bytes_Equal_M p.1 p.2
def bytes_Equal_MM : HL [(.slc (.int .u8)), (.slc (.int .u8))] → Option (SumL [[.bool]]) := fun p => bytes_Equal_M p.1 p.2
def bytes_Equal_C : Con := ⟨0, bytes_Equal_T, bytes_Equal_O, stdCn [(.slc (.int .u8)), (.slc (.int .u8))] [[.bool]] bytes_Equal_MM⟩

def pack_high_uint32_L1_T : Tm := ⟨[(1, false, [.hole (.int .u32)]), (7, false, [.row 0]), (8, false, [.hole (.int .i64)])], 26, [.row (.int .u8)]⟩
def pack_high_uint32_L1_O : List (Ex × Tm) := [(.exit 0, ⟨[(7, false, [.row 0])], 26, [.row (.int .u8)]⟩)]
def pack_high_uint32_L1 (s1 : Int) (s8 : Int) (r0 : List Int) : Option ((Int × Int × (List Int)) ⊕ (((List Int)))) :=
  if decide (s8 ≥ (0 : Int)) = true then
    Option.bind (gshr IntKind.u32 s1 (IntKind.wrap IntKind.i64 ((8 : Int) * s8))) fun (v0 : Int) =>
    Option.bind (room (1 : Nat) (List.length r0 + List.length [IntKind.wrap IntKind.u8 v0])) fun _ =>
    some (.inl (s1, IntKind.wrap IntKind.i64 (s8 - (1 : Int)), r0 ++ [IntKind.wrap IntKind.u8 v0]))
  else
  some (.inr (r0))
def pack_high_uint32_L1_P : Int × Int × (List Int) → Option ((Int × Int × (List Int)) ⊕ (((List Int)))) := fun p => pack_high_uint32_L1 p.1 p.2.1 p.2.2
def pack_high_uint32_L1_MM : HL [(.int .u32), (.int .i64), (.slc (.int .u8))] → Option (HL [(.int .u32), (.int .i64), (.slc (.int .u8))] ⊕ SumL [[(.slc (.int .u8))]]) := fun p => pack_high_uint32_L1 p.1 p.2.1 p.2.2
def pack_high_uint32_L1_C : Con := ⟨0, pack_high_uint32_L1_T, pack_high_uint32_L1_O, stdCn [(.int .u32), (.int .i64), (.slc (.int .u8))] [[(.slc (.int .u8))]] (loop pack_high_uint32_L1_MM)⟩
def pack_high_uint32_T : Tm := ⟨[(0, false, [.hole (.slc (.int .u8))]), (1, false, [.hole (.int .u32)]), (2, false, [.hole (.int .i64)])], 3, []⟩
def pack_high_uint32_O : List (Ex × Tm) := [(.ret, ⟨[(0, false, [.row 0])], 1, [.row (.int .u8)]⟩)]
def pack_high_uint32_M (s0 : List Int) (s1 : Int) (s2 : Int) : Option ((List Int)) :=
  Option.bind (room (1 : Nat) ((0 : Nat) + List.length s0)) fun _ =>
  Option.bind (loop pack_high_uint32_L1_P (s1, IntKind.wrap IntKind.i64 (s2 - (1 : Int)), s0)) fun (v1 : (List Int)) =>
  some (v1)
def pack_high_uint32_P : (List Int) × Int × Int → Option ((List Int)) := fun p => pack_high_uint32_M p.1 p.2.1 p.2.2
def pack_high_uint32_MM : HL [(.slc (.int .u8)), (.int .u32), (.int .i64)] → Option (SumL [[(.slc (.int .u8))]]) := fun p => pack_high_uint32_M p.1 p.2.1 p.2.2
def pack_high_uint32_C : Con := ⟨0, pack_high_uint32_T, pack_high_uint32_O, stdCn [(.slc (.int .u8)), (.int .u32), (.int .i64)] [[(.slc (.int .u8))]] pack_high_uint32_MM⟩

def pack_Put32_T : Tm := ⟨[(0, false, [.hole (.slc (.int .u8))]), (1, false, [.hole (.int .u32)])], 2, []⟩
def pack_Put32_O : List (Ex × Tm) := [(.ret, ⟨[(0, false, [.row 0])], 1, [.row (.int .u8)]⟩)]
def pack_Put32_M (s0 : List Int) (s1 : Int) : Option ((List Int)) :=
  Option.bind (pack_high_uint32_P (s0, s1, (4 : Int))) fun (v0 : (List Int)) =>
  some (v0)
def pack_Put32_P : (List Int) × Int → Option ((List Int)) := fun p => pack_Put32_M p.1 p.2
def pack_Put32_MM : HL [(.slc (.int .u8)), (.int .u32)] → Option (SumL [[(.slc (.int .u8))]]) := fun p => pack_Put32_M p.1 p.2
def pack_Put32_C : Con := ⟨0, pack_Put32_T, pack_Put32_O, stdCn [(.slc (.int .u8)), (.int .u32)] [[(.slc (.int .u8))]] pack_Put32_MM⟩

def pack_Put_T : Tm := ⟨[(0, false, [.hole (.slc (.int .u8))]), (1, false, [.hole (.slc (.int .u8))])], 2, []⟩
def pack_Put_O : List (Ex × Tm) := [(.ret, ⟨[(0, false, [.row 0])], 1, [.row (.int .u8)]⟩)]
def pack_Put_M (s0 : List Int) (s1 : List Int) : Option ((List Int)) :=
  Option.bind (pack_Put32_P (s0, IntKind.wrap IntKind.u32 (((List.length s1) : Nat) : Int))) fun (v0 : (List Int)) =>
  Option.bind (room (1 : Nat) (List.length v0 + List.length s1)) fun _ =>
  some (v0 ++ s1)
def pack_Put_P : (List Int) × (List Int) → Option ((List Int)) := fun p => pack_Put_M p.1 p.2
def pack_Put_MM : HL [(.slc (.int .u8)), (.slc (.int .u8))] → Option (SumL [[(.slc (.int .u8))]]) := fun p => pack_Put_M p.1 p.2
def pack_Put_C : Con := ⟨0, pack_Put_T, pack_Put_O, stdCn [(.slc (.int .u8)), (.slc (.int .u8))] [[(.slc (.int .u8))]] pack_Put_MM⟩

def pack_take_L1_T : Tm := ⟨[(0, false, [.hole (.slc (.int .u8))]), (1, false, [.hole (.int .i64)]), (7, false, [.hole (.int .u64)]), (9, false, [.hole (.int .i64)]), (10, false, [.hole (.int .i64)])], 37, []⟩
def pack_take_L1_O : List (Ex × Tm) := [(.exit 0, ⟨[(7, false, [.hole (.int .u64)])], 37, []⟩)]
def pack_take_L1 (s0 : List Int) (s1 : Int) (s7 : Int) (s9 : Int) (s10 : Int) : Option (((List Int) × Int × Int × Int × Int) ⊕ ((Int))) :=
  if decide (s10 < s9) = true then
    if decide (s1 ≥ (0 : Int)) = true then
      if decide (s1 < IntKind.wrap IntKind.i64 ((((List.length s0) : Nat) : Int) - s10)) = true then
        Option.bind (ix s0 (IntKind.wrap IntKind.i64 (s1 + s10))) fun (v0 : Int) =>
        Option.bind (gshl IntKind.u64 (IntKind.wrap IntKind.u64 v0) (IntKind.wrap IntKind.i64 ((8 : Int) * s10))) fun (v1 : Int) =>
        some (.inl (s0, s1, bor IntKind.u64 s7 v1, s9, IntKind.wrap IntKind.i64 (s10 + (1 : Int))))
      else
      some (.inl (s0, s1, s7, s9, IntKind.wrap IntKind.i64 (s10 + (1 : Int))))
    else
    some (.inl (s0, s1, s7, s9, IntKind.wrap IntKind.i64 (s10 + (1 : Int))))
  else
  some (.inr (s7))
def pack_take_L1_P : (List Int) × Int × Int × Int × Int → Option (((List Int) × Int × Int × Int × Int) ⊕ ((Int))) := fun p => pack_take_L1 p.1 p.2.1 p.2.2.1 p.2.2.2.1 p.2.2.2.2
def pack_take_L1_MM : HL [(.slc (.int .u8)), (.int .i64), (.int .u64), (.int .i64), (.int .i64)] → Option (HL [(.slc (.int .u8)), (.int .i64), (.int .u64), (.int .i64), (.int .i64)] ⊕ SumL [[(.int .u64)]]) := fun p => pack_take_L1 p.1 p.2.1 p.2.2.1 p.2.2.2.1 p.2.2.2.2
def pack_take_L1_C : Con := ⟨0, pack_take_L1_T, pack_take_L1_O, stdCn [(.slc (.int .u8)), (.int .i64), (.int .u64), (.int .i64), (.int .i64)] [[(.int .u64)]] (loop pack_take_L1_MM)⟩
def pack_take_T : Tm := ⟨[(0, false, [.hole (.slc (.int .u8))]), (1, false, [.hole (.int .i64)]), (2, false, [.hole (.int .i64)])], 3, []⟩
def pack_take_O : List (Ex × Tm) := [(.ret, ⟨[(0, false, [.hole (.int .u64)])], 1, []⟩)]
def pack_take_M (s0 : List Int) (s1 : Int) (s2 : Int) : Option (Int) :=
  Option.bind (loop pack_take_L1_P (s0, s1, (0 : Int), s2, (0 : Int))) fun (v0 : Int) =>
  some (v0)
def pack_take_P : (List Int) × Int × Int → Option (Int) := fun p => pack_take_M p.1 p.2.1 p.2.2
def pack_take_MM : HL [(.slc (.int .u8)), (.int .i64), (.int .i64)] → Option (SumL [[(.int .u64)]]) := fun p => pack_take_M p.1 p.2.1 p.2.2
def pack_take_C : Con := ⟨0, pack_take_T, pack_take_O, stdCn [(.slc (.int .u8)), (.int .i64), (.int .i64)] [[(.int .u64)]] pack_take_MM⟩

def pack_Le32_T : Tm := ⟨[(0, false, [.hole (.slc (.int .u8))]), (1, false, [.hole (.int .i64)])], 2, []⟩
def pack_Le32_O : List (Ex × Tm) := [(.ret, ⟨[(0, false, [.hole (.int .u32)])], 1, []⟩)]
def pack_Le32_M (s0 : List Int) (s1 : Int) : Option (Int) :=
  Option.bind (pack_take_P (s0, s1, (4 : Int))) fun (v0 : Int) =>
  some (IntKind.wrap IntKind.u32 v0)
def pack_Le32_P : (List Int) × Int → Option (Int) := fun p => pack_Le32_M p.1 p.2
def pack_Le32_MM : HL [(.slc (.int .u8)), (.int .i64)] → Option (SumL [[(.int .u32)]]) := fun p => pack_Le32_M p.1 p.2
def pack_Le32_C : Con := ⟨0, pack_Le32_T, pack_Le32_O, stdCn [(.slc (.int .u8)), (.int .i64)] [[(.int .u32)]] pack_Le32_MM⟩

def intagliolaw01_awake_T : Tm := ⟨[], 0, []⟩
def intagliolaw01_awake_O : List (Ex × Tm) := [(.ret, ⟨[(0, false, [.hole .bool])], 1, []⟩)]
def intagliolaw01_awake_M  : Option (Bool) :=
  Option.bind (pack_Put_P ([], [(97 : Int), (98 : Int)])) fun (v0 : (List Int)) =>
  Option.bind (bytes_Equal_P (v0, [(0 : Int), (0 : Int), (0 : Int), (2 : Int), (97 : Int), (98 : Int)])) fun (v1 : Bool) =>
  if v1 = true then
    Option.bind (pack_Le32_P ([(1 : Int), (2 : Int)], (0 : Int))) fun (v2 : Int) =>
    some (v2 == (513 : Int))
  else
  some (false)
def intagliolaw01_awake_P : Unit → Option (Bool) := fun p => intagliolaw01_awake_M 
def intagliolaw01_awake_MM : HL [] → Option (SumL [[.bool]]) := fun p => intagliolaw01_awake_M 
def intagliolaw01_awake_C : Con := ⟨0, intagliolaw01_awake_T, intagliolaw01_awake_O, stdCn [] [[.bool]] intagliolaw01_awake_MM⟩

def pack_Reader_ok_n_T : Tm := ⟨[(0, false, [.nilp])], 1, []⟩
def pack_Reader_ok_n_O : List (Ex × Tm) := [(.ret, ⟨[(0, false, [.hole .bool])], 1, []⟩)]
def pack_Reader_ok_n_M  : Option (Bool) :=
  some (false)
def pack_Reader_ok_n_P : Unit → Option (Bool) := fun p => pack_Reader_ok_n_M 
def pack_Reader_ok_n_MM : HL [] → Option (SumL [[.bool]]) := fun p => pack_Reader_ok_n_M 
def pack_Reader_ok_n_C : Con := ⟨0, pack_Reader_ok_n_T, pack_Reader_ok_n_O, stdCn [] [[.bool]] pack_Reader_ok_n_MM⟩

def pack_Reader_ok_T : Tm := ⟨[(0, false, [.ptr 0 0])], 1, [.box [.hole (.slc (.int .u8)), .hole (.int .i64), .hole .bool]]⟩
def pack_Reader_ok_O : List (Ex × Tm) := [(.ret, ⟨[(0, false, [.hole .bool])], 1, [.box [.hole (.slc (.int .u8)), .hole (.int .i64), .hole .bool]]⟩)]
def pack_Reader_ok_M (m0_0 : List Int) (m0_1 : Int) (m0_2 : Bool) : Option (Bool × (List Int) × Int × Bool) :=
  if m0_2 = true then
    some (m0_1 == (0 : Int), m0_0, m0_1, m0_2)
  else
  some (false, m0_0, m0_1, m0_2)
def pack_Reader_ok_P : (List Int) × Int × Bool → Option (Bool × (List Int) × Int × Bool) := fun p => pack_Reader_ok_M p.1 p.2.1 p.2.2
def pack_Reader_ok_MM : HL [(.slc (.int .u8)), (.int .i64), .bool] → Option (SumL [[.bool, (.slc (.int .u8)), (.int .i64), .bool]]) := fun p => pack_Reader_ok_M p.1 p.2.1 p.2.2
def pack_Reader_ok_C : Con := ⟨1, pack_Reader_ok_T, pack_Reader_ok_O, stdCn [(.slc (.int .u8)), (.int .i64), .bool] [[.bool, (.slc (.int .u8)), (.int .i64), .bool]] pack_Reader_ok_MM⟩

def pack_Reader_fail_T : Tm := ⟨[(0, false, [.ptr 0 0]), (1, false, [.hole (.int .i64)])], 2, [.box [.hole (.slc (.int .u8)), .hole (.int .i64), .hole .bool]]⟩
def pack_Reader_fail_O : List (Ex × Tm) := [(.ret, ⟨[], 0, [.box [.nils, .hole (.int .i64), .hole .bool]]⟩)]
def pack_Reader_fail_M (s1 : Int) (m0_0 : List Int) (m0_1 : Int) (m0_2 : Bool) : Option (Int × Bool) :=
  some (s1, m0_2)
def pack_Reader_fail_P : Int × (List Int) × Int × Bool → Option (Int × Bool) := fun p => pack_Reader_fail_M p.1 p.2.1 p.2.2.1 p.2.2.2
def pack_Reader_fail_MM : HL [(.int .i64), (.slc (.int .u8)), (.int .i64), .bool] → Option (SumL [[(.int .i64), .bool]]) := fun p => pack_Reader_fail_M p.1 p.2.1 p.2.2.1 p.2.2.2
def pack_Reader_fail_C : Con := ⟨1, pack_Reader_fail_T, pack_Reader_fail_O, stdCn [(.int .i64), (.slc (.int .u8)), (.int .i64), .bool] [[(.int .i64), .bool]] pack_Reader_fail_MM⟩

def pack_Reader_next_n_T : Tm := ⟨[(0, false, [.nilp]), (1, false, [.hole (.int .i64)])], 2, []⟩
def pack_Reader_next_n_O : List (Ex × Tm) := [(.ret, ⟨[(0, false, [.nils]), (1, false, [.hole .bool])], 2, []⟩)]
def pack_Reader_next_n_M (s1 : Int) : Option (Bool) :=
  Option.bind (pack_Reader_ok_n_P ()) fun (v0 : Bool) =>
  if (!v0) = true then
    some (false)
  else
  none -- STUCK after t12 nilCheck
def pack_Reader_next_n_P : Int → Option (Bool) := fun p => pack_Reader_next_n_M p
def pack_Reader_next_n_MM : HL [(.int .i64)] → Option (SumL [[.bool]]) := fun p => pack_Reader_next_n_M p
def pack_Reader_next_n_C : Con := ⟨0, pack_Reader_next_n_T, pack_Reader_next_n_O, stdCn [(.int .i64)] [[.bool]] pack_Reader_next_n_MM⟩

def pack_Reader_next_T : Tm := ⟨[(0, false, [.ptr 0 0]), (1, false, [.hole (.int .i64)])], 2, [.box [.hole (.slc (.int .u8)), .hole (.int .i64), .hole .bool]]⟩
def pack_Reader_next_O : List (Ex × Tm) := [(.ret, ⟨[(0, false, [.hole (.slc (.int .u8))]), (1, false, [.hole .bool])], 2, [.box [.hole (.slc (.int .u8)), .hole (.int .i64), .hole .bool]]⟩)]
def pack_Reader_next_M (s1 : Int) (m0_0 : List Int) (m0_1 : Int) (m0_2 : Bool) : Option ((List Int) × Bool × (List Int) × Int × Bool) :=
  Option.bind (pack_Reader_ok_P (m0_0, m0_1, m0_2)) fun (v0 : (Bool × ((List Int) × (Int × Bool)))) =>
  if (!v0.fst) = true then
    some ([], false, v0.snd.fst, v0.snd.snd.fst, v0.snd.snd.snd)
  else
  if decide (s1 > (((List.length v0.snd.fst) : Nat) : Int)) = true then
    Option.bind (pack_Reader_fail_P ((4 : Int), v0.snd.fst, v0.snd.snd.fst, v0.snd.snd.snd)) fun (v1 : (Int × Bool)) =>
    some ([], false, [], v1.fst, v1.snd)
  else
  Option.bind (sub v0.snd.fst (0 : Int) s1) fun (v2 : (List Int)) =>
  Option.bind (sub v0.snd.fst s1 (((List.length v0.snd.fst) : Nat) : Int)) fun (v3 : (List Int)) =>
  some (v2, true, v3, v0.snd.snd.fst, v0.snd.snd.snd)
def pack_Reader_next_P : Int × (List Int) × Int × Bool → Option ((List Int) × Bool × (List Int) × Int × Bool) := fun p => pack_Reader_next_M p.1 p.2.1 p.2.2.1 p.2.2.2
def pack_Reader_next_MM : HL [(.int .i64), (.slc (.int .u8)), (.int .i64), .bool] → Option (SumL [[(.slc (.int .u8)), .bool, (.slc (.int .u8)), (.int .i64), .bool]]) := fun p => pack_Reader_next_M p.1 p.2.1 p.2.2.1 p.2.2.2
def pack_Reader_next_C : Con := ⟨1, pack_Reader_next_T, pack_Reader_next_O, stdCn [(.int .i64), (.slc (.int .u8)), (.int .i64), .bool] [[(.slc (.int .u8)), .bool, (.slc (.int .u8)), (.int .i64), .bool]] pack_Reader_next_MM⟩

def pack_Reader_number_n_L1_T : Tm := ⟨[(7, false, [.hole (.int .u64)]), (16, false, [.nils]), (17, false, [.hole (.int .i64)]), (18, false, [.hole (.int .i64)])], 29, []⟩
def pack_Reader_number_n_L1_O : List (Ex × Tm) := [(.exit 0, ⟨[(7, false, [.hole (.int .u64)])], 29, []⟩)]
def pack_Reader_number_n_L1 (s7 : Int) (s17 : Int) (s18 : Int) : Option ((Int × Int × Int) ⊕ ((Int))) :=
  if decide (s18 < s17) = true then
    none -- STUCK after t20 indexAddr
  else
  some (.inr (s7))
def pack_Reader_number_n_L1_P : Int × Int × Int → Option ((Int × Int × Int) ⊕ ((Int))) := fun p => pack_Reader_number_n_L1 p.1 p.2.1 p.2.2
def pack_Reader_number_n_L1_MM : HL [(.int .u64), (.int .i64), (.int .i64)] → Option (HL [(.int .u64), (.int .i64), (.int .i64)] ⊕ SumL [[(.int .u64)]]) := fun p => pack_Reader_number_n_L1 p.1 p.2.1 p.2.2
def pack_Reader_number_n_L1_C : Con := ⟨0, pack_Reader_number_n_L1_T, pack_Reader_number_n_L1_O, stdCn [(.int .u64), (.int .i64), (.int .i64)] [[(.int .u64)]] (loop pack_Reader_number_n_L1_MM)⟩
def pack_Reader_number_n_T : Tm := ⟨[(0, false, [.nilp]), (1, false, [.hole (.int .i64)])], 2, []⟩
def pack_Reader_number_n_O : List (Ex × Tm) := [(.ret, ⟨[(0, false, [.hole (.int .u64)])], 1, []⟩)]
def pack_Reader_number_n_M (s1 : Int) : Option (Int) :=
  Option.bind (pack_Reader_next_n_P s1) fun (v0 : Bool) =>
  Option.bind (loop pack_Reader_number_n_L1_P ((0 : Int), (0 : Int), (0 : Int))) fun (v1 : Int) =>
  some (v1)
def pack_Reader_number_n_P : Int → Option (Int) := fun p => pack_Reader_number_n_M p
def pack_Reader_number_n_MM : HL [(.int .i64)] → Option (SumL [[(.int .u64)]]) := fun p => pack_Reader_number_n_M p
def pack_Reader_number_n_C : Con := ⟨0, pack_Reader_number_n_T, pack_Reader_number_n_O, stdCn [(.int .i64)] [[(.int .u64)]] pack_Reader_number_n_MM⟩

def pack_Reader_number_L1_T : Tm := ⟨[(7, false, [.hole (.int .u64)]), (16, false, [.hole (.slc (.int .u8))]), (17, false, [.hole (.int .i64)]), (18, false, [.hole (.int .i64)])], 29, []⟩
def pack_Reader_number_L1_O : List (Ex × Tm) := [(.exit 0, ⟨[(7, false, [.hole (.int .u64)])], 29, []⟩)]
def pack_Reader_number_L1 (s7 : Int) (s16 : List Int) (s17 : Int) (s18 : Int) : Option ((Int × (List Int) × Int × Int) ⊕ ((Int))) :=
  if decide (s18 < s17) = true then
    Option.bind (ix s16 s18) fun (v0 : Int) =>
    Option.bind (gshl IntKind.u64 s7 (8 : Int)) fun (v1 : Int) =>
    some (.inl (bor IntKind.u64 v1 (IntKind.wrap IntKind.u64 v0), s16, s17, IntKind.wrap IntKind.i64 (s18 + (1 : Int))))
  else
  some (.inr (s7))
def pack_Reader_number_L1_P : Int × (List Int) × Int × Int → Option ((Int × (List Int) × Int × Int) ⊕ ((Int))) := fun p => pack_Reader_number_L1 p.1 p.2.1 p.2.2.1 p.2.2.2
def pack_Reader_number_L1_MM : HL [(.int .u64), (.slc (.int .u8)), (.int .i64), (.int .i64)] → Option (HL [(.int .u64), (.slc (.int .u8)), (.int .i64), (.int .i64)] ⊕ SumL [[(.int .u64)]]) := fun p => pack_Reader_number_L1 p.1 p.2.1 p.2.2.1 p.2.2.2
def pack_Reader_number_L1_C : Con := ⟨0, pack_Reader_number_L1_T, pack_Reader_number_L1_O, stdCn [(.int .u64), (.slc (.int .u8)), (.int .i64), (.int .i64)] [[(.int .u64)]] (loop pack_Reader_number_L1_MM)⟩
def pack_Reader_number_T : Tm := ⟨[(0, false, [.ptr 0 0]), (1, false, [.hole (.int .i64)])], 2, [.box [.hole (.slc (.int .u8)), .hole (.int .i64), .hole .bool]]⟩
def pack_Reader_number_O : List (Ex × Tm) := [(.ret, ⟨[(0, false, [.hole (.int .u64)])], 1, [.box [.hole (.slc (.int .u8)), .hole (.int .i64), .hole .bool]]⟩)]
def pack_Reader_number_M (s1 : Int) (m0_0 : List Int) (m0_1 : Int) (m0_2 : Bool) : Option (Int × (List Int) × Int × Bool) :=
  Option.bind (pack_Reader_next_P (s1, m0_0, m0_1, m0_2)) fun (v0 : ((List Int) × (Bool × ((List Int) × (Int × Bool))))) =>
  Option.bind (loop pack_Reader_number_L1_P ((0 : Int), v0.fst, (((List.length v0.fst) : Nat) : Int), (0 : Int))) fun (v1 : Int) =>
  some (v1, v0.snd.snd.fst, v0.snd.snd.snd.fst, v0.snd.snd.snd.snd)
def pack_Reader_number_P : Int × (List Int) × Int × Bool → Option (Int × (List Int) × Int × Bool) := fun p => pack_Reader_number_M p.1 p.2.1 p.2.2.1 p.2.2.2
def pack_Reader_number_MM : HL [(.int .i64), (.slc (.int .u8)), (.int .i64), .bool] → Option (SumL [[(.int .u64), (.slc (.int .u8)), (.int .i64), .bool]]) := fun p => pack_Reader_number_M p.1 p.2.1 p.2.2.1 p.2.2.2
def pack_Reader_number_C : Con := ⟨1, pack_Reader_number_T, pack_Reader_number_O, stdCn [(.int .i64), (.slc (.int .u8)), (.int .i64), .bool] [[(.int .u64), (.slc (.int .u8)), (.int .i64), .bool]] pack_Reader_number_MM⟩

def pack_Reader_U8_n_T : Tm := ⟨[(0, false, [.nilp])], 1, []⟩
def pack_Reader_U8_n_O : List (Ex × Tm) := [(.ret, ⟨[(0, false, [.hole (.int .i64)])], 1, []⟩)]
def pack_Reader_U8_n_M  : Option (Int) :=
  Option.bind (pack_Reader_number_n_P (1 : Int)) fun (v0 : Int) =>
  some (IntKind.wrap IntKind.i64 v0)
def pack_Reader_U8_n_P : Unit → Option (Int) := fun p => pack_Reader_U8_n_M 
def pack_Reader_U8_n_MM : HL [] → Option (SumL [[(.int .i64)]]) := fun p => pack_Reader_U8_n_M 
def pack_Reader_U8_n_C : Con := ⟨0, pack_Reader_U8_n_T, pack_Reader_U8_n_O, stdCn [] [[(.int .i64)]] pack_Reader_U8_n_MM⟩

def pack_Reader_U8_T : Tm := ⟨[(0, false, [.ptr 0 0])], 1, [.box [.hole (.slc (.int .u8)), .hole (.int .i64), .hole .bool]]⟩
def pack_Reader_U8_O : List (Ex × Tm) := [(.ret, ⟨[(0, false, [.hole (.int .i64)])], 1, [.box [.hole (.slc (.int .u8)), .hole (.int .i64), .hole .bool]]⟩)]
def pack_Reader_U8_M (m0_0 : List Int) (m0_1 : Int) (m0_2 : Bool) : Option (Int × (List Int) × Int × Bool) :=
  Option.bind (pack_Reader_number_P ((1 : Int), m0_0, m0_1, m0_2)) fun (v0 : (Int × ((List Int) × (Int × Bool)))) =>
  some (IntKind.wrap IntKind.i64 v0.fst, v0.snd.fst, v0.snd.snd.fst, v0.snd.snd.snd)
def pack_Reader_U8_P : (List Int) × Int × Bool → Option (Int × (List Int) × Int × Bool) := fun p => pack_Reader_U8_M p.1 p.2.1 p.2.2
def pack_Reader_U8_MM : HL [(.slc (.int .u8)), (.int .i64), .bool] → Option (SumL [[(.int .i64), (.slc (.int .u8)), (.int .i64), .bool]]) := fun p => pack_Reader_U8_M p.1 p.2.1 p.2.2
def pack_Reader_U8_C : Con := ⟨1, pack_Reader_U8_T, pack_Reader_U8_O, stdCn [(.slc (.int .u8)), (.int .i64), .bool] [[(.int .i64), (.slc (.int .u8)), (.int .i64), .bool]] pack_Reader_U8_MM⟩

def pack_Reader_U32_n_T : Tm := ⟨[(0, false, [.nilp])], 1, []⟩
def pack_Reader_U32_n_O : List (Ex × Tm) := [(.ret, ⟨[(0, false, [.hole (.int .u32)])], 1, []⟩)]
def pack_Reader_U32_n_M  : Option (Int) :=
  Option.bind (pack_Reader_number_n_P (4 : Int)) fun (v0 : Int) =>
  some (IntKind.wrap IntKind.u32 v0)
def pack_Reader_U32_n_P : Unit → Option (Int) := fun p => pack_Reader_U32_n_M 
def pack_Reader_U32_n_MM : HL [] → Option (SumL [[(.int .u32)]]) := fun p => pack_Reader_U32_n_M 
def pack_Reader_U32_n_C : Con := ⟨0, pack_Reader_U32_n_T, pack_Reader_U32_n_O, stdCn [] [[(.int .u32)]] pack_Reader_U32_n_MM⟩

def pack_Reader_U32_T : Tm := ⟨[(0, false, [.ptr 0 0])], 1, [.box [.hole (.slc (.int .u8)), .hole (.int .i64), .hole .bool]]⟩
def pack_Reader_U32_O : List (Ex × Tm) := [(.ret, ⟨[(0, false, [.hole (.int .u32)])], 1, [.box [.hole (.slc (.int .u8)), .hole (.int .i64), .hole .bool]]⟩)]
def pack_Reader_U32_M (m0_0 : List Int) (m0_1 : Int) (m0_2 : Bool) : Option (Int × (List Int) × Int × Bool) :=
  Option.bind (pack_Reader_number_P ((4 : Int), m0_0, m0_1, m0_2)) fun (v0 : (Int × ((List Int) × (Int × Bool)))) =>
  some (IntKind.wrap IntKind.u32 v0.fst, v0.snd.fst, v0.snd.snd.fst, v0.snd.snd.snd)
def pack_Reader_U32_P : (List Int) × Int × Bool → Option (Int × (List Int) × Int × Bool) := fun p => pack_Reader_U32_M p.1 p.2.1 p.2.2
def pack_Reader_U32_MM : HL [(.slc (.int .u8)), (.int .i64), .bool] → Option (SumL [[(.int .u32), (.slc (.int .u8)), (.int .i64), .bool]]) := fun p => pack_Reader_U32_M p.1 p.2.1 p.2.2
def pack_Reader_U32_C : Con := ⟨1, pack_Reader_U32_T, pack_Reader_U32_O, stdCn [(.slc (.int .u8)), (.int .i64), .bool] [[(.int .u32), (.slc (.int .u8)), (.int .i64), .bool]] pack_Reader_U32_MM⟩

def pack_Reader_U64_n_T : Tm := ⟨[(0, false, [.nilp])], 1, []⟩
def pack_Reader_U64_n_O : List (Ex × Tm) := [(.ret, ⟨[(0, false, [.hole (.int .u64)])], 1, []⟩)]
def pack_Reader_U64_n_M  : Option (Int) :=
  Option.bind (pack_Reader_number_n_P (8 : Int)) fun (v0 : Int) =>
  some (v0)
def pack_Reader_U64_n_P : Unit → Option (Int) := fun p => pack_Reader_U64_n_M 
def pack_Reader_U64_n_MM : HL [] → Option (SumL [[(.int .u64)]]) := fun p => pack_Reader_U64_n_M 
def pack_Reader_U64_n_C : Con := ⟨0, pack_Reader_U64_n_T, pack_Reader_U64_n_O, stdCn [] [[(.int .u64)]] pack_Reader_U64_n_MM⟩

def pack_Reader_U64_T : Tm := ⟨[(0, false, [.ptr 0 0])], 1, [.box [.hole (.slc (.int .u8)), .hole (.int .i64), .hole .bool]]⟩
def pack_Reader_U64_O : List (Ex × Tm) := [(.ret, ⟨[(0, false, [.hole (.int .u64)])], 1, [.box [.hole (.slc (.int .u8)), .hole (.int .i64), .hole .bool]]⟩)]
def pack_Reader_U64_M (m0_0 : List Int) (m0_1 : Int) (m0_2 : Bool) : Option (Int × (List Int) × Int × Bool) :=
  Option.bind (pack_Reader_number_P ((8 : Int), m0_0, m0_1, m0_2)) fun (v0 : (Int × ((List Int) × (Int × Bool)))) =>
  some (v0.fst, v0.snd.fst, v0.snd.snd.fst, v0.snd.snd.snd)
def pack_Reader_U64_P : (List Int) × Int × Bool → Option (Int × (List Int) × Int × Bool) := fun p => pack_Reader_U64_M p.1 p.2.1 p.2.2
def pack_Reader_U64_MM : HL [(.slc (.int .u8)), (.int .i64), .bool] → Option (SumL [[(.int .u64), (.slc (.int .u8)), (.int .i64), .bool]]) := fun p => pack_Reader_U64_M p.1 p.2.1 p.2.2
def pack_Reader_U64_C : Con := ⟨1, pack_Reader_U64_T, pack_Reader_U64_O, stdCn [(.slc (.int .u8)), (.int .i64), .bool] [[(.int .u64), (.slc (.int .u8)), (.int .i64), .bool]] pack_Reader_U64_MM⟩

def pack_Reader_Num_n_T : Tm := ⟨[(0, false, [.nilp]), (1, false, [.hole (.int .i64)])], 2, []⟩
def pack_Reader_Num_n_O : List (Ex × Tm) := [(.ret, ⟨[(0, false, [.hole (.int .i64)])], 1, []⟩)]
def pack_Reader_Num_n_M (s1 : Int) : Option (Int) :=
  Option.bind (pack_Reader_U64_n_P ()) fun (v0 : Int) =>
  Option.bind (pack_Reader_ok_n_P ()) fun (v1 : Bool) =>
  if (!v1) = true then
    some ((0 : Int))
  else
  Option.bind (gshr IntKind.u64 v0 (63 : Int)) fun (v2 : Int) =>
  if (v2 == (1 : Int)) = true then
    none -- STUCK after t21 call
  else
  if decide (IntKind.wrap IntKind.i64 v0 > s1) = true then
    none -- STUCK after t21 call
  else
  some (IntKind.wrap IntKind.i64 v0)
def pack_Reader_Num_n_P : Int → Option (Int) := fun p => pack_Reader_Num_n_M p
def pack_Reader_Num_n_MM : HL [(.int .i64)] → Option (SumL [[(.int .i64)]]) := fun p => pack_Reader_Num_n_M p
def pack_Reader_Num_n_C : Con := ⟨0, pack_Reader_Num_n_T, pack_Reader_Num_n_O, stdCn [(.int .i64)] [[(.int .i64)]] pack_Reader_Num_n_MM⟩

def pack_Reader_Num_T : Tm := ⟨[(0, false, [.ptr 0 0]), (1, false, [.hole (.int .i64)])], 2, [.box [.hole (.slc (.int .u8)), .hole (.int .i64), .hole .bool]]⟩
def pack_Reader_Num_O : List (Ex × Tm) := [(.ret, ⟨[(0, false, [.hole (.int .i64)])], 1, [.box [.hole (.slc (.int .u8)), .hole (.int .i64), .hole .bool]]⟩)]
def pack_Reader_Num_M (s1 : Int) (m0_0 : List Int) (m0_1 : Int) (m0_2 : Bool) : Option (Int × (List Int) × Int × Bool) :=
  Option.bind (pack_Reader_U64_P (m0_0, m0_1, m0_2)) fun (v0 : (Int × ((List Int) × (Int × Bool)))) =>
  Option.bind (pack_Reader_ok_P (v0.snd.fst, v0.snd.snd.fst, v0.snd.snd.snd)) fun (v1 : (Bool × ((List Int) × (Int × Bool)))) =>
  if (!v1.fst) = true then
    some ((0 : Int), v1.snd.fst, v1.snd.snd.fst, v1.snd.snd.snd)
  else
  Option.bind (gshr IntKind.u64 v0.fst (63 : Int)) fun (v2 : Int) =>
  if (v2 == (1 : Int)) = true then
    Option.bind (pack_Reader_fail_P ((5 : Int), v1.snd.fst, v1.snd.snd.fst, v1.snd.snd.snd)) fun (v3 : (Int × Bool)) =>
    some ((0 : Int), [], v3.fst, v3.snd)
  else
  if decide (IntKind.wrap IntKind.i64 v0.fst > s1) = true then
    Option.bind (pack_Reader_fail_P ((5 : Int), v1.snd.fst, v1.snd.snd.fst, v1.snd.snd.snd)) fun (v4 : (Int × Bool)) =>
    some ((0 : Int), [], v4.fst, v4.snd)
  else
  some (IntKind.wrap IntKind.i64 v0.fst, v1.snd.fst, v1.snd.snd.fst, v1.snd.snd.snd)
def pack_Reader_Num_P : Int × (List Int) × Int × Bool → Option (Int × (List Int) × Int × Bool) := fun p => pack_Reader_Num_M p.1 p.2.1 p.2.2.1 p.2.2.2
def pack_Reader_Num_MM : HL [(.int .i64), (.slc (.int .u8)), (.int .i64), .bool] → Option (SumL [[(.int .i64), (.slc (.int .u8)), (.int .i64), .bool]]) := fun p => pack_Reader_Num_M p.1 p.2.1 p.2.2.1 p.2.2.2
def pack_Reader_Num_C : Con := ⟨1, pack_Reader_Num_T, pack_Reader_Num_O, stdCn [(.int .i64), (.slc (.int .u8)), (.int .i64), .bool] [[(.int .i64), (.slc (.int .u8)), (.int .i64), .bool]] pack_Reader_Num_MM⟩

def pack_Reader_Bytes_n_T : Tm := ⟨[(0, false, [.nilp]), (1, false, [.hole (.int .i64)])], 2, []⟩
def pack_Reader_Bytes_n_O : List (Ex × Tm) := [(.ret, ⟨[(0, false, [.row 0])], 1, [.row (.int .u8)]⟩)]
def pack_Reader_Bytes_n_M (s1 : Int) : Option ((List Int)) :=
  Option.bind (pack_Reader_U32_n_P ()) fun (v0 : Int) =>
  Option.bind (pack_Reader_ok_n_P ()) fun (v1 : Bool) =>
  if (!v1) = true then
    some ([])
  else
  if decide (IntKind.wrap IntKind.i64 v0 > s1) = true then
    none -- STUCK after t18 call
  else
  Option.bind (pack_Reader_next_n_P (IntKind.wrap IntKind.i64 v0)) fun (v2 : Bool) =>
  Option.bind (room (1 : Nat) (0 : Nat)) fun _ =>
  some ([])
def pack_Reader_Bytes_n_P : Int → Option ((List Int)) := fun p => pack_Reader_Bytes_n_M p
def pack_Reader_Bytes_n_MM : HL [(.int .i64)] → Option (SumL [[(.slc (.int .u8))]]) := fun p => pack_Reader_Bytes_n_M p
def pack_Reader_Bytes_n_C : Con := ⟨0, pack_Reader_Bytes_n_T, pack_Reader_Bytes_n_O, stdCn [(.int .i64)] [[(.slc (.int .u8))]] pack_Reader_Bytes_n_MM⟩

def pack_Reader_Bytes_T : Tm := ⟨[(0, false, [.ptr 0 0]), (1, false, [.hole (.int .i64)])], 2, [.box [.hole (.slc (.int .u8)), .hole (.int .i64), .hole .bool]]⟩
def pack_Reader_Bytes_O : List (Ex × Tm) := [(.ret, ⟨[(0, false, [.row 1])], 1, [.box [.hole (.slc (.int .u8)), .hole (.int .i64), .hole .bool], .row (.int .u8)]⟩)]
def pack_Reader_Bytes_M (s1 : Int) (m0_0 : List Int) (m0_1 : Int) (m0_2 : Bool) : Option ((List Int) × Int × Bool × (List Int)) :=
  Option.bind (pack_Reader_U32_P (m0_0, m0_1, m0_2)) fun (v0 : (Int × ((List Int) × (Int × Bool)))) =>
  Option.bind (pack_Reader_ok_P (v0.snd.fst, v0.snd.snd.fst, v0.snd.snd.snd)) fun (v1 : (Bool × ((List Int) × (Int × Bool)))) =>
  if (!v1.fst) = true then
    some (v1.snd.fst, v1.snd.snd.fst, v1.snd.snd.snd, [])
  else
  if decide (IntKind.wrap IntKind.i64 v0.fst > s1) = true then
    Option.bind (pack_Reader_fail_P ((5 : Int), v1.snd.fst, v1.snd.snd.fst, v1.snd.snd.snd)) fun (v2 : (Int × Bool)) =>
    some ([], v2.fst, v2.snd, [])
  else
  Option.bind (pack_Reader_next_P (IntKind.wrap IntKind.i64 v0.fst, v1.snd.fst, v1.snd.snd.fst, v1.snd.snd.snd)) fun (v3 : ((List Int) × (Bool × ((List Int) × (Int × Bool))))) =>
  Option.bind (room (1 : Nat) ((0 : Nat) + List.length v3.fst)) fun _ =>
  some (v3.snd.snd.fst, v3.snd.snd.snd.fst, v3.snd.snd.snd.snd, v3.fst)
def pack_Reader_Bytes_P : Int × (List Int) × Int × Bool → Option ((List Int) × Int × Bool × (List Int)) := fun p => pack_Reader_Bytes_M p.1 p.2.1 p.2.2.1 p.2.2.2
def pack_Reader_Bytes_MM : HL [(.int .i64), (.slc (.int .u8)), (.int .i64), .bool] → Option (SumL [[(.slc (.int .u8)), (.int .i64), .bool, (.slc (.int .u8))]]) := fun p => pack_Reader_Bytes_M p.1 p.2.1 p.2.2.1 p.2.2.2
def pack_Reader_Bytes_C : Con := ⟨1, pack_Reader_Bytes_T, pack_Reader_Bytes_O, stdCn [(.int .i64), (.slc (.int .u8)), (.int .i64), .bool] [[(.slc (.int .u8)), (.int .i64), .bool, (.slc (.int .u8))]] pack_Reader_Bytes_MM⟩

def pack_Reader_Left_n_T : Tm := ⟨[(0, false, [.nilp])], 1, []⟩
def pack_Reader_Left_n_O : List (Ex × Tm) := [(.ret, ⟨[(0, false, [.hole (.int .i64)])], 1, []⟩)]
def pack_Reader_Left_n_M  : Option (Int) :=
  some ((0 : Int))
def pack_Reader_Left_n_P : Unit → Option (Int) := fun p => pack_Reader_Left_n_M 
def pack_Reader_Left_n_MM : HL [] → Option (SumL [[(.int .i64)]]) := fun p => pack_Reader_Left_n_M 
def pack_Reader_Left_n_C : Con := ⟨0, pack_Reader_Left_n_T, pack_Reader_Left_n_O, stdCn [] [[(.int .i64)]] pack_Reader_Left_n_MM⟩

def pack_Reader_Left_T : Tm := ⟨[(0, false, [.ptr 0 0])], 1, [.box [.hole (.slc (.int .u8)), .hole (.int .i64), .hole .bool]]⟩
def pack_Reader_Left_O : List (Ex × Tm) := [(.ret, ⟨[(0, false, [.hole (.int .i64)])], 1, [.box [.hole (.slc (.int .u8)), .hole (.int .i64), .hole .bool]]⟩)]
def pack_Reader_Left_M (m0_0 : List Int) (m0_1 : Int) (m0_2 : Bool) : Option (Int × (List Int) × Int × Bool) :=
  some ((((List.length m0_0) : Nat) : Int), m0_0, m0_1, m0_2)
def pack_Reader_Left_P : (List Int) × Int × Bool → Option (Int × (List Int) × Int × Bool) := fun p => pack_Reader_Left_M p.1 p.2.1 p.2.2
def pack_Reader_Left_MM : HL [(.slc (.int .u8)), (.int .i64), .bool] → Option (SumL [[(.int .i64), (.slc (.int .u8)), (.int .i64), .bool]]) := fun p => pack_Reader_Left_M p.1 p.2.1 p.2.2
def pack_Reader_Left_C : Con := ⟨1, pack_Reader_Left_T, pack_Reader_Left_O, stdCn [(.slc (.int .u8)), (.int .i64), .bool] [[(.int .i64), (.slc (.int .u8)), (.int .i64), .bool]] pack_Reader_Left_MM⟩

def pack_Reader_Rest_n_T : Tm := ⟨[(0, false, [.nilp])], 1, []⟩
def pack_Reader_Rest_n_O : List (Ex × Tm) := [(.ret, ⟨[(0, false, [.row 0])], 1, [.row (.int .u8)]⟩)]
def pack_Reader_Rest_n_M  : Option ((List Int)) :=
  Option.bind (pack_Reader_Left_n_P ()) fun (v0 : Int) =>
  Option.bind (pack_Reader_next_n_P v0) fun (v1 : Bool) =>
  Option.bind (room (1 : Nat) (0 : Nat)) fun _ =>
  some ([])
def pack_Reader_Rest_n_P : Unit → Option ((List Int)) := fun p => pack_Reader_Rest_n_M 
def pack_Reader_Rest_n_MM : HL [] → Option (SumL [[(.slc (.int .u8))]]) := fun p => pack_Reader_Rest_n_M 
def pack_Reader_Rest_n_C : Con := ⟨0, pack_Reader_Rest_n_T, pack_Reader_Rest_n_O, stdCn [] [[(.slc (.int .u8))]] pack_Reader_Rest_n_MM⟩

def pack_Reader_Rest_T : Tm := ⟨[(0, false, [.ptr 0 0])], 1, [.box [.hole (.slc (.int .u8)), .hole (.int .i64), .hole .bool]]⟩
def pack_Reader_Rest_O : List (Ex × Tm) := [(.ret, ⟨[(0, false, [.row 1])], 1, [.box [.hole (.slc (.int .u8)), .hole (.int .i64), .hole .bool], .row (.int .u8)]⟩)]
def pack_Reader_Rest_M (m0_0 : List Int) (m0_1 : Int) (m0_2 : Bool) : Option ((List Int) × Int × Bool × (List Int)) :=
  Option.bind (pack_Reader_Left_P (m0_0, m0_1, m0_2)) fun (v0 : (Int × ((List Int) × (Int × Bool)))) =>
  Option.bind (pack_Reader_next_P (v0.fst, v0.snd.fst, v0.snd.snd.fst, v0.snd.snd.snd)) fun (v1 : ((List Int) × (Bool × ((List Int) × (Int × Bool))))) =>
  Option.bind (room (1 : Nat) ((0 : Nat) + List.length v1.fst)) fun _ =>
  some (v1.snd.snd.fst, v1.snd.snd.snd.fst, v1.snd.snd.snd.snd, v1.fst)
def pack_Reader_Rest_P : (List Int) × Int × Bool → Option ((List Int) × Int × Bool × (List Int)) := fun p => pack_Reader_Rest_M p.1 p.2.1 p.2.2
def pack_Reader_Rest_MM : HL [(.slc (.int .u8)), (.int .i64), .bool] → Option (SumL [[(.slc (.int .u8)), (.int .i64), .bool, (.slc (.int .u8))]]) := fun p => pack_Reader_Rest_M p.1 p.2.1 p.2.2
def pack_Reader_Rest_C : Con := ⟨1, pack_Reader_Rest_T, pack_Reader_Rest_O, stdCn [(.slc (.int .u8)), (.int .i64), .bool] [[(.slc (.int .u8)), (.int .i64), .bool, (.slc (.int .u8))]] pack_Reader_Rest_MM⟩

def pack_Reader_Err_n_T : Tm := ⟨[(0, false, [.nilp])], 1, []⟩
def pack_Reader_Err_n_O : List (Ex × Tm) := [(.ret, ⟨[(0, false, [.hole (.int .i64)])], 1, []⟩)]
def pack_Reader_Err_n_M  : Option (Int) :=
  some ((2 : Int))
def pack_Reader_Err_n_P : Unit → Option (Int) := fun p => pack_Reader_Err_n_M 
def pack_Reader_Err_n_MM : HL [] → Option (SumL [[(.int .i64)]]) := fun p => pack_Reader_Err_n_M 
def pack_Reader_Err_n_C : Con := ⟨0, pack_Reader_Err_n_T, pack_Reader_Err_n_O, stdCn [] [[(.int .i64)]] pack_Reader_Err_n_MM⟩

def pack_Reader_Err_T : Tm := ⟨[(0, false, [.ptr 0 0])], 1, [.box [.hole (.slc (.int .u8)), .hole (.int .i64), .hole .bool]]⟩
def pack_Reader_Err_O : List (Ex × Tm) := [(.ret, ⟨[(0, false, [.hole (.int .i64)])], 1, [.box [.hole (.slc (.int .u8)), .hole (.int .i64), .hole .bool]]⟩)]
def pack_Reader_Err_M (m0_0 : List Int) (m0_1 : Int) (m0_2 : Bool) : Option (Int × (List Int) × Int × Bool) :=
  if (!m0_2) = true then
    some ((2 : Int), m0_0, m0_1, m0_2)
  else
  some (m0_1, m0_0, m0_1, m0_2)
def pack_Reader_Err_P : (List Int) × Int × Bool → Option (Int × (List Int) × Int × Bool) := fun p => pack_Reader_Err_M p.1 p.2.1 p.2.2
def pack_Reader_Err_MM : HL [(.slc (.int .u8)), (.int .i64), .bool] → Option (SumL [[(.int .i64), (.slc (.int .u8)), (.int .i64), .bool]]) := fun p => pack_Reader_Err_M p.1 p.2.1 p.2.2
def pack_Reader_Err_C : Con := ⟨1, pack_Reader_Err_T, pack_Reader_Err_O, stdCn [(.slc (.int .u8)), (.int .i64), .bool] [[(.int .i64), (.slc (.int .u8)), (.int .i64), .bool]] pack_Reader_Err_MM⟩

def pack_Reader_End_n_T : Tm := ⟨[(0, false, [.nilp])], 1, []⟩
def pack_Reader_End_n_O : List (Ex × Tm) := [(.ret, ⟨[(0, false, [.hole (.int .i64)])], 1, []⟩)]
def pack_Reader_End_n_M  : Option (Int) :=
  Option.bind (pack_Reader_Err_n_P ()) fun (v0 : Int) =>
  if (v0 == (0 : Int)) = true then
    Option.bind (pack_Reader_Left_n_P ()) fun (v1 : Int) =>
    if decide (v1 > (0 : Int)) = true then
      some ((3 : Int))
    else
    Option.bind (pack_Reader_Err_n_P ()) fun (v2 : Int) =>
    some (v2)
  else
  Option.bind (pack_Reader_Err_n_P ()) fun (v3 : Int) =>
  some (v3)
def pack_Reader_End_n_P : Unit → Option (Int) := fun p => pack_Reader_End_n_M 
def pack_Reader_End_n_MM : HL [] → Option (SumL [[(.int .i64)]]) := fun p => pack_Reader_End_n_M 
def pack_Reader_End_n_C : Con := ⟨0, pack_Reader_End_n_T, pack_Reader_End_n_O, stdCn [] [[(.int .i64)]] pack_Reader_End_n_MM⟩

def pack_Reader_End_T : Tm := ⟨[(0, false, [.ptr 0 0])], 1, [.box [.hole (.slc (.int .u8)), .hole (.int .i64), .hole .bool]]⟩
def pack_Reader_End_O : List (Ex × Tm) := [(.ret, ⟨[(0, false, [.hole (.int .i64)])], 1, [.box [.hole (.slc (.int .u8)), .hole (.int .i64), .hole .bool]]⟩)]
def pack_Reader_End_M (m0_0 : List Int) (m0_1 : Int) (m0_2 : Bool) : Option (Int × (List Int) × Int × Bool) :=
  Option.bind (pack_Reader_Err_P (m0_0, m0_1, m0_2)) fun (v0 : (Int × ((List Int) × (Int × Bool)))) =>
  if (v0.fst == (0 : Int)) = true then
    Option.bind (pack_Reader_Left_P (v0.snd.fst, v0.snd.snd.fst, v0.snd.snd.snd)) fun (v1 : (Int × ((List Int) × (Int × Bool)))) =>
    if decide (v1.fst > (0 : Int)) = true then
      some ((3 : Int), v1.snd.fst, v1.snd.snd.fst, v1.snd.snd.snd)
    else
    Option.bind (pack_Reader_Err_P (v1.snd.fst, v1.snd.snd.fst, v1.snd.snd.snd)) fun (v2 : (Int × ((List Int) × (Int × Bool)))) =>
    some (v2.fst, v2.snd.fst, v2.snd.snd.fst, v2.snd.snd.snd)
  else
  Option.bind (pack_Reader_Err_P (v0.snd.fst, v0.snd.snd.fst, v0.snd.snd.snd)) fun (v3 : (Int × ((List Int) × (Int × Bool)))) =>
  some (v3.fst, v3.snd.fst, v3.snd.snd.fst, v3.snd.snd.snd)
def pack_Reader_End_P : (List Int) × Int × Bool → Option (Int × (List Int) × Int × Bool) := fun p => pack_Reader_End_M p.1 p.2.1 p.2.2
def pack_Reader_End_MM : HL [(.slc (.int .u8)), (.int .i64), .bool] → Option (SumL [[(.int .i64), (.slc (.int .u8)), (.int .i64), .bool]]) := fun p => pack_Reader_End_M p.1 p.2.1 p.2.2
def pack_Reader_End_C : Con := ⟨1, pack_Reader_End_T, pack_Reader_End_O, stdCn [(.slc (.int .u8)), (.int .i64), .bool] [[(.int .i64), (.slc (.int .u8)), (.int .i64), .bool]] pack_Reader_End_MM⟩

def intagliolaw01_PackNobody_T : Tm := ⟨[(0, false, [.hole (.int .i64)])], 1, []⟩
def intagliolaw01_PackNobody_O : List (Ex × Tm) := [(.ret, ⟨[(0, false, [.hole .bool])], 1, []⟩)]
def intagliolaw01_PackNobody_M (s0 : Int) : Option (Bool) :=
  Option.bind (inb (nat_lit 2) (0 : Int)) fun _ =>
  Option.bind (pack_Reader_U8_n_P ()) fun (v1 : Int) =>
  if (v1 != (0 : Int)) = true then
    some (false)
  else
  Option.bind (pack_Reader_U32_n_P ()) fun (v2 : Int) =>
  if (v2 != (0 : Int)) = true then
    some (false)
  else
  Option.bind (pack_Reader_U64_n_P ()) fun (v3 : Int) =>
  if (v3 != (0 : Int)) = true then
    some (false)
  else
  Option.bind (pack_Reader_Num_n_P s0) fun (v4 : Int) =>
  if (v4 != (0 : Int)) = true then
    some (false)
  else
  Option.bind (pack_Reader_Bytes_n_P s0) fun (v5 : (List Int)) =>
  Option.bind (pack_Reader_Rest_n_P ()) fun (v6 : (List Int)) =>
  Option.bind (pack_Reader_Left_n_P ()) fun (v7 : Int) =>
  if (IntKind.wrap IntKind.i64 (IntKind.wrap IntKind.i64 ((((List.length v5) : Nat) : Int) + (((List.length v6) : Nat) : Int)) + v7) != (0 : Int)) = true then
    some (false)
  else
  Option.bind (pack_Reader_Err_n_P ()) fun (v8 : Int) =>
  if (v8 != (2 : Int)) = true then
    some (false)
  else
  Option.bind (pack_Reader_End_n_P ()) fun (v9 : Int) =>
  if (v9 != (2 : Int)) = true then
    some (false)
  else
  Option.bind (inb (nat_lit 2) (1 : Int)) fun _ =>
  Option.bind (pack_Reader_U8_P ([], (0 : Int), false)) fun (v11 : (Int × ((List Int) × (Int × Bool)))) =>
  if (v11.fst != (0 : Int)) = true then
    some (false)
  else
  Option.bind (pack_Reader_U32_P (v11.snd.fst, v11.snd.snd.fst, v11.snd.snd.snd)) fun (v12 : (Int × ((List Int) × (Int × Bool)))) =>
  if (v12.fst != (0 : Int)) = true then
    some (false)
  else
  Option.bind (pack_Reader_U64_P (v12.snd.fst, v12.snd.snd.fst, v12.snd.snd.snd)) fun (v13 : (Int × ((List Int) × (Int × Bool)))) =>
  if (v13.fst != (0 : Int)) = true then
    some (false)
  else
  Option.bind (pack_Reader_Num_P (s0, v13.snd.fst, v13.snd.snd.fst, v13.snd.snd.snd)) fun (v14 : (Int × ((List Int) × (Int × Bool)))) =>
  if (v14.fst != (0 : Int)) = true then
    some (false)
  else
  Option.bind (pack_Reader_Bytes_P (s0, v14.snd.fst, v14.snd.snd.fst, v14.snd.snd.snd)) fun (v15 : ((List Int) × (Int × (Bool × (List Int))))) =>
  Option.bind (pack_Reader_Rest_P (v15.fst, v15.snd.fst, v15.snd.snd.fst)) fun (v16 : ((List Int) × (Int × (Bool × (List Int))))) =>
  Option.bind (pack_Reader_Left_P (v16.fst, v16.snd.fst, v16.snd.snd.fst)) fun (v17 : (Int × ((List Int) × (Int × Bool)))) =>
  if (IntKind.wrap IntKind.i64 (IntKind.wrap IntKind.i64 ((((List.length v15.snd.snd.snd) : Nat) : Int) + (((List.length v16.snd.snd.snd) : Nat) : Int)) + v17.fst) != (0 : Int)) = true then
    some (false)
  else
  Option.bind (pack_Reader_Err_P (v17.snd.fst, v17.snd.snd.fst, v17.snd.snd.snd)) fun (v18 : (Int × ((List Int) × (Int × Bool)))) =>
  if (v18.fst != (2 : Int)) = true then
    some (false)
  else
  Option.bind (pack_Reader_End_P (v18.snd.fst, v18.snd.snd.fst, v18.snd.snd.snd)) fun (v19 : (Int × ((List Int) × (Int × Bool)))) =>
  if (v19.fst != (2 : Int)) = true then
    some (false)
  else
  Option.bind (intagliolaw01_awake_P ()) fun (v20 : Bool) =>
  some (v20)
def intagliolaw01_PackNobody_P : Int → Option (Bool) := fun p => intagliolaw01_PackNobody_M p
def intagliolaw01_PackNobody_MM : HL [(.int .i64)] → Option (SumL [[.bool]]) := fun p => intagliolaw01_PackNobody_M p
def intagliolaw01_PackNobody_C : Con := ⟨0, intagliolaw01_PackNobody_T, intagliolaw01_PackNobody_O, stdCn [(.int .i64)] [[.bool]] intagliolaw01_PackNobody_MM⟩
end
end Go.Proofs.Ytknkonhdbmeolaa
