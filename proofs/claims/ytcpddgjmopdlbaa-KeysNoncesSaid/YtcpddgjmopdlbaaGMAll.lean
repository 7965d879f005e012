/- Plain models of Go functions. -/
import Derived.Test.YtcpddgjmopdlbaaEd
namespace Go.Proofs.Ytcpddgjmopdlbaa
open Go Go.Lift
set_option maxRecDepth 100000
set_option maxHeartbeats 4000000
set_option linter.unusedVariables false
noncomputable section
def GL : Globs := []

def keys_numbers_T : Tm := ⟨[(0, true, [.hole (.int .i64), .hole (.int .i64), .hole (.int .i64), .hole (.int .i64), .hole (.int .i64), .hole (.int .i64)])], 1, []⟩
def keys_numbers_O : List (Ex × Tm) := [(.ret, ⟨[(0, true, [.hole (.arr 6 (.int .i64))])], 1, []⟩)]
def keys_numbers_M (s0_0 : Int) (s0_1 : Int) (s0_2 : Int) (s0_3 : Int) (s0_4 : Int) (s0_5 : Int) : Option ((Arr 6 Int)) :=
  some (Arr.of (6 : Nat) [s0_0, s0_1, s0_2, s0_3, s0_4, s0_5] rfl)
def keys_numbers_P : Int × Int × Int × Int × Int × Int → Option ((Arr 6 Int)) := fun p => keys_numbers_M p.1 p.2.1 p.2.2.1 p.2.2.2.1 p.2.2.2.2.1 p.2.2.2.2.2
def keys_numbers_MM : HL [(.int .i64), (.int .i64), (.int .i64), (.int .i64), (.int .i64), (.int .i64)] → Option (SumL [[(.arr 6 (.int .i64))]]) := fun p => keys_numbers_M p.1 p.2.1 p.2.2.1 p.2.2.2.1 p.2.2.2.2.1 p.2.2.2.2.2
def keys_numbers_C : Con := ⟨0, keys_numbers_T, keys_numbers_O, stdCn [(.int .i64), (.int .i64), (.int .i64), (.int .i64), (.int .i64), (.int .i64)] [[(.arr 6 (.int .i64))]] keys_numbers_MM⟩

def keys_Valid_L1_T : Tm := ⟨[(1, false, [.ptr 0 0]), (6, true, [.hole (.arr 6 (.int .i64))]), (7, false, [.hole (.int .i64)])], 30, [.box [.hole (.int .i64), .hole (.int .i64), .hole (.int .i64), .hole (.int .i64), .hole (.int .i64), .hole (.int .i64)]]⟩
def keys_Valid_L1_O : List (Ex × Tm) := [(.exit 0, ⟨[(1, false, [.ptr 0 0])], 30, [.box [.hole (.int .i64), .hole (.int .i64), .hole (.int .i64), .hole (.int .i64), .hole (.int .i64), .hole (.int .i64)]]⟩), (.ret, ⟨[(2, false, [.hole .bool])], 30, [.box [.hole (.int .i64), .hole (.int .i64), .hole (.int .i64), .hole (.int .i64), .hole (.int .i64), .hole (.int .i64)]]⟩)]
def keys_Valid_L1 (s6 : Arr 6 Int) (s7 : Int) (m0_0 : Int) (m0_1 : Int) (m0_2 : Int) (m0_3 : Int) (m0_4 : Int) (m0_5 : Int) : Option (((Arr 6 Int) × Int × Int × Int × Int × Int × Int × Int) ⊕ ((Int × Int × Int × Int × Int × Int) ⊕ (Bool × Int × Int × Int × Int × Int × Int))) :=
  if decide (s7 < (6 : Int)) = true then
    Option.bind (inb (6 : Nat) s7) fun _ =>
    if decide (List.getD s6.val (Int.toNat s7) (0 : Int) < (0 : Int)) = true then
      some (.inr (.inr (false, m0_0, m0_1, m0_2, m0_3, m0_4, m0_5)))
    else
    if decide (List.getD s6.val (Int.toNat s7) (0 : Int) > (1099511627776 : Int)) = true then
      some (.inr (.inr (false, m0_0, m0_1, m0_2, m0_3, m0_4, m0_5)))
    else
    some (.inl (s6, IntKind.wrap IntKind.i64 (s7 + (1 : Int)), m0_0, m0_1, m0_2, m0_3, m0_4, m0_5))
  else
  some (.inr (.inl (m0_0, m0_1, m0_2, m0_3, m0_4, m0_5)))
def keys_Valid_L1_P : (Arr 6 Int) × Int × Int × Int × Int × Int × Int × Int → Option (((Arr 6 Int) × Int × Int × Int × Int × Int × Int × Int) ⊕ ((Int × Int × Int × Int × Int × Int) ⊕ (Bool × Int × Int × Int × Int × Int × Int))) := fun p => keys_Valid_L1 p.1 p.2.1 p.2.2.1 p.2.2.2.1 p.2.2.2.2.1 p.2.2.2.2.2.1 p.2.2.2.2.2.2.1 p.2.2.2.2.2.2.2
def keys_Valid_L1_MM : HL [(.arr 6 (.int .i64)), (.int .i64), (.int .i64), (.int .i64), (.int .i64), (.int .i64), (.int .i64), (.int .i64)] → Option (HL [(.arr 6 (.int .i64)), (.int .i64), (.int .i64), (.int .i64), (.int .i64), (.int .i64), (.int .i64), (.int .i64)] ⊕ SumL [[(.int .i64), (.int .i64), (.int .i64), (.int .i64), (.int .i64), (.int .i64)], [.bool, (.int .i64), (.int .i64), (.int .i64), (.int .i64), (.int .i64), (.int .i64)]]) := fun p => keys_Valid_L1 p.1 p.2.1 p.2.2.1 p.2.2.2.1 p.2.2.2.2.1 p.2.2.2.2.2.1 p.2.2.2.2.2.2.1 p.2.2.2.2.2.2.2
def keys_Valid_L1_C : Con := ⟨1, keys_Valid_L1_T, keys_Valid_L1_O, stdCn [(.arr 6 (.int .i64)), (.int .i64), (.int .i64), (.int .i64), (.int .i64), (.int .i64), (.int .i64), (.int .i64)] [[(.int .i64), (.int .i64), (.int .i64), (.int .i64), (.int .i64), (.int .i64)], [.bool, (.int .i64), (.int .i64), (.int .i64), (.int .i64), (.int .i64), (.int .i64)]] (loop keys_Valid_L1_MM)⟩
def keys_Valid_T : Tm := ⟨[(0, true, [.hole (.int .i64), .hole (.int .i64), .hole (.int .i64), .hole (.int .i64), .hole (.int .i64), .hole (.int .i64)])], 1, []⟩
def keys_Valid_O : List (Ex × Tm) := [(.ret, ⟨[(0, false, [.hole .bool])], 1, []⟩)]
def keys_Valid_M (s0_0 : Int) (s0_1 : Int) (s0_2 : Int) (s0_3 : Int) (s0_4 : Int) (s0_5 : Int) : Option (Bool) :=
  Option.bind (keys_numbers_P (s0_0, s0_1, s0_2, s0_3, s0_4, s0_5)) fun (v0 : (Arr (6 : Nat) Int)) =>
  Option.bind (loop keys_Valid_L1_P (v0, (0 : Int), s0_0, s0_1, s0_2, s0_3, s0_4, s0_5)) fun (v1 : ((Int × (Int × (Int × (Int × (Int × Int))))) ⊕ (Bool × (Int × (Int × (Int × (Int × (Int × Int)))))))) =>
  Sum.elim (fun (v2 : (Int × (Int × (Int × (Int × (Int × Int)))))) =>
      if decide (v2.fst ≥ (1 : Int)) = true then
        if decide (v2.fst ≤ (6 : Int)) = true then
          some (decide (v2.snd.snd.snd.snd.fst ≤ (1 : Int)))
        else
        some (false)
      else
      some (false)
    ) (fun (v3 : (Bool × (Int × (Int × (Int × (Int × (Int × Int))))))) =>
    some (v3.fst)
  ) (v1)
def keys_Valid_P : Int × Int × Int × Int × Int × Int → Option (Bool) := fun p => keys_Valid_M p.1 p.2.1 p.2.2.1 p.2.2.2.1 p.2.2.2.2.1 p.2.2.2.2.2
def keys_Valid_MM : HL [(.int .i64), (.int .i64), (.int .i64), (.int .i64), (.int .i64), (.int .i64)] → Option (SumL [[.bool]]) := fun p => keys_Valid_M p.1 p.2.1 p.2.2.1 p.2.2.2.1 p.2.2.2.2.1 p.2.2.2.2.2
def keys_Valid_C : Con := ⟨0, keys_Valid_T, keys_Valid_O, stdCn [(.int .i64), (.int .i64), (.int .i64), (.int .i64), (.int .i64), (.int .i64)] [[.bool]] keys_Valid_MM⟩

def pack_high_uint64_L1_T : Tm := ⟨[(1, false, [.hole (.int .u64)]), (7, false, [.row 0]), (8, false, [.hole (.int .i64)])], 26, [.row (.int .u8)]⟩
def pack_high_uint64_L1_O : List (Ex × Tm) := [(.exit 0, ⟨[(7, false, [.row 0])], 26, [.row (.int .u8)]⟩)]
def pack_high_uint64_L1 (s1 : Int) (s8 : Int) (r0 : List Int) : Option ((Int × Int × (List Int)) ⊕ (((List Int)))) :=
  if decide (s8 ≥ (0 : Int)) = true then
    Option.bind (gshr IntKind.u64 s1 (IntKind.wrap IntKind.i64 ((8 : Int) * s8))) fun (v0 : Int) =>
    Option.bind (room (1 : Nat) (List.length r0 + List.length [IntKind.wrap IntKind.u8 v0])) fun _ =>
    some (.inl (s1, IntKind.wrap IntKind.i64 (s8 - (1 : Int)), r0 ++ [IntKind.wrap IntKind.u8 v0]))
  else
  some (.inr (r0))
def pack_high_uint64_L1_P : Int × Int × (List Int) → Option ((Int × Int × (List Int)) ⊕ (((List Int)))) := fun p => pack_high_uint64_L1 p.1 p.2.1 p.2.2
def pack_high_uint64_L1_MM : HL [(.int .u64), (.int .i64), (.slc (.int .u8))] → Option (HL [(.int .u64), (.int .i64), (.slc (.int .u8))] ⊕ SumL [[(.slc (.int .u8))]]) := fun p => pack_high_uint64_L1 p.1 p.2.1 p.2.2
def pack_high_uint64_L1_C : Con := ⟨0, pack_high_uint64_L1_T, pack_high_uint64_L1_O, stdCn [(.int .u64), (.int .i64), (.slc (.int .u8))] [[(.slc (.int .u8))]] (loop pack_high_uint64_L1_MM)⟩
def pack_high_uint64_T : Tm := ⟨[(0, false, [.hole (.slc (.int .u8))]), (1, false, [.hole (.int .u64)]), (2, false, [.hole (.int .i64)])], 3, []⟩
def pack_high_uint64_O : List (Ex × Tm) := [(.ret, ⟨[(0, false, [.row 0])], 1, [.row (.int .u8)]⟩)]
def pack_high_uint64_M (s0 : List Int) (s1 : Int) (s2 : Int) : Option ((List Int)) :=
  Option.bind (room (1 : Nat) ((0 : Nat) + List.length s0)) fun _ =>
  Option.bind (loop pack_high_uint64_L1_P (s1, IntKind.wrap IntKind.i64 (s2 - (1 : Int)), s0)) fun (v1 : (List Int)) =>
  some (v1)
def pack_high_uint64_P : (List Int) × Int × Int → Option ((List Int)) := fun p => pack_high_uint64_M p.1 p.2.1 p.2.2
def pack_high_uint64_MM : HL [(.slc (.int .u8)), (.int .u64), (.int .i64)] → Option (SumL [[(.slc (.int .u8))]]) := fun p => pack_high_uint64_M p.1 p.2.1 p.2.2
def pack_high_uint64_C : Con := ⟨0, pack_high_uint64_T, pack_high_uint64_O, stdCn [(.slc (.int .u8)), (.int .u64), (.int .i64)] [[(.slc (.int .u8))]] pack_high_uint64_MM⟩

def pack_Put64_T : Tm := ⟨[(0, false, [.hole (.slc (.int .u8))]), (1, false, [.hole (.int .u64)])], 2, []⟩
def pack_Put64_O : List (Ex × Tm) := [(.ret, ⟨[(0, false, [.row 0])], 1, [.row (.int .u8)]⟩)]
def pack_Put64_M (s0 : List Int) (s1 : Int) : Option ((List Int)) :=
  Option.bind (pack_high_uint64_P (s0, s1, (8 : Int))) fun (v0 : (List Int)) =>
  some (v0)
def pack_Put64_P : (List Int) × Int → Option ((List Int)) := fun p => pack_Put64_M p.1 p.2
def pack_Put64_MM : HL [(.slc (.int .u8)), (.int .u64)] → Option (SumL [[(.slc (.int .u8))]]) := fun p => pack_Put64_M p.1 p.2
def pack_Put64_C : Con := ⟨0, pack_Put64_T, pack_Put64_O, stdCn [(.slc (.int .u8)), (.int .u64)] [[(.slc (.int .u8))]] pack_Put64_MM⟩

def pack_PutNum_T : Tm := ⟨[(0, false, [.hole (.slc (.int .u8))]), (1, false, [.hole (.int .i64)])], 2, []⟩
def pack_PutNum_O : List (Ex × Tm) := [(.ret, ⟨[(0, false, [.row 0])], 1, [.row (.int .u8)]⟩)]
def pack_PutNum_M (s0 : List Int) (s1 : Int) : Option ((List Int)) :=
  Option.bind (pack_Put64_P (s0, IntKind.wrap IntKind.u64 (if (0 : Int) > s1 then (0 : Int) else s1))) fun (v0 : (List Int)) =>
  some (v0)
def pack_PutNum_P : (List Int) × Int → Option ((List Int)) := fun p => pack_PutNum_M p.1 p.2
def pack_PutNum_MM : HL [(.slc (.int .u8)), (.int .i64)] → Option (SumL [[(.slc (.int .u8))]]) := fun p => pack_PutNum_M p.1 p.2
def pack_PutNum_C : Con := ⟨0, pack_PutNum_T, pack_PutNum_O, stdCn [(.slc (.int .u8)), (.int .i64)] [[(.slc (.int .u8))]] pack_PutNum_MM⟩

def keys_Bytes_L1_T : Tm := ⟨[(3, false, [.row 0]), (10, true, [.hole (.arr 6 (.int .i64))]), (11, false, [.hole (.int .i64)])], 19, [.row (.int .u8)]⟩
def keys_Bytes_L1_O : List (Ex × Tm) := [(.exit 0, ⟨[(3, false, [.row 0])], 19, [.row (.int .u8)]⟩)]
def keys_Bytes_L1 (s10 : Arr 6 Int) (s11 : Int) (r0 : List Int) : Option (((Arr 6 Int) × Int × (List Int)) ⊕ (((List Int)))) :=
  if decide (s11 < (6 : Int)) = true then
    Option.bind (inb (6 : Nat) s11) fun _ =>
    Option.bind (pack_PutNum_P (r0, List.getD s10.val (Int.toNat s11) (0 : Int))) fun (v1 : (List Int)) =>
    some (.inl (s10, IntKind.wrap IntKind.i64 (s11 + (1 : Int)), v1))
  else
  some (.inr (r0))
def keys_Bytes_L1_P : (Arr 6 Int) × Int × (List Int) → Option (((Arr 6 Int) × Int × (List Int)) ⊕ (((List Int)))) := fun p => keys_Bytes_L1 p.1 p.2.1 p.2.2
def keys_Bytes_L1_MM : HL [(.arr 6 (.int .i64)), (.int .i64), (.slc (.int .u8))] → Option (HL [(.arr 6 (.int .i64)), (.int .i64), (.slc (.int .u8))] ⊕ SumL [[(.slc (.int .u8))]]) := fun p => keys_Bytes_L1 p.1 p.2.1 p.2.2
def keys_Bytes_L1_C : Con := ⟨0, keys_Bytes_L1_T, keys_Bytes_L1_O, stdCn [(.arr 6 (.int .i64)), (.int .i64), (.slc (.int .u8))] [[(.slc (.int .u8))]] (loop keys_Bytes_L1_MM)⟩
def keys_Bytes_T : Tm := ⟨[(0, true, [.hole (.int .i64), .hole (.int .i64), .hole (.int .i64), .hole (.int .i64), .hole (.int .i64), .hole (.int .i64)])], 1, []⟩
def keys_Bytes_O : List (Ex × Tm) := [(.ret, ⟨[(0, false, [.row 0])], 1, [.row (.int .u8)]⟩)]
def keys_Bytes_M (s0_0 : Int) (s0_1 : Int) (s0_2 : Int) (s0_3 : Int) (s0_4 : Int) (s0_5 : Int) : Option ((List Int)) :=
  Option.bind (keys_Valid_P (s0_0, s0_1, s0_2, s0_3, s0_4, s0_5)) fun (v0 : Bool) =>
  if (!v0) = true then
    some ([])
  else
  Option.bind (keys_numbers_P (s0_0, s0_1, s0_2, s0_3, s0_4, s0_5)) fun (v1 : (Arr (6 : Nat) Int)) =>
  Option.bind (loop keys_Bytes_L1_P (v1, (0 : Int), [])) fun (v2 : (List Int)) =>
  some (v2)
def keys_Bytes_P : Int × Int × Int × Int × Int × Int → Option ((List Int)) := fun p => keys_Bytes_M p.1 p.2.1 p.2.2.1 p.2.2.2.1 p.2.2.2.2.1 p.2.2.2.2.2
def keys_Bytes_MM : HL [(.int .i64), (.int .i64), (.int .i64), (.int .i64), (.int .i64), (.int .i64)] → Option (SumL [[(.slc (.int .u8))]]) := fun p => keys_Bytes_M p.1 p.2.1 p.2.2.1 p.2.2.2.1 p.2.2.2.2.1 p.2.2.2.2.2
def keys_Bytes_C : Con := ⟨0, keys_Bytes_T, keys_Bytes_O, stdCn [(.int .i64), (.int .i64), (.int .i64), (.int .i64), (.int .i64), (.int .i64)] [[(.slc (.int .u8))]] keys_Bytes_MM⟩

def intagliolaw07_awake_T : Tm := ⟨[], 0, []⟩
def intagliolaw07_awake_O : List (Ex × Tm) := [(.ret, ⟨[(0, false, [.hole .bool])], 1, []⟩)]
def intagliolaw07_awake_M  : Option (Bool) :=
  Option.bind (keys_Bytes_P ((3 : Int), (0 : Int), (2 : Int), (0 : Int), (0 : Int), (0 : Int))) fun (v0 : (List Int)) =>
  if ((((List.length v0) : Nat) : Int) == (48 : Int)) = true then
    Option.bind (inb (List.length v0) (7 : Int)) fun _ =>
    if (List.getD v0 (nat_lit 7) (0 : Int) == (3 : Int)) = true then
      Option.bind (inb (List.length v0) (23 : Int)) fun _ =>
      some (List.getD v0 (nat_lit 23) (0 : Int) == (2 : Int))
    else
    some (false)
  else
  some (false)
def intagliolaw07_awake_P : Unit → Option (Bool) := fun p => intagliolaw07_awake_M 
def intagliolaw07_awake_MM : HL [] → Option (SumL [[.bool]]) := fun p => intagliolaw07_awake_M 
def intagliolaw07_awake_C : Con := ⟨0, intagliolaw07_awake_T, intagliolaw07_awake_O, stdCn [] [[.bool]] intagliolaw07_awake_MM⟩

def keys_Nonce_T : Tm := ⟨[(0, false, [.hole (.int .i64)])], 1, []⟩
def keys_Nonce_O : List (Ex × Tm) := [(.ret, ⟨[(0, true, [.hole (.arr 12 (.int .u8))]), (1, false, [.hole .bool])], 2, []⟩)]
def keys_Nonce_M (s0 : Int) : Option ((Arr 12 Int) × Bool) :=
  if decide (s0 < (0 : Int)) = true then
    some (Arr.rep (12 : Nat) (0 : Int), false)
  else
  if decide (s0 > (1099511627776 : Int)) = true then
    some (Arr.rep (12 : Nat) (0 : Int), false)
  else
  Option.bind (subn (12 : Nat) (4 : Int) (12 : Int)) fun _ =>
  Option.bind (pack_PutNum_P ([], s0)) fun (v1 : (List Int)) =>
  some (Arr.cpy (Arr.rep (12 : Nat) (0 : Int)) (nat_lit 4) (nat_lit 12) v1, true)
def keys_Nonce_P : Int → Option ((Arr 12 Int) × Bool) := fun p => keys_Nonce_M p
def keys_Nonce_MM : HL [(.int .i64)] → Option (SumL [[(.arr 12 (.int .u8)), .bool]]) := fun p => keys_Nonce_M p
def keys_Nonce_C : Con := ⟨0, keys_Nonce_T, keys_Nonce_O, stdCn [(.int .i64)] [[(.arr 12 (.int .u8)), .bool]] keys_Nonce_MM⟩

def intaglioref07_in_T : Tm := ⟨[(0, false, [.hole (.int .i64)])], 1, []⟩
def intaglioref07_in_O : List (Ex × Tm) := [(.ret, ⟨[(0, false, [.hole .bool])], 1, []⟩)]
def intaglioref07_in_M (s0 : Int) : Option (Bool) :=
  if decide (s0 ≥ (0 : Int)) = true then
    some (decide (s0 ≤ (1099511627776 : Int)))
  else
  some (false)
def intaglioref07_in_P : Int → Option (Bool) := fun p => intaglioref07_in_M p
def intaglioref07_in_MM : HL [(.int .i64)] → Option (SumL [[.bool]]) := fun p => intaglioref07_in_M p
def intaglioref07_in_C : Con := ⟨0, intaglioref07_in_T, intaglioref07_in_O, stdCn [(.int .i64)] [[.bool]] intaglioref07_in_MM⟩

def intaglioref01_Both_T : Tm := ⟨[(0, false, [.hole (.slc (.int .u8))]), (1, false, [.hole (.slc (.int .u8))])], 2, []⟩
def intaglioref01_Both_O : List (Ex × Tm) := [(.ret, ⟨[(0, false, [.row 0])], 1, [.row (.int .u8)]⟩)]
def intaglioref01_Both_M (s0 : List Int) (s1 : List Int) : Option ((List Int)) :=
  Option.bind (room (1 : Nat) ((0 : Nat) + List.length s0)) fun _ =>
  Option.bind (room (1 : Nat) (List.length s0 + List.length s1)) fun _ =>
  some (s0 ++ s1)
def intaglioref01_Both_P : (List Int) × (List Int) → Option ((List Int)) := fun p => intaglioref01_Both_M p.1 p.2
def intaglioref01_Both_MM : HL [(.slc (.int .u8)), (.slc (.int .u8))] → Option (SumL [[(.slc (.int .u8))]]) := fun p => intaglioref01_Both_M p.1 p.2
def intaglioref01_Both_C : Con := ⟨0, intaglioref01_Both_T, intaglioref01_Both_O, stdCn [(.slc (.int .u8)), (.slc (.int .u8))] [[(.slc (.int .u8))]] intaglioref01_Both_MM⟩

def intaglioref01_High_L1_T : Tm := ⟨[(0, false, [.hole (.int .u64)]), (1, false, [.hole (.int .i64)]), (5, false, [.row 0]), (6, false, [.hole (.int .i64)])], 26, [.row (.int .u8)]⟩
def intaglioref01_High_L1_O : List (Ex × Tm) := [(.exit 0, ⟨[(5, false, [.row 0])], 26, [.row (.int .u8)]⟩)]
def intaglioref01_High_L1 (s0 : Int) (s1 : Int) (s6 : Int) (r0 : List Int) : Option ((Int × Int × Int × (List Int)) ⊕ (((List Int)))) :=
  if decide (s6 < s1) = true then
    Option.bind (grem IntKind.u64 s0 (256 : Int)) fun (v0 : Int) =>
    Option.bind (inb (List.length r0) (IntKind.wrap IntKind.i64 (IntKind.wrap IntKind.i64 (s1 - (1 : Int)) - s6))) fun _ =>
    Option.bind (gquo IntKind.u64 s0 (256 : Int)) fun (v2 : Int) =>
    some (.inl (v2, s1, IntKind.wrap IntKind.i64 (s6 + (1 : Int)), List.set r0 (Int.toNat (IntKind.wrap IntKind.i64 (IntKind.wrap IntKind.i64 (s1 - (1 : Int)) - s6))) (IntKind.wrap IntKind.u8 v0)))
  else
  some (.inr (r0))
def intaglioref01_High_L1_P : Int × Int × Int × (List Int) → Option ((Int × Int × Int × (List Int)) ⊕ (((List Int)))) := fun p => intaglioref01_High_L1 p.1 p.2.1 p.2.2.1 p.2.2.2
def intaglioref01_High_L1_MM : HL [(.int .u64), (.int .i64), (.int .i64), (.slc (.int .u8))] → Option (HL [(.int .u64), (.int .i64), (.int .i64), (.slc (.int .u8))] ⊕ SumL [[(.slc (.int .u8))]]) := fun p => intaglioref01_High_L1 p.1 p.2.1 p.2.2.1 p.2.2.2
def intaglioref01_High_L1_C : Con := ⟨0, intaglioref01_High_L1_T, intaglioref01_High_L1_O, stdCn [(.int .u64), (.int .i64), (.int .i64), (.slc (.int .u8))] [[(.slc (.int .u8))]] (loop intaglioref01_High_L1_MM)⟩
def intaglioref01_High_T : Tm := ⟨[(0, false, [.hole (.int .u64)]), (1, false, [.hole (.int .i64)])], 2, []⟩
def intaglioref01_High_O : List (Ex × Tm) := [(.ret, ⟨[(0, false, [.row 0])], 1, [.row (.int .u8)]⟩)]
def intaglioref01_High_M (s0 : Int) (s1 : Int) : Option ((List Int)) :=
  Option.bind (mk2 (1 : Nat) s1 s1) fun (v0 : Nat) =>
  Option.bind (loop intaglioref01_High_L1_P (s0, s1, (0 : Int), List.replicate v0 (0 : Int))) fun (v1 : (List Int)) =>
  some (v1)
def intaglioref01_High_P : Int × Int → Option ((List Int)) := fun p => intaglioref01_High_M p.1 p.2
def intaglioref01_High_MM : HL [(.int .u64), (.int .i64)] → Option (SumL [[(.slc (.int .u8))]]) := fun p => intaglioref01_High_M p.1 p.2
def intaglioref01_High_C : Con := ⟨0, intaglioref01_High_T, intaglioref01_High_O, stdCn [(.int .u64), (.int .i64)] [[(.slc (.int .u8))]] intaglioref01_High_MM⟩

def intaglioref01_Put64_T : Tm := ⟨[(0, false, [.hole (.slc (.int .u8))]), (1, false, [.hole (.int .u64)])], 2, []⟩
def intaglioref01_Put64_O : List (Ex × Tm) := [(.ret, ⟨[(0, false, [.row 0])], 1, [.row (.int .u8)]⟩)]
def intaglioref01_Put64_M (s0 : List Int) (s1 : Int) : Option ((List Int)) :=
  Option.bind (intaglioref01_High_P (s1, (8 : Int))) fun (v0 : (List Int)) =>
  Option.bind (intaglioref01_Both_P (s0, v0)) fun (v1 : (List Int)) =>
  some (v1)
def intaglioref01_Put64_P : (List Int) × Int → Option ((List Int)) := fun p => intaglioref01_Put64_M p.1 p.2
def intaglioref01_Put64_MM : HL [(.slc (.int .u8)), (.int .u64)] → Option (SumL [[(.slc (.int .u8))]]) := fun p => intaglioref01_Put64_M p.1 p.2
def intaglioref01_Put64_C : Con := ⟨0, intaglioref01_Put64_T, intaglioref01_Put64_O, stdCn [(.slc (.int .u8)), (.int .u64)] [[(.slc (.int .u8))]] intaglioref01_Put64_MM⟩

def intaglioref01_PutNum_T : Tm := ⟨[(0, false, [.hole (.slc (.int .u8))]), (1, false, [.hole (.int .i64)])], 2, []⟩
def intaglioref01_PutNum_O : List (Ex × Tm) := [(.ret, ⟨[(0, false, [.row 0])], 1, [.row (.int .u8)]⟩)]
def intaglioref01_PutNum_M (s0 : List Int) (s1 : Int) : Option ((List Int)) :=
  if decide (s1 < (0 : Int)) = true then
    Option.bind (intaglioref01_Put64_P (s0, (0 : Int))) fun (v0 : (List Int)) =>
    some (v0)
  else
  Option.bind (intaglioref01_Put64_P (s0, IntKind.wrap IntKind.u64 s1)) fun (v1 : (List Int)) =>
  some (v1)
def intaglioref01_PutNum_P : (List Int) × Int → Option ((List Int)) := fun p => intaglioref01_PutNum_M p.1 p.2
def intaglioref01_PutNum_MM : HL [(.slc (.int .u8)), (.int .i64)] → Option (SumL [[(.slc (.int .u8))]]) := fun p => intaglioref01_PutNum_M p.1 p.2
def intaglioref01_PutNum_C : Con := ⟨0, intaglioref01_PutNum_T, intaglioref01_PutNum_O, stdCn [(.slc (.int .u8)), (.int .i64)] [[(.slc (.int .u8))]] intaglioref01_PutNum_MM⟩

def intaglioref07_Nonce_L1_T : Tm := ⟨[(2, false, [.ptr 0 0]), (4, false, [.ptr 1 0]), (5, false, [.row 2]), (6, false, [.hole (.int .i64)])], 25, [.box [.hole (.arr 12 (.int .u8))], .box [.hole (.arr 12 (.int .u8))], .row (.int .u8)]⟩
def intaglioref07_Nonce_L1_O : List (Ex × Tm) := [(.exit 0, ⟨[(2, false, [.ptr 0 0]), (4, false, [.ptr 1 0])], 25, [.box [.hole (.arr 12 (.int .u8))], .box [.hole (.arr 12 (.int .u8))]]⟩)]
def intaglioref07_Nonce_L1 (s6 : Int) (m0 : Arr 12 Int) (m1 : Arr 12 Int) (r2 : List Int) : Option ((Int × (Arr 12 Int) × (Arr 12 Int) × (List Int)) ⊕ (((Arr 12 Int) × (Arr 12 Int)))) :=
  if decide (s6 < (8 : Int)) = true then
    Option.bind (inb (List.length r2) s6) fun _ =>
    Option.bind (inb (12 : Nat) (IntKind.wrap IntKind.i64 ((4 : Int) + s6))) fun _ =>
    some (.inl (IntKind.wrap IntKind.i64 (s6 + (1 : Int)), m0, Arr.set m1 (Int.toNat (IntKind.wrap IntKind.i64 ((4 : Int) + s6))) (List.getD r2 (Int.toNat s6) (0 : Int)), r2))
  else
  some (.inr (m0, m1))
def intaglioref07_Nonce_L1_P : Int × (Arr 12 Int) × (Arr 12 Int) × (List Int) → Option ((Int × (Arr 12 Int) × (Arr 12 Int) × (List Int)) ⊕ (((Arr 12 Int) × (Arr 12 Int)))) := fun p => intaglioref07_Nonce_L1 p.1 p.2.1 p.2.2.1 p.2.2.2
def intaglioref07_Nonce_L1_MM : HL [(.int .i64), (.arr 12 (.int .u8)), (.arr 12 (.int .u8)), (.slc (.int .u8))] → Option (HL [(.int .i64), (.arr 12 (.int .u8)), (.arr 12 (.int .u8)), (.slc (.int .u8))] ⊕ SumL [[(.arr 12 (.int .u8)), (.arr 12 (.int .u8))]]) := fun p => intaglioref07_Nonce_L1 p.1 p.2.1 p.2.2.1 p.2.2.2
def intaglioref07_Nonce_L1_C : Con := ⟨2, intaglioref07_Nonce_L1_T, intaglioref07_Nonce_L1_O, stdCn [(.int .i64), (.arr 12 (.int .u8)), (.arr 12 (.int .u8)), (.slc (.int .u8))] [[(.arr 12 (.int .u8)), (.arr 12 (.int .u8))]] (loop intaglioref07_Nonce_L1_MM)⟩
def intaglioref07_Nonce_T : Tm := ⟨[(0, false, [.hole (.int .i64)])], 1, []⟩
def intaglioref07_Nonce_O : List (Ex × Tm) := [(.ret, ⟨[(0, true, [.hole (.arr 12 (.int .u8))]), (1, false, [.hole .bool])], 2, []⟩)]
def intaglioref07_Nonce_M (s0 : Int) : Option ((Arr 12 Int) × Bool) :=
  Option.bind (intaglioref07_in_P s0) fun (v0 : Bool) =>
  if (!v0) = true then
    some (Arr.rep (12 : Nat) (0 : Int), false)
  else
  Option.bind (intaglioref01_PutNum_P ([], s0)) fun (v1 : (List Int)) =>
  Option.bind (loop intaglioref07_Nonce_L1_P ((0 : Int), Arr.rep (12 : Nat) (0 : Int), Arr.rep (12 : Nat) (0 : Int), v1)) fun (v2 : ((Arr (12 : Nat) Int) × (Arr (12 : Nat) Int))) =>
  some (v2.snd, true)
def intaglioref07_Nonce_P : Int → Option ((Arr 12 Int) × Bool) := fun p => intaglioref07_Nonce_M p
def intaglioref07_Nonce_MM : HL [(.int .i64)] → Option (SumL [[(.arr 12 (.int .u8)), .bool]]) := fun p => intaglioref07_Nonce_M p
def intaglioref07_Nonce_C : Con := ⟨0, intaglioref07_Nonce_T, intaglioref07_Nonce_O, stdCn [(.int .i64)] [[(.arr 12 (.int .u8)), .bool]] intaglioref07_Nonce_MM⟩

def intagliolaw07_KeysNonces_T : Tm := ⟨[(0, false, [.hole (.int .i64)]), (1, false, [.hole (.int .i64)])], 2, []⟩
def intagliolaw07_KeysNonces_O : List (Ex × Tm) := [(.ret, ⟨[(0, false, [.hole .bool])], 1, []⟩)]
def intagliolaw07_KeysNonces_M (s0 : Int) (s1 : Int) : Option (Bool) :=
  Option.bind (keys_Nonce_P s0) fun (v0 : ((Arr (12 : Nat) Int) × Bool)) =>
  Option.bind (intaglioref07_Nonce_P s0) fun (v1 : ((Arr (12 : Nat) Int) × Bool)) =>
  Option.bind (keys_Nonce_P s1) fun (v2 : ((Arr (12 : Nat) Int) × Bool)) =>
  if xeqv.eqI v0.fst.val v1.fst.val = true then
    if (v0.snd == v1.snd) = true then
      if (!v0.snd) = true then
        Option.bind (intagliolaw07_awake_P ()) fun (v3 : Bool) =>
        some (v3)
      else
      if (!v2.snd) = true then
        Option.bind (intagliolaw07_awake_P ()) fun (v4 : Bool) =>
        some (v4)
      else
      if (xeqv.eqI v0.fst.val v2.fst.val == (s0 == s1)) = true then
        Option.bind (intagliolaw07_awake_P ()) fun (v5 : Bool) =>
        some (v5)
      else
      some (false)
    else
    some (false)
  else
  some (false)
def intagliolaw07_KeysNonces_P : Int × Int → Option (Bool) := fun p => intagliolaw07_KeysNonces_M p.1 p.2
def intagliolaw07_KeysNonces_MM : HL [(.int .i64), (.int .i64)] → Option (SumL [[.bool]]) := fun p => intagliolaw07_KeysNonces_M p.1 p.2
def intagliolaw07_KeysNonces_C : Con := ⟨0, intagliolaw07_KeysNonces_T, intagliolaw07_KeysNonces_O, stdCn [(.int .i64), (.int .i64)] [[.bool]] intagliolaw07_KeysNonces_MM⟩
end
end Go.Proofs.Ytcpddgjmopdlbaa
