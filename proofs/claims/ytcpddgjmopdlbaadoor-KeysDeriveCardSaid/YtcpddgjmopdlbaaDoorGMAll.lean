/- Plain models of Go functions. -/
import Derived.Test.YtcpddgjmopdlbaaDoorEd
namespace Go.Proofs.YtcpddgjmopdlbaaDoor
open Go Go.Lift
set_option maxRecDepth 100000
set_option maxHeartbeats 4000000
set_option linter.unusedVariables false
noncomputable section
def shaStart : Arr 8 Int := Arr.of 8 [1779033703, 3144134277, 1013904242, 2773480762, 1359893119, 2600822924, 528734635, 1541459225] rfl
def shaCubes : Arr 64 Int := Arr.of 64 [1116352408, 1899447441, 3049323471, 3921009573, 961987163, 1508970993, 2453635748, 2870763221, 3624381080, 310598401, 607225278, 1426881987, 1925078388, 2162078206, 2614888103, 3248222580, 3835390401, 4022224774, 264347078, 604807628, 770255983, 1249150122, 1555081692, 1996064986, 2554220882, 2821834349, 2952996808, 3210313671, 3336571891, 3584528711, 113926993, 338241895, 666307205, 773529912, 1294757372, 1396182291, 1695183700, 1986661051, 2177026350, 2456956037, 2730485921, 2820302411, 3259730800, 3345764771, 3516065817, 3600352804, 4094571909, 275423344, 430227734, 506948616, 659060556, 883997877, 958139571, 1322822218, 1537002063, 1747873779, 1955562222, 2024104815, 2227730452, 2361852424, 2428436474, 2756734187, 3204031479, 3329325298] rfl
def GL : Globs := [(0, ⟨.arr 8 (.int .u32), shaStart⟩), (1, ⟨.arr 64 (.int .u32), shaCubes⟩)]

def keys_numbers_T : Tm := ⟨[(0, true, [.hole (.int .i64), .hole (.int .i64), .hole (.int .i64), .hole (.int .i64), .hole (.int .i64), .hole (.int .i64)])], 1, []⟩
def keys_numbers_O : List (Ex × Tm) := [(.ret, ⟨[(0, true, [.hole (.arr 6 (.int .i64))])], 1, []⟩)]
def keys_numbers_M (s0_0 : Int) (s0_1 : Int) (s0_2 : Int) (s0_3 : Int) (s0_4 : Int) (s0_5 : Int) : Option ((Arr 6 Int)) :=
  some (Arr.of (6 : Nat) [s0_0, s0_1, s0_2, s0_3, s0_4, s0_5] rfl)
def keys_numbers_P : Int × Int × Int × Int × Int × Int → Option ((Arr 6 Int)) := fun p => keys_numbers_M p.1 p.2.1 p.2.2.1 p.2.2.2.1 p.2.2.2.2.1 p.2.2.2.2.2
def keys_numbers_MM : HL [(.int .i64), (.int .i64), (.int .i64), (.int .i64), (.int .i64), (.int .i64)] → Option (SumL [[(.arr 6 (.int .i64))]]) := fun p => keys_numbers_M p.1 p.2.1 p.2.2.1 p.2.2.2.1 p.2.2.2.2.1 p.2.2.2.2.2
def keys_numbers_C : Con := ⟨0, keys_numbers_T, keys_numbers_O, stdCn [(.int .i64), (.int .i64), (.int .i64), (.int .i64), (.int .i64), (.int .i64)] [[(.arr 6 (.int .i64))]] keys_numbers_MM⟩

def keys_Valid_L1_T : Tm := ⟨[(1, false, [.ptr 0 0]), (6, true, [.hole (.arr 6 (.int .i64))]), (7, false, [.hole (.int .i64)])], 30, [.box [.hole (.int .i64), .hole (.int .i64), .hole (.int .i64), .hole (.int .i64), .hole (.int .i64), .hole (.int .i64)]]⟩
def keys_Valid_L1_O : List (Ex × Tm) := [(.exit 0, ⟨[(1, false, [.ptr 0 0])], 30, [.box [.hole (.int .i64), .hole (.int .i64), .hole (.int .i64), .hole (.int .i64), .hole (.int .i64), .hole (.int .i64)]]⟩), (.ret, ⟨[(2, false, [.hole .bool])], 30, [.box [.hole (.int .i64), .hole (.int .i64), .hole (.int .i64), .hole (.int .i64), .hole (.int .i64), .hole (.int .i64)]]⟩)]
def keys_Valid_L1 (s6 : Arr 6 Int) (s7 : Int) (m0_0 : Int) (m0_1 : Int) (m0_2 : Int) (m0_3 : Int) (m0_4 : Int) (m0_5 : Int) : Option (((Arr 6 Int) × Int × Int × Int × Int × Int × Int × Int) ⊕ ((Int × Int × Int × Int × Int × Int) ⊕ (Bool × Int × Int × Int × Int × Int × Int))) :=
  if decide (s7 < (6 : Int)) = true then
    Option.bind (inb (6 : Nat) s7) fun _ =>
    if decide (List.getD s6.val (Int.toNat s7) (0 : Int) < (0 : Int)) = true then
      some (.inr (.inr (false, m0_0, m0_1, m0_2, m0_3, m0_4, m0_5)))
    else
    if decide (List.getD s6.val (Int.toNat s7) (0 : Int) > (1099511627776 : Int)) = true then
      some (.inr (.inr (false, m0_0, m0_1, m0_2, m0_3, m0_4, m0_5)))
    else
    some (.inl (s6, IntKind.wrap IntKind.i64 (s7 + (1 : Int)), m0_0, m0_1, m0_2, m0_3, m0_4, m0_5))
  else
  some (.inr (.inl (m0_0, m0_1, m0_2, m0_3, m0_4, m0_5)))
def keys_Valid_L1_P : (Arr 6 Int) × Int × Int × Int × Int × Int × Int × Int → Option (((Arr 6 Int) × Int × Int × Int × Int × Int × Int × Int) ⊕ ((Int × Int × Int × Int × Int × Int) ⊕ (Bool × Int × Int × Int × Int × Int × Int))) := fun p => keys_Valid_L1 p.1 p.2.1 p.2.2.1 p.2.2.2.1 p.2.2.2.2.1 p.2.2.2.2.2.1 p.2.2.2.2.2.2.1 p.2.2.2.2.2.2.2
def keys_Valid_L1_MM : HL [(.arr 6 (.int .i64)), (.int .i64), (.int .i64), (.int .i64), (.int .i64), (.int .i64), (.int .i64), (.int .i64)] → Option (HL [(.arr 6 (.int .i64)), (.int .i64), (.int .i64), (.int .i64), (.int .i64), (.int .i64), (.int .i64), (.int .i64)] ⊕ SumL [[(.int .i64), (.int .i64), (.int .i64), (.int .i64), (.int .i64), (.int .i64)], [.bool, (.int .i64), (.int .i64), (.int .i64), (.int .i64), (.int .i64), (.int .i64)]]) := fun p => keys_Valid_L1 p.1 p.2.1 p.2.2.1 p.2.2.2.1 p.2.2.2.2.1 p.2.2.2.2.2.1 p.2.2.2.2.2.2.1 p.2.2.2.2.2.2.2
def keys_Valid_L1_C : Con := ⟨1, keys_Valid_L1_T, keys_Valid_L1_O, stdCn [(.arr 6 (.int .i64)), (.int .i64), (.int .i64), (.int .i64), (.int .i64), (.int .i64), (.int .i64), (.int .i64)] [[(.int .i64), (.int .i64), (.int .i64), (.int .i64), (.int .i64), (.int .i64)], [.bool, (.int .i64), (.int .i64), (.int .i64), (.int .i64), (.int .i64), (.int .i64)]] (loop keys_Valid_L1_MM)⟩
def keys_Valid_T : Tm := ⟨[(0, true, [.hole (.int .i64), .hole (.int .i64), .hole (.int .i64), .hole (.int .i64), .hole (.int .i64), .hole (.int .i64)])], 1, []⟩
def keys_Valid_O : List (Ex × Tm) := [(.ret, ⟨[(0, false, [.hole .bool])], 1, []⟩)]
def keys_Valid_M (s0_0 : Int) (s0_1 : Int) (s0_2 : Int) (s0_3 : Int) (s0_4 : Int) (s0_5 : Int) : Option (Bool) :=
  Option.bind (keys_numbers_P (s0_0, s0_1, s0_2, s0_3, s0_4, s0_5)) fun (v0 : (Arr (6 : Nat) Int)) =>
  Option.bind (loop keys_Valid_L1_P (v0, (0 : Int), s0_0, s0_1, s0_2, s0_3, s0_4, s0_5)) fun (v1 : ((Int × (Int × (Int × (Int × (Int × Int))))) ⊕ (Bool × (Int × (Int × (Int × (Int × (Int × Int)))))))) =>
  Sum.elim (fun (v2 : (Int × (Int × (Int × (Int × (Int × Int)))))) =>
      if decide (v2.fst ≥ (1 : Int)) = true then
        if decide (v2.fst ≤ (6 : Int)) = true then
          some (decide (v2.snd.snd.snd.snd.fst ≤ (1 : Int)))
        else
        some (false)
      else
      some (false)
    ) (fun (v3 : (Bool × (Int × (Int × (Int × (Int × (Int × Int))))))) =>
    some (v3.fst)
  ) (v1)
def keys_Valid_P : Int × Int × Int × Int × Int × Int → Option (Bool) := fun p => keys_Valid_M p.1 p.2.1 p.2.2.1 p.2.2.2.1 p.2.2.2.2.1 p.2.2.2.2.2
def keys_Valid_MM : HL [(.int .i64), (.int .i64), (.int .i64), (.int .i64), (.int .i64), (.int .i64)] → Option (SumL [[.bool]]) := fun p => keys_Valid_M p.1 p.2.1 p.2.2.1 p.2.2.2.1 p.2.2.2.2.1 p.2.2.2.2.2
def keys_Valid_C : Con := ⟨0, keys_Valid_T, keys_Valid_O, stdCn [(.int .i64), (.int .i64), (.int .i64), (.int .i64), (.int .i64), (.int .i64)] [[.bool]] keys_Valid_MM⟩

def pack_high_uint64_L1_T : Tm := ⟨[(1, false, [.hole (.int .u64)]), (7, false, [.row 0]), (8, false, [.hole (.int .i64)])], 26, [.row (.int .u8)]⟩
def pack_high_uint64_L1_O : List (Ex × Tm) := [(.exit 0, ⟨[(7, false, [.row 0])], 26, [.row (.int .u8)]⟩)]
def pack_high_uint64_L1 (s1 : Int) (s8 : Int) (r0 : List Int) : Option ((Int × Int × (List Int)) ⊕ (((List Int)))) :=
  if decide (s8 ≥ (0 : Int)) = true then
    Option.bind (gshr IntKind.u64 s1 (IntKind.wrap IntKind.i64 ((8 : Int) * s8))) fun (v0 : Int) =>
    Option.bind (room (1 : Nat) (List.length r0 + List.length [IntKind.wrap IntKind.u8 v0])) fun _ =>
    some (.inl (s1, IntKind.wrap IntKind.i64 (s8 - (1 : Int)), r0 ++ [IntKind.wrap IntKind.u8 v0]))
  else
  some (.inr (r0))
def pack_high_uint64_L1_P : Int × Int × (List Int) → Option ((Int × Int × (List Int)) ⊕ (((List Int)))) := fun p => pack_high_uint64_L1 p.1 p.2.1 p.2.2
def pack_high_uint64_L1_MM : HL [(.int .u64), (.int .i64), (.slc (.int .u8))] → Option (HL [(.int .u64), (.int .i64), (.slc (.int .u8))] ⊕ SumL [[(.slc (.int .u8))]]) := fun p => pack_high_uint64_L1 p.1 p.2.1 p.2.2
def pack_high_uint64_L1_C : Con := ⟨0, pack_high_uint64_L1_T, pack_high_uint64_L1_O, stdCn [(.int .u64), (.int .i64), (.slc (.int .u8))] [[(.slc (.int .u8))]] (loop pack_high_uint64_L1_MM)⟩
def pack_high_uint64_T : Tm := ⟨[(0, false, [.hole (.slc (.int .u8))]), (1, false, [.hole (.int .u64)]), (2, false, [.hole (.int .i64)])], 3, []⟩
def pack_high_uint64_O : List (Ex × Tm) := [(.ret, ⟨[(0, false, [.row 0])], 1, [.row (.int .u8)]⟩)]
def pack_high_uint64_M (s0 : List Int) (s1 : Int) (s2 : Int) : Option ((List Int)) :=
  Option.bind (room (1 : Nat) ((0 : Nat) + List.length s0)) fun _ =>
  Option.bind (loop pack_high_uint64_L1_P (s1, IntKind.wrap IntKind.i64 (s2 - (1 : Int)), s0)) fun (v1 : (List Int)) =>
  some (v1)
def pack_high_uint64_P : (List Int) × Int × Int → Option ((List Int)) := fun p => pack_high_uint64_M p.1 p.2.1 p.2.2
def pack_high_uint64_MM : HL [(.slc (.int .u8)), (.int .u64), (.int .i64)] → Option (SumL [[(.slc (.int .u8))]]) := fun p => pack_high_uint64_M p.1 p.2.1 p.2.2
def pack_high_uint64_C : Con := ⟨0, pack_high_uint64_T, pack_high_uint64_O, stdCn [(.slc (.int .u8)), (.int .u64), (.int .i64)] [[(.slc (.int .u8))]] pack_high_uint64_MM⟩

def pack_Put64_T : Tm := ⟨[(0, false, [.hole (.slc (.int .u8))]), (1, false, [.hole (.int .u64)])], 2, []⟩
def pack_Put64_O : List (Ex × Tm) := [(.ret, ⟨[(0, false, [.row 0])], 1, [.row (.int .u8)]⟩)]
def pack_Put64_M (s0 : List Int) (s1 : Int) : Option ((List Int)) :=
  Option.bind (pack_high_uint64_P (s0, s1, (8 : Int))) fun (v0 : (List Int)) =>
  some (v0)
def pack_Put64_P : (List Int) × Int → Option ((List Int)) := fun p => pack_Put64_M p.1 p.2
def pack_Put64_MM : HL [(.slc (.int .u8)), (.int .u64)] → Option (SumL [[(.slc (.int .u8))]]) := fun p => pack_Put64_M p.1 p.2
def pack_Put64_C : Con := ⟨0, pack_Put64_T, pack_Put64_O, stdCn [(.slc (.int .u8)), (.int .u64)] [[(.slc (.int .u8))]] pack_Put64_MM⟩

def pack_PutNum_T : Tm := ⟨[(0, false, [.hole (.slc (.int .u8))]), (1, false, [.hole (.int .i64)])], 2, []⟩
def pack_PutNum_O : List (Ex × Tm) := [(.ret, ⟨[(0, false, [.row 0])], 1, [.row (.int .u8)]⟩)]
def pack_PutNum_M (s0 : List Int) (s1 : Int) : Option ((List Int)) :=
  Option.bind (pack_Put64_P (s0, IntKind.wrap IntKind.u64 (if (0 : Int) > s1 then (0 : Int) else s1))) fun (v0 : (List Int)) =>
  some (v0)
def pack_PutNum_P : (List Int) × Int → Option ((List Int)) := fun p => pack_PutNum_M p.1 p.2
def pack_PutNum_MM : HL [(.slc (.int .u8)), (.int .i64)] → Option (SumL [[(.slc (.int .u8))]]) := fun p => pack_PutNum_M p.1 p.2
def pack_PutNum_C : Con := ⟨0, pack_PutNum_T, pack_PutNum_O, stdCn [(.slc (.int .u8)), (.int .i64)] [[(.slc (.int .u8))]] pack_PutNum_MM⟩

def keys_Bytes_L1_T : Tm := ⟨[(3, false, [.row 0]), (10, true, [.hole (.arr 6 (.int .i64))]), (11, false, [.hole (.int .i64)])], 19, [.row (.int .u8)]⟩
def keys_Bytes_L1_O : List (Ex × Tm) := [(.exit 0, ⟨[(3, false, [.row 0])], 19, [.row (.int .u8)]⟩)]
def keys_Bytes_L1 (s10 : Arr 6 Int) (s11 : Int) (r0 : List Int) : Option (((Arr 6 Int) × Int × (List Int)) ⊕ (((List Int)))) :=
  if decide (s11 < (6 : Int)) = true then
    Option.bind (inb (6 : Nat) s11) fun _ =>
    Option.bind (pack_PutNum_P (r0, List.getD s10.val (Int.toNat s11) (0 : Int))) fun (v1 : (List Int)) =>
    some (.inl (s10, IntKind.wrap IntKind.i64 (s11 + (1 : Int)), v1))
  else
  some (.inr (r0))
def keys_Bytes_L1_P : (Arr 6 Int) × Int × (List Int) → Option (((Arr 6 Int) × Int × (List Int)) ⊕ (((List Int)))) := fun p => keys_Bytes_L1 p.1 p.2.1 p.2.2
def keys_Bytes_L1_MM : HL [(.arr 6 (.int .i64)), (.int .i64), (.slc (.int .u8))] → Option (HL [(.arr 6 (.int .i64)), (.int .i64), (.slc (.int .u8))] ⊕ SumL [[(.slc (.int .u8))]]) := fun p => keys_Bytes_L1 p.1 p.2.1 p.2.2
def keys_Bytes_L1_C : Con := ⟨0, keys_Bytes_L1_T, keys_Bytes_L1_O, stdCn [(.arr 6 (.int .i64)), (.int .i64), (.slc (.int .u8))] [[(.slc (.int .u8))]] (loop keys_Bytes_L1_MM)⟩
def keys_Bytes_T : Tm := ⟨[(0, true, [.hole (.int .i64), .hole (.int .i64), .hole (.int .i64), .hole (.int .i64), .hole (.int .i64), .hole (.int .i64)])], 1, []⟩
def keys_Bytes_O : List (Ex × Tm) := [(.ret, ⟨[(0, false, [.row 0])], 1, [.row (.int .u8)]⟩)]
def keys_Bytes_M (s0_0 : Int) (s0_1 : Int) (s0_2 : Int) (s0_3 : Int) (s0_4 : Int) (s0_5 : Int) : Option ((List Int)) :=
  Option.bind (keys_Valid_P (s0_0, s0_1, s0_2, s0_3, s0_4, s0_5)) fun (v0 : Bool) =>
  if (!v0) = true then
    some ([])
  else
  Option.bind (keys_numbers_P (s0_0, s0_1, s0_2, s0_3, s0_4, s0_5)) fun (v1 : (Arr (6 : Nat) Int)) =>
  Option.bind (loop keys_Bytes_L1_P (v1, (0 : Int), [])) fun (v2 : (List Int)) =>
  some (v2)
def keys_Bytes_P : Int × Int × Int × Int × Int × Int → Option ((List Int)) := fun p => keys_Bytes_M p.1 p.2.1 p.2.2.1 p.2.2.2.1 p.2.2.2.2.1 p.2.2.2.2.2
def keys_Bytes_MM : HL [(.int .i64), (.int .i64), (.int .i64), (.int .i64), (.int .i64), (.int .i64)] → Option (SumL [[(.slc (.int .u8))]]) := fun p => keys_Bytes_M p.1 p.2.1 p.2.2.1 p.2.2.2.1 p.2.2.2.2.1 p.2.2.2.2.2
def keys_Bytes_C : Con := ⟨0, keys_Bytes_T, keys_Bytes_O, stdCn [(.int .i64), (.int .i64), (.int .i64), (.int .i64), (.int .i64), (.int .i64)] [[(.slc (.int .u8))]] keys_Bytes_MM⟩

def intagliolaw07_awake_T : Tm := ⟨[], 0, []⟩
def intagliolaw07_awake_O : List (Ex × Tm) := [(.ret, ⟨[(0, false, [.hole .bool])], 1, []⟩)]
def intagliolaw07_awake_M  : Option (Bool) :=
  Option.bind (keys_Bytes_P ((3 : Int), (0 : Int), (2 : Int), (0 : Int), (0 : Int), (0 : Int))) fun (v0 : (List Int)) =>
  if ((((List.length v0) : Nat) : Int) == (48 : Int)) = true then
    Option.bind (inb (List.length v0) (7 : Int)) fun _ =>
    if (List.getD v0 (nat_lit 7) (0 : Int) == (3 : Int)) = true then
      Option.bind (inb (List.length v0) (23 : Int)) fun _ =>
      some (List.getD v0 (nat_lit 23) (0 : Int) == (2 : Int))
    else
    some (false)
  else
  some (false)
def intagliolaw07_awake_P : Unit → Option (Bool) := fun p => intagliolaw07_awake_M 
def intagliolaw07_awake_MM : HL [] → Option (SumL [[.bool]]) := fun p => intagliolaw07_awake_M 
def intagliolaw07_awake_C : Con := ⟨0, intagliolaw07_awake_T, intagliolaw07_awake_O, stdCn [] [[.bool]] intagliolaw07_awake_MM⟩

def pack_Join_L1_T : Tm := ⟨[(3, false, [.row 0]), (6, false, [.hole (.slc (.slc (.int .u8)))]), (7, false, [.hole (.int .i64)]), (8, false, [.hole (.int .i64)])], 17, [.row (.int .u8)]⟩
def pack_Join_L1_O : List (Ex × Tm) := [(.exit 0, ⟨[(3, false, [.row 0])], 17, [.row (.int .u8)]⟩)]
def pack_Join_L1 (s6 : List (List Int)) (s7 : Int) (s8 : Int) (r0 : List Int) : Option (((List (List Int)) × Int × Int × (List Int)) ⊕ (((List Int)))) :=
  if decide (s8 < s7) = true then
    Option.bind (ix s6 s8) fun (v0 : (List Int)) =>
    Option.bind (room (1 : Nat) (List.length r0 + List.length v0)) fun _ =>
    some (.inl (s6, s7, IntKind.wrap IntKind.i64 (s8 + (1 : Int)), r0 ++ v0))
  else
  some (.inr (r0))
def pack_Join_L1_P : (List (List Int)) × Int × Int × (List Int) → Option (((List (List Int)) × Int × Int × (List Int)) ⊕ (((List Int)))) := fun p => pack_Join_L1 p.1 p.2.1 p.2.2.1 p.2.2.2
def pack_Join_L1_MM : HL [(.slc (.slc (.int .u8))), (.int .i64), (.int .i64), (.slc (.int .u8))] → Option (HL [(.slc (.slc (.int .u8))), (.int .i64), (.int .i64), (.slc (.int .u8))] ⊕ SumL [[(.slc (.int .u8))]]) := fun p => pack_Join_L1 p.1 p.2.1 p.2.2.1 p.2.2.2
def pack_Join_L1_C : Con := ⟨0, pack_Join_L1_T, pack_Join_L1_O, stdCn [(.slc (.slc (.int .u8))), (.int .i64), (.int .i64), (.slc (.int .u8))] [[(.slc (.int .u8))]] (loop pack_Join_L1_MM)⟩
def pack_Join_T : Tm := ⟨[(0, false, [.hole (.slc (.slc (.int .u8)))])], 1, []⟩
def pack_Join_O : List (Ex × Tm) := [(.ret, ⟨[(0, false, [.row 0])], 1, [.row (.int .u8)]⟩)]
def pack_Join_M (s0 : List (List Int)) : Option ((List Int)) :=
  Option.bind (loop pack_Join_L1_P (s0, (((List.length s0) : Nat) : Int), (0 : Int), [])) fun (v0 : (List Int)) =>
  some (v0)
def pack_Join_P : (List (List Int)) → Option ((List Int)) := fun p => pack_Join_M p
def pack_Join_MM : HL [(.slc (.slc (.int .u8)))] → Option (SumL [[(.slc (.int .u8))]]) := fun p => pack_Join_M p
def pack_Join_C : Con := ⟨0, pack_Join_T, pack_Join_O, stdCn [(.slc (.slc (.int .u8)))] [[(.slc (.int .u8))]] pack_Join_MM⟩

def sha_New_T : Tm := ⟨[], 0, []⟩
def sha_New_O : List (Ex × Tm) := [(.ret, ⟨[(0, false, [.ptr 0 0])], 1, [.box [.hole (.arr 8 (.int .u32)), .row 1, .hole (.int .i64), .hole .bool], .row (.int .u8)]⟩)]
def sha_New_M  : Option ((Arr 8 Int) × Int × Bool × (List Int)) :=
  some (shaStart, (0 : Int), true, [])
def sha_New_P : Unit → Option ((Arr 8 Int) × Int × Bool × (List Int)) := fun p => sha_New_M 
def sha_New_MM : HL [] → Option (SumL [[(.arr 8 (.int .u32)), (.int .i64), .bool, (.slc (.int .u8))]]) := fun p => sha_New_M 
def sha_New_C : Con := ⟨0, sha_New_T, sha_New_O, stdCn [] [[(.arr 8 (.int .u32)), (.int .i64), .bool, (.slc (.int .u8))]] sha_New_MM⟩

def bits_RotateLeft32_T : Tm := ⟨[(0, false, [.hole (.int .u32)]), (1, false, [.hole (.int .i64)])], 2, []⟩
def bits_RotateLeft32_O : List (Ex × Tm) := [(.ret, ⟨[(0, false, [.hole (.int .u32)])], 1, []⟩)]
def bits_RotateLeft32_M (s0 : Int) (s1 : Int) : Option (Int) :=
  Option.bind (gshl IntKind.u32 s0 (band IntKind.u64 (IntKind.wrap IntKind.u64 s1) (31 : Int))) fun (v0 : Int) =>
  Option.bind (gshr IntKind.u32 s0 (IntKind.wrap IntKind.u64 ((32 : Int) - band IntKind.u64 (IntKind.wrap IntKind.u64 s1) (31 : Int)))) fun (v1 : Int) =>
  some (bor IntKind.u32 v0 v1)
def bits_RotateLeft32_P : Int × Int → Option (Int) := fun p => bits_RotateLeft32_M p.1 p.2
def bits_RotateLeft32_MM : HL [(.int .u32), (.int .i64)] → Option (SumL [[(.int .u32)]]) := fun p => bits_RotateLeft32_M p.1 p.2
def bits_RotateLeft32_C : Con := ⟨0, bits_RotateLeft32_T, bits_RotateLeft32_O, stdCn [(.int .u32), (.int .i64)] [[(.int .u32)]] bits_RotateLeft32_MM⟩

def sha_right_T : Tm := ⟨[(0, false, [.hole (.int .u32)]), (1, false, [.hole (.int .i64)])], 2, []⟩
def sha_right_O : List (Ex × Tm) := [(.ret, ⟨[(0, false, [.hole (.int .u32)])], 1, []⟩)]
def sha_right_M (s0 : Int) (s1 : Int) : Option (Int) :=
  Option.bind (bits_RotateLeft32_P (s0, IntKind.wrap IntKind.i64 ((0 : Int) - s1))) fun (v0 : Int) =>
  some (v0)
def sha_right_P : Int × Int → Option (Int) := fun p => sha_right_M p.1 p.2
def sha_right_MM : HL [(.int .u32), (.int .i64)] → Option (SumL [[(.int .u32)]]) := fun p => sha_right_M p.1 p.2
def sha_right_C : Con := ⟨0, sha_right_T, sha_right_O, stdCn [(.int .u32), (.int .i64)] [[(.int .u32)]] sha_right_MM⟩

def pack_Read_T : Tm := ⟨[(0, false, [.hole (.slc (.int .u8))])], 1, []⟩
def pack_Read_O : List (Ex × Tm) := [(.ret, ⟨[(0, false, [.ptr 0 0])], 1, [.box [.hole (.slc (.int .u8)), .hole (.int .i64), .hole .bool]]⟩)]
def pack_Read_M (s0 : List Int) : Option ((List Int) × Int × Bool) :=
  Option.bind (room (1 : Nat) ((0 : Nat) + List.length s0)) fun _ =>
  some (s0, (0 : Int), true)
def pack_Read_P : (List Int) → Option ((List Int) × Int × Bool) := fun p => pack_Read_M p
def pack_Read_MM : HL [(.slc (.int .u8))] → Option (SumL [[(.slc (.int .u8)), (.int .i64), .bool]]) := fun p => pack_Read_M p
def pack_Read_C : Con := ⟨0, pack_Read_T, pack_Read_O, stdCn [(.slc (.int .u8))] [[(.slc (.int .u8)), (.int .i64), .bool]] pack_Read_MM⟩

def pack_Reader_ok_T : Tm := ⟨[(0, false, [.ptr 0 0])], 1, [.box [.hole (.slc (.int .u8)), .hole (.int .i64), .hole .bool]]⟩
def pack_Reader_ok_O : List (Ex × Tm) := [(.ret, ⟨[(0, false, [.hole .bool])], 1, [.box [.hole (.slc (.int .u8)), .hole (.int .i64), .hole .bool]]⟩)]
def pack_Reader_ok_M (m0_0 : List Int) (m0_1 : Int) (m0_2 : Bool) : Option (Bool × (List Int) × Int × Bool) :=
  if m0_2 = true then
    some (m0_1 == (0 : Int), m0_0, m0_1, m0_2)
  else
  some (false, m0_0, m0_1, m0_2)
def pack_Reader_ok_P : (List Int) × Int × Bool → Option (Bool × (List Int) × Int × Bool) := fun p => pack_Reader_ok_M p.1 p.2.1 p.2.2
def pack_Reader_ok_MM : HL [(.slc (.int .u8)), (.int .i64), .bool] → Option (SumL [[.bool, (.slc (.int .u8)), (.int .i64), .bool]]) := fun p => pack_Reader_ok_M p.1 p.2.1 p.2.2
def pack_Reader_ok_C : Con := ⟨1, pack_Reader_ok_T, pack_Reader_ok_O, stdCn [(.slc (.int .u8)), (.int .i64), .bool] [[.bool, (.slc (.int .u8)), (.int .i64), .bool]] pack_Reader_ok_MM⟩

def pack_Reader_fail_T : Tm := ⟨[(0, false, [.ptr 0 0]), (1, false, [.hole (.int .i64)])], 2, [.box [.hole (.slc (.int .u8)), .hole (.int .i64), .hole .bool]]⟩
def pack_Reader_fail_O : List (Ex × Tm) := [(.ret, ⟨[], 0, [.box [.nils, .hole (.int .i64), .hole .bool]]⟩)]
def pack_Reader_fail_M (s1 : Int) (m0_0 : List Int) (m0_1 : Int) (m0_2 : Bool) : Option (Int × Bool) :=
  some (s1, m0_2)
def pack_Reader_fail_P : Int × (List Int) × Int × Bool → Option (Int × Bool) := fun p => pack_Reader_fail_M p.1 p.2.1 p.2.2.1 p.2.2.2
def pack_Reader_fail_MM : HL [(.int .i64), (.slc (.int .u8)), (.int .i64), .bool] → Option (SumL [[(.int .i64), .bool]]) := fun p => pack_Reader_fail_M p.1 p.2.1 p.2.2.1 p.2.2.2
def pack_Reader_fail_C : Con := ⟨1, pack_Reader_fail_T, pack_Reader_fail_O, stdCn [(.int .i64), (.slc (.int .u8)), (.int .i64), .bool] [[(.int .i64), .bool]] pack_Reader_fail_MM⟩

def pack_Reader_next_T : Tm := ⟨[(0, false, [.ptr 0 0]), (1, false, [.hole (.int .i64)])], 2, [.box [.hole (.slc (.int .u8)), .hole (.int .i64), .hole .bool]]⟩
def pack_Reader_next_O : List (Ex × Tm) := [(.ret, ⟨[(0, false, [.hole (.slc (.int .u8))]), (1, false, [.hole .bool])], 2, [.box [.hole (.slc (.int .u8)), .hole (.int .i64), .hole .bool]]⟩)]
def pack_Reader_next_M (s1 : Int) (m0_0 : List Int) (m0_1 : Int) (m0_2 : Bool) : Option ((List Int) × Bool × (List Int) × Int × Bool) :=
  Option.bind (pack_Reader_ok_P (m0_0, m0_1, m0_2)) fun (v0 : (Bool × ((List Int) × (Int × Bool)))) =>
  if (!v0.fst) = true then
    some ([], false, v0.snd.fst, v0.snd.snd.fst, v0.snd.snd.snd)
  else
  if decide (s1 > (((List.length v0.snd.fst) : Nat) : Int)) = true then
    Option.bind (pack_Reader_fail_P ((4 : Int), v0.snd.fst, v0.snd.snd.fst, v0.snd.snd.snd)) fun (v1 : (Int × Bool)) =>
    some ([], false, [], v1.fst, v1.snd)
  else
  Option.bind (sub v0.snd.fst (0 : Int) s1) fun (v2 : (List Int)) =>
  Option.bind (sub v0.snd.fst s1 (((List.length v0.snd.fst) : Nat) : Int)) fun (v3 : (List Int)) =>
  some (v2, true, v3, v0.snd.snd.fst, v0.snd.snd.snd)
def pack_Reader_next_P : Int × (List Int) × Int × Bool → Option ((List Int) × Bool × (List Int) × Int × Bool) := fun p => pack_Reader_next_M p.1 p.2.1 p.2.2.1 p.2.2.2
def pack_Reader_next_MM : HL [(.int .i64), (.slc (.int .u8)), (.int .i64), .bool] → Option (SumL [[(.slc (.int .u8)), .bool, (.slc (.int .u8)), (.int .i64), .bool]]) := fun p => pack_Reader_next_M p.1 p.2.1 p.2.2.1 p.2.2.2
def pack_Reader_next_C : Con := ⟨1, pack_Reader_next_T, pack_Reader_next_O, stdCn [(.int .i64), (.slc (.int .u8)), (.int .i64), .bool] [[(.slc (.int .u8)), .bool, (.slc (.int .u8)), (.int .i64), .bool]] pack_Reader_next_MM⟩

def pack_Reader_number_L1_T : Tm := ⟨[(7, false, [.hole (.int .u64)]), (16, false, [.hole (.slc (.int .u8))]), (17, false, [.hole (.int .i64)]), (18, false, [.hole (.int .i64)])], 29, []⟩
def pack_Reader_number_L1_O : List (Ex × Tm) := [(.exit 0, ⟨[(7, false, [.hole (.int .u64)])], 29, []⟩)]
def pack_Reader_number_L1 (s7 : Int) (s16 : List Int) (s17 : Int) (s18 : Int) : Option ((Int × (List Int) × Int × Int) ⊕ ((Int))) :=
  if decide (s18 < s17) = true then
    Option.bind (ix s16 s18) fun (v0 : Int) =>
    Option.bind (gshl IntKind.u64 s7 (8 : Int)) fun (v1 : Int) =>
    some (.inl (bor IntKind.u64 v1 (IntKind.wrap IntKind.u64 v0), s16, s17, IntKind.wrap IntKind.i64 (s18 + (1 : Int))))
  else
  some (.inr (s7))
def pack_Reader_number_L1_P : Int × (List Int) × Int × Int → Option ((Int × (List Int) × Int × Int) ⊕ ((Int))) := fun p => pack_Reader_number_L1 p.1 p.2.1 p.2.2.1 p.2.2.2
def pack_Reader_number_L1_MM : HL [(.int .u64), (.slc (.int .u8)), (.int .i64), (.int .i64)] → Option (HL [(.int .u64), (.slc (.int .u8)), (.int .i64), (.int .i64)] ⊕ SumL [[(.int .u64)]]) := fun p => pack_Reader_number_L1 p.1 p.2.1 p.2.2.1 p.2.2.2
def pack_Reader_number_L1_C : Con := ⟨0, pack_Reader_number_L1_T, pack_Reader_number_L1_O, stdCn [(.int .u64), (.slc (.int .u8)), (.int .i64), (.int .i64)] [[(.int .u64)]] (loop pack_Reader_number_L1_MM)⟩
def pack_Reader_number_T : Tm := ⟨[(0, false, [.ptr 0 0]), (1, false, [.hole (.int .i64)])], 2, [.box [.hole (.slc (.int .u8)), .hole (.int .i64), .hole .bool]]⟩
def pack_Reader_number_O : List (Ex × Tm) := [(.ret, ⟨[(0, false, [.hole (.int .u64)])], 1, [.box [.hole (.slc (.int .u8)), .hole (.int .i64), .hole .bool]]⟩)]
def pack_Reader_number_M (s1 : Int) (m0_0 : List Int) (m0_1 : Int) (m0_2 : Bool) : Option (Int × (List Int) × Int × Bool) :=
  Option.bind (pack_Reader_next_P (s1, m0_0, m0_1, m0_2)) fun (v0 : ((List Int) × (Bool × ((List Int) × (Int × Bool))))) =>
  Option.bind (loop pack_Reader_number_L1_P ((0 : Int), v0.fst, (((List.length v0.fst) : Nat) : Int), (0 : Int))) fun (v1 : Int) =>
  some (v1, v0.snd.snd.fst, v0.snd.snd.snd.fst, v0.snd.snd.snd.snd)
def pack_Reader_number_P : Int × (List Int) × Int × Bool → Option (Int × (List Int) × Int × Bool) := fun p => pack_Reader_number_M p.1 p.2.1 p.2.2.1 p.2.2.2
def pack_Reader_number_MM : HL [(.int .i64), (.slc (.int .u8)), (.int .i64), .bool] → Option (SumL [[(.int .u64), (.slc (.int .u8)), (.int .i64), .bool]]) := fun p => pack_Reader_number_M p.1 p.2.1 p.2.2.1 p.2.2.2
def pack_Reader_number_C : Con := ⟨1, pack_Reader_number_T, pack_Reader_number_O, stdCn [(.int .i64), (.slc (.int .u8)), (.int .i64), .bool] [[(.int .u64), (.slc (.int .u8)), (.int .i64), .bool]] pack_Reader_number_MM⟩

def pack_Reader_U32_T : Tm := ⟨[(0, false, [.ptr 0 0])], 1, [.box [.hole (.slc (.int .u8)), .hole (.int .i64), .hole .bool]]⟩
def pack_Reader_U32_O : List (Ex × Tm) := [(.ret, ⟨[(0, false, [.hole (.int .u32)])], 1, [.box [.hole (.slc (.int .u8)), .hole (.int .i64), .hole .bool]]⟩)]
def pack_Reader_U32_M (m0_0 : List Int) (m0_1 : Int) (m0_2 : Bool) : Option (Int × (List Int) × Int × Bool) :=
  Option.bind (pack_Reader_number_P ((4 : Int), m0_0, m0_1, m0_2)) fun (v0 : (Int × ((List Int) × (Int × Bool)))) =>
  some (IntKind.wrap IntKind.u32 v0.fst, v0.snd.fst, v0.snd.snd.fst, v0.snd.snd.snd)
def pack_Reader_U32_P : (List Int) × Int × Bool → Option (Int × (List Int) × Int × Bool) := fun p => pack_Reader_U32_M p.1 p.2.1 p.2.2
def pack_Reader_U32_MM : HL [(.slc (.int .u8)), (.int .i64), .bool] → Option (SumL [[(.int .u32), (.slc (.int .u8)), (.int .i64), .bool]]) := fun p => pack_Reader_U32_M p.1 p.2.1 p.2.2
def pack_Reader_U32_C : Con := ⟨1, pack_Reader_U32_T, pack_Reader_U32_O, stdCn [(.slc (.int .u8)), (.int .i64), .bool] [[(.int .u32), (.slc (.int .u8)), (.int .i64), .bool]] pack_Reader_U32_MM⟩

def sha_wide_L1_T : Tm := ⟨[(2, false, [.ptr 0 0]), (3, false, [.ptr 1 0]), (4, false, [.ptr 2 0]), (13, false, [.hole (.int .i64)])], 65, [.box [.hole (.arr 64 (.int .u32))], .box [.hole (.arr 64 (.int .u32))], .box [.hole (.slc (.int .u8)), .hole (.int .i64), .hole .bool]]⟩
def sha_wide_L1_O : List (Ex × Tm) := [(.exit 0, ⟨[(2, false, [.ptr 0 0]), (3, false, [.ptr 1 0])], 65, [.box [.hole (.arr 64 (.int .u32))], .box [.hole (.arr 64 (.int .u32))], .box [.hole (.slc (.int .u8)), .hole (.int .i64), .hole .bool]]⟩)]
def sha_wide_L1 (s13 : Int) (m0 : Arr 64 Int) (m1 : Arr 64 Int) (m2_0 : List Int) (m2_1 : Int) (m2_2 : Bool) : Option ((Int × (Arr 64 Int) × (Arr 64 Int) × (List Int) × Int × Bool) ⊕ (((Arr 64 Int) × (Arr 64 Int) × (List Int) × Int × Bool))) :=
  if decide (s13 < (16 : Int)) = true then
    Option.bind (pack_Reader_U32_P (m2_0, m2_1, m2_2)) fun (v0 : (Int × ((List Int) × (Int × Bool)))) =>
    Option.bind (inb (64 : Nat) s13) fun _ =>
    some (.inl (IntKind.wrap IntKind.i64 (s13 + (1 : Int)), m0, Arr.set m1 (Int.toNat s13) v0.fst, v0.snd.fst, v0.snd.snd.fst, v0.snd.snd.snd))
  else
  some (.inr (m0, m1, m2_0, m2_1, m2_2))
def sha_wide_L1_P : Int × (Arr 64 Int) × (Arr 64 Int) × (List Int) × Int × Bool → Option ((Int × (Arr 64 Int) × (Arr 64 Int) × (List Int) × Int × Bool) ⊕ (((Arr 64 Int) × (Arr 64 Int) × (List Int) × Int × Bool))) := fun p => sha_wide_L1 p.1 p.2.1 p.2.2.1 p.2.2.2.1 p.2.2.2.2.1 p.2.2.2.2.2
def sha_wide_L1_MM : HL [(.int .i64), (.arr 64 (.int .u32)), (.arr 64 (.int .u32)), (.slc (.int .u8)), (.int .i64), .bool] → Option (HL [(.int .i64), (.arr 64 (.int .u32)), (.arr 64 (.int .u32)), (.slc (.int .u8)), (.int .i64), .bool] ⊕ SumL [[(.arr 64 (.int .u32)), (.arr 64 (.int .u32)), (.slc (.int .u8)), (.int .i64), .bool]]) := fun p => sha_wide_L1 p.1 p.2.1 p.2.2.1 p.2.2.2.1 p.2.2.2.2.1 p.2.2.2.2.2
def sha_wide_L1_C : Con := ⟨3, sha_wide_L1_T, sha_wide_L1_O, stdCn [(.int .i64), (.arr 64 (.int .u32)), (.arr 64 (.int .u32)), (.slc (.int .u8)), (.int .i64), .bool] [[(.arr 64 (.int .u32)), (.arr 64 (.int .u32)), (.slc (.int .u8)), (.int .i64), .bool]] (loop sha_wide_L1_MM)⟩
def sha_wide_L2_T : Tm := ⟨[(2, false, [.ptr 0 0]), (3, false, [.ptr 1 0]), (6, false, [.hole (.int .i64)])], 65, [.box [.hole (.arr 64 (.int .u32))], .box [.hole (.arr 64 (.int .u32))]]⟩
def sha_wide_L2_O : List (Ex × Tm) := [(.exit 2, ⟨[(2, false, [.ptr 0 0]), (3, false, [.ptr 1 0])], 65, [.box [.hole (.arr 64 (.int .u32))], .box [.hole (.arr 64 (.int .u32))]]⟩)]
def sha_wide_L2 (s6 : Int) (m0 : Arr 64 Int) (m1 : Arr 64 Int) : Option ((Int × (Arr 64 Int) × (Arr 64 Int)) ⊕ (((Arr 64 Int) × (Arr 64 Int)))) :=
  if decide (s6 < (64 : Int)) = true then
    Option.bind (inb (64 : Nat) (IntKind.wrap IntKind.i64 (s6 - (15 : Int)))) fun _ =>
    Option.bind (inb (64 : Nat) (IntKind.wrap IntKind.i64 (s6 - (2 : Int)))) fun _ =>
    Option.bind (sha_right_P (List.getD m1.val (Int.toNat (IntKind.wrap IntKind.i64 (s6 - (15 : Int)))) (0 : Int), (7 : Int))) fun (v2 : Int) =>
    Option.bind (sha_right_P (List.getD m1.val (Int.toNat (IntKind.wrap IntKind.i64 (s6 - (15 : Int)))) (0 : Int), (18 : Int))) fun (v3 : Int) =>
    Option.bind (gshr IntKind.u32 (List.getD m1.val (Int.toNat (IntKind.wrap IntKind.i64 (s6 - (15 : Int)))) (0 : Int)) (3 : Int)) fun (v4 : Int) =>
    Option.bind (sha_right_P (List.getD m1.val (Int.toNat (IntKind.wrap IntKind.i64 (s6 - (2 : Int)))) (0 : Int), (17 : Int))) fun (v5 : Int) =>
    Option.bind (sha_right_P (List.getD m1.val (Int.toNat (IntKind.wrap IntKind.i64 (s6 - (2 : Int)))) (0 : Int), (19 : Int))) fun (v6 : Int) =>
    Option.bind (gshr IntKind.u32 (List.getD m1.val (Int.toNat (IntKind.wrap IntKind.i64 (s6 - (2 : Int)))) (0 : Int)) (10 : Int)) fun (v7 : Int) =>
    Option.bind (inb (64 : Nat) (IntKind.wrap IntKind.i64 (s6 - (7 : Int)))) fun _ =>
    Option.bind (inb (64 : Nat) (IntKind.wrap IntKind.i64 (s6 - (16 : Int)))) fun _ =>
    Option.bind (inb (64 : Nat) s6) fun _ =>
    some (.inl (IntKind.wrap IntKind.i64 (s6 + (1 : Int)), m0, Arr.set m1 (Int.toNat s6) (IntKind.wrap IntKind.u32 (IntKind.wrap IntKind.u32 (IntKind.wrap IntKind.u32 (bxor IntKind.u32 (bxor IntKind.u32 v5 v6) v7 + List.getD m1.val (Int.toNat (IntKind.wrap IntKind.i64 (s6 - (7 : Int)))) (0 : Int)) + bxor IntKind.u32 (bxor IntKind.u32 v2 v3) v4) + List.getD m1.val (Int.toNat (IntKind.wrap IntKind.i64 (s6 - (16 : Int)))) (0 : Int)))))
  else
  some (.inr (m0, m1))
def sha_wide_L2_P : Int × (Arr 64 Int) × (Arr 64 Int) → Option ((Int × (Arr 64 Int) × (Arr 64 Int)) ⊕ (((Arr 64 Int) × (Arr 64 Int)))) := fun p => sha_wide_L2 p.1 p.2.1 p.2.2
def sha_wide_L2_MM : HL [(.int .i64), (.arr 64 (.int .u32)), (.arr 64 (.int .u32))] → Option (HL [(.int .i64), (.arr 64 (.int .u32)), (.arr 64 (.int .u32))] ⊕ SumL [[(.arr 64 (.int .u32)), (.arr 64 (.int .u32))]]) := fun p => sha_wide_L2 p.1 p.2.1 p.2.2
def sha_wide_L2_C : Con := ⟨2, sha_wide_L2_T, sha_wide_L2_O, stdCn [(.int .i64), (.arr 64 (.int .u32)), (.arr 64 (.int .u32))] [[(.arr 64 (.int .u32)), (.arr 64 (.int .u32))]] (loop sha_wide_L2_MM)⟩
def sha_wide_T : Tm := ⟨[(0, false, [.hole (.slc (.int .u8))])], 1, []⟩
def sha_wide_O : List (Ex × Tm) := [(.ret, ⟨[(0, true, [.hole (.arr 64 (.int .u32))])], 1, []⟩)]
def sha_wide_M (s0 : List Int) : Option ((Arr 64 Int)) :=
  Option.bind (pack_Read_P s0) fun (v0 : ((List Int) × (Int × Bool))) =>
  Option.bind (loop sha_wide_L1_P ((0 : Int), Arr.rep (64 : Nat) (0 : Int), Arr.rep (64 : Nat) (0 : Int), v0.fst, v0.snd.fst, v0.snd.snd)) fun (v1 : ((Arr (64 : Nat) Int) × ((Arr (64 : Nat) Int) × ((List Int) × (Int × Bool))))) =>
  Option.bind (loop sha_wide_L2_P ((16 : Int), v1.fst, v1.snd.fst)) fun (v2 : ((Arr (64 : Nat) Int) × (Arr (64 : Nat) Int))) =>
  some (v2.snd)
def sha_wide_P : (List Int) → Option ((Arr 64 Int)) := fun p => sha_wide_M p
def sha_wide_MM : HL [(.slc (.int .u8))] → Option (SumL [[(.arr 64 (.int .u32))]]) := fun p => sha_wide_M p
def sha_wide_C : Con := ⟨0, sha_wide_T, sha_wide_O, stdCn [(.slc (.int .u8))] [[(.arr 64 (.int .u32))]] sha_wide_MM⟩

def sha_state_block_L1_T : Tm := ⟨[(2, false, [.ptr 0 0]), (4, false, [.ptr 1 0]), (5, false, [.ptr 2 0]), (6, false, [.ptr 3 0]), (17, true, [.hole (.arr 64 (.int .u32))]), (18, false, [.hole (.int .i64)])], 112, [.box [.hole (.arr 8 (.int .u32))], .box [.hole (.arr 8 (.int .u32))], .box [.hole (.arr 64 (.int .u32))], .box [.hole (.arr 8 (.int .u32))]]⟩
def sha_state_block_L1_O : List (Ex × Tm) := [(.exit 0, ⟨[(2, false, [.ptr 0 0]), (4, false, [.ptr 1 0]), (6, false, [.ptr 3 0])], 112, [.box [.hole (.arr 8 (.int .u32))], .box [.hole (.arr 8 (.int .u32))], .box [.hole (.arr 64 (.int .u32))], .box [.hole (.arr 8 (.int .u32))]]⟩)]
def sha_state_block_L1 (s17 : Arr 64 Int) (s18 : Int) (m0 : Arr 8 Int) (m1 : Arr 8 Int) (m2 : Arr 64 Int) (m3 : Arr 8 Int) : Option (((Arr 64 Int) × Int × (Arr 8 Int) × (Arr 8 Int) × (Arr 64 Int) × (Arr 8 Int)) ⊕ (((Arr 8 Int) × (Arr 8 Int) × (Arr 64 Int) × (Arr 8 Int)))) :=
  if decide (s18 < (64 : Int)) = true then
    Option.bind (inb (64 : Nat) s18) fun _ =>
    Option.bind (inb (8 : Nat) (4 : Int)) fun _ =>
    Option.bind (inb (8 : Nat) (0 : Int)) fun _ =>
    Option.bind (inb (8 : Nat) (7 : Int)) fun _ =>
    Option.bind (inb (8 : Nat) (5 : Int)) fun _ =>
    Option.bind (inb (8 : Nat) (6 : Int)) fun _ =>
    Option.bind (inb (64 : Nat) s18) fun _ =>
    Option.bind (sha_right_P (List.getD m3.val (nat_lit 4) (0 : Int), (6 : Int))) fun (v7 : Int) =>
    Option.bind (sha_right_P (List.getD m3.val (nat_lit 4) (0 : Int), (11 : Int))) fun (v8 : Int) =>
    Option.bind (sha_right_P (List.getD m3.val (nat_lit 4) (0 : Int), (25 : Int))) fun (v9 : Int) =>
    Option.bind (inb (8 : Nat) (1 : Int)) fun _ =>
    Option.bind (inb (8 : Nat) (2 : Int)) fun _ =>
    Option.bind (inb (8 : Nat) (1 : Int)) fun _ =>
    Option.bind (inb (8 : Nat) (2 : Int)) fun _ =>
    Option.bind (sha_right_P (List.getD m3.val (nat_lit 0) (0 : Int), (2 : Int))) fun (v14 : Int) =>
    Option.bind (sha_right_P (List.getD m3.val (nat_lit 0) (0 : Int), (13 : Int))) fun (v15 : Int) =>
    Option.bind (sha_right_P (List.getD m3.val (nat_lit 0) (0 : Int), (22 : Int))) fun (v16 : Int) =>
    Option.bind (inb (8 : Nat) (0 : Int)) fun _ =>
    Option.bind (inb (8 : Nat) (1 : Int)) fun _ =>
    Option.bind (inb (8 : Nat) (2 : Int)) fun _ =>
    Option.bind (inb (8 : Nat) (3 : Int)) fun _ =>
    Option.bind (inb (8 : Nat) (4 : Int)) fun _ =>
    Option.bind (inb (8 : Nat) (5 : Int)) fun _ =>
    Option.bind (inb (8 : Nat) (6 : Int)) fun _ =>
    some (.inl (s17, IntKind.wrap IntKind.i64 (s18 + (1 : Int)), m0, m1, m2, Arr.of (8 : Nat) [IntKind.wrap IntKind.u32 (IntKind.wrap IntKind.u32 (IntKind.wrap IntKind.u32 (IntKind.wrap IntKind.u32 (IntKind.wrap IntKind.u32 (List.getD m3.val (nat_lit 7) (0 : Int) + bxor IntKind.u32 (bxor IntKind.u32 v7 v8) v9) + bxor IntKind.u32 (band IntKind.u32 (List.getD m3.val (nat_lit 4) (0 : Int)) (List.getD m3.val (nat_lit 5) (0 : Int))) (band IntKind.u32 (bxor IntKind.u32 (4294967295 : Int) (List.getD m3.val (nat_lit 4) (0 : Int))) (List.getD m3.val (nat_lit 6) (0 : Int)))) + List.getD s17.val (Int.toNat s18) (0 : Int)) + List.getD m2.val (Int.toNat s18) (0 : Int)) + IntKind.wrap IntKind.u32 (bxor IntKind.u32 (bxor IntKind.u32 v14 v15) v16 + bxor IntKind.u32 (bxor IntKind.u32 (band IntKind.u32 (List.getD m3.val (nat_lit 0) (0 : Int)) (List.getD m3.val (nat_lit 1) (0 : Int))) (band IntKind.u32 (List.getD m3.val (nat_lit 0) (0 : Int)) (List.getD m3.val (nat_lit 2) (0 : Int)))) (band IntKind.u32 (List.getD m3.val (nat_lit 1) (0 : Int)) (List.getD m3.val (nat_lit 2) (0 : Int))))), List.getD m3.val (nat_lit 0) (0 : Int), List.getD m3.val (nat_lit 1) (0 : Int), List.getD m3.val (nat_lit 2) (0 : Int), IntKind.wrap IntKind.u32 (List.getD m3.val (nat_lit 3) (0 : Int) + IntKind.wrap IntKind.u32 (IntKind.wrap IntKind.u32 (IntKind.wrap IntKind.u32 (IntKind.wrap IntKind.u32 (List.getD m3.val (nat_lit 7) (0 : Int) + bxor IntKind.u32 (bxor IntKind.u32 v7 v8) v9) + bxor IntKind.u32 (band IntKind.u32 (List.getD m3.val (nat_lit 4) (0 : Int)) (List.getD m3.val (nat_lit 5) (0 : Int))) (band IntKind.u32 (bxor IntKind.u32 (4294967295 : Int) (List.getD m3.val (nat_lit 4) (0 : Int))) (List.getD m3.val (nat_lit 6) (0 : Int)))) + List.getD s17.val (Int.toNat s18) (0 : Int)) + List.getD m2.val (Int.toNat s18) (0 : Int))), List.getD m3.val (nat_lit 4) (0 : Int), List.getD m3.val (nat_lit 5) (0 : Int), List.getD m3.val (nat_lit 6) (0 : Int)] rfl))
  else
  some (.inr (m0, m1, m2, m3))
def sha_state_block_L1_P : (Arr 64 Int) × Int × (Arr 8 Int) × (Arr 8 Int) × (Arr 64 Int) × (Arr 8 Int) → Option (((Arr 64 Int) × Int × (Arr 8 Int) × (Arr 8 Int) × (Arr 64 Int) × (Arr 8 Int)) ⊕ (((Arr 8 Int) × (Arr 8 Int) × (Arr 64 Int) × (Arr 8 Int)))) := fun p => sha_state_block_L1 p.1 p.2.1 p.2.2.1 p.2.2.2.1 p.2.2.2.2.1 p.2.2.2.2.2
def sha_state_block_L1_MM : HL [(.arr 64 (.int .u32)), (.int .i64), (.arr 8 (.int .u32)), (.arr 8 (.int .u32)), (.arr 64 (.int .u32)), (.arr 8 (.int .u32))] → Option (HL [(.arr 64 (.int .u32)), (.int .i64), (.arr 8 (.int .u32)), (.arr 8 (.int .u32)), (.arr 64 (.int .u32)), (.arr 8 (.int .u32))] ⊕ SumL [[(.arr 8 (.int .u32)), (.arr 8 (.int .u32)), (.arr 64 (.int .u32)), (.arr 8 (.int .u32))]]) := fun p => sha_state_block_L1 p.1 p.2.1 p.2.2.1 p.2.2.2.1 p.2.2.2.2.1 p.2.2.2.2.2
def sha_state_block_L1_C : Con := ⟨4, sha_state_block_L1_T, sha_state_block_L1_O, stdCn [(.arr 64 (.int .u32)), (.int .i64), (.arr 8 (.int .u32)), (.arr 8 (.int .u32)), (.arr 64 (.int .u32)), (.arr 8 (.int .u32))] [[(.arr 8 (.int .u32)), (.arr 8 (.int .u32)), (.arr 64 (.int .u32)), (.arr 8 (.int .u32))]] (loop sha_state_block_L1_MM)⟩
def sha_state_block_L2_T : Tm := ⟨[(2, false, [.ptr 0 0]), (4, false, [.ptr 1 0]), (6, false, [.ptr 2 0]), (99, false, [.hole (.int .i64)])], 112, [.box [.hole (.arr 8 (.int .u32))], .box [.hole (.arr 8 (.int .u32))], .box [.hole (.arr 8 (.int .u32))]]⟩
def sha_state_block_L2_O : List (Ex × Tm) := [(.exit 2, ⟨[(2, false, [.ptr 0 0]), (4, false, [.ptr 1 0])], 112, [.box [.hole (.arr 8 (.int .u32))], .box [.hole (.arr 8 (.int .u32))], .box [.hole (.arr 8 (.int .u32))]]⟩)]
def sha_state_block_L2 (s99 : Int) (m0 : Arr 8 Int) (m1 : Arr 8 Int) (m2 : Arr 8 Int) : Option ((Int × (Arr 8 Int) × (Arr 8 Int) × (Arr 8 Int)) ⊕ (((Arr 8 Int) × (Arr 8 Int) × (Arr 8 Int)))) :=
  if decide (s99 < (8 : Int)) = true then
    Option.bind (inb (8 : Nat) s99) fun _ =>
    Option.bind (inb (8 : Nat) s99) fun _ =>
    Option.bind (inb (8 : Nat) s99) fun _ =>
    some (.inl (IntKind.wrap IntKind.i64 (s99 + (1 : Int)), Arr.set m0 (Int.toNat s99) (IntKind.wrap IntKind.u32 (List.getD m0.val (Int.toNat s99) (0 : Int) + List.getD m2.val (Int.toNat s99) (0 : Int))), m1, m2))
  else
  some (.inr (m0, m1, m2))
def sha_state_block_L2_P : Int × (Arr 8 Int) × (Arr 8 Int) × (Arr 8 Int) → Option ((Int × (Arr 8 Int) × (Arr 8 Int) × (Arr 8 Int)) ⊕ (((Arr 8 Int) × (Arr 8 Int) × (Arr 8 Int)))) := fun p => sha_state_block_L2 p.1 p.2.1 p.2.2.1 p.2.2.2
def sha_state_block_L2_MM : HL [(.int .i64), (.arr 8 (.int .u32)), (.arr 8 (.int .u32)), (.arr 8 (.int .u32))] → Option (HL [(.int .i64), (.arr 8 (.int .u32)), (.arr 8 (.int .u32)), (.arr 8 (.int .u32))] ⊕ SumL [[(.arr 8 (.int .u32)), (.arr 8 (.int .u32)), (.arr 8 (.int .u32))]]) := fun p => sha_state_block_L2 p.1 p.2.1 p.2.2.1 p.2.2.2
def sha_state_block_L2_C : Con := ⟨3, sha_state_block_L2_T, sha_state_block_L2_O, stdCn [(.int .i64), (.arr 8 (.int .u32)), (.arr 8 (.int .u32)), (.arr 8 (.int .u32))] [[(.arr 8 (.int .u32)), (.arr 8 (.int .u32)), (.arr 8 (.int .u32))]] (loop sha_state_block_L2_MM)⟩
def sha_state_block_T : Tm := ⟨[(0, true, [.hole (.arr 8 (.int .u32))]), (1, false, [.hole (.slc (.int .u8))])], 2, []⟩
def sha_state_block_O : List (Ex × Tm) := [(.ret, ⟨[(0, true, [.hole (.arr 8 (.int .u32))])], 1, []⟩)]
def sha_state_block_M (s0 : Arr 8 Int) (s1 : List Int) : Option ((Arr 8 Int)) :=
  Option.bind (sha_wide_P s1) fun (v0 : (Arr (64 : Nat) Int)) =>
  Option.bind (loop sha_state_block_L1_P (shaCubes, (0 : Int), s0, Arr.rep (8 : Nat) (0 : Int), v0, s0)) fun (v1 : ((Arr (8 : Nat) Int) × ((Arr (8 : Nat) Int) × ((Arr (64 : Nat) Int) × (Arr (8 : Nat) Int))))) =>
  Option.bind (loop sha_state_block_L2_P ((0 : Int), v1.fst, v1.snd.fst, v1.snd.snd.snd)) fun (v2 : ((Arr (8 : Nat) Int) × ((Arr (8 : Nat) Int) × (Arr (8 : Nat) Int)))) =>
  some (v2.fst)
def sha_state_block_P : (Arr 8 Int) × (List Int) → Option ((Arr 8 Int)) := fun p => sha_state_block_M p.1 p.2
def sha_state_block_MM : HL [(.arr 8 (.int .u32)), (.slc (.int .u8))] → Option (SumL [[(.arr 8 (.int .u32))]]) := fun p => sha_state_block_M p.1 p.2
def sha_state_block_C : Con := ⟨0, sha_state_block_T, sha_state_block_O, stdCn [(.arr 8 (.int .u32)), (.slc (.int .u8))] [[(.arr 8 (.int .u32))]] sha_state_block_MM⟩

def sha_Hash_Write_L1_T : Tm := ⟨[(0, false, [.ptr 0 0])], 58, [.box [.hole (.arr 8 (.int .u32)), .row 1, .hole (.int .i64), .hole .bool], .row (.int .u8)]⟩
def sha_Hash_Write_L1_O : List (Ex × Tm) := [(.exit 0, ⟨[], 58, [.box [.hole (.arr 8 (.int .u32)), .row 1, .hole (.int .i64), .hole .bool], .row (.int .u8)]⟩)]
def sha_Hash_Write_L1 (m0_0 : Arr 8 Int) (m0_1 : Int) (m0_2 : Bool) (r1 : List Int) : Option (((Arr 8 Int) × Int × Bool × (List Int)) ⊕ (((Arr 8 Int) × Int × Bool × (List Int)))) :=
  if decide ((((List.length r1) : Nat) : Int) ≥ (64 : Int)) = true then
    Option.bind (subn (List.length r1) (0 : Int) (64 : Int)) fun _ =>
    Option.bind (sha_state_block_P (m0_0, List.drop (nat_lit 0) (List.take (nat_lit 64) r1))) fun (v1 : (Arr (8 : Nat) Int)) =>
    Option.bind (subn (List.length r1) (64 : Int) (((List.length r1) : Nat) : Int)) fun _ =>
    some (.inl (v1, m0_1, m0_2, List.drop (nat_lit 64) (List.take (Int.toNat (((List.length r1) : Nat) : Int)) r1)))
  else
  some (.inr (m0_0, m0_1, m0_2, r1))
def sha_Hash_Write_L1_P : (Arr 8 Int) × Int × Bool × (List Int) → Option (((Arr 8 Int) × Int × Bool × (List Int)) ⊕ (((Arr 8 Int) × Int × Bool × (List Int)))) := fun p => sha_Hash_Write_L1 p.1 p.2.1 p.2.2.1 p.2.2.2
def sha_Hash_Write_L1_MM : HL [(.arr 8 (.int .u32)), (.int .i64), .bool, (.slc (.int .u8))] → Option (HL [(.arr 8 (.int .u32)), (.int .i64), .bool, (.slc (.int .u8))] ⊕ SumL [[(.arr 8 (.int .u32)), (.int .i64), .bool, (.slc (.int .u8))]]) := fun p => sha_Hash_Write_L1 p.1 p.2.1 p.2.2.1 p.2.2.2
def sha_Hash_Write_L1_C : Con := ⟨1, sha_Hash_Write_L1_T, sha_Hash_Write_L1_O, stdCn [(.arr 8 (.int .u32)), (.int .i64), .bool, (.slc (.int .u8))] [[(.arr 8 (.int .u32)), (.int .i64), .bool, (.slc (.int .u8))]] (loop sha_Hash_Write_L1_MM)⟩
def sha_Hash_Write_T : Tm := ⟨[(0, false, [.ptr 0 0]), (1, false, [.hole (.slc (.int .u8))])], 2, [.box [.hole (.arr 8 (.int .u32)), .row 1, .hole (.int .i64), .hole .bool], .row (.int .u8)]⟩
def sha_Hash_Write_O : List (Ex × Tm) := [(.ret, ⟨[], 0, [.box [.hole (.arr 8 (.int .u32)), .row 1, .hole (.int .i64), .hole .bool], .row (.int .u8)]⟩)]
def sha_Hash_Write_M (s1 : List Int) (m0_0 : Arr 8 Int) (m0_1 : Int) (m0_2 : Bool) (r1 : List Int) : Option ((Arr 8 Int) × Int × Bool × (List Int)) :=
  if (!m0_2) = true then
    some (m0_0, m0_1, m0_2, r1)
  else
  Option.bind (room (1 : Nat) (List.length r1 + List.length s1)) fun _ =>
  Option.bind (loop sha_Hash_Write_L1_P (m0_0, IntKind.wrap IntKind.i64 (m0_1 + (((List.length s1) : Nat) : Int)), m0_2, r1 ++ s1)) fun (v1 : ((Arr (8 : Nat) Int) × (Int × (Bool × (List Int))))) =>
  some (v1.fst, v1.snd.fst, v1.snd.snd.fst, v1.snd.snd.snd)
def sha_Hash_Write_P : (List Int) × (Arr 8 Int) × Int × Bool × (List Int) → Option ((Arr 8 Int) × Int × Bool × (List Int)) := fun p => sha_Hash_Write_M p.1 p.2.1 p.2.2.1 p.2.2.2.1 p.2.2.2.2
def sha_Hash_Write_MM : HL [(.slc (.int .u8)), (.arr 8 (.int .u32)), (.int .i64), .bool, (.slc (.int .u8))] → Option (SumL [[(.arr 8 (.int .u32)), (.int .i64), .bool, (.slc (.int .u8))]]) := fun p => sha_Hash_Write_M p.1 p.2.1 p.2.2.1 p.2.2.2.1 p.2.2.2.2
def sha_Hash_Write_C : Con := ⟨1, sha_Hash_Write_T, sha_Hash_Write_O, stdCn [(.slc (.int .u8)), (.arr 8 (.int .u32)), (.int .i64), .bool, (.slc (.int .u8))] [[(.arr 8 (.int .u32)), (.int .i64), .bool, (.slc (.int .u8))]] sha_Hash_Write_MM⟩

def sha_Pad_T : Tm := ⟨[(0, false, [.hole (.int .i64)])], 1, []⟩
def sha_Pad_O : List (Ex × Tm) := [(.ret, ⟨[(0, false, [.row 0])], 1, [.row (.int .u8)]⟩)]
def sha_Pad_M (s0 : Int) : Option ((List Int)) :=
  Option.bind (grem IntKind.u64 (IntKind.wrap IntKind.u64 (if (0 : Int) > s0 then (0 : Int) else s0)) (64 : Int)) fun (v0 : Int) =>
  Option.bind (grem IntKind.u64 (IntKind.wrap IntKind.u64 ((119 : Int) - v0)) (64 : Int)) fun (v1 : Int) =>
  Option.bind (mk1 (IntKind.wrap IntKind.i64 v1)) fun (v2 : Nat) =>
  Option.bind (room (1 : Nat) ((1 : Nat) + v2)) fun _ =>
  Option.bind (pack_Put64_P ([(128 : Int)] ++ List.replicate v2 (0 : Int), IntKind.wrap IntKind.u64 ((8 : Int) * IntKind.wrap IntKind.u64 (if (0 : Int) > s0 then (0 : Int) else s0)))) fun (v4 : (List Int)) =>
  some (v4)
def sha_Pad_P : Int → Option ((List Int)) := fun p => sha_Pad_M p
def sha_Pad_MM : HL [(.int .i64)] → Option (SumL [[(.slc (.int .u8))]]) := fun p => sha_Pad_M p
def sha_Pad_C : Con := ⟨0, sha_Pad_T, sha_Pad_O, stdCn [(.int .i64)] [[(.slc (.int .u8))]] sha_Pad_MM⟩

def pack_high_uint32_L1_T : Tm := ⟨[(1, false, [.hole (.int .u32)]), (7, false, [.row 0]), (8, false, [.hole (.int .i64)])], 26, [.row (.int .u8)]⟩
def pack_high_uint32_L1_O : List (Ex × Tm) := [(.exit 0, ⟨[(7, false, [.row 0])], 26, [.row (.int .u8)]⟩)]
def pack_high_uint32_L1 (s1 : Int) (s8 : Int) (r0 : List Int) : Option ((Int × Int × (List Int)) ⊕ (((List Int)))) :=
  if decide (s8 ≥ (0 : Int)) = true then
    Option.bind (gshr IntKind.u32 s1 (IntKind.wrap IntKind.i64 ((8 : Int) * s8))) fun (v0 : Int) =>
    Option.bind (room (1 : Nat) (List.length r0 + List.length [IntKind.wrap IntKind.u8 v0])) fun _ =>
    some (.inl (s1, IntKind.wrap IntKind.i64 (s8 - (1 : Int)), r0 ++ [IntKind.wrap IntKind.u8 v0]))
  else
  some (.inr (r0))
def pack_high_uint32_L1_P : Int × Int × (List Int) → Option ((Int × Int × (List Int)) ⊕ (((List Int)))) := fun p => pack_high_uint32_L1 p.1 p.2.1 p.2.2
def pack_high_uint32_L1_MM : HL [(.int .u32), (.int .i64), (.slc (.int .u8))] → Option (HL [(.int .u32), (.int .i64), (.slc (.int .u8))] ⊕ SumL [[(.slc (.int .u8))]]) := fun p => pack_high_uint32_L1 p.1 p.2.1 p.2.2
def pack_high_uint32_L1_C : Con := ⟨0, pack_high_uint32_L1_T, pack_high_uint32_L1_O, stdCn [(.int .u32), (.int .i64), (.slc (.int .u8))] [[(.slc (.int .u8))]] (loop pack_high_uint32_L1_MM)⟩
def pack_high_uint32_T : Tm := ⟨[(0, false, [.hole (.slc (.int .u8))]), (1, false, [.hole (.int .u32)]), (2, false, [.hole (.int .i64)])], 3, []⟩
def pack_high_uint32_O : List (Ex × Tm) := [(.ret, ⟨[(0, false, [.row 0])], 1, [.row (.int .u8)]⟩)]
def pack_high_uint32_M (s0 : List Int) (s1 : Int) (s2 : Int) : Option ((List Int)) :=
  Option.bind (room (1 : Nat) ((0 : Nat) + List.length s0)) fun _ =>
  Option.bind (loop pack_high_uint32_L1_P (s1, IntKind.wrap IntKind.i64 (s2 - (1 : Int)), s0)) fun (v1 : (List Int)) =>
  some (v1)
def pack_high_uint32_P : (List Int) × Int × Int → Option ((List Int)) := fun p => pack_high_uint32_M p.1 p.2.1 p.2.2
def pack_high_uint32_MM : HL [(.slc (.int .u8)), (.int .u32), (.int .i64)] → Option (SumL [[(.slc (.int .u8))]]) := fun p => pack_high_uint32_M p.1 p.2.1 p.2.2
def pack_high_uint32_C : Con := ⟨0, pack_high_uint32_T, pack_high_uint32_O, stdCn [(.slc (.int .u8)), (.int .u32), (.int .i64)] [[(.slc (.int .u8))]] pack_high_uint32_MM⟩

def pack_Put32_T : Tm := ⟨[(0, false, [.hole (.slc (.int .u8))]), (1, false, [.hole (.int .u32)])], 2, []⟩
def pack_Put32_O : List (Ex × Tm) := [(.ret, ⟨[(0, false, [.row 0])], 1, [.row (.int .u8)]⟩)]
def pack_Put32_M (s0 : List Int) (s1 : Int) : Option ((List Int)) :=
  Option.bind (pack_high_uint32_P (s0, s1, (4 : Int))) fun (v0 : (List Int)) =>
  some (v0)
def pack_Put32_P : (List Int) × Int → Option ((List Int)) := fun p => pack_Put32_M p.1 p.2
def pack_Put32_MM : HL [(.slc (.int .u8)), (.int .u32)] → Option (SumL [[(.slc (.int .u8))]]) := fun p => pack_Put32_M p.1 p.2
def pack_Put32_C : Con := ⟨0, pack_Put32_T, pack_Put32_O, stdCn [(.slc (.int .u8)), (.int .u32)] [[(.slc (.int .u8))]] pack_Put32_MM⟩

def sha_Hash_Sum_R1_T : Tm := ⟨[(0, false, [.ptr 0 0]), (2, false, [.ptr 1 0]), (3, false, [.ptr 2 0])], 47, [.box [.hole (.arr 8 (.int .u32)), .row 3, .hole (.int .i64), .hole .bool], .box [.hole (.arr 32 (.int .u8))], .box [.hole (.arr 32 (.int .u8))], .row (.int .u8)]⟩
def sha_Hash_Sum_R1_O : List (Ex × Tm) := [(.normal, ⟨[(0, false, [.ptr 0 0]), (2, false, [.ptr 1 0]), (3, false, [.ptr 2 0]), (4, false, [.ptr 3 0])], 47, [.box [.hole (.arr 8 (.int .u32)), .row 4, .hole (.int .i64), .hole .bool], .box [.hole (.arr 32 (.int .u8))], .box [.hole (.arr 32 (.int .u8))], .box [.hole (.arr 8 (.int .u32)), .row 5, .hole (.int .i64), .hole .bool], .row (.int .u8), .row (.int .u8)]⟩)]
def sha_Hash_Sum_R1_X (m0_0 : Arr 8 Int) (m0_1 : Int) (m0_2 : Bool) (m1 : Arr 32 Int) (m2 : Arr 32 Int) (r3 : List Int) : Option ((Arr 8 Int) × Int × Bool × (Arr 32 Int) × (Arr 32 Int) × (Arr 8 Int) × Int × Bool × (List Int) × (List Int)) :=
  agree (
    Option.bind (room (1 : Nat) ((0 : Nat) + List.length r3)) fun _ =>
    some (m0_0, m0_1, m0_2, m1, m2, m0_0, (0 : Int), true, r3, r3)
  ) (
    Option.bind (room (1 : Nat) ((0 : Nat) + List.length r3)) fun _ =>
    some (m0_0, m0_1, m0_2, m1, m2, m0_0, (0 : Int), true, r3, r3)
  )
def sha_Hash_Sum_R1 (m0_0 : Arr 8 Int) (m0_1 : Int) (m0_2 : Bool) (m1 : Arr 32 Int) (m2 : Arr 32 Int) (r3 : List Int) : Option ((Arr 8 Int) × Int × Bool × (Arr 32 Int) × (Arr 32 Int) × (Arr 8 Int) × Int × Bool × (List Int) × (List Int)) :=
    Option.bind (room (1 : Nat) ((0 : Nat) + List.length r3)) fun _ =>
    some (m0_0, m0_1, m0_2, m1, m2, m0_0, (0 : Int), true, r3, r3)
theorem sha_Hash_Sum_R1_eq (m0_0 : Arr 8 Int) (m0_1 : Int) (m0_2 : Bool) (m1 : Arr 32 Int) (m2 : Arr 32 Int) (r3 : List Int) : sha_Hash_Sum_R1_X m0_0 m0_1 m0_2 m1 m2 r3 = sha_Hash_Sum_R1 m0_0 m0_1 m0_2 m1 m2 r3 := by unfold sha_Hash_Sum_R1_X; simp only [agree_self]; rfl
def sha_Hash_Sum_R1_P : (Arr 8 Int) × Int × Bool × (Arr 32 Int) × (Arr 32 Int) × (List Int) → Option ((Arr 8 Int) × Int × Bool × (Arr 32 Int) × (Arr 32 Int) × (Arr 8 Int) × Int × Bool × (List Int) × (List Int)) := fun p => sha_Hash_Sum_R1 p.1 p.2.1 p.2.2.1 p.2.2.2.1 p.2.2.2.2.1 p.2.2.2.2.2
def sha_Hash_Sum_R1_MM : HL [(.arr 8 (.int .u32)), (.int .i64), .bool, (.arr 32 (.int .u8)), (.arr 32 (.int .u8)), (.slc (.int .u8))] → Option (SumL [[(.arr 8 (.int .u32)), (.int .i64), .bool, (.arr 32 (.int .u8)), (.arr 32 (.int .u8)), (.arr 8 (.int .u32)), (.int .i64), .bool, (.slc (.int .u8)), (.slc (.int .u8))]]) := fun p => sha_Hash_Sum_R1 p.1 p.2.1 p.2.2.1 p.2.2.2.1 p.2.2.2.2.1 p.2.2.2.2.2
def sha_Hash_Sum_R1_C : Con := ⟨3, sha_Hash_Sum_R1_T, sha_Hash_Sum_R1_O, stdCn [(.arr 8 (.int .u32)), (.int .i64), .bool, (.arr 32 (.int .u8)), (.arr 32 (.int .u8)), (.slc (.int .u8))] [[(.arr 8 (.int .u32)), (.int .i64), .bool, (.arr 32 (.int .u8)), (.arr 32 (.int .u8)), (.arr 8 (.int .u32)), (.int .i64), .bool, (.slc (.int .u8)), (.slc (.int .u8))]] sha_Hash_Sum_R1_MM⟩
def sha_Hash_Sum_L2_T : Tm := ⟨[(2, false, [.ptr 0 0]), (3, false, [.ptr 1 0]), (34, true, [.hole (.arr 8 (.int .u32))]), (35, false, [.hole (.int .i64)])], 47, [.box [.hole (.arr 32 (.int .u8))], .box [.hole (.arr 32 (.int .u8))]]⟩
def sha_Hash_Sum_L2_O : List (Ex × Tm) := [(.exit 0, ⟨[(2, false, [.ptr 0 0]), (3, false, [.ptr 1 0])], 47, [.box [.hole (.arr 32 (.int .u8))], .box [.hole (.arr 32 (.int .u8))]]⟩)]
def sha_Hash_Sum_L2 (s34 : Arr 8 Int) (s35 : Int) (m0 : Arr 32 Int) (m1 : Arr 32 Int) : Option (((Arr 8 Int) × Int × (Arr 32 Int) × (Arr 32 Int)) ⊕ (((Arr 32 Int) × (Arr 32 Int)))) :=
  if decide (s35 < (8 : Int)) = true then
    Option.bind (inb (8 : Nat) s35) fun _ =>
    Option.bind (subn (32 : Nat) (IntKind.wrap IntKind.i64 ((4 : Int) * s35)) (32 : Int)) fun _ =>
    Option.bind (pack_Put32_P ([], List.getD s34.val (Int.toNat s35) (0 : Int))) fun (v2 : (List Int)) =>
    some (.inl (s34, IntKind.wrap IntKind.i64 (s35 + (1 : Int)), m0, Arr.cpy m1 (Int.toNat (IntKind.wrap IntKind.i64 ((4 : Int) * s35))) (nat_lit 32) v2))
  else
  some (.inr (m0, m1))
def sha_Hash_Sum_L2_P : (Arr 8 Int) × Int × (Arr 32 Int) × (Arr 32 Int) → Option (((Arr 8 Int) × Int × (Arr 32 Int) × (Arr 32 Int)) ⊕ (((Arr 32 Int) × (Arr 32 Int)))) := fun p => sha_Hash_Sum_L2 p.1 p.2.1 p.2.2.1 p.2.2.2
def sha_Hash_Sum_L2_MM : HL [(.arr 8 (.int .u32)), (.int .i64), (.arr 32 (.int .u8)), (.arr 32 (.int .u8))] → Option (HL [(.arr 8 (.int .u32)), (.int .i64), (.arr 32 (.int .u8)), (.arr 32 (.int .u8))] ⊕ SumL [[(.arr 32 (.int .u8)), (.arr 32 (.int .u8))]]) := fun p => sha_Hash_Sum_L2 p.1 p.2.1 p.2.2.1 p.2.2.2
def sha_Hash_Sum_L2_C : Con := ⟨2, sha_Hash_Sum_L2_T, sha_Hash_Sum_L2_O, stdCn [(.arr 8 (.int .u32)), (.int .i64), (.arr 32 (.int .u8)), (.arr 32 (.int .u8))] [[(.arr 32 (.int .u8)), (.arr 32 (.int .u8))]] (loop sha_Hash_Sum_L2_MM)⟩
def sha_Hash_Sum_T : Tm := ⟨[(0, false, [.ptr 0 0])], 1, [.box [.hole (.arr 8 (.int .u32)), .row 1, .hole (.int .i64), .hole .bool], .row (.int .u8)]⟩
def sha_Hash_Sum_O : List (Ex × Tm) := [(.ret, ⟨[(0, true, [.hole (.arr 32 (.int .u8))])], 1, [.box [.hole (.arr 8 (.int .u32)), .row 1, .hole (.int .i64), .hole .bool], .row (.int .u8)]⟩)]
def sha_Hash_Sum_M (m0_0 : Arr 8 Int) (m0_1 : Int) (m0_2 : Bool) (r1 : List Int) : Option ((Arr 32 Int) × (Arr 8 Int) × Int × Bool × (List Int)) :=
  if (!m0_2) = true then
    some (Arr.rep (32 : Nat) (0 : Int), m0_0, m0_1, m0_2, r1)
  else
  Option.bind (sha_Hash_Sum_R1_P (m0_0, m0_1, m0_2, Arr.rep (32 : Nat) (0 : Int), Arr.rep (32 : Nat) (0 : Int), r1)) fun (v0 : ((Arr (8 : Nat) Int) × (Int × (Bool × ((Arr (32 : Nat) Int) × ((Arr (32 : Nat) Int) × ((Arr (8 : Nat) Int) × (Int × (Bool × ((List Int) × (List Int))))))))))) =>
  Option.bind (sha_Pad_P v0.snd.fst) fun (v1 : (List Int)) =>
  Option.bind (sha_Hash_Write_P (v1, v0.snd.snd.snd.snd.snd.fst, v0.snd.snd.snd.snd.snd.snd.fst, v0.snd.snd.snd.snd.snd.snd.snd.fst, v0.snd.snd.snd.snd.snd.snd.snd.snd.snd)) fun (v2 : ((Arr (8 : Nat) Int) × (Int × (Bool × (List Int))))) =>
  Option.bind (loop sha_Hash_Sum_L2_P (v2.fst, (0 : Int), v0.snd.snd.snd.fst, v0.snd.snd.snd.snd.fst)) fun (v3 : ((Arr (32 : Nat) Int) × (Arr (32 : Nat) Int))) =>
  some (v3.snd, v0.fst, v0.snd.fst, v0.snd.snd.fst, v0.snd.snd.snd.snd.snd.snd.snd.snd.fst)
def sha_Hash_Sum_P : (Arr 8 Int) × Int × Bool × (List Int) → Option ((Arr 32 Int) × (Arr 8 Int) × Int × Bool × (List Int)) := fun p => sha_Hash_Sum_M p.1 p.2.1 p.2.2.1 p.2.2.2
def sha_Hash_Sum_MM : HL [(.arr 8 (.int .u32)), (.int .i64), .bool, (.slc (.int .u8))] → Option (SumL [[(.arr 32 (.int .u8)), (.arr 8 (.int .u32)), (.int .i64), .bool, (.slc (.int .u8))]]) := fun p => sha_Hash_Sum_M p.1 p.2.1 p.2.2.1 p.2.2.2
def sha_Hash_Sum_C : Con := ⟨1, sha_Hash_Sum_T, sha_Hash_Sum_O, stdCn [(.arr 8 (.int .u32)), (.int .i64), .bool, (.slc (.int .u8))] [[(.arr 32 (.int .u8)), (.arr 8 (.int .u32)), (.int .i64), .bool, (.slc (.int .u8))]] sha_Hash_Sum_MM⟩

def sha_Sum_T : Tm := ⟨[(0, false, [.hole (.slc (.int .u8))])], 1, []⟩
def sha_Sum_O : List (Ex × Tm) := [(.ret, ⟨[(0, true, [.hole (.arr 32 (.int .u8))])], 1, []⟩)]
def sha_Sum_M (s0 : List Int) : Option ((Arr 32 Int)) :=
  Option.bind (sha_New_P ()) fun (v0 : ((Arr (8 : Nat) Int) × (Int × (Bool × (List Int))))) =>
  Option.bind (sha_Hash_Write_P (s0, v0.fst, v0.snd.fst, v0.snd.snd.fst, v0.snd.snd.snd)) fun (v1 : ((Arr (8 : Nat) Int) × (Int × (Bool × (List Int))))) =>
  Option.bind (sha_Hash_Sum_P (v1.fst, v1.snd.fst, v1.snd.snd.fst, v1.snd.snd.snd)) fun (v2 : ((Arr (32 : Nat) Int) × ((Arr (8 : Nat) Int) × (Int × (Bool × (List Int)))))) =>
  some (v2.fst)
def sha_Sum_P : (List Int) → Option ((Arr 32 Int)) := fun p => sha_Sum_M p
def sha_Sum_MM : HL [(.slc (.int .u8))] → Option (SumL [[(.arr 32 (.int .u8))]]) := fun p => sha_Sum_M p
def sha_Sum_C : Con := ⟨0, sha_Sum_T, sha_Sum_O, stdCn [(.slc (.int .u8))] [[(.arr 32 (.int .u8))]] sha_Sum_MM⟩

def mac_sum_T : Tm := ⟨[(0, false, [.hole (.slc (.slc (.int .u8)))])], 1, []⟩
def mac_sum_O : List (Ex × Tm) := [(.ret, ⟨[(0, false, [.row 0])], 1, [.row (.int .u8)]⟩)]
def mac_sum_M (s0 : List (List Int)) : Option ((List Int)) :=
  Option.bind (pack_Join_P s0) fun (v0 : (List Int)) =>
  Option.bind (sha_Sum_P v0) fun (v1 : (Arr (32 : Nat) Int)) =>
  Option.bind (subn (32 : Nat) (0 : Int) (32 : Int)) fun _ =>
  some (v1.val)
def mac_sum_P : (List (List Int)) → Option ((List Int)) := fun p => mac_sum_M p
def mac_sum_MM : HL [(.slc (.slc (.int .u8)))] → Option (SumL [[(.slc (.int .u8))]]) := fun p => mac_sum_M p
def mac_sum_C : Con := ⟨0, mac_sum_T, mac_sum_O, stdCn [(.slc (.slc (.int .u8)))] [[(.slc (.int .u8))]] mac_sum_MM⟩

def mac_pads_R1_T : Tm := ⟨[(0, false, [.hole (.slc (.int .u8))])], 37, []⟩
def mac_pads_R1_O : List (Ex × Tm) := [(.normal, ⟨[(0, false, [.hole (.slc (.int .u8))]), (2, false, [.row 0]), (3, false, [.row 1])], 37, [.row (.int .u8), .row (.int .u8)]⟩)]
def mac_pads_R1 (s0 : List Int) : Option ((List Int) × (List Int) × (List Int)) :=
  agree (
    Option.bind (mk2 (1 : Nat) (64 : Int) (64 : Int)) fun (v0 : Nat) =>
    agree (
      Option.bind (mk2 (1 : Nat) (64 : Int) (64 : Int)) fun (v1 : Nat) =>
      some (s0, List.replicate v0 (0 : Int), List.replicate v1 (0 : Int))
    ) (
      Option.bind (mk2 (1 : Nat) (64 : Int) (64 : Int)) fun (v2 : Nat) =>
      some (s0, List.replicate v0 (0 : Int), List.replicate v2 (0 : Int))
    )
  ) (
    Option.bind (mk2 (1 : Nat) (64 : Int) (64 : Int)) fun (v3 : Nat) =>
    Option.bind (mk2 (1 : Nat) (64 : Int) (64 : Int)) fun (v4 : Nat) =>
    some (s0, List.replicate v4 (0 : Int), List.replicate v3 (0 : Int))
  )
def mac_pads_R1_P : (List Int) → Option ((List Int) × (List Int) × (List Int)) := fun p => mac_pads_R1 p
def mac_pads_R1_MM : HL [(.slc (.int .u8))] → Option (SumL [[(.slc (.int .u8)), (.slc (.int .u8)), (.slc (.int .u8))]]) := fun p => mac_pads_R1 p
def mac_pads_R1_C : Con := ⟨0, mac_pads_R1_T, mac_pads_R1_O, stdCn [(.slc (.int .u8))] [[(.slc (.int .u8)), (.slc (.int .u8)), (.slc (.int .u8))]] mac_pads_R1_MM⟩
def mac_pads_L2_T : Tm := ⟨[(2, false, [.row 0]), (3, false, [.row 1]), (19, false, [.hole (.int .i64)])], 37, [.row (.int .u8), .row (.int .u8)]⟩
def mac_pads_L2_O : List (Ex × Tm) := [(.exit 0, ⟨[(2, false, [.row 0]), (3, false, [.row 1])], 37, [.row (.int .u8), .row (.int .u8)]⟩)]
def mac_pads_L2 (s19 : Int) (r0 : List Int) (r1 : List Int) : Option ((Int × (List Int) × (List Int)) ⊕ (((List Int) × (List Int)))) :=
  if decide (s19 < (64 : Int)) = true then
    Option.bind (inb (List.length r0) s19) fun _ =>
    Option.bind (inb (List.length r0) s19) fun _ =>
    Option.bind (inb (List.length r1) s19) fun _ =>
    Option.bind (inb (List.length r1) s19) fun _ =>
    some (.inl (IntKind.wrap IntKind.i64 (s19 + (1 : Int)), List.set r0 (Int.toNat s19) (bxor IntKind.u8 (List.getD r0 (Int.toNat s19) (0 : Int)) (54 : Int)), List.set r1 (Int.toNat s19) (bxor IntKind.u8 (List.getD r1 (Int.toNat s19) (0 : Int)) (92 : Int))))
  else
  some (.inr (r0, r1))
def mac_pads_L2_P : Int × (List Int) × (List Int) → Option ((Int × (List Int) × (List Int)) ⊕ (((List Int) × (List Int)))) := fun p => mac_pads_L2 p.1 p.2.1 p.2.2
def mac_pads_L2_MM : HL [(.int .i64), (.slc (.int .u8)), (.slc (.int .u8))] → Option (HL [(.int .i64), (.slc (.int .u8)), (.slc (.int .u8))] ⊕ SumL [[(.slc (.int .u8)), (.slc (.int .u8))]]) := fun p => mac_pads_L2 p.1 p.2.1 p.2.2
def mac_pads_L2_C : Con := ⟨0, mac_pads_L2_T, mac_pads_L2_O, stdCn [(.int .i64), (.slc (.int .u8)), (.slc (.int .u8))] [[(.slc (.int .u8)), (.slc (.int .u8))]] (loop mac_pads_L2_MM)⟩
def mac_pads_T : Tm := ⟨[(0, false, [.hole (.slc (.int .u8))])], 1, []⟩
def mac_pads_O : List (Ex × Tm) := [(.ret, ⟨[(0, false, [.row 0]), (1, false, [.row 1])], 2, [.row (.int .u8), .row (.int .u8)]⟩)]
def mac_pads_M (s0 : List Int) : Option ((List Int) × (List Int)) :=
  if decide ((((List.length s0) : Nat) : Int) > (64 : Int)) = true then
    Option.bind (mac_sum_P [s0]) fun (v0 : (List Int)) =>
    Option.bind (mac_pads_R1_P v0) fun (v1 : ((List Int) × ((List Int) × (List Int)))) =>
    Option.bind (loop mac_pads_L2_P ((0 : Int), cpyL v1.snd.fst (0 : Nat) (List.length v1.snd.fst) v1.fst, cpyL v1.snd.snd (0 : Nat) (List.length v1.snd.snd) v1.fst)) fun (v2 : ((List Int) × (List Int))) =>
    some (v2.fst, v2.snd)
  else
  Option.bind (mac_pads_R1_P s0) fun (v3 : ((List Int) × ((List Int) × (List Int)))) =>
  Option.bind (loop mac_pads_L2_P ((0 : Int), cpyL v3.snd.fst (0 : Nat) (List.length v3.snd.fst) v3.fst, cpyL v3.snd.snd (0 : Nat) (List.length v3.snd.snd) v3.fst)) fun (v4 : ((List Int) × (List Int))) =>
  some (v4.fst, v4.snd)
def mac_pads_P : (List Int) → Option ((List Int) × (List Int)) := fun p => mac_pads_M p
def mac_pads_MM : HL [(.slc (.int .u8))] → Option (SumL [[(.slc (.int .u8)), (.slc (.int .u8))]]) := fun p => mac_pads_M p
def mac_pads_C : Con := ⟨0, mac_pads_T, mac_pads_O, stdCn [(.slc (.int .u8))] [[(.slc (.int .u8)), (.slc (.int .u8))]] mac_pads_MM⟩

def mac_Hmac_T : Tm := ⟨[(0, false, [.hole (.slc (.int .u8))]), (1, false, [.hole (.slc (.int .u8))])], 2, []⟩
def mac_Hmac_O : List (Ex × Tm) := [(.ret, ⟨[(0, true, [.hole (.arr 32 (.int .u8))])], 1, []⟩)]
def mac_Hmac_M (s0 : List Int) (s1 : List Int) : Option ((Arr 32 Int)) :=
  Option.bind (mac_pads_P s0) fun (v0 : ((List Int) × (List Int))) =>
  Option.bind (mac_sum_P [v0.fst, s1]) fun (v1 : (List Int)) =>
  Option.bind (mac_sum_P [v0.snd, v1]) fun (v2 : (List Int)) =>
  Option.bind (lenAt (32 : Nat) (List.length v2)) fun _ =>
  some (Arr.tk (nat_lit 32) (0 : Int) v2)
def mac_Hmac_P : (List Int) × (List Int) → Option ((Arr 32 Int)) := fun p => mac_Hmac_M p.1 p.2
def mac_Hmac_MM : HL [(.slc (.int .u8)), (.slc (.int .u8))] → Option (SumL [[(.arr 32 (.int .u8))]]) := fun p => mac_Hmac_M p.1 p.2
def mac_Hmac_C : Con := ⟨0, mac_Hmac_T, mac_Hmac_O, stdCn [(.slc (.int .u8)), (.slc (.int .u8))] [[(.arr 32 (.int .u8))]] mac_Hmac_MM⟩

def mac_Extract_T : Tm := ⟨[(0, false, [.hole (.slc (.int .u8))]), (1, false, [.hole (.slc (.int .u8))])], 2, []⟩
def mac_Extract_O : List (Ex × Tm) := [(.ret, ⟨[(0, true, [.hole (.arr 32 (.int .u8))])], 1, []⟩)]
def mac_Extract_M (s0 : List Int) (s1 : List Int) : Option ((Arr 32 Int)) :=
  if ((((List.length s0) : Nat) : Int) == (0 : Int)) = true then
    Option.bind (mk2 (1 : Nat) (32 : Int) (32 : Int)) fun (v0 : Nat) =>
    Option.bind (mac_Hmac_P (List.replicate v0 (0 : Int), s1)) fun (v1 : (Arr (32 : Nat) Int)) =>
    some (v1)
  else
  Option.bind (mac_Hmac_P (s0, s1)) fun (v2 : (Arr (32 : Nat) Int)) =>
  some (v2)
def mac_Extract_P : (List Int) × (List Int) → Option ((Arr 32 Int)) := fun p => mac_Extract_M p.1 p.2
def mac_Extract_MM : HL [(.slc (.int .u8)), (.slc (.int .u8))] → Option (SumL [[(.arr 32 (.int .u8))]]) := fun p => mac_Extract_M p.1 p.2
def mac_Extract_C : Con := ⟨0, mac_Extract_T, mac_Extract_O, stdCn [(.slc (.int .u8)), (.slc (.int .u8))] [[(.arr 32 (.int .u8))]] mac_Extract_MM⟩

def mac_Expand_L1_T : Tm := ⟨[(0, false, [.hole (.slc (.int .u8))]), (1, false, [.hole (.slc (.int .u8))]), (2, false, [.hole (.int .i64)]), (8, false, [.row 0]), (9, false, [.row 1]), (10, false, [.hole (.int .u8)])], 39, [.row (.int .u8), .row (.int .u8)]⟩
def mac_Expand_L1_O : List (Ex × Tm) := [(.exit 0, ⟨[(2, false, [.hole (.int .i64)]), (8, false, [.row 0])], 39, [.row (.int .u8)]⟩)]
def mac_Expand_L1 (s0 : List Int) (s1 : List Int) (s2 : Int) (s10 : Int) (r0 : List Int) (r1 : List Int) : Option (((List Int) × (List Int) × Int × Int × (List Int) × (List Int)) ⊕ ((Int × (List Int)))) :=
  if decide ((((List.length r0) : Nat) : Int) < s2) = true then
    Option.bind (pack_Join_P [r1, s1, [s10]]) fun (v0 : (List Int)) =>
    Option.bind (mac_Hmac_P (s0, v0)) fun (v1 : (Arr (32 : Nat) Int)) =>
    Option.bind (subn (32 : Nat) (0 : Int) (32 : Int)) fun _ =>
    Option.bind (room (1 : Nat) (List.length r0 + List.length (List.drop (nat_lit 0) (List.take (nat_lit 32) v1.val)))) fun _ =>
    some (.inl (s0, s1, s2, IntKind.wrap IntKind.u8 (s10 + (1 : Int)), r0 ++ List.drop (nat_lit 0) (List.take (nat_lit 32) v1.val), v1.val))
  else
  some (.inr (s2, r0))
def mac_Expand_L1_P : (List Int) × (List Int) × Int × Int × (List Int) × (List Int) → Option (((List Int) × (List Int) × Int × Int × (List Int) × (List Int)) ⊕ ((Int × (List Int)))) := fun p => mac_Expand_L1 p.1 p.2.1 p.2.2.1 p.2.2.2.1 p.2.2.2.2.1 p.2.2.2.2.2
def mac_Expand_L1_MM : HL [(.slc (.int .u8)), (.slc (.int .u8)), (.int .i64), (.int .u8), (.slc (.int .u8)), (.slc (.int .u8))] → Option (HL [(.slc (.int .u8)), (.slc (.int .u8)), (.int .i64), (.int .u8), (.slc (.int .u8)), (.slc (.int .u8))] ⊕ SumL [[(.int .i64), (.slc (.int .u8))]]) := fun p => mac_Expand_L1 p.1 p.2.1 p.2.2.1 p.2.2.2.1 p.2.2.2.2.1 p.2.2.2.2.2
def mac_Expand_L1_C : Con := ⟨0, mac_Expand_L1_T, mac_Expand_L1_O, stdCn [(.slc (.int .u8)), (.slc (.int .u8)), (.int .i64), (.int .u8), (.slc (.int .u8)), (.slc (.int .u8))] [[(.int .i64), (.slc (.int .u8))]] (loop mac_Expand_L1_MM)⟩
def mac_Expand_T : Tm := ⟨[(0, false, [.hole (.slc (.int .u8))]), (1, false, [.hole (.slc (.int .u8))]), (2, false, [.hole (.int .i64)])], 3, []⟩
def mac_Expand_O : List (Ex × Tm) := [(.ret, ⟨[(0, false, [.row 0]), (1, false, [.hole .bool])], 2, [.row (.int .u8)]⟩)]
def mac_Expand_M (s0 : List Int) (s1 : List Int) (s2 : Int) : Option (Bool × (List Int)) :=
  if decide (s2 < (0 : Int)) = true then
    some (false, [])
  else
  if decide (s2 > (8160 : Int)) = true then
    some (false, [])
  else
  Option.bind (loop mac_Expand_L1_P (s0, s1, s2, (1 : Int), [], [])) fun (v0 : (Int × (List Int))) =>
  Option.bind (subn (List.length v0.snd) (0 : Int) v0.fst) fun _ =>
  some (true, List.drop (nat_lit 0) (List.take (Int.toNat v0.fst) v0.snd))
def mac_Expand_P : (List Int) × (List Int) × Int → Option (Bool × (List Int)) := fun p => mac_Expand_M p.1 p.2.1 p.2.2
def mac_Expand_MM : HL [(.slc (.int .u8)), (.slc (.int .u8)), (.int .i64)] → Option (SumL [[.bool, (.slc (.int .u8))]]) := fun p => mac_Expand_M p.1 p.2.1 p.2.2
def mac_Expand_C : Con := ⟨0, mac_Expand_T, mac_Expand_O, stdCn [(.slc (.int .u8)), (.slc (.int .u8)), (.int .i64)] [[.bool, (.slc (.int .u8))]] mac_Expand_MM⟩

def keys_Derive_T : Tm := ⟨[(0, false, [.hole (.slc (.int .u8))]), (1, true, [.hole (.int .i64), .hole (.int .i64), .hole (.int .i64), .hole (.int .i64), .hole (.int .i64), .hole (.int .i64)])], 2, []⟩
def keys_Derive_O : List (Ex × Tm) := [(.ret, ⟨[(0, true, [.hole (.arr 32 (.int .u8))]), (1, false, [.hole .bool])], 2, []⟩)]
def keys_Derive_M (s0 : List Int) (s1_0 : Int) (s1_1 : Int) (s1_2 : Int) (s1_3 : Int) (s1_4 : Int) (s1_5 : Int) : Option ((Arr 32 Int) × Bool) :=
  Option.bind (keys_Valid_P (s1_0, s1_1, s1_2, s1_3, s1_4, s1_5)) fun (v0 : Bool) =>
  if (!v0) = true then
    some (Arr.of (32 : Nat) [(0 : Int), (0 : Int), (0 : Int), (0 : Int), (0 : Int), (0 : Int), (0 : Int), (0 : Int), (0 : Int), (0 : Int), (0 : Int), (0 : Int), (0 : Int), (0 : Int), (0 : Int), (0 : Int), (0 : Int), (0 : Int), (0 : Int), (0 : Int), (0 : Int), (0 : Int), (0 : Int), (0 : Int), (0 : Int), (0 : Int), (0 : Int), (0 : Int), (0 : Int), (0 : Int), (0 : Int), (0 : Int)] rfl, false)
  else
  Option.bind (mac_Extract_P ([(105 : Int), (110 : Int), (116 : Int), (97 : Int), (103 : Int), (108 : Int), (105 : Int), (111 : Int)], s0)) fun (v1 : (Arr (32 : Nat) Int)) =>
  Option.bind (subn (32 : Nat) (0 : Int) (32 : Int)) fun _ =>
  Option.bind (keys_Bytes_P (s1_0, s1_1, s1_2, s1_3, s1_4, s1_5)) fun (v3 : (List Int)) =>
  Option.bind (mac_Expand_P (List.drop (nat_lit 0) (List.take (nat_lit 32) v1.val), v3, (32 : Int))) fun (v4 : (Bool × (List Int))) =>
  Option.bind (lenAt (32 : Nat) (List.length v4.snd)) fun _ =>
  some (Arr.tk (nat_lit 32) (0 : Int) v4.snd, v4.fst)
def keys_Derive_P : (List Int) × Int × Int × Int × Int × Int × Int → Option ((Arr 32 Int) × Bool) := fun p => keys_Derive_M p.1 p.2.1 p.2.2.1 p.2.2.2.1 p.2.2.2.2.1 p.2.2.2.2.2.1 p.2.2.2.2.2.2
def keys_Derive_MM : HL [(.slc (.int .u8)), (.int .i64), (.int .i64), (.int .i64), (.int .i64), (.int .i64), (.int .i64)] → Option (SumL [[(.arr 32 (.int .u8)), .bool]]) := fun p => keys_Derive_M p.1 p.2.1 p.2.2.1 p.2.2.2.1 p.2.2.2.2.1 p.2.2.2.2.2.1 p.2.2.2.2.2.2
def keys_Derive_C : Con := ⟨0, keys_Derive_T, keys_Derive_O, stdCn [(.slc (.int .u8)), (.int .i64), (.int .i64), (.int .i64), (.int .i64), (.int .i64), (.int .i64)] [[(.arr 32 (.int .u8)), .bool]] keys_Derive_MM⟩

def intaglioref07_in_T : Tm := ⟨[(0, false, [.hole (.int .i64)])], 1, []⟩
def intaglioref07_in_O : List (Ex × Tm) := [(.ret, ⟨[(0, false, [.hole .bool])], 1, []⟩)]
def intaglioref07_in_M (s0 : Int) : Option (Bool) :=
  if decide (s0 ≥ (0 : Int)) = true then
    some (decide (s0 ≤ (1099511627776 : Int)))
  else
  some (false)
def intaglioref07_in_P : Int → Option (Bool) := fun p => intaglioref07_in_M p
def intaglioref07_in_MM : HL [(.int .i64)] → Option (SumL [[.bool]]) := fun p => intaglioref07_in_M p
def intaglioref07_in_C : Con := ⟨0, intaglioref07_in_T, intaglioref07_in_O, stdCn [(.int .i64)] [[.bool]] intaglioref07_in_MM⟩

def intaglioref07_Valid_T : Tm := ⟨[(0, true, [.hole (.int .i64), .hole (.int .i64), .hole (.int .i64), .hole (.int .i64), .hole (.int .i64), .hole (.int .i64)])], 1, []⟩
def intaglioref07_Valid_O : List (Ex × Tm) := [(.ret, ⟨[(0, false, [.hole .bool])], 1, []⟩)]
def intaglioref07_Valid_M (s0_0 : Int) (s0_1 : Int) (s0_2 : Int) (s0_3 : Int) (s0_4 : Int) (s0_5 : Int) : Option (Bool) :=
  if decide (s0_0 ≥ (1 : Int)) = true then
    if decide (s0_0 ≤ (6 : Int)) = true then
      Option.bind (intaglioref07_in_P s0_1) fun (v0 : Bool) =>
      if v0 = true then
        Option.bind (intaglioref07_in_P s0_2) fun (v1 : Bool) =>
        if v1 = true then
          Option.bind (intaglioref07_in_P s0_3) fun (v2 : Bool) =>
          if v2 = true then
            Option.bind (intaglioref07_in_P s0_5) fun (v3 : Bool) =>
            if v3 = true then
              if (s0_4 == (0 : Int)) = true then
                some (true)
              else
              some (s0_4 == (1 : Int))
            else
            some (false)
          else
          some (false)
        else
        some (false)
      else
      some (false)
    else
    some (false)
  else
  some (false)
def intaglioref07_Valid_P : Int × Int × Int × Int × Int × Int → Option (Bool) := fun p => intaglioref07_Valid_M p.1 p.2.1 p.2.2.1 p.2.2.2.1 p.2.2.2.2.1 p.2.2.2.2.2
def intaglioref07_Valid_MM : HL [(.int .i64), (.int .i64), (.int .i64), (.int .i64), (.int .i64), (.int .i64)] → Option (SumL [[.bool]]) := fun p => intaglioref07_Valid_M p.1 p.2.1 p.2.2.1 p.2.2.2.1 p.2.2.2.2.1 p.2.2.2.2.2
def intaglioref07_Valid_C : Con := ⟨0, intaglioref07_Valid_T, intaglioref07_Valid_O, stdCn [(.int .i64), (.int .i64), (.int .i64), (.int .i64), (.int .i64), (.int .i64)] [[.bool]] intaglioref07_Valid_MM⟩

def intaglioref01_Both_T : Tm := ⟨[(0, false, [.hole (.slc (.int .u8))]), (1, false, [.hole (.slc (.int .u8))])], 2, []⟩
def intaglioref01_Both_O : List (Ex × Tm) := [(.ret, ⟨[(0, false, [.row 0])], 1, [.row (.int .u8)]⟩)]
def intaglioref01_Both_M (s0 : List Int) (s1 : List Int) : Option ((List Int)) :=
  Option.bind (room (1 : Nat) ((0 : Nat) + List.length s0)) fun _ =>
  Option.bind (room (1 : Nat) (List.length s0 + List.length s1)) fun _ =>
  some (s0 ++ s1)
def intaglioref01_Both_P : (List Int) × (List Int) → Option ((List Int)) := fun p => intaglioref01_Both_M p.1 p.2
def intaglioref01_Both_MM : HL [(.slc (.int .u8)), (.slc (.int .u8))] → Option (SumL [[(.slc (.int .u8))]]) := fun p => intaglioref01_Both_M p.1 p.2
def intaglioref01_Both_C : Con := ⟨0, intaglioref01_Both_T, intaglioref01_Both_O, stdCn [(.slc (.int .u8)), (.slc (.int .u8))] [[(.slc (.int .u8))]] intaglioref01_Both_MM⟩

def intaglioref05_Primes_L3_T : Tm := ⟨[(0, false, [.hole (.int .i64)]), (3, false, [.row 0]), (4, false, [.hole (.int .u64)]), (5, false, [.hole .bool]), (6, false, [.hole (.int .i64)])], 39, [.row (.int .u64)]⟩
def intaglioref05_Primes_L3_O : List (Ex × Tm) := [(.exit 2, ⟨[(0, false, [.hole (.int .i64)]), (3, false, [.row 0]), (4, false, [.hole (.int .u64)]), (5, false, [.hole .bool])], 39, [.row (.int .u64)]⟩)]
def intaglioref05_Primes_L3 (s0 : Int) (s4 : Int) (s5 : Bool) (s6 : Int) (r0 : List Int) : Option ((Int × Int × Bool × Int × (List Int)) ⊕ ((Int × Int × Bool × (List Int)))) :=
  if decide (s6 < (((List.length r0) : Nat) : Int)) = true then
    if s5 = true then
      Option.bind (inb (List.length r0) s6) fun _ =>
      Option.bind (grem IntKind.u64 s4 (List.getD r0 (Int.toNat s6) (0 : Int))) fun (v1 : Int) =>
      some (.inl (s0, s4, v1 != (0 : Int), IntKind.wrap IntKind.i64 (s6 + (1 : Int)), r0))
    else
    some (.inl (s0, s4, false, IntKind.wrap IntKind.i64 (s6 + (1 : Int)), r0))
  else
  some (.inr (s0, s4, s5, r0))
def intaglioref05_Primes_L3_P : Int × Int × Bool × Int × (List Int) → Option ((Int × Int × Bool × Int × (List Int)) ⊕ ((Int × Int × Bool × (List Int)))) := fun p => intaglioref05_Primes_L3 p.1 p.2.1 p.2.2.1 p.2.2.2.1 p.2.2.2.2
def intaglioref05_Primes_L3_MM : HL [(.int .i64), (.int .u64), .bool, (.int .i64), (.slc (.int .u64))] → Option (HL [(.int .i64), (.int .u64), .bool, (.int .i64), (.slc (.int .u64))] ⊕ SumL [[(.int .i64), (.int .u64), .bool, (.slc (.int .u64))]]) := fun p => intaglioref05_Primes_L3 p.1 p.2.1 p.2.2.1 p.2.2.2.1 p.2.2.2.2
def intaglioref05_Primes_L3_C : Con := ⟨0, intaglioref05_Primes_L3_T, intaglioref05_Primes_L3_O, stdCn [(.int .i64), (.int .u64), .bool, (.int .i64), (.slc (.int .u64))] [[(.int .i64), (.int .u64), .bool, (.slc (.int .u64))]] (loop intaglioref05_Primes_L3_MM)⟩
def intaglioref05_Primes_L1_T : Tm := ⟨[(0, false, [.hole (.int .i64)]), (3, false, [.row 0]), (4, false, [.hole (.int .u64)])], 39, [.row (.int .u64)]⟩
def intaglioref05_Primes_L1_O : List (Ex × Tm) := [(.exit 0, ⟨[(3, false, [.row 0])], 39, [.row (.int .u64)]⟩)]
def intaglioref05_Primes_L1 (s0 : Int) (s4 : Int) (r0 : List Int) : Option ((Int × Int × (List Int)) ⊕ (((List Int)))) :=
  if decide ((((List.length r0) : Nat) : Int) < s0) = true then
    if decide (s4 < (1000 : Int)) = true then
      Option.bind (loop intaglioref05_Primes_L3_P (s0, s4, true, (0 : Int), r0)) fun (v0 : (Int × (Int × (Bool × (List Int))))) =>
      if v0.snd.snd.fst = true then
        Option.bind (room (8 : Nat) (List.length v0.snd.snd.snd + List.length [v0.snd.fst])) fun _ =>
        some (.inl (v0.fst, IntKind.wrap IntKind.u64 (v0.snd.fst + (1 : Int)), v0.snd.snd.snd ++ [v0.snd.fst]))
      else
      some (.inl (v0.fst, IntKind.wrap IntKind.u64 (v0.snd.fst + (1 : Int)), v0.snd.snd.snd))
    else
    some (.inr (r0))
  else
  some (.inr (r0))
def intaglioref05_Primes_L1_P : Int × Int × (List Int) → Option ((Int × Int × (List Int)) ⊕ (((List Int)))) := fun p => intaglioref05_Primes_L1 p.1 p.2.1 p.2.2
def intaglioref05_Primes_L1_MM : HL [(.int .i64), (.int .u64), (.slc (.int .u64))] → Option (HL [(.int .i64), (.int .u64), (.slc (.int .u64))] ⊕ SumL [[(.slc (.int .u64))]]) := fun p => intaglioref05_Primes_L1 p.1 p.2.1 p.2.2
def intaglioref05_Primes_L1_C : Con := ⟨0, intaglioref05_Primes_L1_T, intaglioref05_Primes_L1_O, stdCn [(.int .i64), (.int .u64), (.slc (.int .u64))] [[(.slc (.int .u64))]] (loop intaglioref05_Primes_L1_MM)⟩
def intaglioref05_Primes_T : Tm := ⟨[(0, false, [.hole (.int .i64)])], 1, []⟩
def intaglioref05_Primes_O : List (Ex × Tm) := [(.ret, ⟨[(0, false, [.row 0])], 1, [.row (.int .u64)]⟩)]
def intaglioref05_Primes_M (s0 : Int) : Option ((List Int)) :=
  Option.bind (loop intaglioref05_Primes_L1_P (s0, (2 : Int), [])) fun (v0 : (List Int)) =>
  some (v0)
def intaglioref05_Primes_P : Int → Option ((List Int)) := fun p => intaglioref05_Primes_M p
def intaglioref05_Primes_MM : HL [(.int .i64)] → Option (SumL [[(.slc (.int .u64))]]) := fun p => intaglioref05_Primes_M p
def intaglioref05_Primes_C : Con := ⟨0, intaglioref05_Primes_T, intaglioref05_Primes_O, stdCn [(.int .i64)] [[(.slc (.int .u64))]] intaglioref05_Primes_MM⟩

def intaglioref05_times_L2_T : Tm := ⟨[(2, false, [.ptr 0 0]), (3, false, [.ptr 1 0]), (4, false, [.ptr 2 0]), (5, false, [.ptr 3 0]), (6, false, [.hole (.int .i64)]), (7, false, [.hole (.int .u64)]), (8, false, [.hole (.int .i64)])], 45, [.box [.hole (.arr 6 (.int .u64))], .box [.hole (.arr 6 (.int .u64))], .box [.hole (.arr 6 (.int .u64))], .box [.hole (.arr 6 (.int .u64))]]⟩
def intaglioref05_times_L2_O : List (Ex × Tm) := [(.exit 2, ⟨[(2, false, [.ptr 0 0]), (3, false, [.ptr 1 0]), (4, false, [.ptr 2 0]), (5, false, [.ptr 3 0]), (6, false, [.hole (.int .i64)]), (7, false, [.hole (.int .u64)])], 45, [.box [.hole (.arr 6 (.int .u64))], .box [.hole (.arr 6 (.int .u64))], .box [.hole (.arr 6 (.int .u64))], .box [.hole (.arr 6 (.int .u64))]]⟩)]
def intaglioref05_times_L2 (s6 : Int) (s7 : Int) (s8 : Int) (m0 : Arr 6 Int) (m1 : Arr 6 Int) (m2 : Arr 6 Int) (m3 : Arr 6 Int) : Option ((Int × Int × Int × (Arr 6 Int) × (Arr 6 Int) × (Arr 6 Int) × (Arr 6 Int)) ⊕ ((Int × Int × (Arr 6 Int) × (Arr 6 Int) × (Arr 6 Int) × (Arr 6 Int)))) :=
  if decide (s8 < (2 : Int)) = true then
    Option.bind (inb (6 : Nat) (IntKind.wrap IntKind.i64 (s6 + s8))) fun _ =>
    Option.bind (inb (6 : Nat) s6) fun _ =>
    Option.bind (inb (6 : Nat) s8) fun _ =>
    Option.bind (grem IntKind.u64 (IntKind.wrap IntKind.u64 (IntKind.wrap IntKind.u64 (s7 + List.getD m3.val (Int.toNat (IntKind.wrap IntKind.i64 (s6 + s8))) (0 : Int)) + IntKind.wrap IntKind.u64 (List.getD m0.val (Int.toNat s6) (0 : Int) * List.getD m1.val (Int.toNat s8) (0 : Int)))) (4294967296 : Int)) fun (v3 : Int) =>
    Option.bind (inb (6 : Nat) (IntKind.wrap IntKind.i64 (s6 + s8))) fun _ =>
    Option.bind (gquo IntKind.u64 (IntKind.wrap IntKind.u64 (IntKind.wrap IntKind.u64 (s7 + List.getD m3.val (Int.toNat (IntKind.wrap IntKind.i64 (s6 + s8))) (0 : Int)) + IntKind.wrap IntKind.u64 (List.getD m0.val (Int.toNat s6) (0 : Int) * List.getD m1.val (Int.toNat s8) (0 : Int)))) (4294967296 : Int)) fun (v5 : Int) =>
    some (.inl (s6, v5, IntKind.wrap IntKind.i64 (s8 + (1 : Int)), m0, m1, m2, Arr.set m3 (Int.toNat (IntKind.wrap IntKind.i64 (s6 + s8))) v3))
  else
  some (.inr (s6, s7, m0, m1, m2, m3))
def intaglioref05_times_L2_P : Int × Int × Int × (Arr 6 Int) × (Arr 6 Int) × (Arr 6 Int) × (Arr 6 Int) → Option ((Int × Int × Int × (Arr 6 Int) × (Arr 6 Int) × (Arr 6 Int) × (Arr 6 Int)) ⊕ ((Int × Int × (Arr 6 Int) × (Arr 6 Int) × (Arr 6 Int) × (Arr 6 Int)))) := fun p => intaglioref05_times_L2 p.1 p.2.1 p.2.2.1 p.2.2.2.1 p.2.2.2.2.1 p.2.2.2.2.2.1 p.2.2.2.2.2.2
def intaglioref05_times_L2_MM : HL [(.int .i64), (.int .u64), (.int .i64), (.arr 6 (.int .u64)), (.arr 6 (.int .u64)), (.arr 6 (.int .u64)), (.arr 6 (.int .u64))] → Option (HL [(.int .i64), (.int .u64), (.int .i64), (.arr 6 (.int .u64)), (.arr 6 (.int .u64)), (.arr 6 (.int .u64)), (.arr 6 (.int .u64))] ⊕ SumL [[(.int .i64), (.int .u64), (.arr 6 (.int .u64)), (.arr 6 (.int .u64)), (.arr 6 (.int .u64)), (.arr 6 (.int .u64))]]) := fun p => intaglioref05_times_L2 p.1 p.2.1 p.2.2.1 p.2.2.2.1 p.2.2.2.2.1 p.2.2.2.2.2.1 p.2.2.2.2.2.2
def intaglioref05_times_L2_C : Con := ⟨4, intaglioref05_times_L2_T, intaglioref05_times_L2_O, stdCn [(.int .i64), (.int .u64), (.int .i64), (.arr 6 (.int .u64)), (.arr 6 (.int .u64)), (.arr 6 (.int .u64)), (.arr 6 (.int .u64))] [[(.int .i64), (.int .u64), (.arr 6 (.int .u64)), (.arr 6 (.int .u64)), (.arr 6 (.int .u64)), (.arr 6 (.int .u64))]] (loop intaglioref05_times_L2_MM)⟩
def intaglioref05_times_L1_T : Tm := ⟨[(2, false, [.ptr 0 0]), (3, false, [.ptr 1 0]), (4, false, [.ptr 2 0]), (5, false, [.ptr 3 0]), (6, false, [.hole (.int .i64)])], 45, [.box [.hole (.arr 6 (.int .u64))], .box [.hole (.arr 6 (.int .u64))], .box [.hole (.arr 6 (.int .u64))], .box [.hole (.arr 6 (.int .u64))]]⟩
def intaglioref05_times_L1_O : List (Ex × Tm) := [(.exit 0, ⟨[(4, false, [.ptr 2 0]), (5, false, [.ptr 3 0])], 45, [.box [.hole (.arr 6 (.int .u64))], .box [.hole (.arr 6 (.int .u64))], .box [.hole (.arr 6 (.int .u64))], .box [.hole (.arr 6 (.int .u64))]]⟩)]
def intaglioref05_times_L1 (s6 : Int) (m0 : Arr 6 Int) (m1 : Arr 6 Int) (m2 : Arr 6 Int) (m3 : Arr 6 Int) : Option ((Int × (Arr 6 Int) × (Arr 6 Int) × (Arr 6 Int) × (Arr 6 Int)) ⊕ (((Arr 6 Int) × (Arr 6 Int) × (Arr 6 Int) × (Arr 6 Int)))) :=
  if decide (s6 < (4 : Int)) = true then
    Option.bind (loop intaglioref05_times_L2_P (s6, (0 : Int), (0 : Int), m0, m1, m2, m3)) fun (v0 : (Int × (Int × ((Arr (6 : Nat) Int) × ((Arr (6 : Nat) Int) × ((Arr (6 : Nat) Int) × (Arr (6 : Nat) Int))))))) =>
    Option.bind (inb (6 : Nat) (IntKind.wrap IntKind.i64 (v0.fst + (2 : Int)))) fun _ =>
    some (.inl (IntKind.wrap IntKind.i64 (v0.fst + (1 : Int)), v0.snd.snd.fst, v0.snd.snd.snd.fst, v0.snd.snd.snd.snd.fst, Arr.set v0.snd.snd.snd.snd.snd (Int.toNat (IntKind.wrap IntKind.i64 (v0.fst + (2 : Int)))) v0.snd.fst))
  else
  some (.inr (m0, m1, m2, m3))
def intaglioref05_times_L1_P : Int × (Arr 6 Int) × (Arr 6 Int) × (Arr 6 Int) × (Arr 6 Int) → Option ((Int × (Arr 6 Int) × (Arr 6 Int) × (Arr 6 Int) × (Arr 6 Int)) ⊕ (((Arr 6 Int) × (Arr 6 Int) × (Arr 6 Int) × (Arr 6 Int)))) := fun p => intaglioref05_times_L1 p.1 p.2.1 p.2.2.1 p.2.2.2.1 p.2.2.2.2
def intaglioref05_times_L1_MM : HL [(.int .i64), (.arr 6 (.int .u64)), (.arr 6 (.int .u64)), (.arr 6 (.int .u64)), (.arr 6 (.int .u64))] → Option (HL [(.int .i64), (.arr 6 (.int .u64)), (.arr 6 (.int .u64)), (.arr 6 (.int .u64)), (.arr 6 (.int .u64))] ⊕ SumL [[(.arr 6 (.int .u64)), (.arr 6 (.int .u64)), (.arr 6 (.int .u64)), (.arr 6 (.int .u64))]]) := fun p => intaglioref05_times_L1 p.1 p.2.1 p.2.2.1 p.2.2.2.1 p.2.2.2.2
def intaglioref05_times_L1_C : Con := ⟨4, intaglioref05_times_L1_T, intaglioref05_times_L1_O, stdCn [(.int .i64), (.arr 6 (.int .u64)), (.arr 6 (.int .u64)), (.arr 6 (.int .u64)), (.arr 6 (.int .u64))] [[(.arr 6 (.int .u64)), (.arr 6 (.int .u64)), (.arr 6 (.int .u64)), (.arr 6 (.int .u64))]] (loop intaglioref05_times_L1_MM)⟩
def intaglioref05_times_T : Tm := ⟨[(0, true, [.hole (.arr 6 (.int .u64))]), (1, true, [.hole (.arr 6 (.int .u64))])], 2, []⟩
def intaglioref05_times_O : List (Ex × Tm) := [(.ret, ⟨[(0, true, [.hole (.arr 6 (.int .u64))])], 1, []⟩)]
def intaglioref05_times_M (s0 : Arr 6 Int) (s1 : Arr 6 Int) : Option ((Arr 6 Int)) :=
  Option.bind (loop intaglioref05_times_L1_P ((0 : Int), s0, s1, Arr.rep (6 : Nat) (0 : Int), Arr.rep (6 : Nat) (0 : Int))) fun (v0 : ((Arr (6 : Nat) Int) × ((Arr (6 : Nat) Int) × ((Arr (6 : Nat) Int) × (Arr (6 : Nat) Int))))) =>
  some (v0.snd.snd.snd)
def intaglioref05_times_P : (Arr 6 Int) × (Arr 6 Int) → Option ((Arr 6 Int)) := fun p => intaglioref05_times_M p.1 p.2
def intaglioref05_times_MM : HL [(.arr 6 (.int .u64)), (.arr 6 (.int .u64))] → Option (SumL [[(.arr 6 (.int .u64))]]) := fun p => intaglioref05_times_M p.1 p.2
def intaglioref05_times_C : Con := ⟨0, intaglioref05_times_T, intaglioref05_times_O, stdCn [(.arr 6 (.int .u64)), (.arr 6 (.int .u64))] [[(.arr 6 (.int .u64))]] intaglioref05_times_MM⟩

def intaglioref05_of_T : Tm := ⟨[(0, false, [.hole (.int .u64)])], 1, []⟩
def intaglioref05_of_O : List (Ex × Tm) := [(.ret, ⟨[(0, true, [.hole (.arr 6 (.int .u64))])], 1, []⟩)]
def intaglioref05_of_M (s0 : Int) : Option ((Arr 6 Int)) :=
  Option.bind (grem IntKind.u64 s0 (4294967296 : Int)) fun (v0 : Int) =>
  Option.bind (gquo IntKind.u64 s0 (4294967296 : Int)) fun (v1 : Int) =>
  some (Arr.of (6 : Nat) [v0, v1, (0 : Int), (0 : Int), (0 : Int), (0 : Int)] rfl)
def intaglioref05_of_P : Int → Option ((Arr 6 Int)) := fun p => intaglioref05_of_M p
def intaglioref05_of_MM : HL [(.int .u64)] → Option (SumL [[(.arr 6 (.int .u64))]]) := fun p => intaglioref05_of_M p
def intaglioref05_of_C : Con := ⟨0, intaglioref05_of_T, intaglioref05_of_O, stdCn [(.int .u64)] [[(.arr 6 (.int .u64))]] intaglioref05_of_MM⟩

def intaglioref05_above_L1_T : Tm := ⟨[(2, false, [.ptr 0 0]), (3, false, [.ptr 1 0]), (5, false, [.hole (.int .i64)])], 24, [.box [.hole (.arr 6 (.int .u64))], .box [.hole (.arr 6 (.int .u64))]]⟩
def intaglioref05_above_L1_O : List (Ex × Tm) := [(.exit 0, ⟨[], 24, [.box [.hole (.arr 6 (.int .u64))], .box [.hole (.arr 6 (.int .u64))]]⟩), (.ret, ⟨[(4, false, [.hole .bool])], 24, [.box [.hole (.arr 6 (.int .u64))], .box [.hole (.arr 6 (.int .u64))]]⟩)]
def intaglioref05_above_L1 (s5 : Int) (m0 : Arr 6 Int) (m1 : Arr 6 Int) : Option ((Int × (Arr 6 Int) × (Arr 6 Int)) ⊕ (((Arr 6 Int) × (Arr 6 Int)) ⊕ (Bool × (Arr 6 Int) × (Arr 6 Int)))) :=
  if decide (s5 ≥ (0 : Int)) = true then
    Option.bind (inb (6 : Nat) s5) fun _ =>
    Option.bind (inb (6 : Nat) s5) fun _ =>
    if (List.getD m0.val (Int.toNat s5) (0 : Int) != List.getD m1.val (Int.toNat s5) (0 : Int)) = true then
      Option.bind (inb (6 : Nat) s5) fun _ =>
      Option.bind (inb (6 : Nat) s5) fun _ =>
      some (.inr (.inr (decide (List.getD m0.val (Int.toNat s5) (0 : Int) > List.getD m1.val (Int.toNat s5) (0 : Int)), m0, m1)))
    else
    some (.inl (IntKind.wrap IntKind.i64 (s5 - (1 : Int)), m0, m1))
  else
  some (.inr (.inl (m0, m1)))
def intaglioref05_above_L1_P : Int × (Arr 6 Int) × (Arr 6 Int) → Option ((Int × (Arr 6 Int) × (Arr 6 Int)) ⊕ (((Arr 6 Int) × (Arr 6 Int)) ⊕ (Bool × (Arr 6 Int) × (Arr 6 Int)))) := fun p => intaglioref05_above_L1 p.1 p.2.1 p.2.2
def intaglioref05_above_L1_MM : HL [(.int .i64), (.arr 6 (.int .u64)), (.arr 6 (.int .u64))] → Option (HL [(.int .i64), (.arr 6 (.int .u64)), (.arr 6 (.int .u64))] ⊕ SumL [[(.arr 6 (.int .u64)), (.arr 6 (.int .u64))], [.bool, (.arr 6 (.int .u64)), (.arr 6 (.int .u64))]]) := fun p => intaglioref05_above_L1 p.1 p.2.1 p.2.2
def intaglioref05_above_L1_C : Con := ⟨2, intaglioref05_above_L1_T, intaglioref05_above_L1_O, stdCn [(.int .i64), (.arr 6 (.int .u64)), (.arr 6 (.int .u64))] [[(.arr 6 (.int .u64)), (.arr 6 (.int .u64))], [.bool, (.arr 6 (.int .u64)), (.arr 6 (.int .u64))]] (loop intaglioref05_above_L1_MM)⟩
def intaglioref05_above_T : Tm := ⟨[(0, true, [.hole (.arr 6 (.int .u64))]), (1, true, [.hole (.arr 6 (.int .u64))])], 2, []⟩
def intaglioref05_above_O : List (Ex × Tm) := [(.ret, ⟨[(0, false, [.hole .bool])], 1, []⟩)]
def intaglioref05_above_M (s0 : Arr 6 Int) (s1 : Arr 6 Int) : Option (Bool) :=
  Option.bind (loop intaglioref05_above_L1_P ((5 : Int), s0, s1)) fun (v0 : (((Arr (6 : Nat) Int) × (Arr (6 : Nat) Int)) ⊕ (Bool × ((Arr (6 : Nat) Int) × (Arr (6 : Nat) Int))))) =>
  Sum.elim (fun (v1 : ((Arr (6 : Nat) Int) × (Arr (6 : Nat) Int))) =>
      some (false)
    ) (fun (v2 : (Bool × ((Arr (6 : Nat) Int) × (Arr (6 : Nat) Int)))) =>
    some (v2.fst)
  ) (v0)
def intaglioref05_above_P : (Arr 6 Int) × (Arr 6 Int) → Option (Bool) := fun p => intaglioref05_above_M p.1 p.2
def intaglioref05_above_MM : HL [(.arr 6 (.int .u64)), (.arr 6 (.int .u64))] → Option (SumL [[.bool]]) := fun p => intaglioref05_above_M p.1 p.2
def intaglioref05_above_C : Con := ⟨0, intaglioref05_above_T, intaglioref05_above_O, stdCn [(.arr 6 (.int .u64)), (.arr 6 (.int .u64))] [[.bool]] intaglioref05_above_MM⟩

def intaglioref05_root_L1_T : Tm := ⟨[(1, false, [.hole (.int .i64)]), (5, false, [.ptr 0 0]), (6, false, [.hole (.int .u64)]), (7, false, [.hole (.int .i64)])], 40, [.box [.hole (.arr 6 (.int .u64))]]⟩
def intaglioref05_root_L1_O : List (Ex × Tm) := [(.exit 0, ⟨[(6, false, [.hole (.int .u64)])], 40, [.box [.hole (.arr 6 (.int .u64))]]⟩)]
def intaglioref05_root_L1 (s1 : Int) (s6 : Int) (s7 : Int) (m0 : Arr 6 Int) : Option ((Int × Int × Int × (Arr 6 Int)) ⊕ ((Int × (Arr 6 Int)))) :=
  if decide (s7 < (38 : Int)) = true then
    Option.bind (gshl IntKind.u64 (1 : Int) (IntKind.wrap IntKind.i64 ((37 : Int) - s7))) fun (v0 : Int) =>
    Option.bind (intaglioref05_of_P (IntKind.wrap IntKind.u64 (s6 + v0))) fun (v1 : (Arr (6 : Nat) Int)) =>
    Option.bind (intaglioref05_of_P (IntKind.wrap IntKind.u64 (s6 + v0))) fun (v2 : (Arr (6 : Nat) Int)) =>
    Option.bind (intaglioref05_times_P (v1, v2)) fun (v3 : (Arr (6 : Nat) Int)) =>
    if (s1 == (3 : Int)) = true then
      Option.bind (intaglioref05_of_P (IntKind.wrap IntKind.u64 (s6 + v0))) fun (v4 : (Arr (6 : Nat) Int)) =>
      Option.bind (intaglioref05_times_P (v3, v4)) fun (v5 : (Arr (6 : Nat) Int)) =>
      Option.bind (intaglioref05_above_P (v5, m0)) fun (v6 : Bool) =>
      if (!v6) = true then
        some (.inl (s1, IntKind.wrap IntKind.u64 (s6 + v0), IntKind.wrap IntKind.i64 (s7 + (1 : Int)), m0))
      else
      some (.inl (s1, s6, IntKind.wrap IntKind.i64 (s7 + (1 : Int)), m0))
    else
    Option.bind (intaglioref05_above_P (v3, m0)) fun (v7 : Bool) =>
    if (!v7) = true then
      some (.inl (s1, IntKind.wrap IntKind.u64 (s6 + v0), IntKind.wrap IntKind.i64 (s7 + (1 : Int)), m0))
    else
    some (.inl (s1, s6, IntKind.wrap IntKind.i64 (s7 + (1 : Int)), m0))
  else
  some (.inr (s6, m0))
def intaglioref05_root_L1_P : Int × Int × Int × (Arr 6 Int) → Option ((Int × Int × Int × (Arr 6 Int)) ⊕ ((Int × (Arr 6 Int)))) := fun p => intaglioref05_root_L1 p.1 p.2.1 p.2.2.1 p.2.2.2
def intaglioref05_root_L1_MM : HL [(.int .i64), (.int .u64), (.int .i64), (.arr 6 (.int .u64))] → Option (HL [(.int .i64), (.int .u64), (.int .i64), (.arr 6 (.int .u64))] ⊕ SumL [[(.int .u64), (.arr 6 (.int .u64))]]) := fun p => intaglioref05_root_L1 p.1 p.2.1 p.2.2.1 p.2.2.2
def intaglioref05_root_L1_C : Con := ⟨1, intaglioref05_root_L1_T, intaglioref05_root_L1_O, stdCn [(.int .i64), (.int .u64), (.int .i64), (.arr 6 (.int .u64))] [[(.int .u64), (.arr 6 (.int .u64))]] (loop intaglioref05_root_L1_MM)⟩
def intaglioref05_root_T : Tm := ⟨[(0, false, [.hole (.int .u64)]), (1, false, [.hole (.int .i64)])], 2, []⟩
def intaglioref05_root_O : List (Ex × Tm) := [(.ret, ⟨[(0, false, [.hole (.int .u32)])], 1, []⟩)]
def intaglioref05_root_M (s0 : Int) (s1 : Int) : Option (Int) :=
  Option.bind (inb (6 : Nat) s1) fun _ =>
  Option.bind (loop intaglioref05_root_L1_P (s1, (0 : Int), (0 : Int), Arr.set (Arr.rep (6 : Nat) (0 : Int)) (Int.toNat s1) s0)) fun (v1 : (Int × (Arr (6 : Nat) Int))) =>
  some (IntKind.wrap IntKind.u32 v1.fst)
def intaglioref05_root_P : Int × Int → Option (Int) := fun p => intaglioref05_root_M p.1 p.2
def intaglioref05_root_MM : HL [(.int .u64), (.int .i64)] → Option (SumL [[(.int .u32)]]) := fun p => intaglioref05_root_M p.1 p.2
def intaglioref05_root_C : Con := ⟨0, intaglioref05_root_T, intaglioref05_root_O, stdCn [(.int .u64), (.int .i64)] [[(.int .u32)]] intaglioref05_root_MM⟩

def intaglioref01_High_L1_T : Tm := ⟨[(0, false, [.hole (.int .u64)]), (1, false, [.hole (.int .i64)]), (5, false, [.row 0]), (6, false, [.hole (.int .i64)])], 26, [.row (.int .u8)]⟩
def intaglioref01_High_L1_O : List (Ex × Tm) := [(.exit 0, ⟨[(5, false, [.row 0])], 26, [.row (.int .u8)]⟩)]
def intaglioref01_High_L1 (s0 : Int) (s1 : Int) (s6 : Int) (r0 : List Int) : Option ((Int × Int × Int × (List Int)) ⊕ (((List Int)))) :=
  if decide (s6 < s1) = true then
    Option.bind (grem IntKind.u64 s0 (256 : Int)) fun (v0 : Int) =>
    Option.bind (inb (List.length r0) (IntKind.wrap IntKind.i64 (IntKind.wrap IntKind.i64 (s1 - (1 : Int)) - s6))) fun _ =>
    Option.bind (gquo IntKind.u64 s0 (256 : Int)) fun (v2 : Int) =>
    some (.inl (v2, s1, IntKind.wrap IntKind.i64 (s6 + (1 : Int)), List.set r0 (Int.toNat (IntKind.wrap IntKind.i64 (IntKind.wrap IntKind.i64 (s1 - (1 : Int)) - s6))) (IntKind.wrap IntKind.u8 v0)))
  else
  some (.inr (r0))
def intaglioref01_High_L1_P : Int × Int × Int × (List Int) → Option ((Int × Int × Int × (List Int)) ⊕ (((List Int)))) := fun p => intaglioref01_High_L1 p.1 p.2.1 p.2.2.1 p.2.2.2
def intaglioref01_High_L1_MM : HL [(.int .u64), (.int .i64), (.int .i64), (.slc (.int .u8))] → Option (HL [(.int .u64), (.int .i64), (.int .i64), (.slc (.int .u8))] ⊕ SumL [[(.slc (.int .u8))]]) := fun p => intaglioref01_High_L1 p.1 p.2.1 p.2.2.1 p.2.2.2
def intaglioref01_High_L1_C : Con := ⟨0, intaglioref01_High_L1_T, intaglioref01_High_L1_O, stdCn [(.int .u64), (.int .i64), (.int .i64), (.slc (.int .u8))] [[(.slc (.int .u8))]] (loop intaglioref01_High_L1_MM)⟩
def intaglioref01_High_T : Tm := ⟨[(0, false, [.hole (.int .u64)]), (1, false, [.hole (.int .i64)])], 2, []⟩
def intaglioref01_High_O : List (Ex × Tm) := [(.ret, ⟨[(0, false, [.row 0])], 1, [.row (.int .u8)]⟩)]
def intaglioref01_High_M (s0 : Int) (s1 : Int) : Option ((List Int)) :=
  Option.bind (mk2 (1 : Nat) s1 s1) fun (v0 : Nat) =>
  Option.bind (loop intaglioref01_High_L1_P (s0, s1, (0 : Int), List.replicate v0 (0 : Int))) fun (v1 : (List Int)) =>
  some (v1)
def intaglioref01_High_P : Int × Int → Option ((List Int)) := fun p => intaglioref01_High_M p.1 p.2
def intaglioref01_High_MM : HL [(.int .u64), (.int .i64)] → Option (SumL [[(.slc (.int .u8))]]) := fun p => intaglioref01_High_M p.1 p.2
def intaglioref01_High_C : Con := ⟨0, intaglioref01_High_T, intaglioref01_High_O, stdCn [(.int .u64), (.int .i64)] [[(.slc (.int .u8))]] intaglioref01_High_MM⟩

def intaglioref05_Pad_L1_T : Tm := ⟨[(0, false, [.hole (.int .i64)]), (3, false, [.row 0]), (4, false, [.hole (.int .i64)])], 31, [.row (.int .u8)]⟩
def intaglioref05_Pad_L1_O : List (Ex × Tm) := [(.exit 0, ⟨[(0, false, [.hole (.int .i64)]), (3, false, [.row 0])], 31, [.row (.int .u8)]⟩)]
def intaglioref05_Pad_L1 (s0 : Int) (s4 : Int) (r0 : List Int) : Option ((Int × Int × (List Int)) ⊕ ((Int × (List Int)))) :=
  if decide (s4 < (64 : Int)) = true then
    Option.bind (grem IntKind.i64 s0 (64 : Int)) fun (v0 : Int) =>
    Option.bind (grem IntKind.i64 (IntKind.wrap IntKind.i64 (IntKind.wrap IntKind.i64 (v0 + (((List.length r0) : Nat) : Int)) + (8 : Int))) (64 : Int)) fun (v1 : Int) =>
    if (v1 != (0 : Int)) = true then
      Option.bind (room (1 : Nat) (List.length r0 + (1 : Nat))) fun _ =>
      some (.inl (s0, IntKind.wrap IntKind.i64 (s4 + (1 : Int)), r0 ++ [(0 : Int)]))
    else
    some (.inr (s0, r0))
  else
  some (.inr (s0, r0))
def intaglioref05_Pad_L1_P : Int × Int × (List Int) → Option ((Int × Int × (List Int)) ⊕ ((Int × (List Int)))) := fun p => intaglioref05_Pad_L1 p.1 p.2.1 p.2.2
def intaglioref05_Pad_L1_MM : HL [(.int .i64), (.int .i64), (.slc (.int .u8))] → Option (HL [(.int .i64), (.int .i64), (.slc (.int .u8))] ⊕ SumL [[(.int .i64), (.slc (.int .u8))]]) := fun p => intaglioref05_Pad_L1 p.1 p.2.1 p.2.2
def intaglioref05_Pad_L1_C : Con := ⟨0, intaglioref05_Pad_L1_T, intaglioref05_Pad_L1_O, stdCn [(.int .i64), (.int .i64), (.slc (.int .u8))] [[(.int .i64), (.slc (.int .u8))]] (loop intaglioref05_Pad_L1_MM)⟩
def intaglioref05_Pad_T : Tm := ⟨[(0, false, [.hole (.int .i64)])], 1, []⟩
def intaglioref05_Pad_O : List (Ex × Tm) := [(.ret, ⟨[(0, false, [.row 0])], 1, [.row (.int .u8)]⟩)]
def intaglioref05_Pad_M (s0 : Int) : Option ((List Int)) :=
  if decide (s0 < (0 : Int)) = true then
    Option.bind (loop intaglioref05_Pad_L1_P ((0 : Int), (0 : Int), [(128 : Int)])) fun (v0 : (Int × (List Int))) =>
    Option.bind (intaglioref01_High_P (IntKind.wrap IntKind.u64 ((8 : Int) * IntKind.wrap IntKind.u64 v0.fst), (8 : Int))) fun (v1 : (List Int)) =>
    Option.bind (room (1 : Nat) (List.length v0.snd + List.length v1)) fun _ =>
    some (v0.snd ++ v1)
  else
  Option.bind (loop intaglioref05_Pad_L1_P (s0, (0 : Int), [(128 : Int)])) fun (v3 : (Int × (List Int))) =>
  Option.bind (intaglioref01_High_P (IntKind.wrap IntKind.u64 ((8 : Int) * IntKind.wrap IntKind.u64 v3.fst), (8 : Int))) fun (v4 : (List Int)) =>
  Option.bind (room (1 : Nat) (List.length v3.snd + List.length v4)) fun _ =>
  some (v3.snd ++ v4)
def intaglioref05_Pad_P : Int → Option ((List Int)) := fun p => intaglioref05_Pad_M p
def intaglioref05_Pad_MM : HL [(.int .i64)] → Option (SumL [[(.slc (.int .u8))]]) := fun p => intaglioref05_Pad_M p
def intaglioref05_Pad_C : Con := ⟨0, intaglioref05_Pad_T, intaglioref05_Pad_O, stdCn [(.int .i64)] [[(.slc (.int .u8))]] intaglioref05_Pad_MM⟩

def intaglioref05_turn_T : Tm := ⟨[(0, false, [.hole (.int .u32)]), (1, false, [.hole (.int .i64)])], 2, []⟩
def intaglioref05_turn_O : List (Ex × Tm) := [(.ret, ⟨[(0, false, [.hole (.int .u32)])], 1, []⟩)]
def intaglioref05_turn_M (s0 : Int) (s1 : Int) : Option (Int) :=
  Option.bind (gshr IntKind.u32 s0 s1) fun (v0 : Int) =>
  Option.bind (gshl IntKind.u32 s0 (IntKind.wrap IntKind.i64 ((32 : Int) - s1))) fun (v1 : Int) =>
  some (bor IntKind.u32 v0 v1)
def intaglioref05_turn_P : Int × Int → Option (Int) := fun p => intaglioref05_turn_M p.1 p.2
def intaglioref05_turn_MM : HL [(.int .u32), (.int .i64)] → Option (SumL [[(.int .u32)]]) := fun p => intaglioref05_turn_M p.1 p.2
def intaglioref05_turn_C : Con := ⟨0, intaglioref05_turn_T, intaglioref05_turn_O, stdCn [(.int .u32), (.int .i64)] [[(.int .u32)]] intaglioref05_turn_MM⟩

def intaglioref05_block_L1_T : Tm := ⟨[(1, false, [.hole (.slc (.int .u8))]), (3, false, [.ptr 0 0]), (5, false, [.ptr 1 0]), (6, false, [.ptr 2 0]), (7, false, [.ptr 3 0]), (8, false, [.hole (.int .i64)])], 197, [.box [.hole (.arr 8 (.int .u32))], .box [.hole (.arr 64 (.int .u32))], .box [.hole (.arr 8 (.int .u32))], .box [.hole (.arr 64 (.int .u32))]]⟩
def intaglioref05_block_L1_O : List (Ex × Tm) := [(.exit 0, ⟨[(3, false, [.ptr 0 0]), (5, false, [.ptr 1 0]), (6, false, [.ptr 2 0]), (7, false, [.ptr 3 0])], 197, [.box [.hole (.arr 8 (.int .u32))], .box [.hole (.arr 64 (.int .u32))], .box [.hole (.arr 8 (.int .u32))], .box [.hole (.arr 64 (.int .u32))]]⟩)]
def intaglioref05_block_L1 (s1 : List Int) (s8 : Int) (m0 : Arr 8 Int) (m1 : Arr 64 Int) (m2 : Arr 8 Int) (m3 : Arr 64 Int) : Option (((List Int) × Int × (Arr 8 Int) × (Arr 64 Int) × (Arr 8 Int) × (Arr 64 Int)) ⊕ (((Arr 8 Int) × (Arr 64 Int) × (Arr 8 Int) × (Arr 64 Int)))) :=
  if decide (s8 < (64 : Int)) = true then
    Option.bind (gquo IntKind.i64 s8 (4 : Int)) fun (v0 : Int) =>
    Option.bind (gquo IntKind.i64 s8 (4 : Int)) fun (v1 : Int) =>
    Option.bind (inb (64 : Nat) v1) fun _ =>
    Option.bind (ix s1 s8) fun (v3 : Int) =>
    Option.bind (inb (64 : Nat) v0) fun _ =>
    some (.inl (s1, IntKind.wrap IntKind.i64 (s8 + (1 : Int)), m0, m1, m2, Arr.set m3 (Int.toNat v0) (IntKind.wrap IntKind.u32 (IntKind.wrap IntKind.u32 (List.getD m3.val (Int.toNat v1) (0 : Int) * (256 : Int)) + IntKind.wrap IntKind.u32 v3))))
  else
  some (.inr (m0, m1, m2, m3))
def intaglioref05_block_L1_P : (List Int) × Int × (Arr 8 Int) × (Arr 64 Int) × (Arr 8 Int) × (Arr 64 Int) → Option (((List Int) × Int × (Arr 8 Int) × (Arr 64 Int) × (Arr 8 Int) × (Arr 64 Int)) ⊕ (((Arr 8 Int) × (Arr 64 Int) × (Arr 8 Int) × (Arr 64 Int)))) := fun p => intaglioref05_block_L1 p.1 p.2.1 p.2.2.1 p.2.2.2.1 p.2.2.2.2.1 p.2.2.2.2.2
def intaglioref05_block_L1_MM : HL [(.slc (.int .u8)), (.int .i64), (.arr 8 (.int .u32)), (.arr 64 (.int .u32)), (.arr 8 (.int .u32)), (.arr 64 (.int .u32))] → Option (HL [(.slc (.int .u8)), (.int .i64), (.arr 8 (.int .u32)), (.arr 64 (.int .u32)), (.arr 8 (.int .u32)), (.arr 64 (.int .u32))] ⊕ SumL [[(.arr 8 (.int .u32)), (.arr 64 (.int .u32)), (.arr 8 (.int .u32)), (.arr 64 (.int .u32))]]) := fun p => intaglioref05_block_L1 p.1 p.2.1 p.2.2.1 p.2.2.2.1 p.2.2.2.2.1 p.2.2.2.2.2
def intaglioref05_block_L1_C : Con := ⟨4, intaglioref05_block_L1_T, intaglioref05_block_L1_O, stdCn [(.slc (.int .u8)), (.int .i64), (.arr 8 (.int .u32)), (.arr 64 (.int .u32)), (.arr 8 (.int .u32)), (.arr 64 (.int .u32))] [[(.arr 8 (.int .u32)), (.arr 64 (.int .u32)), (.arr 8 (.int .u32)), (.arr 64 (.int .u32))]] (loop intaglioref05_block_L1_MM)⟩
def intaglioref05_block_L2_T : Tm := ⟨[(3, false, [.ptr 0 0]), (5, false, [.ptr 1 0]), (6, false, [.ptr 2 0]), (7, false, [.ptr 3 0]), (9, false, [.hole (.int .i64)])], 197, [.box [.hole (.arr 8 (.int .u32))], .box [.hole (.arr 64 (.int .u32))], .box [.hole (.arr 8 (.int .u32))], .box [.hole (.arr 64 (.int .u32))]]⟩
def intaglioref05_block_L2_O : List (Ex × Tm) := [(.exit 2, ⟨[(3, false, [.ptr 0 0]), (5, false, [.ptr 1 0]), (6, false, [.ptr 2 0]), (7, false, [.ptr 3 0])], 197, [.box [.hole (.arr 8 (.int .u32))], .box [.hole (.arr 64 (.int .u32))], .box [.hole (.arr 8 (.int .u32))], .box [.hole (.arr 64 (.int .u32))]]⟩)]
def intaglioref05_block_L2 (s9 : Int) (m0 : Arr 8 Int) (m1 : Arr 64 Int) (m2 : Arr 8 Int) (m3 : Arr 64 Int) : Option ((Int × (Arr 8 Int) × (Arr 64 Int) × (Arr 8 Int) × (Arr 64 Int)) ⊕ (((Arr 8 Int) × (Arr 64 Int) × (Arr 8 Int) × (Arr 64 Int)))) :=
  if decide (s9 < (64 : Int)) = true then
    Option.bind (inb (64 : Nat) (IntKind.wrap IntKind.i64 (s9 - (15 : Int)))) fun _ =>
    Option.bind (inb (64 : Nat) (IntKind.wrap IntKind.i64 (s9 - (15 : Int)))) fun _ =>
    Option.bind (inb (64 : Nat) (IntKind.wrap IntKind.i64 (s9 - (15 : Int)))) fun _ =>
    Option.bind (gshr IntKind.u32 (List.getD m3.val (Int.toNat (IntKind.wrap IntKind.i64 (s9 - (15 : Int)))) (0 : Int)) (3 : Int)) fun (v3 : Int) =>
    Option.bind (intaglioref05_turn_P (List.getD m3.val (Int.toNat (IntKind.wrap IntKind.i64 (s9 - (15 : Int)))) (0 : Int), (7 : Int))) fun (v4 : Int) =>
    Option.bind (intaglioref05_turn_P (List.getD m3.val (Int.toNat (IntKind.wrap IntKind.i64 (s9 - (15 : Int)))) (0 : Int), (18 : Int))) fun (v5 : Int) =>
    Option.bind (inb (64 : Nat) (IntKind.wrap IntKind.i64 (s9 - (2 : Int)))) fun _ =>
    Option.bind (inb (64 : Nat) (IntKind.wrap IntKind.i64 (s9 - (2 : Int)))) fun _ =>
    Option.bind (inb (64 : Nat) (IntKind.wrap IntKind.i64 (s9 - (2 : Int)))) fun _ =>
    Option.bind (gshr IntKind.u32 (List.getD m3.val (Int.toNat (IntKind.wrap IntKind.i64 (s9 - (2 : Int)))) (0 : Int)) (10 : Int)) fun (v9 : Int) =>
    Option.bind (intaglioref05_turn_P (List.getD m3.val (Int.toNat (IntKind.wrap IntKind.i64 (s9 - (2 : Int)))) (0 : Int), (17 : Int))) fun (v10 : Int) =>
    Option.bind (intaglioref05_turn_P (List.getD m3.val (Int.toNat (IntKind.wrap IntKind.i64 (s9 - (2 : Int)))) (0 : Int), (19 : Int))) fun (v11 : Int) =>
    Option.bind (inb (64 : Nat) (IntKind.wrap IntKind.i64 (s9 - (7 : Int)))) fun _ =>
    Option.bind (inb (64 : Nat) (IntKind.wrap IntKind.i64 (s9 - (16 : Int)))) fun _ =>
    Option.bind (inb (64 : Nat) s9) fun _ =>
    some (.inl (IntKind.wrap IntKind.i64 (s9 + (1 : Int)), m0, m1, m2, Arr.set m3 (Int.toNat s9) (IntKind.wrap IntKind.u32 (IntKind.wrap IntKind.u32 (IntKind.wrap IntKind.u32 (bxor IntKind.u32 (bxor IntKind.u32 v10 v11) v9 + List.getD m3.val (Int.toNat (IntKind.wrap IntKind.i64 (s9 - (7 : Int)))) (0 : Int)) + bxor IntKind.u32 (bxor IntKind.u32 v4 v5) v3) + List.getD m3.val (Int.toNat (IntKind.wrap IntKind.i64 (s9 - (16 : Int)))) (0 : Int)))))
  else
  some (.inr (m0, m1, m2, m3))
def intaglioref05_block_L2_P : Int × (Arr 8 Int) × (Arr 64 Int) × (Arr 8 Int) × (Arr 64 Int) → Option ((Int × (Arr 8 Int) × (Arr 64 Int) × (Arr 8 Int) × (Arr 64 Int)) ⊕ (((Arr 8 Int) × (Arr 64 Int) × (Arr 8 Int) × (Arr 64 Int)))) := fun p => intaglioref05_block_L2 p.1 p.2.1 p.2.2.1 p.2.2.2.1 p.2.2.2.2
def intaglioref05_block_L2_MM : HL [(.int .i64), (.arr 8 (.int .u32)), (.arr 64 (.int .u32)), (.arr 8 (.int .u32)), (.arr 64 (.int .u32))] → Option (HL [(.int .i64), (.arr 8 (.int .u32)), (.arr 64 (.int .u32)), (.arr 8 (.int .u32)), (.arr 64 (.int .u32))] ⊕ SumL [[(.arr 8 (.int .u32)), (.arr 64 (.int .u32)), (.arr 8 (.int .u32)), (.arr 64 (.int .u32))]]) := fun p => intaglioref05_block_L2 p.1 p.2.1 p.2.2.1 p.2.2.2.1 p.2.2.2.2
def intaglioref05_block_L2_C : Con := ⟨4, intaglioref05_block_L2_T, intaglioref05_block_L2_O, stdCn [(.int .i64), (.arr 8 (.int .u32)), (.arr 64 (.int .u32)), (.arr 8 (.int .u32)), (.arr 64 (.int .u32))] [[(.arr 8 (.int .u32)), (.arr 64 (.int .u32)), (.arr 8 (.int .u32)), (.arr 64 (.int .u32))]] (loop intaglioref05_block_L2_MM)⟩
def intaglioref05_block_L4_T : Tm := ⟨[(3, false, [.ptr 0 0]), (5, false, [.ptr 1 0]), (6, false, [.ptr 2 0]), (7, false, [.ptr 3 0]), (12, false, [.ptr 4 0]), (13, false, [.hole (.int .i64)]), (16, false, [.hole (.int .u32)]), (17, false, [.hole (.int .u32)]), (18, false, [.hole (.int .u32)]), (19, false, [.hole (.int .i64)])], 197, [.box [.hole (.arr 8 (.int .u32))], .box [.hole (.arr 64 (.int .u32))], .box [.hole (.arr 8 (.int .u32))], .box [.hole (.arr 64 (.int .u32))], .box [.hole (.arr 8 (.int .u32))]]⟩
def intaglioref05_block_L4_O : List (Ex × Tm) := [(.exit 6, ⟨[(3, false, [.ptr 0 0]), (5, false, [.ptr 1 0]), (6, false, [.ptr 2 0]), (7, false, [.ptr 3 0]), (12, false, [.ptr 4 0]), (13, false, [.hole (.int .i64)]), (16, false, [.hole (.int .u32)]), (17, false, [.hole (.int .u32)]), (18, false, [.hole (.int .u32)])], 197, [.box [.hole (.arr 8 (.int .u32))], .box [.hole (.arr 64 (.int .u32))], .box [.hole (.arr 8 (.int .u32))], .box [.hole (.arr 64 (.int .u32))], .box [.hole (.arr 8 (.int .u32))]]⟩)]
def intaglioref05_block_L4 (s13 : Int) (s16 : Int) (s17 : Int) (s18 : Int) (s19 : Int) (m0 : Arr 8 Int) (m1 : Arr 64 Int) (m2 : Arr 8 Int) (m3 : Arr 64 Int) (m4 : Arr 8 Int) : Option ((Int × Int × Int × Int × Int × (Arr 8 Int) × (Arr 64 Int) × (Arr 8 Int) × (Arr 64 Int) × (Arr 8 Int)) ⊕ ((Int × Int × Int × Int × (Arr 8 Int) × (Arr 64 Int) × (Arr 8 Int) × (Arr 64 Int) × (Arr 8 Int)))) :=
  if decide (s19 > (0 : Int)) = true then
    Option.bind (inb (8 : Nat) (IntKind.wrap IntKind.i64 (s19 - (1 : Int)))) fun _ =>
    Option.bind (inb (8 : Nat) s19) fun _ =>
    some (.inl (s13, s16, s17, s18, IntKind.wrap IntKind.i64 (s19 - (1 : Int)), m0, m1, m2, m3, Arr.set m4 (Int.toNat s19) (List.getD m4.val (Int.toNat (IntKind.wrap IntKind.i64 (s19 - (1 : Int)))) (0 : Int))))
  else
  some (.inr (s13, s16, s17, s18, m0, m1, m2, m3, m4))
def intaglioref05_block_L4_P : Int × Int × Int × Int × Int × (Arr 8 Int) × (Arr 64 Int) × (Arr 8 Int) × (Arr 64 Int) × (Arr 8 Int) → Option ((Int × Int × Int × Int × Int × (Arr 8 Int) × (Arr 64 Int) × (Arr 8 Int) × (Arr 64 Int) × (Arr 8 Int)) ⊕ ((Int × Int × Int × Int × (Arr 8 Int) × (Arr 64 Int) × (Arr 8 Int) × (Arr 64 Int) × (Arr 8 Int)))) := fun p => intaglioref05_block_L4 p.1 p.2.1 p.2.2.1 p.2.2.2.1 p.2.2.2.2.1 p.2.2.2.2.2.1 p.2.2.2.2.2.2.1 p.2.2.2.2.2.2.2.1 p.2.2.2.2.2.2.2.2.1 p.2.2.2.2.2.2.2.2.2
def intaglioref05_block_L4_MM : HL [(.int .i64), (.int .u32), (.int .u32), (.int .u32), (.int .i64), (.arr 8 (.int .u32)), (.arr 64 (.int .u32)), (.arr 8 (.int .u32)), (.arr 64 (.int .u32)), (.arr 8 (.int .u32))] → Option (HL [(.int .i64), (.int .u32), (.int .u32), (.int .u32), (.int .i64), (.arr 8 (.int .u32)), (.arr 64 (.int .u32)), (.arr 8 (.int .u32)), (.arr 64 (.int .u32)), (.arr 8 (.int .u32))] ⊕ SumL [[(.int .i64), (.int .u32), (.int .u32), (.int .u32), (.arr 8 (.int .u32)), (.arr 64 (.int .u32)), (.arr 8 (.int .u32)), (.arr 64 (.int .u32)), (.arr 8 (.int .u32))]]) := fun p => intaglioref05_block_L4 p.1 p.2.1 p.2.2.1 p.2.2.2.1 p.2.2.2.2.1 p.2.2.2.2.2.1 p.2.2.2.2.2.2.1 p.2.2.2.2.2.2.2.1 p.2.2.2.2.2.2.2.2.1 p.2.2.2.2.2.2.2.2.2
def intaglioref05_block_L4_C : Con := ⟨5, intaglioref05_block_L4_T, intaglioref05_block_L4_O, stdCn [(.int .i64), (.int .u32), (.int .u32), (.int .u32), (.int .i64), (.arr 8 (.int .u32)), (.arr 64 (.int .u32)), (.arr 8 (.int .u32)), (.arr 64 (.int .u32)), (.arr 8 (.int .u32))] [[(.int .i64), (.int .u32), (.int .u32), (.int .u32), (.arr 8 (.int .u32)), (.arr 64 (.int .u32)), (.arr 8 (.int .u32)), (.arr 64 (.int .u32)), (.arr 8 (.int .u32))]] (loop intaglioref05_block_L4_MM)⟩
def intaglioref05_block_L3_T : Tm := ⟨[(3, false, [.ptr 0 0]), (5, false, [.ptr 1 0]), (6, false, [.ptr 2 0]), (7, false, [.ptr 3 0]), (12, false, [.ptr 4 0]), (13, false, [.hole (.int .i64)])], 197, [.box [.hole (.arr 8 (.int .u32))], .box [.hole (.arr 64 (.int .u32))], .box [.hole (.arr 8 (.int .u32))], .box [.hole (.arr 64 (.int .u32))], .box [.hole (.arr 8 (.int .u32))]]⟩
def intaglioref05_block_L3_O : List (Ex × Tm) := [(.exit 4, ⟨[(3, false, [.ptr 0 0]), (6, false, [.ptr 2 0]), (12, false, [.ptr 4 0])], 197, [.box [.hole (.arr 8 (.int .u32))], .box [.hole (.arr 64 (.int .u32))], .box [.hole (.arr 8 (.int .u32))], .box [.hole (.arr 64 (.int .u32))], .box [.hole (.arr 8 (.int .u32))]]⟩)]
def intaglioref05_block_L3 (s13 : Int) (m0 : Arr 8 Int) (m1 : Arr 64 Int) (m2 : Arr 8 Int) (m3 : Arr 64 Int) (m4 : Arr 8 Int) : Option ((Int × (Arr 8 Int) × (Arr 64 Int) × (Arr 8 Int) × (Arr 64 Int) × (Arr 8 Int)) ⊕ (((Arr 8 Int) × (Arr 64 Int) × (Arr 8 Int) × (Arr 64 Int) × (Arr 8 Int)))) :=
  if decide (s13 < (64 : Int)) = true then
    Option.bind (inb (8 : Nat) (4 : Int)) fun _ =>
    Option.bind (inb (8 : Nat) (4 : Int)) fun _ =>
    Option.bind (inb (8 : Nat) (4 : Int)) fun _ =>
    Option.bind (intaglioref05_turn_P (List.getD m4.val (nat_lit 4) (0 : Int), (6 : Int))) fun (v3 : Int) =>
    Option.bind (intaglioref05_turn_P (List.getD m4.val (nat_lit 4) (0 : Int), (11 : Int))) fun (v4 : Int) =>
    Option.bind (intaglioref05_turn_P (List.getD m4.val (nat_lit 4) (0 : Int), (25 : Int))) fun (v5 : Int) =>
    Option.bind (inb (8 : Nat) (4 : Int)) fun _ =>
    Option.bind (inb (8 : Nat) (5 : Int)) fun _ =>
    Option.bind (inb (8 : Nat) (4 : Int)) fun _ =>
    Option.bind (inb (8 : Nat) (6 : Int)) fun _ =>
    Option.bind (inb (8 : Nat) (7 : Int)) fun _ =>
    Option.bind (inb (64 : Nat) s13) fun _ =>
    Option.bind (inb (64 : Nat) s13) fun _ =>
    Option.bind (inb (8 : Nat) (0 : Int)) fun _ =>
    Option.bind (inb (8 : Nat) (0 : Int)) fun _ =>
    Option.bind (inb (8 : Nat) (0 : Int)) fun _ =>
    Option.bind (intaglioref05_turn_P (List.getD m4.val (nat_lit 0) (0 : Int), (2 : Int))) fun (v16 : Int) =>
    Option.bind (intaglioref05_turn_P (List.getD m4.val (nat_lit 0) (0 : Int), (13 : Int))) fun (v17 : Int) =>
    Option.bind (intaglioref05_turn_P (List.getD m4.val (nat_lit 0) (0 : Int), (22 : Int))) fun (v18 : Int) =>
    Option.bind (inb (8 : Nat) (0 : Int)) fun _ =>
    Option.bind (inb (8 : Nat) (1 : Int)) fun _ =>
    Option.bind (inb (8 : Nat) (0 : Int)) fun _ =>
    Option.bind (inb (8 : Nat) (2 : Int)) fun _ =>
    Option.bind (inb (8 : Nat) (1 : Int)) fun _ =>
    Option.bind (inb (8 : Nat) (2 : Int)) fun _ =>
    Option.bind (loop intaglioref05_block_L4_P (s13, IntKind.wrap IntKind.u32 (IntKind.wrap IntKind.u32 (IntKind.wrap IntKind.u32 (IntKind.wrap IntKind.u32 (List.getD m4.val (nat_lit 7) (0 : Int) + bxor IntKind.u32 (bxor IntKind.u32 v3 v4) v5) + bxor IntKind.u32 (band IntKind.u32 (List.getD m4.val (nat_lit 4) (0 : Int)) (List.getD m4.val (nat_lit 5) (0 : Int))) (band IntKind.u32 (bxor IntKind.u32 (List.getD m4.val (nat_lit 4) (0 : Int)) (4294967295 : Int)) (List.getD m4.val (nat_lit 6) (0 : Int)))) + List.getD m1.val (Int.toNat s13) (0 : Int)) + List.getD m3.val (Int.toNat s13) (0 : Int)), bxor IntKind.u32 (bxor IntKind.u32 v16 v17) v18, bxor IntKind.u32 (bxor IntKind.u32 (band IntKind.u32 (List.getD m4.val (nat_lit 0) (0 : Int)) (List.getD m4.val (nat_lit 1) (0 : Int))) (band IntKind.u32 (List.getD m4.val (nat_lit 0) (0 : Int)) (List.getD m4.val (nat_lit 2) (0 : Int)))) (band IntKind.u32 (List.getD m4.val (nat_lit 1) (0 : Int)) (List.getD m4.val (nat_lit 2) (0 : Int))), (7 : Int), m0, m1, m2, m3, m4)) fun (v25 : (Int × (Int × (Int × (Int × ((Arr (8 : Nat) Int) × ((Arr (64 : Nat) Int) × ((Arr (8 : Nat) Int) × ((Arr (64 : Nat) Int) × (Arr (8 : Nat) Int)))))))))) =>
    Option.bind (inb (8 : Nat) (4 : Int)) fun _ =>
    Option.bind (inb (8 : Nat) (4 : Int)) fun _ =>
    Option.bind (inb (8 : Nat) (0 : Int)) fun _ =>
    some (.inl (IntKind.wrap IntKind.i64 (v25.fst + (1 : Int)), v25.snd.snd.snd.snd.fst, v25.snd.snd.snd.snd.snd.fst, v25.snd.snd.snd.snd.snd.snd.fst, v25.snd.snd.snd.snd.snd.snd.snd.fst, Arr.set (Arr.set v25.snd.snd.snd.snd.snd.snd.snd.snd (nat_lit 4) (IntKind.wrap IntKind.u32 (List.getD v25.snd.snd.snd.snd.snd.snd.snd.snd.val (nat_lit 4) (0 : Int) + v25.snd.fst))) (nat_lit 0) (IntKind.wrap IntKind.u32 (IntKind.wrap IntKind.u32 (v25.snd.fst + v25.snd.snd.fst) + v25.snd.snd.snd.fst))))
  else
  some (.inr (m0, m1, m2, m3, m4))
def intaglioref05_block_L3_P : Int × (Arr 8 Int) × (Arr 64 Int) × (Arr 8 Int) × (Arr 64 Int) × (Arr 8 Int) → Option ((Int × (Arr 8 Int) × (Arr 64 Int) × (Arr 8 Int) × (Arr 64 Int) × (Arr 8 Int)) ⊕ (((Arr 8 Int) × (Arr 64 Int) × (Arr 8 Int) × (Arr 64 Int) × (Arr 8 Int)))) := fun p => intaglioref05_block_L3 p.1 p.2.1 p.2.2.1 p.2.2.2.1 p.2.2.2.2.1 p.2.2.2.2.2
def intaglioref05_block_L3_MM : HL [(.int .i64), (.arr 8 (.int .u32)), (.arr 64 (.int .u32)), (.arr 8 (.int .u32)), (.arr 64 (.int .u32)), (.arr 8 (.int .u32))] → Option (HL [(.int .i64), (.arr 8 (.int .u32)), (.arr 64 (.int .u32)), (.arr 8 (.int .u32)), (.arr 64 (.int .u32)), (.arr 8 (.int .u32))] ⊕ SumL [[(.arr 8 (.int .u32)), (.arr 64 (.int .u32)), (.arr 8 (.int .u32)), (.arr 64 (.int .u32)), (.arr 8 (.int .u32))]]) := fun p => intaglioref05_block_L3 p.1 p.2.1 p.2.2.1 p.2.2.2.1 p.2.2.2.2.1 p.2.2.2.2.2
def intaglioref05_block_L3_C : Con := ⟨5, intaglioref05_block_L3_T, intaglioref05_block_L3_O, stdCn [(.int .i64), (.arr 8 (.int .u32)), (.arr 64 (.int .u32)), (.arr 8 (.int .u32)), (.arr 64 (.int .u32)), (.arr 8 (.int .u32))] [[(.arr 8 (.int .u32)), (.arr 64 (.int .u32)), (.arr 8 (.int .u32)), (.arr 64 (.int .u32)), (.arr 8 (.int .u32))]] (loop intaglioref05_block_L3_MM)⟩
def intaglioref05_block_L5_T : Tm := ⟨[(3, false, [.ptr 0 0]), (6, false, [.ptr 1 0]), (12, false, [.ptr 2 0]), (20, false, [.hole (.int .i64)])], 197, [.box [.hole (.arr 8 (.int .u32))], .box [.hole (.arr 8 (.int .u32))], .box [.hole (.arr 8 (.int .u32))]]⟩
def intaglioref05_block_L5_O : List (Ex × Tm) := [(.exit 8, ⟨[(3, false, [.ptr 0 0]), (6, false, [.ptr 1 0])], 197, [.box [.hole (.arr 8 (.int .u32))], .box [.hole (.arr 8 (.int .u32))], .box [.hole (.arr 8 (.int .u32))]]⟩)]
def intaglioref05_block_L5 (s20 : Int) (m0 : Arr 8 Int) (m1 : Arr 8 Int) (m2 : Arr 8 Int) : Option ((Int × (Arr 8 Int) × (Arr 8 Int) × (Arr 8 Int)) ⊕ (((Arr 8 Int) × (Arr 8 Int) × (Arr 8 Int)))) :=
  if decide (s20 < (8 : Int)) = true then
    Option.bind (inb (8 : Nat) s20) fun _ =>
    Option.bind (inb (8 : Nat) s20) fun _ =>
    Option.bind (inb (8 : Nat) s20) fun _ =>
    some (.inl (IntKind.wrap IntKind.i64 (s20 + (1 : Int)), Arr.set m0 (Int.toNat s20) (IntKind.wrap IntKind.u32 (List.getD m0.val (Int.toNat s20) (0 : Int) + List.getD m2.val (Int.toNat s20) (0 : Int))), m1, m2))
  else
  some (.inr (m0, m1, m2))
def intaglioref05_block_L5_P : Int × (Arr 8 Int) × (Arr 8 Int) × (Arr 8 Int) → Option ((Int × (Arr 8 Int) × (Arr 8 Int) × (Arr 8 Int)) ⊕ (((Arr 8 Int) × (Arr 8 Int) × (Arr 8 Int)))) := fun p => intaglioref05_block_L5 p.1 p.2.1 p.2.2.1 p.2.2.2
def intaglioref05_block_L5_MM : HL [(.int .i64), (.arr 8 (.int .u32)), (.arr 8 (.int .u32)), (.arr 8 (.int .u32))] → Option (HL [(.int .i64), (.arr 8 (.int .u32)), (.arr 8 (.int .u32)), (.arr 8 (.int .u32))] ⊕ SumL [[(.arr 8 (.int .u32)), (.arr 8 (.int .u32)), (.arr 8 (.int .u32))]]) := fun p => intaglioref05_block_L5 p.1 p.2.1 p.2.2.1 p.2.2.2
def intaglioref05_block_L5_C : Con := ⟨3, intaglioref05_block_L5_T, intaglioref05_block_L5_O, stdCn [(.int .i64), (.arr 8 (.int .u32)), (.arr 8 (.int .u32)), (.arr 8 (.int .u32))] [[(.arr 8 (.int .u32)), (.arr 8 (.int .u32)), (.arr 8 (.int .u32))]] (loop intaglioref05_block_L5_MM)⟩
def intaglioref05_block_T : Tm := ⟨[(0, true, [.hole (.arr 8 (.int .u32))]), (1, false, [.hole (.slc (.int .u8))]), (2, true, [.hole (.arr 64 (.int .u32))])], 3, []⟩
def intaglioref05_block_O : List (Ex × Tm) := [(.ret, ⟨[(0, true, [.hole (.arr 8 (.int .u32))])], 1, []⟩)]
def intaglioref05_block_M (s0 : Arr 8 Int) (s1 : List Int) (s2 : Arr 64 Int) : Option ((Arr 8 Int)) :=
  Option.bind (loop intaglioref05_block_L1_P (s1, (0 : Int), s0, s2, Arr.rep (8 : Nat) (0 : Int), Arr.rep (64 : Nat) (0 : Int))) fun (v0 : ((Arr (8 : Nat) Int) × ((Arr (64 : Nat) Int) × ((Arr (8 : Nat) Int) × (Arr (64 : Nat) Int))))) =>
  Option.bind (loop intaglioref05_block_L2_P ((16 : Int), v0.fst, v0.snd.fst, v0.snd.snd.fst, v0.snd.snd.snd)) fun (v1 : ((Arr (8 : Nat) Int) × ((Arr (64 : Nat) Int) × ((Arr (8 : Nat) Int) × (Arr (64 : Nat) Int))))) =>
  Option.bind (loop intaglioref05_block_L3_P ((0 : Int), v1.fst, v1.snd.fst, v1.snd.snd.fst, v1.snd.snd.snd, v1.fst)) fun (v2 : ((Arr (8 : Nat) Int) × ((Arr (64 : Nat) Int) × ((Arr (8 : Nat) Int) × ((Arr (64 : Nat) Int) × (Arr (8 : Nat) Int)))))) =>
  Option.bind (loop intaglioref05_block_L5_P ((0 : Int), v2.fst, v2.snd.snd.fst, v2.snd.snd.snd.snd)) fun (v3 : ((Arr (8 : Nat) Int) × ((Arr (8 : Nat) Int) × (Arr (8 : Nat) Int)))) =>
  some (v3.fst)
def intaglioref05_block_P : (Arr 8 Int) × (List Int) × (Arr 64 Int) → Option ((Arr 8 Int)) := fun p => intaglioref05_block_M p.1 p.2.1 p.2.2
def intaglioref05_block_MM : HL [(.arr 8 (.int .u32)), (.slc (.int .u8)), (.arr 64 (.int .u32))] → Option (SumL [[(.arr 8 (.int .u32))]]) := fun p => intaglioref05_block_M p.1 p.2.1 p.2.2
def intaglioref05_block_C : Con := ⟨0, intaglioref05_block_T, intaglioref05_block_O, stdCn [(.arr 8 (.int .u32)), (.slc (.int .u8)), (.arr 64 (.int .u32))] [[(.arr 8 (.int .u32))]] intaglioref05_block_MM⟩

def intaglioref05_Sum_L1_T : Tm := ⟨[(0, false, [.hole (.slc (.int .u8))]), (2, false, [.ptr 0 0]), (3, false, [.ptr 1 0]), (4, false, [.ptr 2 0]), (5, false, [.row 3]), (6, false, [.hole (.int .i64)])], 78, [.box [.hole (.arr 32 (.int .u8))], .box [.hole (.arr 64 (.int .u32))], .box [.hole (.arr 8 (.int .u32))], .row (.int .u64)]⟩
def intaglioref05_Sum_L1_O : List (Ex × Tm) := [(.exit 0, ⟨[(0, false, [.hole (.slc (.int .u8))]), (2, false, [.ptr 0 0]), (3, false, [.ptr 1 0]), (4, false, [.ptr 2 0]), (5, false, [.row 3])], 78, [.box [.hole (.arr 32 (.int .u8))], .box [.hole (.arr 64 (.int .u32))], .box [.hole (.arr 8 (.int .u32))], .row (.int .u64)]⟩)]
def intaglioref05_Sum_L1 (s0 : List Int) (s6 : Int) (m0 : Arr 32 Int) (m1 : Arr 64 Int) (m2 : Arr 8 Int) (r3 : List Int) : Option (((List Int) × Int × (Arr 32 Int) × (Arr 64 Int) × (Arr 8 Int) × (List Int)) ⊕ (((List Int) × (Arr 32 Int) × (Arr 64 Int) × (Arr 8 Int) × (List Int)))) :=
  if decide (s6 < (((List.length r3) : Nat) : Int)) = true then
    if decide (s6 < (64 : Int)) = true then
      Option.bind (inb (List.length r3) s6) fun _ =>
      Option.bind (intaglioref05_root_P (List.getD r3 (Int.toNat s6) (0 : Int), (3 : Int))) fun (v1 : Int) =>
      Option.bind (inb (64 : Nat) s6) fun _ =>
      some (.inl (s0, IntKind.wrap IntKind.i64 (s6 + (1 : Int)), m0, Arr.set m1 (Int.toNat s6) v1, m2, r3))
    else
    some (.inr (s0, m0, m1, m2, r3))
  else
  some (.inr (s0, m0, m1, m2, r3))
def intaglioref05_Sum_L1_P : (List Int) × Int × (Arr 32 Int) × (Arr 64 Int) × (Arr 8 Int) × (List Int) → Option (((List Int) × Int × (Arr 32 Int) × (Arr 64 Int) × (Arr 8 Int) × (List Int)) ⊕ (((List Int) × (Arr 32 Int) × (Arr 64 Int) × (Arr 8 Int) × (List Int)))) := fun p => intaglioref05_Sum_L1 p.1 p.2.1 p.2.2.1 p.2.2.2.1 p.2.2.2.2.1 p.2.2.2.2.2
def intaglioref05_Sum_L1_MM : HL [(.slc (.int .u8)), (.int .i64), (.arr 32 (.int .u8)), (.arr 64 (.int .u32)), (.arr 8 (.int .u32)), (.slc (.int .u64))] → Option (HL [(.slc (.int .u8)), (.int .i64), (.arr 32 (.int .u8)), (.arr 64 (.int .u32)), (.arr 8 (.int .u32)), (.slc (.int .u64))] ⊕ SumL [[(.slc (.int .u8)), (.arr 32 (.int .u8)), (.arr 64 (.int .u32)), (.arr 8 (.int .u32)), (.slc (.int .u64))]]) := fun p => intaglioref05_Sum_L1 p.1 p.2.1 p.2.2.1 p.2.2.2.1 p.2.2.2.2.1 p.2.2.2.2.2
def intaglioref05_Sum_L1_C : Con := ⟨3, intaglioref05_Sum_L1_T, intaglioref05_Sum_L1_O, stdCn [(.slc (.int .u8)), (.int .i64), (.arr 32 (.int .u8)), (.arr 64 (.int .u32)), (.arr 8 (.int .u32)), (.slc (.int .u64))] [[(.slc (.int .u8)), (.arr 32 (.int .u8)), (.arr 64 (.int .u32)), (.arr 8 (.int .u32)), (.slc (.int .u64))]] (loop intaglioref05_Sum_L1_MM)⟩
def intaglioref05_Sum_L2_T : Tm := ⟨[(0, false, [.hole (.slc (.int .u8))]), (2, false, [.ptr 0 0]), (3, false, [.ptr 1 0]), (4, false, [.ptr 2 0]), (5, false, [.row 3]), (7, false, [.hole (.int .i64)])], 78, [.box [.hole (.arr 32 (.int .u8))], .box [.hole (.arr 64 (.int .u32))], .box [.hole (.arr 8 (.int .u32))], .row (.int .u64)]⟩
def intaglioref05_Sum_L2_O : List (Ex × Tm) := [(.exit 2, ⟨[(0, false, [.hole (.slc (.int .u8))]), (2, false, [.ptr 0 0]), (3, false, [.ptr 1 0]), (4, false, [.ptr 2 0])], 78, [.box [.hole (.arr 32 (.int .u8))], .box [.hole (.arr 64 (.int .u32))], .box [.hole (.arr 8 (.int .u32))]]⟩)]
def intaglioref05_Sum_L2 (s0 : List Int) (s7 : Int) (m0 : Arr 32 Int) (m1 : Arr 64 Int) (m2 : Arr 8 Int) (r3 : List Int) : Option (((List Int) × Int × (Arr 32 Int) × (Arr 64 Int) × (Arr 8 Int) × (List Int)) ⊕ (((List Int) × (Arr 32 Int) × (Arr 64 Int) × (Arr 8 Int)))) :=
  if decide (s7 < (8 : Int)) = true then
    Option.bind (inb (List.length r3) s7) fun _ =>
    Option.bind (intaglioref05_root_P (List.getD r3 (Int.toNat s7) (0 : Int), (2 : Int))) fun (v1 : Int) =>
    Option.bind (inb (8 : Nat) s7) fun _ =>
    some (.inl (s0, IntKind.wrap IntKind.i64 (s7 + (1 : Int)), m0, m1, Arr.set m2 (Int.toNat s7) v1, r3))
  else
  some (.inr (s0, m0, m1, m2))
def intaglioref05_Sum_L2_P : (List Int) × Int × (Arr 32 Int) × (Arr 64 Int) × (Arr 8 Int) × (List Int) → Option (((List Int) × Int × (Arr 32 Int) × (Arr 64 Int) × (Arr 8 Int) × (List Int)) ⊕ (((List Int) × (Arr 32 Int) × (Arr 64 Int) × (Arr 8 Int)))) := fun p => intaglioref05_Sum_L2 p.1 p.2.1 p.2.2.1 p.2.2.2.1 p.2.2.2.2.1 p.2.2.2.2.2
def intaglioref05_Sum_L2_MM : HL [(.slc (.int .u8)), (.int .i64), (.arr 32 (.int .u8)), (.arr 64 (.int .u32)), (.arr 8 (.int .u32)), (.slc (.int .u64))] → Option (HL [(.slc (.int .u8)), (.int .i64), (.arr 32 (.int .u8)), (.arr 64 (.int .u32)), (.arr 8 (.int .u32)), (.slc (.int .u64))] ⊕ SumL [[(.slc (.int .u8)), (.arr 32 (.int .u8)), (.arr 64 (.int .u32)), (.arr 8 (.int .u32))]]) := fun p => intaglioref05_Sum_L2 p.1 p.2.1 p.2.2.1 p.2.2.2.1 p.2.2.2.2.1 p.2.2.2.2.2
def intaglioref05_Sum_L2_C : Con := ⟨3, intaglioref05_Sum_L2_T, intaglioref05_Sum_L2_O, stdCn [(.slc (.int .u8)), (.int .i64), (.arr 32 (.int .u8)), (.arr 64 (.int .u32)), (.arr 8 (.int .u32)), (.slc (.int .u64))] [[(.slc (.int .u8)), (.arr 32 (.int .u8)), (.arr 64 (.int .u32)), (.arr 8 (.int .u32))]] (loop intaglioref05_Sum_L2_MM)⟩
def intaglioref05_Sum_L3_T : Tm := ⟨[(2, false, [.ptr 0 0]), (3, false, [.ptr 1 0]), (4, false, [.ptr 2 0]), (8, false, [.row 3]), (9, false, [.hole (.int .i64)])], 78, [.box [.hole (.arr 32 (.int .u8))], .box [.hole (.arr 64 (.int .u32))], .box [.hole (.arr 8 (.int .u32))], .row (.int .u8)]⟩
def intaglioref05_Sum_L3_O : List (Ex × Tm) := [(.exit 4, ⟨[(2, false, [.ptr 0 0]), (4, false, [.ptr 2 0])], 78, [.box [.hole (.arr 32 (.int .u8))], .box [.hole (.arr 64 (.int .u32))], .box [.hole (.arr 8 (.int .u32))]]⟩)]
def intaglioref05_Sum_L3 (s9 : Int) (m0 : Arr 32 Int) (m1 : Arr 64 Int) (m2 : Arr 8 Int) (r3 : List Int) : Option ((Int × (Arr 32 Int) × (Arr 64 Int) × (Arr 8 Int) × (List Int)) ⊕ (((Arr 32 Int) × (Arr 64 Int) × (Arr 8 Int)))) :=
  if decide (IntKind.wrap IntKind.i64 (s9 + (64 : Int)) ≤ (((List.length r3) : Nat) : Int)) = true then
    Option.bind (subn (List.length r3) s9 (IntKind.wrap IntKind.i64 (s9 + (64 : Int)))) fun _ =>
    Option.bind (intaglioref05_block_P (m2, List.drop (Int.toNat s9) (List.take (Int.toNat (IntKind.wrap IntKind.i64 (s9 + (64 : Int)))) r3), m1)) fun (v1 : (Arr (8 : Nat) Int)) =>
    some (.inl (IntKind.wrap IntKind.i64 (s9 + (64 : Int)), m0, m1, v1, r3))
  else
  some (.inr (m0, m1, m2))
def intaglioref05_Sum_L3_P : Int × (Arr 32 Int) × (Arr 64 Int) × (Arr 8 Int) × (List Int) → Option ((Int × (Arr 32 Int) × (Arr 64 Int) × (Arr 8 Int) × (List Int)) ⊕ (((Arr 32 Int) × (Arr 64 Int) × (Arr 8 Int)))) := fun p => intaglioref05_Sum_L3 p.1 p.2.1 p.2.2.1 p.2.2.2.1 p.2.2.2.2
def intaglioref05_Sum_L3_MM : HL [(.int .i64), (.arr 32 (.int .u8)), (.arr 64 (.int .u32)), (.arr 8 (.int .u32)), (.slc (.int .u8))] → Option (HL [(.int .i64), (.arr 32 (.int .u8)), (.arr 64 (.int .u32)), (.arr 8 (.int .u32)), (.slc (.int .u8))] ⊕ SumL [[(.arr 32 (.int .u8)), (.arr 64 (.int .u32)), (.arr 8 (.int .u32))]]) := fun p => intaglioref05_Sum_L3 p.1 p.2.1 p.2.2.1 p.2.2.2.1 p.2.2.2.2
def intaglioref05_Sum_L3_C : Con := ⟨3, intaglioref05_Sum_L3_T, intaglioref05_Sum_L3_O, stdCn [(.int .i64), (.arr 32 (.int .u8)), (.arr 64 (.int .u32)), (.arr 8 (.int .u32)), (.slc (.int .u8))] [[(.arr 32 (.int .u8)), (.arr 64 (.int .u32)), (.arr 8 (.int .u32))]] (loop intaglioref05_Sum_L3_MM)⟩
def intaglioref05_Sum_L4_T : Tm := ⟨[(2, false, [.ptr 0 0]), (4, false, [.ptr 1 0]), (10, false, [.ptr 2 0]), (11, false, [.hole (.int .i64)])], 78, [.box [.hole (.arr 32 (.int .u8))], .box [.hole (.arr 8 (.int .u32))], .box [.hole (.arr 32 (.int .u8))]]⟩
def intaglioref05_Sum_L4_O : List (Ex × Tm) := [(.exit 6, ⟨[(2, false, [.ptr 0 0]), (10, false, [.ptr 2 0])], 78, [.box [.hole (.arr 32 (.int .u8))], .box [.hole (.arr 8 (.int .u32))], .box [.hole (.arr 32 (.int .u8))]]⟩)]
def intaglioref05_Sum_L4 (s11 : Int) (m0 : Arr 32 Int) (m1 : Arr 8 Int) (m2 : Arr 32 Int) : Option ((Int × (Arr 32 Int) × (Arr 8 Int) × (Arr 32 Int)) ⊕ (((Arr 32 Int) × (Arr 8 Int) × (Arr 32 Int)))) :=
  if decide (s11 < (32 : Int)) = true then
    Option.bind (gquo IntKind.i64 s11 (4 : Int)) fun (v0 : Int) =>
    Option.bind (inb (8 : Nat) v0) fun _ =>
    Option.bind (grem IntKind.i64 s11 (4 : Int)) fun (v2 : Int) =>
    Option.bind (gshr IntKind.u32 (List.getD m1.val (Int.toNat v0) (0 : Int)) (IntKind.wrap IntKind.i64 ((24 : Int) - IntKind.wrap IntKind.i64 ((8 : Int) * v2)))) fun (v3 : Int) =>
    Option.bind (inb (32 : Nat) s11) fun _ =>
    some (.inl (IntKind.wrap IntKind.i64 (s11 + (1 : Int)), m0, m1, Arr.set m2 (Int.toNat s11) (IntKind.wrap IntKind.u8 v3)))
  else
  some (.inr (m0, m1, m2))
def intaglioref05_Sum_L4_P : Int × (Arr 32 Int) × (Arr 8 Int) × (Arr 32 Int) → Option ((Int × (Arr 32 Int) × (Arr 8 Int) × (Arr 32 Int)) ⊕ (((Arr 32 Int) × (Arr 8 Int) × (Arr 32 Int)))) := fun p => intaglioref05_Sum_L4 p.1 p.2.1 p.2.2.1 p.2.2.2
def intaglioref05_Sum_L4_MM : HL [(.int .i64), (.arr 32 (.int .u8)), (.arr 8 (.int .u32)), (.arr 32 (.int .u8))] → Option (HL [(.int .i64), (.arr 32 (.int .u8)), (.arr 8 (.int .u32)), (.arr 32 (.int .u8))] ⊕ SumL [[(.arr 32 (.int .u8)), (.arr 8 (.int .u32)), (.arr 32 (.int .u8))]]) := fun p => intaglioref05_Sum_L4 p.1 p.2.1 p.2.2.1 p.2.2.2
def intaglioref05_Sum_L4_C : Con := ⟨3, intaglioref05_Sum_L4_T, intaglioref05_Sum_L4_O, stdCn [(.int .i64), (.arr 32 (.int .u8)), (.arr 8 (.int .u32)), (.arr 32 (.int .u8))] [[(.arr 32 (.int .u8)), (.arr 8 (.int .u32)), (.arr 32 (.int .u8))]] (loop intaglioref05_Sum_L4_MM)⟩
def intaglioref05_Sum_T : Tm := ⟨[(0, false, [.hole (.slc (.int .u8))])], 1, []⟩
def intaglioref05_Sum_O : List (Ex × Tm) := [(.ret, ⟨[(0, true, [.hole (.arr 32 (.int .u8))])], 1, []⟩)]
def intaglioref05_Sum_M (s0 : List Int) : Option ((Arr 32 Int)) :=
  Option.bind (intaglioref05_Primes_P (64 : Int)) fun (v0 : (List Int)) =>
  Option.bind (loop intaglioref05_Sum_L1_P (s0, (0 : Int), Arr.rep (32 : Nat) (0 : Int), Arr.rep (64 : Nat) (0 : Int), Arr.rep (8 : Nat) (0 : Int), v0)) fun (v1 : ((List Int) × ((Arr (32 : Nat) Int) × ((Arr (64 : Nat) Int) × ((Arr (8 : Nat) Int) × (List Int)))))) =>
  Option.bind (loop intaglioref05_Sum_L2_P (v1.fst, (0 : Int), v1.snd.fst, v1.snd.snd.fst, v1.snd.snd.snd.fst, v1.snd.snd.snd.snd)) fun (v2 : ((List Int) × ((Arr (32 : Nat) Int) × ((Arr (64 : Nat) Int) × (Arr (8 : Nat) Int))))) =>
  Option.bind (intaglioref05_Pad_P (((List.length v2.fst) : Nat) : Int)) fun (v3 : (List Int)) =>
  Option.bind (intaglioref01_Both_P (v2.fst, v3)) fun (v4 : (List Int)) =>
  Option.bind (loop intaglioref05_Sum_L3_P ((0 : Int), v2.snd.fst, v2.snd.snd.fst, v2.snd.snd.snd, v4)) fun (v5 : ((Arr (32 : Nat) Int) × ((Arr (64 : Nat) Int) × (Arr (8 : Nat) Int)))) =>
  Option.bind (loop intaglioref05_Sum_L4_P ((0 : Int), v5.fst, v5.snd.snd, Arr.rep (32 : Nat) (0 : Int))) fun (v6 : ((Arr (32 : Nat) Int) × ((Arr (8 : Nat) Int) × (Arr (32 : Nat) Int)))) =>
  some (v6.snd.snd)
def intaglioref05_Sum_P : (List Int) → Option ((Arr 32 Int)) := fun p => intaglioref05_Sum_M p
def intaglioref05_Sum_MM : HL [(.slc (.int .u8))] → Option (SumL [[(.arr 32 (.int .u8))]]) := fun p => intaglioref05_Sum_M p
def intaglioref05_Sum_C : Con := ⟨0, intaglioref05_Sum_T, intaglioref05_Sum_O, stdCn [(.slc (.int .u8))] [[(.arr 32 (.int .u8))]] intaglioref05_Sum_MM⟩

def intaglioref06_Hmac_L1_T : Tm := ⟨[(1, false, [.hole (.slc (.int .u8))]), (4, false, [.ptr 0 0]), (5, false, [.row 1]), (7, false, [.row 2]), (8, false, [.row 3]), (9, false, [.hole (.int .i64)])], 50, [.box [.hole (.arr 32 (.int .u8))], .row (.int .u8), .row (.int .u8), .row (.int .u8)]⟩
def intaglioref06_Hmac_L1_O : List (Ex × Tm) := [(.exit 0, ⟨[(1, false, [.hole (.slc (.int .u8))]), (4, false, [.ptr 0 0]), (7, false, [.row 1]), (8, false, [.row 2])], 50, [.box [.hole (.arr 32 (.int .u8))], .row (.int .u8), .row (.int .u8)]⟩)]
def intaglioref06_Hmac_L1 (s1 : List Int) (s9 : Int) (m0 : Arr 32 Int) (r1 : List Int) (r2 : List Int) (r3 : List Int) : Option (((List Int) × Int × (Arr 32 Int) × (List Int) × (List Int) × (List Int)) ⊕ (((List Int) × (Arr 32 Int) × (List Int) × (List Int)))) :=
  if decide (s9 < (64 : Int)) = true then
    if decide (s9 < (((List.length r1) : Nat) : Int)) = true then
      Option.bind (inb (List.length r1) s9) fun _ =>
      Option.bind (room (1 : Nat) (List.length r2 + List.length [bxor IntKind.u8 (List.getD r1 (Int.toNat s9) (0 : Int)) (54 : Int)])) fun _ =>
      Option.bind (room (1 : Nat) (List.length r3 + List.length [bxor IntKind.u8 (List.getD r1 (Int.toNat s9) (0 : Int)) (92 : Int)])) fun _ =>
      some (.inl (s1, IntKind.wrap IntKind.i64 (s9 + (1 : Int)), m0, r1, r2 ++ [bxor IntKind.u8 (List.getD r1 (Int.toNat s9) (0 : Int)) (54 : Int)], r3 ++ [bxor IntKind.u8 (List.getD r1 (Int.toNat s9) (0 : Int)) (92 : Int)]))
    else
    Option.bind (room (1 : Nat) (List.length r2 + (1 : Nat))) fun _ =>
    Option.bind (room (1 : Nat) (List.length r3 + (1 : Nat))) fun _ =>
    some (.inl (s1, IntKind.wrap IntKind.i64 (s9 + (1 : Int)), m0, r1, r2 ++ [(54 : Int)], r3 ++ [(92 : Int)]))
  else
  some (.inr (s1, m0, r2, r3))
def intaglioref06_Hmac_L1_P : (List Int) × Int × (Arr 32 Int) × (List Int) × (List Int) × (List Int) → Option (((List Int) × Int × (Arr 32 Int) × (List Int) × (List Int) × (List Int)) ⊕ (((List Int) × (Arr 32 Int) × (List Int) × (List Int)))) := fun p => intaglioref06_Hmac_L1 p.1 p.2.1 p.2.2.1 p.2.2.2.1 p.2.2.2.2.1 p.2.2.2.2.2
def intaglioref06_Hmac_L1_MM : HL [(.slc (.int .u8)), (.int .i64), (.arr 32 (.int .u8)), (.slc (.int .u8)), (.slc (.int .u8)), (.slc (.int .u8))] → Option (HL [(.slc (.int .u8)), (.int .i64), (.arr 32 (.int .u8)), (.slc (.int .u8)), (.slc (.int .u8)), (.slc (.int .u8))] ⊕ SumL [[(.slc (.int .u8)), (.arr 32 (.int .u8)), (.slc (.int .u8)), (.slc (.int .u8))]]) := fun p => intaglioref06_Hmac_L1 p.1 p.2.1 p.2.2.1 p.2.2.2.1 p.2.2.2.2.1 p.2.2.2.2.2
def intaglioref06_Hmac_L1_C : Con := ⟨1, intaglioref06_Hmac_L1_T, intaglioref06_Hmac_L1_O, stdCn [(.slc (.int .u8)), (.int .i64), (.arr 32 (.int .u8)), (.slc (.int .u8)), (.slc (.int .u8)), (.slc (.int .u8))] [[(.slc (.int .u8)), (.arr 32 (.int .u8)), (.slc (.int .u8)), (.slc (.int .u8))]] (loop intaglioref06_Hmac_L1_MM)⟩
def intaglioref06_Hmac_T : Tm := ⟨[(0, false, [.hole (.slc (.int .u8))]), (1, false, [.hole (.slc (.int .u8))])], 2, []⟩
def intaglioref06_Hmac_O : List (Ex × Tm) := [(.ret, ⟨[(0, true, [.hole (.arr 32 (.int .u8))])], 1, []⟩)]
def intaglioref06_Hmac_M (s0 : List Int) (s1 : List Int) : Option ((Arr 32 Int)) :=
  Option.bind (intaglioref01_Both_P ([], s0)) fun (v0 : (List Int)) =>
  if decide ((((List.length v0) : Nat) : Int) > (64 : Int)) = true then
    Option.bind (intaglioref05_Sum_P v0) fun (v1 : (Arr (32 : Nat) Int)) =>
    Option.bind (subn (32 : Nat) (0 : Int) (32 : Int)) fun _ =>
    Option.bind (loop intaglioref06_Hmac_L1_P (s1, (0 : Int), Arr.rep (32 : Nat) (0 : Int), v1.val, [], [])) fun (v3 : ((List Int) × ((Arr (32 : Nat) Int) × ((List Int) × (List Int))))) =>
    Option.bind (intaglioref01_Both_P (v3.snd.snd.fst, v3.fst)) fun (v4 : (List Int)) =>
    Option.bind (intaglioref05_Sum_P v4) fun (v5 : (Arr (32 : Nat) Int)) =>
    Option.bind (subn (32 : Nat) (0 : Int) (32 : Int)) fun _ =>
    Option.bind (intaglioref01_Both_P (v3.snd.snd.snd, List.drop (nat_lit 0) (List.take (nat_lit 32) v5.val))) fun (v7 : (List Int)) =>
    Option.bind (intaglioref05_Sum_P v7) fun (v8 : (Arr (32 : Nat) Int)) =>
    some (v8)
  else
  Option.bind (loop intaglioref06_Hmac_L1_P (s1, (0 : Int), Arr.rep (32 : Nat) (0 : Int), v0, [], [])) fun (v9 : ((List Int) × ((Arr (32 : Nat) Int) × ((List Int) × (List Int))))) =>
  Option.bind (intaglioref01_Both_P (v9.snd.snd.fst, v9.fst)) fun (v10 : (List Int)) =>
  Option.bind (intaglioref05_Sum_P v10) fun (v11 : (Arr (32 : Nat) Int)) =>
  Option.bind (subn (32 : Nat) (0 : Int) (32 : Int)) fun _ =>
  Option.bind (intaglioref01_Both_P (v9.snd.snd.snd, List.drop (nat_lit 0) (List.take (nat_lit 32) v11.val))) fun (v13 : (List Int)) =>
  Option.bind (intaglioref05_Sum_P v13) fun (v14 : (Arr (32 : Nat) Int)) =>
  some (v14)
def intaglioref06_Hmac_P : (List Int) × (List Int) → Option ((Arr 32 Int)) := fun p => intaglioref06_Hmac_M p.1 p.2
def intaglioref06_Hmac_MM : HL [(.slc (.int .u8)), (.slc (.int .u8))] → Option (SumL [[(.arr 32 (.int .u8))]]) := fun p => intaglioref06_Hmac_M p.1 p.2
def intaglioref06_Hmac_C : Con := ⟨0, intaglioref06_Hmac_T, intaglioref06_Hmac_O, stdCn [(.slc (.int .u8)), (.slc (.int .u8))] [[(.arr 32 (.int .u8))]] intaglioref06_Hmac_MM⟩

def intaglioref06_Extract_T : Tm := ⟨[(0, false, [.hole (.slc (.int .u8))]), (1, false, [.hole (.slc (.int .u8))])], 2, []⟩
def intaglioref06_Extract_O : List (Ex × Tm) := [(.ret, ⟨[(0, true, [.hole (.arr 32 (.int .u8))])], 1, []⟩)]
def intaglioref06_Extract_M (s0 : List Int) (s1 : List Int) : Option ((Arr 32 Int)) :=
  Option.bind (intaglioref06_Hmac_P (s0, s1)) fun (v0 : (Arr (32 : Nat) Int)) =>
  some (v0)
def intaglioref06_Extract_P : (List Int) × (List Int) → Option ((Arr 32 Int)) := fun p => intaglioref06_Extract_M p.1 p.2
def intaglioref06_Extract_MM : HL [(.slc (.int .u8)), (.slc (.int .u8))] → Option (SumL [[(.arr 32 (.int .u8))]]) := fun p => intaglioref06_Extract_M p.1 p.2
def intaglioref06_Extract_C : Con := ⟨0, intaglioref06_Extract_T, intaglioref06_Extract_O, stdCn [(.slc (.int .u8)), (.slc (.int .u8))] [[(.arr 32 (.int .u8))]] intaglioref06_Extract_MM⟩

def intaglioref06_Expand_L1_T : Tm := ⟨[(0, false, [.hole (.slc (.int .u8))]), (1, false, [.hole (.slc (.int .u8))]), (2, false, [.hole (.int .i64)]), (8, false, [.row 0]), (9, false, [.row 1]), (10, false, [.hole (.int .i64)])], 45, [.row (.int .u8), .row (.int .u8)]⟩
def intaglioref06_Expand_L1_O : List (Ex × Tm) := [(.exit 0, ⟨[(2, false, [.hole (.int .i64)]), (8, false, [.row 0])], 45, [.row (.int .u8)]⟩)]
def intaglioref06_Expand_L1 (s0 : List Int) (s1 : List Int) (s2 : Int) (s10 : Int) (r0 : List Int) (r1 : List Int) : Option (((List Int) × (List Int) × Int × Int × (List Int) × (List Int)) ⊕ ((Int × (List Int)))) :=
  if decide (s10 ≤ (255 : Int)) = true then
    if decide ((((List.length r0) : Nat) : Int) < s2) = true then
      Option.bind (intaglioref01_Both_P (r1, s1)) fun (v0 : (List Int)) =>
      Option.bind (room (1 : Nat) (List.length v0 + List.length [IntKind.wrap IntKind.u8 s10])) fun _ =>
      Option.bind (intaglioref06_Hmac_P (s0, v0 ++ [IntKind.wrap IntKind.u8 s10])) fun (v2 : (Arr (32 : Nat) Int)) =>
      Option.bind (subn (32 : Nat) (0 : Int) (32 : Int)) fun _ =>
      Option.bind (intaglioref01_Both_P ([], List.drop (nat_lit 0) (List.take (nat_lit 32) v2.val))) fun (v4 : (List Int)) =>
      Option.bind (room (1 : Nat) (List.length r0 + List.length v4)) fun _ =>
      some (.inl (s0, s1, s2, IntKind.wrap IntKind.i64 (s10 + (1 : Int)), r0 ++ v4, v4))
    else
    some (.inr (s2, r0))
  else
  some (.inr (s2, r0))
def intaglioref06_Expand_L1_P : (List Int) × (List Int) × Int × Int × (List Int) × (List Int) → Option (((List Int) × (List Int) × Int × Int × (List Int) × (List Int)) ⊕ ((Int × (List Int)))) := fun p => intaglioref06_Expand_L1 p.1 p.2.1 p.2.2.1 p.2.2.2.1 p.2.2.2.2.1 p.2.2.2.2.2
def intaglioref06_Expand_L1_MM : HL [(.slc (.int .u8)), (.slc (.int .u8)), (.int .i64), (.int .i64), (.slc (.int .u8)), (.slc (.int .u8))] → Option (HL [(.slc (.int .u8)), (.slc (.int .u8)), (.int .i64), (.int .i64), (.slc (.int .u8)), (.slc (.int .u8))] ⊕ SumL [[(.int .i64), (.slc (.int .u8))]]) := fun p => intaglioref06_Expand_L1 p.1 p.2.1 p.2.2.1 p.2.2.2.1 p.2.2.2.2.1 p.2.2.2.2.2
def intaglioref06_Expand_L1_C : Con := ⟨0, intaglioref06_Expand_L1_T, intaglioref06_Expand_L1_O, stdCn [(.slc (.int .u8)), (.slc (.int .u8)), (.int .i64), (.int .i64), (.slc (.int .u8)), (.slc (.int .u8))] [[(.int .i64), (.slc (.int .u8))]] (loop intaglioref06_Expand_L1_MM)⟩
def intaglioref06_Expand_T : Tm := ⟨[(0, false, [.hole (.slc (.int .u8))]), (1, false, [.hole (.slc (.int .u8))]), (2, false, [.hole (.int .i64)])], 3, []⟩
def intaglioref06_Expand_O : List (Ex × Tm) := [(.ret, ⟨[(0, false, [.row 0]), (1, false, [.hole .bool])], 2, [.row (.int .u8)]⟩)]
def intaglioref06_Expand_M (s0 : List Int) (s1 : List Int) (s2 : Int) : Option (Bool × (List Int)) :=
  if decide (s2 < (0 : Int)) = true then
    some (false, [])
  else
  if decide (s2 > (8160 : Int)) = true then
    some (false, [])
  else
  Option.bind (loop intaglioref06_Expand_L1_P (s0, s1, s2, (1 : Int), [], [])) fun (v0 : (Int × (List Int))) =>
  Option.bind (subn (List.length v0.snd) (0 : Int) v0.fst) fun _ =>
  some (true, List.drop (nat_lit 0) (List.take (Int.toNat v0.fst) v0.snd))
def intaglioref06_Expand_P : (List Int) × (List Int) × Int → Option (Bool × (List Int)) := fun p => intaglioref06_Expand_M p.1 p.2.1 p.2.2
def intaglioref06_Expand_MM : HL [(.slc (.int .u8)), (.slc (.int .u8)), (.int .i64)] → Option (SumL [[.bool, (.slc (.int .u8))]]) := fun p => intaglioref06_Expand_M p.1 p.2.1 p.2.2
def intaglioref06_Expand_C : Con := ⟨0, intaglioref06_Expand_T, intaglioref06_Expand_O, stdCn [(.slc (.int .u8)), (.slc (.int .u8)), (.int .i64)] [[.bool, (.slc (.int .u8))]] intaglioref06_Expand_MM⟩

def intaglioref01_Put64_T : Tm := ⟨[(0, false, [.hole (.slc (.int .u8))]), (1, false, [.hole (.int .u64)])], 2, []⟩
def intaglioref01_Put64_O : List (Ex × Tm) := [(.ret, ⟨[(0, false, [.row 0])], 1, [.row (.int .u8)]⟩)]
def intaglioref01_Put64_M (s0 : List Int) (s1 : Int) : Option ((List Int)) :=
  Option.bind (intaglioref01_High_P (s1, (8 : Int))) fun (v0 : (List Int)) =>
  Option.bind (intaglioref01_Both_P (s0, v0)) fun (v1 : (List Int)) =>
  some (v1)
def intaglioref01_Put64_P : (List Int) × Int → Option ((List Int)) := fun p => intaglioref01_Put64_M p.1 p.2
def intaglioref01_Put64_MM : HL [(.slc (.int .u8)), (.int .u64)] → Option (SumL [[(.slc (.int .u8))]]) := fun p => intaglioref01_Put64_M p.1 p.2
def intaglioref01_Put64_C : Con := ⟨0, intaglioref01_Put64_T, intaglioref01_Put64_O, stdCn [(.slc (.int .u8)), (.int .u64)] [[(.slc (.int .u8))]] intaglioref01_Put64_MM⟩

def intaglioref01_PutNum_T : Tm := ⟨[(0, false, [.hole (.slc (.int .u8))]), (1, false, [.hole (.int .i64)])], 2, []⟩
def intaglioref01_PutNum_O : List (Ex × Tm) := [(.ret, ⟨[(0, false, [.row 0])], 1, [.row (.int .u8)]⟩)]
def intaglioref01_PutNum_M (s0 : List Int) (s1 : Int) : Option ((List Int)) :=
  if decide (s1 < (0 : Int)) = true then
    Option.bind (intaglioref01_Put64_P (s0, (0 : Int))) fun (v0 : (List Int)) =>
    some (v0)
  else
  Option.bind (intaglioref01_Put64_P (s0, IntKind.wrap IntKind.u64 s1)) fun (v1 : (List Int)) =>
  some (v1)
def intaglioref01_PutNum_P : (List Int) × Int → Option ((List Int)) := fun p => intaglioref01_PutNum_M p.1 p.2
def intaglioref01_PutNum_MM : HL [(.slc (.int .u8)), (.int .i64)] → Option (SumL [[(.slc (.int .u8))]]) := fun p => intaglioref01_PutNum_M p.1 p.2
def intaglioref01_PutNum_C : Con := ⟨0, intaglioref01_PutNum_T, intaglioref01_PutNum_O, stdCn [(.slc (.int .u8)), (.int .i64)] [[(.slc (.int .u8))]] intaglioref01_PutNum_MM⟩

def intaglioref07_Bytes_T : Tm := ⟨[(0, true, [.hole (.int .i64), .hole (.int .i64), .hole (.int .i64), .hole (.int .i64), .hole (.int .i64), .hole (.int .i64)])], 1, []⟩
def intaglioref07_Bytes_O : List (Ex × Tm) := [(.ret, ⟨[(0, false, [.row 0])], 1, [.row (.int .u8)]⟩)]
def intaglioref07_Bytes_M (s0_0 : Int) (s0_1 : Int) (s0_2 : Int) (s0_3 : Int) (s0_4 : Int) (s0_5 : Int) : Option ((List Int)) :=
  Option.bind (intaglioref07_Valid_P (s0_0, s0_1, s0_2, s0_3, s0_4, s0_5)) fun (v0 : Bool) =>
  if (!v0) = true then
    some ([])
  else
  Option.bind (intaglioref01_PutNum_P ([], s0_0)) fun (v1 : (List Int)) =>
  Option.bind (intaglioref01_PutNum_P (v1, s0_1)) fun (v2 : (List Int)) =>
  Option.bind (intaglioref01_PutNum_P (v2, s0_2)) fun (v3 : (List Int)) =>
  Option.bind (intaglioref01_PutNum_P (v3, s0_3)) fun (v4 : (List Int)) =>
  Option.bind (intaglioref01_PutNum_P (v4, s0_4)) fun (v5 : (List Int)) =>
  Option.bind (intaglioref01_PutNum_P (v5, s0_5)) fun (v6 : (List Int)) =>
  some (v6)
def intaglioref07_Bytes_P : Int × Int × Int × Int × Int × Int → Option ((List Int)) := fun p => intaglioref07_Bytes_M p.1 p.2.1 p.2.2.1 p.2.2.2.1 p.2.2.2.2.1 p.2.2.2.2.2
def intaglioref07_Bytes_MM : HL [(.int .i64), (.int .i64), (.int .i64), (.int .i64), (.int .i64), (.int .i64)] → Option (SumL [[(.slc (.int .u8))]]) := fun p => intaglioref07_Bytes_M p.1 p.2.1 p.2.2.1 p.2.2.2.1 p.2.2.2.2.1 p.2.2.2.2.2
def intaglioref07_Bytes_C : Con := ⟨0, intaglioref07_Bytes_T, intaglioref07_Bytes_O, stdCn [(.int .i64), (.int .i64), (.int .i64), (.int .i64), (.int .i64), (.int .i64)] [[(.slc (.int .u8))]] intaglioref07_Bytes_MM⟩

def intaglioref07_Derive_L1_T : Tm := ⟨[(4, false, [.ptr 0 0]), (6, false, [.ptr 1 0]), (8, false, [.row 2]), (10, false, [.hole (.int .i64)])], 37, [.box [.hole (.arr 32 (.int .u8))], .box [.hole (.arr 32 (.int .u8))], .row (.int .u8)]⟩
def intaglioref07_Derive_L1_O : List (Ex × Tm) := [(.exit 0, ⟨[(4, false, [.ptr 0 0]), (6, false, [.ptr 1 0])], 37, [.box [.hole (.arr 32 (.int .u8))], .box [.hole (.arr 32 (.int .u8))]]⟩)]
def intaglioref07_Derive_L1 (s10 : Int) (m0 : Arr 32 Int) (m1 : Arr 32 Int) (r2 : List Int) : Option ((Int × (Arr 32 Int) × (Arr 32 Int) × (List Int)) ⊕ (((Arr 32 Int) × (Arr 32 Int)))) :=
  if decide (s10 < (32 : Int)) = true then
    Option.bind (inb (List.length r2) s10) fun _ =>
    Option.bind (inb (32 : Nat) s10) fun _ =>
    some (.inl (IntKind.wrap IntKind.i64 (s10 + (1 : Int)), m0, Arr.set m1 (Int.toNat s10) (List.getD r2 (Int.toNat s10) (0 : Int)), r2))
  else
  some (.inr (m0, m1))
def intaglioref07_Derive_L1_P : Int × (Arr 32 Int) × (Arr 32 Int) × (List Int) → Option ((Int × (Arr 32 Int) × (Arr 32 Int) × (List Int)) ⊕ (((Arr 32 Int) × (Arr 32 Int)))) := fun p => intaglioref07_Derive_L1 p.1 p.2.1 p.2.2.1 p.2.2.2
def intaglioref07_Derive_L1_MM : HL [(.int .i64), (.arr 32 (.int .u8)), (.arr 32 (.int .u8)), (.slc (.int .u8))] → Option (HL [(.int .i64), (.arr 32 (.int .u8)), (.arr 32 (.int .u8)), (.slc (.int .u8))] ⊕ SumL [[(.arr 32 (.int .u8)), (.arr 32 (.int .u8))]]) := fun p => intaglioref07_Derive_L1 p.1 p.2.1 p.2.2.1 p.2.2.2
def intaglioref07_Derive_L1_C : Con := ⟨2, intaglioref07_Derive_L1_T, intaglioref07_Derive_L1_O, stdCn [(.int .i64), (.arr 32 (.int .u8)), (.arr 32 (.int .u8)), (.slc (.int .u8))] [[(.arr 32 (.int .u8)), (.arr 32 (.int .u8))]] (loop intaglioref07_Derive_L1_MM)⟩
def intaglioref07_Derive_T : Tm := ⟨[(0, false, [.hole (.slc (.int .u8))]), (1, true, [.hole (.int .i64), .hole (.int .i64), .hole (.int .i64), .hole (.int .i64), .hole (.int .i64), .hole (.int .i64)])], 2, []⟩
def intaglioref07_Derive_O : List (Ex × Tm) := [(.ret, ⟨[(0, true, [.hole (.arr 32 (.int .u8))]), (1, false, [.hole .bool])], 2, []⟩)]
def intaglioref07_Derive_M (s0 : List Int) (s1_0 : Int) (s1_1 : Int) (s1_2 : Int) (s1_3 : Int) (s1_4 : Int) (s1_5 : Int) : Option ((Arr 32 Int) × Bool) :=
  Option.bind (intaglioref07_Valid_P (s1_0, s1_1, s1_2, s1_3, s1_4, s1_5)) fun (v0 : Bool) =>
  if (!v0) = true then
    some (Arr.rep (32 : Nat) (0 : Int), false)
  else
  Option.bind (intaglioref06_Extract_P ([(105 : Int), (110 : Int), (116 : Int), (97 : Int), (103 : Int), (108 : Int), (105 : Int), (111 : Int)], s0)) fun (v1 : (Arr (32 : Nat) Int)) =>
  Option.bind (subn (32 : Nat) (0 : Int) (32 : Int)) fun _ =>
  Option.bind (intaglioref07_Bytes_P (s1_0, s1_1, s1_2, s1_3, s1_4, s1_5)) fun (v3 : (List Int)) =>
  Option.bind (intaglioref06_Expand_P (List.drop (nat_lit 0) (List.take (nat_lit 32) v1.val), v3, (32 : Int))) fun (v4 : (Bool × (List Int))) =>
  Option.bind (loop intaglioref07_Derive_L1_P ((0 : Int), Arr.rep (32 : Nat) (0 : Int), Arr.rep (32 : Nat) (0 : Int), v4.snd)) fun (v5 : ((Arr (32 : Nat) Int) × (Arr (32 : Nat) Int))) =>
  some (v5.snd, true)
def intaglioref07_Derive_P : (List Int) × Int × Int × Int × Int × Int × Int → Option ((Arr 32 Int) × Bool) := fun p => intaglioref07_Derive_M p.1 p.2.1 p.2.2.1 p.2.2.2.1 p.2.2.2.2.1 p.2.2.2.2.2.1 p.2.2.2.2.2.2
def intaglioref07_Derive_MM : HL [(.slc (.int .u8)), (.int .i64), (.int .i64), (.int .i64), (.int .i64), (.int .i64), (.int .i64)] → Option (SumL [[(.arr 32 (.int .u8)), .bool]]) := fun p => intaglioref07_Derive_M p.1 p.2.1 p.2.2.1 p.2.2.2.1 p.2.2.2.2.1 p.2.2.2.2.2.1 p.2.2.2.2.2.2
def intaglioref07_Derive_C : Con := ⟨0, intaglioref07_Derive_T, intaglioref07_Derive_O, stdCn [(.slc (.int .u8)), (.int .i64), (.int .i64), (.int .i64), (.int .i64), (.int .i64), (.int .i64)] [[(.arr 32 (.int .u8)), .bool]] intaglioref07_Derive_MM⟩

def intagliolaw07_KeysDerive_T : Tm := ⟨[(0, false, [.hole (.slc (.int .u8))]), (1, true, [.hole (.int .i64), .hole (.int .i64), .hole (.int .i64), .hole (.int .i64), .hole (.int .i64), .hole (.int .i64)])], 2, []⟩
def intagliolaw07_KeysDerive_O : List (Ex × Tm) := [(.ret, ⟨[(0, false, [.hole .bool])], 1, []⟩)]
def intagliolaw07_KeysDerive_M (s0 : List Int) (s1_0 : Int) (s1_1 : Int) (s1_2 : Int) (s1_3 : Int) (s1_4 : Int) (s1_5 : Int) : Option (Bool) :=
  if decide ((((List.length s0) : Nat) : Int) > (300 : Int)) = true then
    Option.bind (intagliolaw07_awake_P ()) fun (v0 : Bool) =>
    some (v0)
  else
  Option.bind (keys_Derive_P (s0, s1_0, s1_1, s1_2, s1_3, s1_4, s1_5)) fun (v1 : ((Arr (32 : Nat) Int) × Bool)) =>
  Option.bind (intaglioref07_Derive_P (s0, s1_0, s1_1, s1_2, s1_3, s1_4, s1_5)) fun (v2 : ((Arr (32 : Nat) Int) × Bool)) =>
  if xeqv.eqI v1.fst.val v2.fst.val = true then
    if (v1.snd == v2.snd) = true then
      Option.bind (intagliolaw07_awake_P ()) fun (v3 : Bool) =>
      some (v3)
    else
    some (false)
  else
  some (false)
def intagliolaw07_KeysDerive_P : (List Int) × Int × Int × Int × Int × Int × Int → Option (Bool) := fun p => intagliolaw07_KeysDerive_M p.1 p.2.1 p.2.2.1 p.2.2.2.1 p.2.2.2.2.1 p.2.2.2.2.2.1 p.2.2.2.2.2.2
def intagliolaw07_KeysDerive_MM : HL [(.slc (.int .u8)), (.int .i64), (.int .i64), (.int .i64), (.int .i64), (.int .i64), (.int .i64)] → Option (SumL [[.bool]]) := fun p => intagliolaw07_KeysDerive_M p.1 p.2.1 p.2.2.1 p.2.2.2.1 p.2.2.2.2.1 p.2.2.2.2.2.1 p.2.2.2.2.2.2
def intagliolaw07_KeysDerive_C : Con := ⟨0, intagliolaw07_KeysDerive_T, intagliolaw07_KeysDerive_O, stdCn [(.slc (.int .u8)), (.int .i64), (.int .i64), (.int .i64), (.int .i64), (.int .i64), (.int .i64)] [[.bool]] intagliolaw07_KeysDerive_MM⟩
end
end Go.Proofs.YtcpddgjmopdlbaaDoor
