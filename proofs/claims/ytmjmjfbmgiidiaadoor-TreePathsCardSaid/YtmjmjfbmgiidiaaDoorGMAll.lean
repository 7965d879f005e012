/- Plain models of Go functions. -/
import Derived.Test.YtmjmjfbmgiidiaaDoorEd
namespace Go.Proofs.YtmjmjfbmgiidiaaDoor
open Go Go.Lift
set_option maxRecDepth 100000
set_option maxHeartbeats 4000000
set_option linter.unusedVariables false
noncomputable section
theorem fuel_ex : ∃ n : Nat, n = 1000000 := ⟨_, rfl⟩
noncomputable def fuel : Nat := Classical.choose fuel_ex
theorem fuel_is : fuel = 1000000 := Classical.choose_spec fuel_ex
def shaStart : Arr 8 Int := Arr.of 8 [1779033703, 3144134277, 1013904242, 2773480762, 1359893119, 2600822924, 528734635, 1541459225] rfl
def shaCubes : Arr 64 Int := Arr.of 64 [1116352408, 1899447441, 3049323471, 3921009573, 961987163, 1508970993, 2453635748, 2870763221, 3624381080, 310598401, 607225278, 1426881987, 1925078388, 2162078206, 2614888103, 3248222580, 3835390401, 4022224774, 264347078, 604807628, 770255983, 1249150122, 1555081692, 1996064986, 2554220882, 2821834349, 2952996808, 3210313671, 3336571891, 3584528711, 113926993, 338241895, 666307205, 773529912, 1294757372, 1396182291, 1695183700, 1986661051, 2177026350, 2456956037, 2730485921, 2820302411, 3259730800, 3345764771, 3516065817, 3600352804, 4094571909, 275423344, 430227734, 506948616, 659060556, 883997877, 958139571, 1322822218, 1537002063, 1747873779, 1955562222, 2024104815, 2227730452, 2361852424, 2428436474, 2756734187, 3204031479, 3329325298] rfl
def GL : Globs := [(0, ⟨.arr 8 (.int .u32), shaStart⟩), (1, ⟨.arr 64 (.int .u32), shaCubes⟩)]

def sha_New_T : Tm := ⟨[], 0, []⟩
def sha_New_O : List (Ex × Tm) := [(.ret, ⟨[(0, false, [.ptr 0 0])], 1, [.box [.hole (.arr 8 (.int .u32)), .row 1, .hole (.int .i64), .hole .bool], .row (.int .u8)]⟩)]
def sha_New_M  : Option ((Arr 8 Int) × Int × Bool × (List Int)) :=
  some (shaStart, (0 : Int), true, [])
def sha_New_P : Unit → Option ((Arr 8 Int) × Int × Bool × (List Int)) := fun p => sha_New_M 
def sha_New_MM : HL [] → Option (SumL [[(.arr 8 (.int .u32)), (.int .i64), .bool, (.slc (.int .u8))]]) := fun p => sha_New_M 
def sha_New_C : Con := ⟨0, sha_New_T, sha_New_O, stdCn [] [[(.arr 8 (.int .u32)), (.int .i64), .bool, (.slc (.int .u8))]] sha_New_MM⟩

def bits_RotateLeft32_T : Tm := ⟨[(0, false, [.hole (.int .u32)]), (1, false, [.hole (.int .i64)])], 2, []⟩
def bits_RotateLeft32_O : List (Ex × Tm) := [(.ret, ⟨[(0, false, [.hole (.int .u32)])], 1, []⟩)]
def bits_RotateLeft32_M (s0 : Int) (s1 : Int) : Option (Int) :=
  Option.bind (gshl IntKind.u32 s0 (band IntKind.u64 (IntKind.wrap IntKind.u64 s1) (31 : Int))) fun (v0 : Int) =>
  Option.bind (gshr IntKind.u32 s0 (IntKind.wrap IntKind.u64 ((32 : Int) - band IntKind.u64 (IntKind.wrap IntKind.u64 s1) (31 : Int)))) fun (v1 : Int) =>
  some (bor IntKind.u32 v0 v1)
def bits_RotateLeft32_P : Int × Int → Option (Int) := fun p => bits_RotateLeft32_M p.1 p.2
def bits_RotateLeft32_MM : HL [(.int .u32), (.int .i64)] → Option (SumL [[(.int .u32)]]) := fun p => bits_RotateLeft32_M p.1 p.2
def bits_RotateLeft32_C : Con := ⟨0, bits_RotateLeft32_T, bits_RotateLeft32_O, stdCn [(.int .u32), (.int .i64)] [[(.int .u32)]] bits_RotateLeft32_MM⟩

def sha_right_T : Tm := ⟨[(0, false, [.hole (.int .u32)]), (1, false, [.hole (.int .i64)])], 2, []⟩
def sha_right_O : List (Ex × Tm) := [(.ret, ⟨[(0, false, [.hole (.int .u32)])], 1, []⟩)]
def sha_right_M (s0 : Int) (s1 : Int) : Option (Int) :=
  Option.bind (bits_RotateLeft32_P (s0, IntKind.wrap IntKind.i64 ((0 : Int) - s1))) fun (v0 : Int) =>
  some (v0)
def sha_right_P : Int × Int → Option (Int) := fun p => sha_right_M p.1 p.2
def sha_right_MM : HL [(.int .u32), (.int .i64)] → Option (SumL [[(.int .u32)]]) := fun p => sha_right_M p.1 p.2
def sha_right_C : Con := ⟨0, sha_right_T, sha_right_O, stdCn [(.int .u32), (.int .i64)] [[(.int .u32)]] sha_right_MM⟩

def pack_Read_T : Tm := ⟨[(0, false, [.hole (.slc (.int .u8))])], 1, []⟩
def pack_Read_O : List (Ex × Tm) := [(.ret, ⟨[(0, false, [.ptr 0 0])], 1, [.box [.hole (.slc (.int .u8)), .hole (.int .i64), .hole .bool]]⟩)]
def pack_Read_M (s0 : List Int) : Option ((List Int) × Int × Bool) :=
  Option.bind (room (1 : Nat) ((0 : Nat) + List.length s0)) fun _ =>
  some (s0, (0 : Int), true)
def pack_Read_P : (List Int) → Option ((List Int) × Int × Bool) := fun p => pack_Read_M p
def pack_Read_MM : HL [(.slc (.int .u8))] → Option (SumL [[(.slc (.int .u8)), (.int .i64), .bool]]) := fun p => pack_Read_M p
def pack_Read_C : Con := ⟨0, pack_Read_T, pack_Read_O, stdCn [(.slc (.int .u8))] [[(.slc (.int .u8)), (.int .i64), .bool]] pack_Read_MM⟩

def pack_Reader_ok_T : Tm := ⟨[(0, false, [.ptr 0 0])], 1, [.box [.hole (.slc (.int .u8)), .hole (.int .i64), .hole .bool]]⟩
def pack_Reader_ok_O : List (Ex × Tm) := [(.ret, ⟨[(0, false, [.hole .bool])], 1, [.box [.hole (.slc (.int .u8)), .hole (.int .i64), .hole .bool]]⟩)]
def pack_Reader_ok_M (m0_0 : List Int) (m0_1 : Int) (m0_2 : Bool) : Option (Bool × (List Int) × Int × Bool) :=
  if m0_2 = true then
    some (m0_1 == (0 : Int), m0_0, m0_1, m0_2)
  else
  some (false, m0_0, m0_1, m0_2)
def pack_Reader_ok_P : (List Int) × Int × Bool → Option (Bool × (List Int) × Int × Bool) := fun p => pack_Reader_ok_M p.1 p.2.1 p.2.2
def pack_Reader_ok_MM : HL [(.slc (.int .u8)), (.int .i64), .bool] → Option (SumL [[.bool, (.slc (.int .u8)), (.int .i64), .bool]]) := fun p => pack_Reader_ok_M p.1 p.2.1 p.2.2
def pack_Reader_ok_C : Con := ⟨1, pack_Reader_ok_T, pack_Reader_ok_O, stdCn [(.slc (.int .u8)), (.int .i64), .bool] [[.bool, (.slc (.int .u8)), (.int .i64), .bool]] pack_Reader_ok_MM⟩

def pack_Reader_fail_T : Tm := ⟨[(0, false, [.ptr 0 0]), (1, false, [.hole (.int .i64)])], 2, [.box [.hole (.slc (.int .u8)), .hole (.int .i64), .hole .bool]]⟩
def pack_Reader_fail_O : List (Ex × Tm) := [(.ret, ⟨[], 0, [.box [.nils, .hole (.int .i64), .hole .bool]]⟩)]
def pack_Reader_fail_M (s1 : Int) (m0_0 : List Int) (m0_1 : Int) (m0_2 : Bool) : Option (Int × Bool) :=
  some (s1, m0_2)
def pack_Reader_fail_P : Int × (List Int) × Int × Bool → Option (Int × Bool) := fun p => pack_Reader_fail_M p.1 p.2.1 p.2.2.1 p.2.2.2
def pack_Reader_fail_MM : HL [(.int .i64), (.slc (.int .u8)), (.int .i64), .bool] → Option (SumL [[(.int .i64), .bool]]) := fun p => pack_Reader_fail_M p.1 p.2.1 p.2.2.1 p.2.2.2
def pack_Reader_fail_C : Con := ⟨1, pack_Reader_fail_T, pack_Reader_fail_O, stdCn [(.int .i64), (.slc (.int .u8)), (.int .i64), .bool] [[(.int .i64), .bool]] pack_Reader_fail_MM⟩

def pack_Reader_next_T : Tm := ⟨[(0, false, [.ptr 0 0]), (1, false, [.hole (.int .i64)])], 2, [.box [.hole (.slc (.int .u8)), .hole (.int .i64), .hole .bool]]⟩
def pack_Reader_next_O : List (Ex × Tm) := [(.ret, ⟨[(0, false, [.hole (.slc (.int .u8))]), (1, false, [.hole .bool])], 2, [.box [.hole (.slc (.int .u8)), .hole (.int .i64), .hole .bool]]⟩)]
def pack_Reader_next_M (s1 : Int) (m0_0 : List Int) (m0_1 : Int) (m0_2 : Bool) : Option ((List Int) × Bool × (List Int) × Int × Bool) :=
  Option.bind (pack_Reader_ok_P (m0_0, m0_1, m0_2)) fun (v0 : (Bool × ((List Int) × (Int × Bool)))) =>
  if (!v0.fst) = true then
    some ([], false, v0.snd.fst, v0.snd.snd.fst, v0.snd.snd.snd)
  else
  if decide (s1 > (((List.length v0.snd.fst) : Nat) : Int)) = true then
    Option.bind (pack_Reader_fail_P ((4 : Int), v0.snd.fst, v0.snd.snd.fst, v0.snd.snd.snd)) fun (v1 : (Int × Bool)) =>
    some ([], false, [], v1.fst, v1.snd)
  else
  Option.bind (sub v0.snd.fst (0 : Int) s1) fun (v2 : (List Int)) =>
  Option.bind (sub v0.snd.fst s1 (((List.length v0.snd.fst) : Nat) : Int)) fun (v3 : (List Int)) =>
  some (v2, true, v3, v0.snd.snd.fst, v0.snd.snd.snd)
def pack_Reader_next_P : Int × (List Int) × Int × Bool → Option ((List Int) × Bool × (List Int) × Int × Bool) := fun p => pack_Reader_next_M p.1 p.2.1 p.2.2.1 p.2.2.2
def pack_Reader_next_MM : HL [(.int .i64), (.slc (.int .u8)), (.int .i64), .bool] → Option (SumL [[(.slc (.int .u8)), .bool, (.slc (.int .u8)), (.int .i64), .bool]]) := fun p => pack_Reader_next_M p.1 p.2.1 p.2.2.1 p.2.2.2
def pack_Reader_next_C : Con := ⟨1, pack_Reader_next_T, pack_Reader_next_O, stdCn [(.int .i64), (.slc (.int .u8)), (.int .i64), .bool] [[(.slc (.int .u8)), .bool, (.slc (.int .u8)), (.int .i64), .bool]] pack_Reader_next_MM⟩

def pack_Reader_number_L1_T : Tm := ⟨[(7, false, [.hole (.int .u64)]), (16, false, [.hole (.slc (.int .u8))]), (17, false, [.hole (.int .i64)]), (18, false, [.hole (.int .i64)])], 29, []⟩
def pack_Reader_number_L1_O : List (Ex × Tm) := [(.exit 0, ⟨[(7, false, [.hole (.int .u64)])], 29, []⟩)]
def pack_Reader_number_L1 (s7 : Int) (s16 : List Int) (s17 : Int) (s18 : Int) : Option ((Int × (List Int) × Int × Int) ⊕ ((Int))) :=
  if decide (s18 < s17) = true then
    Option.bind (ix s16 s18) fun (v0 : Int) =>
    Option.bind (gshl IntKind.u64 s7 (8 : Int)) fun (v1 : Int) =>
    some (.inl (bor IntKind.u64 v1 (IntKind.wrap IntKind.u64 v0), s16, s17, IntKind.wrap IntKind.i64 (s18 + (1 : Int))))
  else
  some (.inr (s7))
def pack_Reader_number_L1_P : Int × (List Int) × Int × Int → Option ((Int × (List Int) × Int × Int) ⊕ ((Int))) := fun p => pack_Reader_number_L1 p.1 p.2.1 p.2.2.1 p.2.2.2
def pack_Reader_number_L1_MM : HL [(.int .u64), (.slc (.int .u8)), (.int .i64), (.int .i64)] → Option (HL [(.int .u64), (.slc (.int .u8)), (.int .i64), (.int .i64)] ⊕ SumL [[(.int .u64)]]) := fun p => pack_Reader_number_L1 p.1 p.2.1 p.2.2.1 p.2.2.2
def pack_Reader_number_L1_C : Con := ⟨0, pack_Reader_number_L1_T, pack_Reader_number_L1_O, stdCn [(.int .u64), (.slc (.int .u8)), (.int .i64), (.int .i64)] [[(.int .u64)]] (loop pack_Reader_number_L1_MM)⟩
def pack_Reader_number_T : Tm := ⟨[(0, false, [.ptr 0 0]), (1, false, [.hole (.int .i64)])], 2, [.box [.hole (.slc (.int .u8)), .hole (.int .i64), .hole .bool]]⟩
def pack_Reader_number_O : List (Ex × Tm) := [(.ret, ⟨[(0, false, [.hole (.int .u64)])], 1, [.box [.hole (.slc (.int .u8)), .hole (.int .i64), .hole .bool]]⟩)]
def pack_Reader_number_M (s1 : Int) (m0_0 : List Int) (m0_1 : Int) (m0_2 : Bool) : Option (Int × (List Int) × Int × Bool) :=
  Option.bind (pack_Reader_next_P (s1, m0_0, m0_1, m0_2)) fun (v0 : ((List Int) × (Bool × ((List Int) × (Int × Bool))))) =>
  Option.bind (loop pack_Reader_number_L1_P ((0 : Int), v0.fst, (((List.length v0.fst) : Nat) : Int), (0 : Int))) fun (v1 : Int) =>
  some (v1, v0.snd.snd.fst, v0.snd.snd.snd.fst, v0.snd.snd.snd.snd)
def pack_Reader_number_P : Int × (List Int) × Int × Bool → Option (Int × (List Int) × Int × Bool) := fun p => pack_Reader_number_M p.1 p.2.1 p.2.2.1 p.2.2.2
def pack_Reader_number_MM : HL [(.int .i64), (.slc (.int .u8)), (.int .i64), .bool] → Option (SumL [[(.int .u64), (.slc (.int .u8)), (.int .i64), .bool]]) := fun p => pack_Reader_number_M p.1 p.2.1 p.2.2.1 p.2.2.2
def pack_Reader_number_C : Con := ⟨1, pack_Reader_number_T, pack_Reader_number_O, stdCn [(.int .i64), (.slc (.int .u8)), (.int .i64), .bool] [[(.int .u64), (.slc (.int .u8)), (.int .i64), .bool]] pack_Reader_number_MM⟩

def pack_Reader_U32_T : Tm := ⟨[(0, false, [.ptr 0 0])], 1, [.box [.hole (.slc (.int .u8)), .hole (.int .i64), .hole .bool]]⟩
def pack_Reader_U32_O : List (Ex × Tm) := [(.ret, ⟨[(0, false, [.hole (.int .u32)])], 1, [.box [.hole (.slc (.int .u8)), .hole (.int .i64), .hole .bool]]⟩)]
def pack_Reader_U32_M (m0_0 : List Int) (m0_1 : Int) (m0_2 : Bool) : Option (Int × (List Int) × Int × Bool) :=
  Option.bind (pack_Reader_number_P ((4 : Int), m0_0, m0_1, m0_2)) fun (v0 : (Int × ((List Int) × (Int × Bool)))) =>
  some (IntKind.wrap IntKind.u32 v0.fst, v0.snd.fst, v0.snd.snd.fst, v0.snd.snd.snd)
def pack_Reader_U32_P : (List Int) × Int × Bool → Option (Int × (List Int) × Int × Bool) := fun p => pack_Reader_U32_M p.1 p.2.1 p.2.2
def pack_Reader_U32_MM : HL [(.slc (.int .u8)), (.int .i64), .bool] → Option (SumL [[(.int .u32), (.slc (.int .u8)), (.int .i64), .bool]]) := fun p => pack_Reader_U32_M p.1 p.2.1 p.2.2
def pack_Reader_U32_C : Con := ⟨1, pack_Reader_U32_T, pack_Reader_U32_O, stdCn [(.slc (.int .u8)), (.int .i64), .bool] [[(.int .u32), (.slc (.int .u8)), (.int .i64), .bool]] pack_Reader_U32_MM⟩

def sha_wide_L1_T : Tm := ⟨[(2, false, [.ptr 0 0]), (3, false, [.ptr 1 0]), (4, false, [.ptr 2 0]), (13, false, [.hole (.int .i64)])], 65, [.box [.hole (.arr 64 (.int .u32))], .box [.hole (.arr 64 (.int .u32))], .box [.hole (.slc (.int .u8)), .hole (.int .i64), .hole .bool]]⟩
def sha_wide_L1_O : List (Ex × Tm) := [(.exit 0, ⟨[(2, false, [.ptr 0 0]), (3, false, [.ptr 1 0])], 65, [.box [.hole (.arr 64 (.int .u32))], .box [.hole (.arr 64 (.int .u32))], .box [.hole (.slc (.int .u8)), .hole (.int .i64), .hole .bool]]⟩)]
def sha_wide_L1 (s13 : Int) (m0 : Arr 64 Int) (m1 : Arr 64 Int) (m2_0 : List Int) (m2_1 : Int) (m2_2 : Bool) : Option ((Int × (Arr 64 Int) × (Arr 64 Int) × (List Int) × Int × Bool) ⊕ (((Arr 64 Int) × (Arr 64 Int) × (List Int) × Int × Bool))) :=
  if decide (s13 < (16 : Int)) = true then
    Option.bind (pack_Reader_U32_P (m2_0, m2_1, m2_2)) fun (v0 : (Int × ((List Int) × (Int × Bool)))) =>
    Option.bind (inb (64 : Nat) s13) fun _ =>
    some (.inl (IntKind.wrap IntKind.i64 (s13 + (1 : Int)), m0, Arr.set m1 (Int.toNat s13) v0.fst, v0.snd.fst, v0.snd.snd.fst, v0.snd.snd.snd))
  else
  some (.inr (m0, m1, m2_0, m2_1, m2_2))
def sha_wide_L1_P : Int × (Arr 64 Int) × (Arr 64 Int) × (List Int) × Int × Bool → Option ((Int × (Arr 64 Int) × (Arr 64 Int) × (List Int) × Int × Bool) ⊕ (((Arr 64 Int) × (Arr 64 Int) × (List Int) × Int × Bool))) := fun p => sha_wide_L1 p.1 p.2.1 p.2.2.1 p.2.2.2.1 p.2.2.2.2.1 p.2.2.2.2.2
def sha_wide_L1_MM : HL [(.int .i64), (.arr 64 (.int .u32)), (.arr 64 (.int .u32)), (.slc (.int .u8)), (.int .i64), .bool] → Option (HL [(.int .i64), (.arr 64 (.int .u32)), (.arr 64 (.int .u32)), (.slc (.int .u8)), (.int .i64), .bool] ⊕ SumL [[(.arr 64 (.int .u32)), (.arr 64 (.int .u32)), (.slc (.int .u8)), (.int .i64), .bool]]) := fun p => sha_wide_L1 p.1 p.2.1 p.2.2.1 p.2.2.2.1 p.2.2.2.2.1 p.2.2.2.2.2
def sha_wide_L1_C : Con := ⟨3, sha_wide_L1_T, sha_wide_L1_O, stdCn [(.int .i64), (.arr 64 (.int .u32)), (.arr 64 (.int .u32)), (.slc (.int .u8)), (.int .i64), .bool] [[(.arr 64 (.int .u32)), (.arr 64 (.int .u32)), (.slc (.int .u8)), (.int .i64), .bool]] (loop sha_wide_L1_MM)⟩
def sha_wide_L2_T : Tm := ⟨[(2, false, [.ptr 0 0]), (3, false, [.ptr 1 0]), (6, false, [.hole (.int .i64)])], 65, [.box [.hole (.arr 64 (.int .u32))], .box [.hole (.arr 64 (.int .u32))]]⟩
def sha_wide_L2_O : List (Ex × Tm) := [(.exit 2, ⟨[(2, false, [.ptr 0 0]), (3, false, [.ptr 1 0])], 65, [.box [.hole (.arr 64 (.int .u32))], .box [.hole (.arr 64 (.int .u32))]]⟩)]
def sha_wide_L2 (s6 : Int) (m0 : Arr 64 Int) (m1 : Arr 64 Int) : Option ((Int × (Arr 64 Int) × (Arr 64 Int)) ⊕ (((Arr 64 Int) × (Arr 64 Int)))) :=
  if decide (s6 < (64 : Int)) = true then
    Option.bind (inb (64 : Nat) (IntKind.wrap IntKind.i64 (s6 - (15 : Int)))) fun _ =>
    Option.bind (inb (64 : Nat) (IntKind.wrap IntKind.i64 (s6 - (2 : Int)))) fun _ =>
    Option.bind (sha_right_P (List.getD m1.val (Int.toNat (IntKind.wrap IntKind.i64 (s6 - (15 : Int)))) (0 : Int), (7 : Int))) fun (v2 : Int) =>
    Option.bind (sha_right_P (List.getD m1.val (Int.toNat (IntKind.wrap IntKind.i64 (s6 - (15 : Int)))) (0 : Int), (18 : Int))) fun (v3 : Int) =>
    Option.bind (gshr IntKind.u32 (List.getD m1.val (Int.toNat (IntKind.wrap IntKind.i64 (s6 - (15 : Int)))) (0 : Int)) (3 : Int)) fun (v4 : Int) =>
    Option.bind (sha_right_P (List.getD m1.val (Int.toNat (IntKind.wrap IntKind.i64 (s6 - (2 : Int)))) (0 : Int), (17 : Int))) fun (v5 : Int) =>
    Option.bind (sha_right_P (List.getD m1.val (Int.toNat (IntKind.wrap IntKind.i64 (s6 - (2 : Int)))) (0 : Int), (19 : Int))) fun (v6 : Int) =>
    Option.bind (gshr IntKind.u32 (List.getD m1.val (Int.toNat (IntKind.wrap IntKind.i64 (s6 - (2 : Int)))) (0 : Int)) (10 : Int)) fun (v7 : Int) =>
    Option.bind (inb (64 : Nat) (IntKind.wrap IntKind.i64 (s6 - (7 : Int)))) fun _ =>
    Option.bind (inb (64 : Nat) (IntKind.wrap IntKind.i64 (s6 - (16 : Int)))) fun _ =>
    Option.bind (inb (64 : Nat) s6) fun _ =>
    some (.inl (IntKind.wrap IntKind.i64 (s6 + (1 : Int)), m0, Arr.set m1 (Int.toNat s6) (IntKind.wrap IntKind.u32 (IntKind.wrap IntKind.u32 (IntKind.wrap IntKind.u32 (bxor IntKind.u32 (bxor IntKind.u32 v5 v6) v7 + List.getD m1.val (Int.toNat (IntKind.wrap IntKind.i64 (s6 - (7 : Int)))) (0 : Int)) + bxor IntKind.u32 (bxor IntKind.u32 v2 v3) v4) + List.getD m1.val (Int.toNat (IntKind.wrap IntKind.i64 (s6 - (16 : Int)))) (0 : Int)))))
  else
  some (.inr (m0, m1))
def sha_wide_L2_P : Int × (Arr 64 Int) × (Arr 64 Int) → Option ((Int × (Arr 64 Int) × (Arr 64 Int)) ⊕ (((Arr 64 Int) × (Arr 64 Int)))) := fun p => sha_wide_L2 p.1 p.2.1 p.2.2
def sha_wide_L2_MM : HL [(.int .i64), (.arr 64 (.int .u32)), (.arr 64 (.int .u32))] → Option (HL [(.int .i64), (.arr 64 (.int .u32)), (.arr 64 (.int .u32))] ⊕ SumL [[(.arr 64 (.int .u32)), (.arr 64 (.int .u32))]]) := fun p => sha_wide_L2 p.1 p.2.1 p.2.2
def sha_wide_L2_C : Con := ⟨2, sha_wide_L2_T, sha_wide_L2_O, stdCn [(.int .i64), (.arr 64 (.int .u32)), (.arr 64 (.int .u32))] [[(.arr 64 (.int .u32)), (.arr 64 (.int .u32))]] (loop sha_wide_L2_MM)⟩
def sha_wide_T : Tm := ⟨[(0, false, [.hole (.slc (.int .u8))])], 1, []⟩
def sha_wide_O : List (Ex × Tm) := [(.ret, ⟨[(0, true, [.hole (.arr 64 (.int .u32))])], 1, []⟩)]
def sha_wide_M (s0 : List Int) : Option ((Arr 64 Int)) :=
  Option.bind (pack_Read_P s0) fun (v0 : ((List Int) × (Int × Bool))) =>
  Option.bind (loop sha_wide_L1_P ((0 : Int), Arr.rep (64 : Nat) (0 : Int), Arr.rep (64 : Nat) (0 : Int), v0.fst, v0.snd.fst, v0.snd.snd)) fun (v1 : ((Arr (64 : Nat) Int) × ((Arr (64 : Nat) Int) × ((List Int) × (Int × Bool))))) =>
  Option.bind (loop sha_wide_L2_P ((16 : Int), v1.fst, v1.snd.fst)) fun (v2 : ((Arr (64 : Nat) Int) × (Arr (64 : Nat) Int))) =>
  some (v2.snd)
def sha_wide_P : (List Int) → Option ((Arr 64 Int)) := fun p => sha_wide_M p
def sha_wide_MM : HL [(.slc (.int .u8))] → Option (SumL [[(.arr 64 (.int .u32))]]) := fun p => sha_wide_M p
def sha_wide_C : Con := ⟨0, sha_wide_T, sha_wide_O, stdCn [(.slc (.int .u8))] [[(.arr 64 (.int .u32))]] sha_wide_MM⟩

def sha_state_block_L1_T : Tm := ⟨[(2, false, [.ptr 0 0]), (4, false, [.ptr 1 0]), (5, false, [.ptr 2 0]), (6, false, [.ptr 3 0]), (17, true, [.hole (.arr 64 (.int .u32))]), (18, false, [.hole (.int .i64)])], 112, [.box [.hole (.arr 8 (.int .u32))], .box [.hole (.arr 8 (.int .u32))], .box [.hole (.arr 64 (.int .u32))], .box [.hole (.arr 8 (.int .u32))]]⟩
def sha_state_block_L1_O : List (Ex × Tm) := [(.exit 0, ⟨[(2, false, [.ptr 0 0]), (4, false, [.ptr 1 0]), (6, false, [.ptr 3 0])], 112, [.box [.hole (.arr 8 (.int .u32))], .box [.hole (.arr 8 (.int .u32))], .box [.hole (.arr 64 (.int .u32))], .box [.hole (.arr 8 (.int .u32))]]⟩)]
def sha_state_block_L1 (s17 : Arr 64 Int) (s18 : Int) (m0 : Arr 8 Int) (m1 : Arr 8 Int) (m2 : Arr 64 Int) (m3 : Arr 8 Int) : Option (((Arr 64 Int) × Int × (Arr 8 Int) × (Arr 8 Int) × (Arr 64 Int) × (Arr 8 Int)) ⊕ (((Arr 8 Int) × (Arr 8 Int) × (Arr 64 Int) × (Arr 8 Int)))) :=
  if decide (s18 < (64 : Int)) = true then
    Option.bind (inb (64 : Nat) s18) fun _ =>
    Option.bind (inb (8 : Nat) (4 : Int)) fun _ =>
    Option.bind (inb (8 : Nat) (0 : Int)) fun _ =>
    Option.bind (inb (8 : Nat) (7 : Int)) fun _ =>
    Option.bind (inb (8 : Nat) (5 : Int)) fun _ =>
    Option.bind (inb (8 : Nat) (6 : Int)) fun _ =>
    Option.bind (inb (64 : Nat) s18) fun _ =>
    Option.bind (sha_right_P (List.getD m3.val (nat_lit 4) (0 : Int), (6 : Int))) fun (v7 : Int) =>
    Option.bind (sha_right_P (List.getD m3.val (nat_lit 4) (0 : Int), (11 : Int))) fun (v8 : Int) =>
    Option.bind (sha_right_P (List.getD m3.val (nat_lit 4) (0 : Int), (25 : Int))) fun (v9 : Int) =>
    Option.bind (inb (8 : Nat) (1 : Int)) fun _ =>
    Option.bind (inb (8 : Nat) (2 : Int)) fun _ =>
    Option.bind (inb (8 : Nat) (1 : Int)) fun _ =>
    Option.bind (inb (8 : Nat) (2 : Int)) fun _ =>
    Option.bind (sha_right_P (List.getD m3.val (nat_lit 0) (0 : Int), (2 : Int))) fun (v14 : Int) =>
    Option.bind (sha_right_P (List.getD m3.val (nat_lit 0) (0 : Int), (13 : Int))) fun (v15 : Int) =>
    Option.bind (sha_right_P (List.getD m3.val (nat_lit 0) (0 : Int), (22 : Int))) fun (v16 : Int) =>
    Option.bind (inb (8 : Nat) (0 : Int)) fun _ =>
    Option.bind (inb (8 : Nat) (1 : Int)) fun _ =>
    Option.bind (inb (8 : Nat) (2 : Int)) fun _ =>
    Option.bind (inb (8 : Nat) (3 : Int)) fun _ =>
    Option.bind (inb (8 : Nat) (4 : Int)) fun _ =>
    Option.bind (inb (8 : Nat) (5 : Int)) fun _ =>
    Option.bind (inb (8 : Nat) (6 : Int)) fun _ =>
    some (.inl (s17, IntKind.wrap IntKind.i64 (s18 + (1 : Int)), m0, m1, m2, Arr.of (8 : Nat) [IntKind.wrap IntKind.u32 (IntKind.wrap IntKind.u32 (IntKind.wrap IntKind.u32 (IntKind.wrap IntKind.u32 (IntKind.wrap IntKind.u32 (List.getD m3.val (nat_lit 7) (0 : Int) + bxor IntKind.u32 (bxor IntKind.u32 v7 v8) v9) + bxor IntKind.u32 (band IntKind.u32 (List.getD m3.val (nat_lit 4) (0 : Int)) (List.getD m3.val (nat_lit 5) (0 : Int))) (band IntKind.u32 (bxor IntKind.u32 (4294967295 : Int) (List.getD m3.val (nat_lit 4) (0 : Int))) (List.getD m3.val (nat_lit 6) (0 : Int)))) + List.getD s17.val (Int.toNat s18) (0 : Int)) + List.getD m2.val (Int.toNat s18) (0 : Int)) + IntKind.wrap IntKind.u32 (bxor IntKind.u32 (bxor IntKind.u32 v14 v15) v16 + bxor IntKind.u32 (bxor IntKind.u32 (band IntKind.u32 (List.getD m3.val (nat_lit 0) (0 : Int)) (List.getD m3.val (nat_lit 1) (0 : Int))) (band IntKind.u32 (List.getD m3.val (nat_lit 0) (0 : Int)) (List.getD m3.val (nat_lit 2) (0 : Int)))) (band IntKind.u32 (List.getD m3.val (nat_lit 1) (0 : Int)) (List.getD m3.val (nat_lit 2) (0 : Int))))), List.getD m3.val (nat_lit 0) (0 : Int), List.getD m3.val (nat_lit 1) (0 : Int), List.getD m3.val (nat_lit 2) (0 : Int), IntKind.wrap IntKind.u32 (List.getD m3.val (nat_lit 3) (0 : Int) + IntKind.wrap IntKind.u32 (IntKind.wrap IntKind.u32 (IntKind.wrap IntKind.u32 (IntKind.wrap IntKind.u32 (List.getD m3.val (nat_lit 7) (0 : Int) + bxor IntKind.u32 (bxor IntKind.u32 v7 v8) v9) + bxor IntKind.u32 (band IntKind.u32 (List.getD m3.val (nat_lit 4) (0 : Int)) (List.getD m3.val (nat_lit 5) (0 : Int))) (band IntKind.u32 (bxor IntKind.u32 (4294967295 : Int) (List.getD m3.val (nat_lit 4) (0 : Int))) (List.getD m3.val (nat_lit 6) (0 : Int)))) + List.getD s17.val (Int.toNat s18) (0 : Int)) + List.getD m2.val (Int.toNat s18) (0 : Int))), List.getD m3.val (nat_lit 4) (0 : Int), List.getD m3.val (nat_lit 5) (0 : Int), List.getD m3.val (nat_lit 6) (0 : Int)] rfl))
  else
  some (.inr (m0, m1, m2, m3))
def sha_state_block_L1_P : (Arr 64 Int) × Int × (Arr 8 Int) × (Arr 8 Int) × (Arr 64 Int) × (Arr 8 Int) → Option (((Arr 64 Int) × Int × (Arr 8 Int) × (Arr 8 Int) × (Arr 64 Int) × (Arr 8 Int)) ⊕ (((Arr 8 Int) × (Arr 8 Int) × (Arr 64 Int) × (Arr 8 Int)))) := fun p => sha_state_block_L1 p.1 p.2.1 p.2.2.1 p.2.2.2.1 p.2.2.2.2.1 p.2.2.2.2.2
def sha_state_block_L1_MM : HL [(.arr 64 (.int .u32)), (.int .i64), (.arr 8 (.int .u32)), (.arr 8 (.int .u32)), (.arr 64 (.int .u32)), (.arr 8 (.int .u32))] → Option (HL [(.arr 64 (.int .u32)), (.int .i64), (.arr 8 (.int .u32)), (.arr 8 (.int .u32)), (.arr 64 (.int .u32)), (.arr 8 (.int .u32))] ⊕ SumL [[(.arr 8 (.int .u32)), (.arr 8 (.int .u32)), (.arr 64 (.int .u32)), (.arr 8 (.int .u32))]]) := fun p => sha_state_block_L1 p.1 p.2.1 p.2.2.1 p.2.2.2.1 p.2.2.2.2.1 p.2.2.2.2.2
def sha_state_block_L1_C : Con := ⟨4, sha_state_block_L1_T, sha_state_block_L1_O, stdCn [(.arr 64 (.int .u32)), (.int .i64), (.arr 8 (.int .u32)), (.arr 8 (.int .u32)), (.arr 64 (.int .u32)), (.arr 8 (.int .u32))] [[(.arr 8 (.int .u32)), (.arr 8 (.int .u32)), (.arr 64 (.int .u32)), (.arr 8 (.int .u32))]] (loop sha_state_block_L1_MM)⟩
def sha_state_block_L2_T : Tm := ⟨[(2, false, [.ptr 0 0]), (4, false, [.ptr 1 0]), (6, false, [.ptr 2 0]), (99, false, [.hole (.int .i64)])], 112, [.box [.hole (.arr 8 (.int .u32))], .box [.hole (.arr 8 (.int .u32))], .box [.hole (.arr 8 (.int .u32))]]⟩
def sha_state_block_L2_O : List (Ex × Tm) := [(.exit 2, ⟨[(2, false, [.ptr 0 0]), (4, false, [.ptr 1 0])], 112, [.box [.hole (.arr 8 (.int .u32))], .box [.hole (.arr 8 (.int .u32))], .box [.hole (.arr 8 (.int .u32))]]⟩)]
def sha_state_block_L2 (s99 : Int) (m0 : Arr 8 Int) (m1 : Arr 8 Int) (m2 : Arr 8 Int) : Option ((Int × (Arr 8 Int) × (Arr 8 Int) × (Arr 8 Int)) ⊕ (((Arr 8 Int) × (Arr 8 Int) × (Arr 8 Int)))) :=
  if decide (s99 < (8 : Int)) = true then
    Option.bind (inb (8 : Nat) s99) fun _ =>
    Option.bind (inb (8 : Nat) s99) fun _ =>
    Option.bind (inb (8 : Nat) s99) fun _ =>
    some (.inl (IntKind.wrap IntKind.i64 (s99 + (1 : Int)), Arr.set m0 (Int.toNat s99) (IntKind.wrap IntKind.u32 (List.getD m0.val (Int.toNat s99) (0 : Int) + List.getD m2.val (Int.toNat s99) (0 : Int))), m1, m2))
  else
  some (.inr (m0, m1, m2))
def sha_state_block_L2_P : Int × (Arr 8 Int) × (Arr 8 Int) × (Arr 8 Int) → Option ((Int × (Arr 8 Int) × (Arr 8 Int) × (Arr 8 Int)) ⊕ (((Arr 8 Int) × (Arr 8 Int) × (Arr 8 Int)))) := fun p => sha_state_block_L2 p.1 p.2.1 p.2.2.1 p.2.2.2
def sha_state_block_L2_MM : HL [(.int .i64), (.arr 8 (.int .u32)), (.arr 8 (.int .u32)), (.arr 8 (.int .u32))] → Option (HL [(.int .i64), (.arr 8 (.int .u32)), (.arr 8 (.int .u32)), (.arr 8 (.int .u32))] ⊕ SumL [[(.arr 8 (.int .u32)), (.arr 8 (.int .u32)), (.arr 8 (.int .u32))]]) := fun p => sha_state_block_L2 p.1 p.2.1 p.2.2.1 p.2.2.2
def sha_state_block_L2_C : Con := ⟨3, sha_state_block_L2_T, sha_state_block_L2_O, stdCn [(.int .i64), (.arr 8 (.int .u32)), (.arr 8 (.int .u32)), (.arr 8 (.int .u32))] [[(.arr 8 (.int .u32)), (.arr 8 (.int .u32)), (.arr 8 (.int .u32))]] (loop sha_state_block_L2_MM)⟩
def sha_state_block_T : Tm := ⟨[(0, true, [.hole (.arr 8 (.int .u32))]), (1, false, [.hole (.slc (.int .u8))])], 2, []⟩
def sha_state_block_O : List (Ex × Tm) := [(.ret, ⟨[(0, true, [.hole (.arr 8 (.int .u32))])], 1, []⟩)]
def sha_state_block_M (s0 : Arr 8 Int) (s1 : List Int) : Option ((Arr 8 Int)) :=
  Option.bind (sha_wide_P s1) fun (v0 : (Arr (64 : Nat) Int)) =>
  Option.bind (loop sha_state_block_L1_P (shaCubes, (0 : Int), s0, Arr.rep (8 : Nat) (0 : Int), v0, s0)) fun (v1 : ((Arr (8 : Nat) Int) × ((Arr (8 : Nat) Int) × ((Arr (64 : Nat) Int) × (Arr (8 : Nat) Int))))) =>
  Option.bind (loop sha_state_block_L2_P ((0 : Int), v1.fst, v1.snd.fst, v1.snd.snd.snd)) fun (v2 : ((Arr (8 : Nat) Int) × ((Arr (8 : Nat) Int) × (Arr (8 : Nat) Int)))) =>
  some (v2.fst)
def sha_state_block_P : (Arr 8 Int) × (List Int) → Option ((Arr 8 Int)) := fun p => sha_state_block_M p.1 p.2
def sha_state_block_MM : HL [(.arr 8 (.int .u32)), (.slc (.int .u8))] → Option (SumL [[(.arr 8 (.int .u32))]]) := fun p => sha_state_block_M p.1 p.2
def sha_state_block_C : Con := ⟨0, sha_state_block_T, sha_state_block_O, stdCn [(.arr 8 (.int .u32)), (.slc (.int .u8))] [[(.arr 8 (.int .u32))]] sha_state_block_MM⟩

def sha_Hash_Write_L1_T : Tm := ⟨[(0, false, [.ptr 0 0])], 58, [.box [.hole (.arr 8 (.int .u32)), .row 1, .hole (.int .i64), .hole .bool], .row (.int .u8)]⟩
def sha_Hash_Write_L1_O : List (Ex × Tm) := [(.exit 0, ⟨[], 58, [.box [.hole (.arr 8 (.int .u32)), .row 1, .hole (.int .i64), .hole .bool], .row (.int .u8)]⟩)]
def sha_Hash_Write_L1 (m0_0 : Arr 8 Int) (m0_1 : Int) (m0_2 : Bool) (r1 : List Int) : Option (((Arr 8 Int) × Int × Bool × (List Int)) ⊕ (((Arr 8 Int) × Int × Bool × (List Int)))) :=
  if decide ((((List.length r1) : Nat) : Int) ≥ (64 : Int)) = true then
    Option.bind (subn (List.length r1) (0 : Int) (64 : Int)) fun _ =>
    Option.bind (sha_state_block_P (m0_0, List.drop (nat_lit 0) (List.take (nat_lit 64) r1))) fun (v1 : (Arr (8 : Nat) Int)) =>
    Option.bind (subn (List.length r1) (64 : Int) (((List.length r1) : Nat) : Int)) fun _ =>
    some (.inl (v1, m0_1, m0_2, List.drop (nat_lit 64) (List.take (Int.toNat (((List.length r1) : Nat) : Int)) r1)))
  else
  some (.inr (m0_0, m0_1, m0_2, r1))
def sha_Hash_Write_L1_P : (Arr 8 Int) × Int × Bool × (List Int) → Option (((Arr 8 Int) × Int × Bool × (List Int)) ⊕ (((Arr 8 Int) × Int × Bool × (List Int)))) := fun p => sha_Hash_Write_L1 p.1 p.2.1 p.2.2.1 p.2.2.2
def sha_Hash_Write_L1_MM : HL [(.arr 8 (.int .u32)), (.int .i64), .bool, (.slc (.int .u8))] → Option (HL [(.arr 8 (.int .u32)), (.int .i64), .bool, (.slc (.int .u8))] ⊕ SumL [[(.arr 8 (.int .u32)), (.int .i64), .bool, (.slc (.int .u8))]]) := fun p => sha_Hash_Write_L1 p.1 p.2.1 p.2.2.1 p.2.2.2
def sha_Hash_Write_L1_C : Con := ⟨1, sha_Hash_Write_L1_T, sha_Hash_Write_L1_O, stdCn [(.arr 8 (.int .u32)), (.int .i64), .bool, (.slc (.int .u8))] [[(.arr 8 (.int .u32)), (.int .i64), .bool, (.slc (.int .u8))]] (loop sha_Hash_Write_L1_MM)⟩
def sha_Hash_Write_T : Tm := ⟨[(0, false, [.ptr 0 0]), (1, false, [.hole (.slc (.int .u8))])], 2, [.box [.hole (.arr 8 (.int .u32)), .row 1, .hole (.int .i64), .hole .bool], .row (.int .u8)]⟩
def sha_Hash_Write_O : List (Ex × Tm) := [(.ret, ⟨[], 0, [.box [.hole (.arr 8 (.int .u32)), .row 1, .hole (.int .i64), .hole .bool], .row (.int .u8)]⟩)]
def sha_Hash_Write_M (s1 : List Int) (m0_0 : Arr 8 Int) (m0_1 : Int) (m0_2 : Bool) (r1 : List Int) : Option ((Arr 8 Int) × Int × Bool × (List Int)) :=
  if (!m0_2) = true then
    some (m0_0, m0_1, m0_2, r1)
  else
  Option.bind (room (1 : Nat) (List.length r1 + List.length s1)) fun _ =>
  Option.bind (loop sha_Hash_Write_L1_P (m0_0, IntKind.wrap IntKind.i64 (m0_1 + (((List.length s1) : Nat) : Int)), m0_2, r1 ++ s1)) fun (v1 : ((Arr (8 : Nat) Int) × (Int × (Bool × (List Int))))) =>
  some (v1.fst, v1.snd.fst, v1.snd.snd.fst, v1.snd.snd.snd)
def sha_Hash_Write_P : (List Int) × (Arr 8 Int) × Int × Bool × (List Int) → Option ((Arr 8 Int) × Int × Bool × (List Int)) := fun p => sha_Hash_Write_M p.1 p.2.1 p.2.2.1 p.2.2.2.1 p.2.2.2.2
def sha_Hash_Write_MM : HL [(.slc (.int .u8)), (.arr 8 (.int .u32)), (.int .i64), .bool, (.slc (.int .u8))] → Option (SumL [[(.arr 8 (.int .u32)), (.int .i64), .bool, (.slc (.int .u8))]]) := fun p => sha_Hash_Write_M p.1 p.2.1 p.2.2.1 p.2.2.2.1 p.2.2.2.2
def sha_Hash_Write_C : Con := ⟨1, sha_Hash_Write_T, sha_Hash_Write_O, stdCn [(.slc (.int .u8)), (.arr 8 (.int .u32)), (.int .i64), .bool, (.slc (.int .u8))] [[(.arr 8 (.int .u32)), (.int .i64), .bool, (.slc (.int .u8))]] sha_Hash_Write_MM⟩

def pack_high_uint64_L1_T : Tm := ⟨[(1, false, [.hole (.int .u64)]), (7, false, [.row 0]), (8, false, [.hole (.int .i64)])], 26, [.row (.int .u8)]⟩
def pack_high_uint64_L1_O : List (Ex × Tm) := [(.exit 0, ⟨[(7, false, [.row 0])], 26, [.row (.int .u8)]⟩)]
def pack_high_uint64_L1 (s1 : Int) (s8 : Int) (r0 : List Int) : Option ((Int × Int × (List Int)) ⊕ (((List Int)))) :=
  if decide (s8 ≥ (0 : Int)) = true then
    Option.bind (gshr IntKind.u64 s1 (IntKind.wrap IntKind.i64 ((8 : Int) * s8))) fun (v0 : Int) =>
    Option.bind (room (1 : Nat) (List.length r0 + List.length [IntKind.wrap IntKind.u8 v0])) fun _ =>
    some (.inl (s1, IntKind.wrap IntKind.i64 (s8 - (1 : Int)), r0 ++ [IntKind.wrap IntKind.u8 v0]))
  else
  some (.inr (r0))
def pack_high_uint64_L1_P : Int × Int × (List Int) → Option ((Int × Int × (List Int)) ⊕ (((List Int)))) := fun p => pack_high_uint64_L1 p.1 p.2.1 p.2.2
def pack_high_uint64_L1_MM : HL [(.int .u64), (.int .i64), (.slc (.int .u8))] → Option (HL [(.int .u64), (.int .i64), (.slc (.int .u8))] ⊕ SumL [[(.slc (.int .u8))]]) := fun p => pack_high_uint64_L1 p.1 p.2.1 p.2.2
def pack_high_uint64_L1_C : Con := ⟨0, pack_high_uint64_L1_T, pack_high_uint64_L1_O, stdCn [(.int .u64), (.int .i64), (.slc (.int .u8))] [[(.slc (.int .u8))]] (loop pack_high_uint64_L1_MM)⟩
def pack_high_uint64_T : Tm := ⟨[(0, false, [.hole (.slc (.int .u8))]), (1, false, [.hole (.int .u64)]), (2, false, [.hole (.int .i64)])], 3, []⟩
def pack_high_uint64_O : List (Ex × Tm) := [(.ret, ⟨[(0, false, [.row 0])], 1, [.row (.int .u8)]⟩)]
def pack_high_uint64_M (s0 : List Int) (s1 : Int) (s2 : Int) : Option ((List Int)) :=
  Option.bind (room (1 : Nat) ((0 : Nat) + List.length s0)) fun _ =>
  Option.bind (loop pack_high_uint64_L1_P (s1, IntKind.wrap IntKind.i64 (s2 - (1 : Int)), s0)) fun (v1 : (List Int)) =>
  some (v1)
def pack_high_uint64_P : (List Int) × Int × Int → Option ((List Int)) := fun p => pack_high_uint64_M p.1 p.2.1 p.2.2
def pack_high_uint64_MM : HL [(.slc (.int .u8)), (.int .u64), (.int .i64)] → Option (SumL [[(.slc (.int .u8))]]) := fun p => pack_high_uint64_M p.1 p.2.1 p.2.2
def pack_high_uint64_C : Con := ⟨0, pack_high_uint64_T, pack_high_uint64_O, stdCn [(.slc (.int .u8)), (.int .u64), (.int .i64)] [[(.slc (.int .u8))]] pack_high_uint64_MM⟩

def pack_Put64_T : Tm := ⟨[(0, false, [.hole (.slc (.int .u8))]), (1, false, [.hole (.int .u64)])], 2, []⟩
def pack_Put64_O : List (Ex × Tm) := [(.ret, ⟨[(0, false, [.row 0])], 1, [.row (.int .u8)]⟩)]
def pack_Put64_M (s0 : List Int) (s1 : Int) : Option ((List Int)) :=
  Option.bind (pack_high_uint64_P (s0, s1, (8 : Int))) fun (v0 : (List Int)) =>
  some (v0)
def pack_Put64_P : (List Int) × Int → Option ((List Int)) := fun p => pack_Put64_M p.1 p.2
def pack_Put64_MM : HL [(.slc (.int .u8)), (.int .u64)] → Option (SumL [[(.slc (.int .u8))]]) := fun p => pack_Put64_M p.1 p.2
def pack_Put64_C : Con := ⟨0, pack_Put64_T, pack_Put64_O, stdCn [(.slc (.int .u8)), (.int .u64)] [[(.slc (.int .u8))]] pack_Put64_MM⟩

def sha_Pad_T : Tm := ⟨[(0, false, [.hole (.int .i64)])], 1, []⟩
def sha_Pad_O : List (Ex × Tm) := [(.ret, ⟨[(0, false, [.row 0])], 1, [.row (.int .u8)]⟩)]
def sha_Pad_M (s0 : Int) : Option ((List Int)) :=
  Option.bind (grem IntKind.u64 (IntKind.wrap IntKind.u64 (if (0 : Int) > s0 then (0 : Int) else s0)) (64 : Int)) fun (v0 : Int) =>
  Option.bind (grem IntKind.u64 (IntKind.wrap IntKind.u64 ((119 : Int) - v0)) (64 : Int)) fun (v1 : Int) =>
  Option.bind (mk1 (IntKind.wrap IntKind.i64 v1)) fun (v2 : Nat) =>
  Option.bind (room (1 : Nat) ((1 : Nat) + v2)) fun _ =>
  Option.bind (pack_Put64_P ([(128 : Int)] ++ List.replicate v2 (0 : Int), IntKind.wrap IntKind.u64 ((8 : Int) * IntKind.wrap IntKind.u64 (if (0 : Int) > s0 then (0 : Int) else s0)))) fun (v4 : (List Int)) =>
  some (v4)
def sha_Pad_P : Int → Option ((List Int)) := fun p => sha_Pad_M p
def sha_Pad_MM : HL [(.int .i64)] → Option (SumL [[(.slc (.int .u8))]]) := fun p => sha_Pad_M p
def sha_Pad_C : Con := ⟨0, sha_Pad_T, sha_Pad_O, stdCn [(.int .i64)] [[(.slc (.int .u8))]] sha_Pad_MM⟩

def pack_high_uint32_L1_T : Tm := ⟨[(1, false, [.hole (.int .u32)]), (7, false, [.row 0]), (8, false, [.hole (.int .i64)])], 26, [.row (.int .u8)]⟩
def pack_high_uint32_L1_O : List (Ex × Tm) := [(.exit 0, ⟨[(7, false, [.row 0])], 26, [.row (.int .u8)]⟩)]
def pack_high_uint32_L1 (s1 : Int) (s8 : Int) (r0 : List Int) : Option ((Int × Int × (List Int)) ⊕ (((List Int)))) :=
  if decide (s8 ≥ (0 : Int)) = true then
    Option.bind (gshr IntKind.u32 s1 (IntKind.wrap IntKind.i64 ((8 : Int) * s8))) fun (v0 : Int) =>
    Option.bind (room (1 : Nat) (List.length r0 + List.length [IntKind.wrap IntKind.u8 v0])) fun _ =>
    some (.inl (s1, IntKind.wrap IntKind.i64 (s8 - (1 : Int)), r0 ++ [IntKind.wrap IntKind.u8 v0]))
  else
  some (.inr (r0))
def pack_high_uint32_L1_P : Int × Int × (List Int) → Option ((Int × Int × (List Int)) ⊕ (((List Int)))) := fun p => pack_high_uint32_L1 p.1 p.2.1 p.2.2
def pack_high_uint32_L1_MM : HL [(.int .u32), (.int .i64), (.slc (.int .u8))] → Option (HL [(.int .u32), (.int .i64), (.slc (.int .u8))] ⊕ SumL [[(.slc (.int .u8))]]) := fun p => pack_high_uint32_L1 p.1 p.2.1 p.2.2
def pack_high_uint32_L1_C : Con := ⟨0, pack_high_uint32_L1_T, pack_high_uint32_L1_O, stdCn [(.int .u32), (.int .i64), (.slc (.int .u8))] [[(.slc (.int .u8))]] (loop pack_high_uint32_L1_MM)⟩
def pack_high_uint32_T : Tm := ⟨[(0, false, [.hole (.slc (.int .u8))]), (1, false, [.hole (.int .u32)]), (2, false, [.hole (.int .i64)])], 3, []⟩
def pack_high_uint32_O : List (Ex × Tm) := [(.ret, ⟨[(0, false, [.row 0])], 1, [.row (.int .u8)]⟩)]
def pack_high_uint32_M (s0 : List Int) (s1 : Int) (s2 : Int) : Option ((List Int)) :=
  Option.bind (room (1 : Nat) ((0 : Nat) + List.length s0)) fun _ =>
  Option.bind (loop pack_high_uint32_L1_P (s1, IntKind.wrap IntKind.i64 (s2 - (1 : Int)), s0)) fun (v1 : (List Int)) =>
  some (v1)
def pack_high_uint32_P : (List Int) × Int × Int → Option ((List Int)) := fun p => pack_high_uint32_M p.1 p.2.1 p.2.2
def pack_high_uint32_MM : HL [(.slc (.int .u8)), (.int .u32), (.int .i64)] → Option (SumL [[(.slc (.int .u8))]]) := fun p => pack_high_uint32_M p.1 p.2.1 p.2.2
def pack_high_uint32_C : Con := ⟨0, pack_high_uint32_T, pack_high_uint32_O, stdCn [(.slc (.int .u8)), (.int .u32), (.int .i64)] [[(.slc (.int .u8))]] pack_high_uint32_MM⟩

def pack_Put32_T : Tm := ⟨[(0, false, [.hole (.slc (.int .u8))]), (1, false, [.hole (.int .u32)])], 2, []⟩
def pack_Put32_O : List (Ex × Tm) := [(.ret, ⟨[(0, false, [.row 0])], 1, [.row (.int .u8)]⟩)]
def pack_Put32_M (s0 : List Int) (s1 : Int) : Option ((List Int)) :=
  Option.bind (pack_high_uint32_P (s0, s1, (4 : Int))) fun (v0 : (List Int)) =>
  some (v0)
def pack_Put32_P : (List Int) × Int → Option ((List Int)) := fun p => pack_Put32_M p.1 p.2
def pack_Put32_MM : HL [(.slc (.int .u8)), (.int .u32)] → Option (SumL [[(.slc (.int .u8))]]) := fun p => pack_Put32_M p.1 p.2
def pack_Put32_C : Con := ⟨0, pack_Put32_T, pack_Put32_O, stdCn [(.slc (.int .u8)), (.int .u32)] [[(.slc (.int .u8))]] pack_Put32_MM⟩

def sha_Hash_Sum_R1_T : Tm := ⟨[(0, false, [.ptr 0 0]), (2, false, [.ptr 1 0]), (3, false, [.ptr 2 0])], 47, [.box [.hole (.arr 8 (.int .u32)), .row 3, .hole (.int .i64), .hole .bool], .box [.hole (.arr 32 (.int .u8))], .box [.hole (.arr 32 (.int .u8))], .row (.int .u8)]⟩
def sha_Hash_Sum_R1_O : List (Ex × Tm) := [(.normal, ⟨[(0, false, [.ptr 0 0]), (2, false, [.ptr 1 0]), (3, false, [.ptr 2 0]), (4, false, [.ptr 3 0])], 47, [.box [.hole (.arr 8 (.int .u32)), .row 4, .hole (.int .i64), .hole .bool], .box [.hole (.arr 32 (.int .u8))], .box [.hole (.arr 32 (.int .u8))], .box [.hole (.arr 8 (.int .u32)), .row 5, .hole (.int .i64), .hole .bool], .row (.int .u8), .row (.int .u8)]⟩)]
def sha_Hash_Sum_R1_X (m0_0 : Arr 8 Int) (m0_1 : Int) (m0_2 : Bool) (m1 : Arr 32 Int) (m2 : Arr 32 Int) (r3 : List Int) : Option ((Arr 8 Int) × Int × Bool × (Arr 32 Int) × (Arr 32 Int) × (Arr 8 Int) × Int × Bool × (List Int) × (List Int)) :=
  agree (
    Option.bind (room (1 : Nat) ((0 : Nat) + List.length r3)) fun _ =>
    some (m0_0, m0_1, m0_2, m1, m2, m0_0, (0 : Int), true, r3, r3)
  ) (
    Option.bind (room (1 : Nat) ((0 : Nat) + List.length r3)) fun _ =>
    some (m0_0, m0_1, m0_2, m1, m2, m0_0, (0 : Int), true, r3, r3)
  )
def sha_Hash_Sum_R1 (m0_0 : Arr 8 Int) (m0_1 : Int) (m0_2 : Bool) (m1 : Arr 32 Int) (m2 : Arr 32 Int) (r3 : List Int) : Option ((Arr 8 Int) × Int × Bool × (Arr 32 Int) × (Arr 32 Int) × (Arr 8 Int) × Int × Bool × (List Int) × (List Int)) :=
    Option.bind (room (1 : Nat) ((0 : Nat) + List.length r3)) fun _ =>
    some (m0_0, m0_1, m0_2, m1, m2, m0_0, (0 : Int), true, r3, r3)
theorem sha_Hash_Sum_R1_eq (m0_0 : Arr 8 Int) (m0_1 : Int) (m0_2 : Bool) (m1 : Arr 32 Int) (m2 : Arr 32 Int) (r3 : List Int) : sha_Hash_Sum_R1_X m0_0 m0_1 m0_2 m1 m2 r3 = sha_Hash_Sum_R1 m0_0 m0_1 m0_2 m1 m2 r3 := by unfold sha_Hash_Sum_R1_X; simp only [agree_self]; rfl
def sha_Hash_Sum_R1_P : (Arr 8 Int) × Int × Bool × (Arr 32 Int) × (Arr 32 Int) × (List Int) → Option ((Arr 8 Int) × Int × Bool × (Arr 32 Int) × (Arr 32 Int) × (Arr 8 Int) × Int × Bool × (List Int) × (List Int)) := fun p => sha_Hash_Sum_R1 p.1 p.2.1 p.2.2.1 p.2.2.2.1 p.2.2.2.2.1 p.2.2.2.2.2
def sha_Hash_Sum_R1_MM : HL [(.arr 8 (.int .u32)), (.int .i64), .bool, (.arr 32 (.int .u8)), (.arr 32 (.int .u8)), (.slc (.int .u8))] → Option (SumL [[(.arr 8 (.int .u32)), (.int .i64), .bool, (.arr 32 (.int .u8)), (.arr 32 (.int .u8)), (.arr 8 (.int .u32)), (.int .i64), .bool, (.slc (.int .u8)), (.slc (.int .u8))]]) := fun p => sha_Hash_Sum_R1 p.1 p.2.1 p.2.2.1 p.2.2.2.1 p.2.2.2.2.1 p.2.2.2.2.2
def sha_Hash_Sum_R1_C : Con := ⟨3, sha_Hash_Sum_R1_T, sha_Hash_Sum_R1_O, stdCn [(.arr 8 (.int .u32)), (.int .i64), .bool, (.arr 32 (.int .u8)), (.arr 32 (.int .u8)), (.slc (.int .u8))] [[(.arr 8 (.int .u32)), (.int .i64), .bool, (.arr 32 (.int .u8)), (.arr 32 (.int .u8)), (.arr 8 (.int .u32)), (.int .i64), .bool, (.slc (.int .u8)), (.slc (.int .u8))]] sha_Hash_Sum_R1_MM⟩
def sha_Hash_Sum_L2_T : Tm := ⟨[(2, false, [.ptr 0 0]), (3, false, [.ptr 1 0]), (34, true, [.hole (.arr 8 (.int .u32))]), (35, false, [.hole (.int .i64)])], 47, [.box [.hole (.arr 32 (.int .u8))], .box [.hole (.arr 32 (.int .u8))]]⟩
def sha_Hash_Sum_L2_O : List (Ex × Tm) := [(.exit 0, ⟨[(2, false, [.ptr 0 0]), (3, false, [.ptr 1 0])], 47, [.box [.hole (.arr 32 (.int .u8))], .box [.hole (.arr 32 (.int .u8))]]⟩)]
def sha_Hash_Sum_L2 (s34 : Arr 8 Int) (s35 : Int) (m0 : Arr 32 Int) (m1 : Arr 32 Int) : Option (((Arr 8 Int) × Int × (Arr 32 Int) × (Arr 32 Int)) ⊕ (((Arr 32 Int) × (Arr 32 Int)))) :=
  if decide (s35 < (8 : Int)) = true then
    Option.bind (inb (8 : Nat) s35) fun _ =>
    Option.bind (subn (32 : Nat) (IntKind.wrap IntKind.i64 ((4 : Int) * s35)) (32 : Int)) fun _ =>
    Option.bind (pack_Put32_P ([], List.getD s34.val (Int.toNat s35) (0 : Int))) fun (v2 : (List Int)) =>
    some (.inl (s34, IntKind.wrap IntKind.i64 (s35 + (1 : Int)), m0, Arr.cpy m1 (Int.toNat (IntKind.wrap IntKind.i64 ((4 : Int) * s35))) (nat_lit 32) v2))
  else
  some (.inr (m0, m1))
def sha_Hash_Sum_L2_P : (Arr 8 Int) × Int × (Arr 32 Int) × (Arr 32 Int) → Option (((Arr 8 Int) × Int × (Arr 32 Int) × (Arr 32 Int)) ⊕ (((Arr 32 Int) × (Arr 32 Int)))) := fun p => sha_Hash_Sum_L2 p.1 p.2.1 p.2.2.1 p.2.2.2
def sha_Hash_Sum_L2_MM : HL [(.arr 8 (.int .u32)), (.int .i64), (.arr 32 (.int .u8)), (.arr 32 (.int .u8))] → Option (HL [(.arr 8 (.int .u32)), (.int .i64), (.arr 32 (.int .u8)), (.arr 32 (.int .u8))] ⊕ SumL [[(.arr 32 (.int .u8)), (.arr 32 (.int .u8))]]) := fun p => sha_Hash_Sum_L2 p.1 p.2.1 p.2.2.1 p.2.2.2
def sha_Hash_Sum_L2_C : Con := ⟨2, sha_Hash_Sum_L2_T, sha_Hash_Sum_L2_O, stdCn [(.arr 8 (.int .u32)), (.int .i64), (.arr 32 (.int .u8)), (.arr 32 (.int .u8))] [[(.arr 32 (.int .u8)), (.arr 32 (.int .u8))]] (loop sha_Hash_Sum_L2_MM)⟩
def sha_Hash_Sum_T : Tm := ⟨[(0, false, [.ptr 0 0])], 1, [.box [.hole (.arr 8 (.int .u32)), .row 1, .hole (.int .i64), .hole .bool], .row (.int .u8)]⟩
def sha_Hash_Sum_O : List (Ex × Tm) := [(.ret, ⟨[(0, true, [.hole (.arr 32 (.int .u8))])], 1, [.box [.hole (.arr 8 (.int .u32)), .row 1, .hole (.int .i64), .hole .bool], .row (.int .u8)]⟩)]
def sha_Hash_Sum_M (m0_0 : Arr 8 Int) (m0_1 : Int) (m0_2 : Bool) (r1 : List Int) : Option ((Arr 32 Int) × (Arr 8 Int) × Int × Bool × (List Int)) :=
  if (!m0_2) = true then
    some (Arr.rep (32 : Nat) (0 : Int), m0_0, m0_1, m0_2, r1)
  else
  Option.bind (sha_Hash_Sum_R1_P (m0_0, m0_1, m0_2, Arr.rep (32 : Nat) (0 : Int), Arr.rep (32 : Nat) (0 : Int), r1)) fun (v0 : ((Arr (8 : Nat) Int) × (Int × (Bool × ((Arr (32 : Nat) Int) × ((Arr (32 : Nat) Int) × ((Arr (8 : Nat) Int) × (Int × (Bool × ((List Int) × (List Int))))))))))) =>
  Option.bind (sha_Pad_P v0.snd.fst) fun (v1 : (List Int)) =>
  Option.bind (sha_Hash_Write_P (v1, v0.snd.snd.snd.snd.snd.fst, v0.snd.snd.snd.snd.snd.snd.fst, v0.snd.snd.snd.snd.snd.snd.snd.fst, v0.snd.snd.snd.snd.snd.snd.snd.snd.snd)) fun (v2 : ((Arr (8 : Nat) Int) × (Int × (Bool × (List Int))))) =>
  Option.bind (loop sha_Hash_Sum_L2_P (v2.fst, (0 : Int), v0.snd.snd.snd.fst, v0.snd.snd.snd.snd.fst)) fun (v3 : ((Arr (32 : Nat) Int) × (Arr (32 : Nat) Int))) =>
  some (v3.snd, v0.fst, v0.snd.fst, v0.snd.snd.fst, v0.snd.snd.snd.snd.snd.snd.snd.snd.fst)
def sha_Hash_Sum_P : (Arr 8 Int) × Int × Bool × (List Int) → Option ((Arr 32 Int) × (Arr 8 Int) × Int × Bool × (List Int)) := fun p => sha_Hash_Sum_M p.1 p.2.1 p.2.2.1 p.2.2.2
def sha_Hash_Sum_MM : HL [(.arr 8 (.int .u32)), (.int .i64), .bool, (.slc (.int .u8))] → Option (SumL [[(.arr 32 (.int .u8)), (.arr 8 (.int .u32)), (.int .i64), .bool, (.slc (.int .u8))]]) := fun p => sha_Hash_Sum_M p.1 p.2.1 p.2.2.1 p.2.2.2
def sha_Hash_Sum_C : Con := ⟨1, sha_Hash_Sum_T, sha_Hash_Sum_O, stdCn [(.arr 8 (.int .u32)), (.int .i64), .bool, (.slc (.int .u8))] [[(.arr 32 (.int .u8)), (.arr 8 (.int .u32)), (.int .i64), .bool, (.slc (.int .u8))]] sha_Hash_Sum_MM⟩

def sha_Sum_T : Tm := ⟨[(0, false, [.hole (.slc (.int .u8))])], 1, []⟩
def sha_Sum_O : List (Ex × Tm) := [(.ret, ⟨[(0, true, [.hole (.arr 32 (.int .u8))])], 1, []⟩)]
def sha_Sum_M (s0 : List Int) : Option ((Arr 32 Int)) :=
  Option.bind (sha_New_P ()) fun (v0 : ((Arr (8 : Nat) Int) × (Int × (Bool × (List Int))))) =>
  Option.bind (sha_Hash_Write_P (s0, v0.fst, v0.snd.fst, v0.snd.snd.fst, v0.snd.snd.snd)) fun (v1 : ((Arr (8 : Nat) Int) × (Int × (Bool × (List Int))))) =>
  Option.bind (sha_Hash_Sum_P (v1.fst, v1.snd.fst, v1.snd.snd.fst, v1.snd.snd.snd)) fun (v2 : ((Arr (32 : Nat) Int) × ((Arr (8 : Nat) Int) × (Int × (Bool × (List Int)))))) =>
  some (v2.fst)
def sha_Sum_P : (List Int) → Option ((Arr 32 Int)) := fun p => sha_Sum_M p
def sha_Sum_MM : HL [(.slc (.int .u8))] → Option (SumL [[(.arr 32 (.int .u8))]]) := fun p => sha_Sum_M p
def sha_Sum_C : Con := ⟨0, sha_Sum_T, sha_Sum_O, stdCn [(.slc (.int .u8))] [[(.arr 32 (.int .u8))]] sha_Sum_MM⟩

def pack_Join_L1_T : Tm := ⟨[(3, false, [.row 0]), (6, false, [.hole (.slc (.slc (.int .u8)))]), (7, false, [.hole (.int .i64)]), (8, false, [.hole (.int .i64)])], 17, [.row (.int .u8)]⟩
def pack_Join_L1_O : List (Ex × Tm) := [(.exit 0, ⟨[(3, false, [.row 0])], 17, [.row (.int .u8)]⟩)]
def pack_Join_L1 (s6 : List (List Int)) (s7 : Int) (s8 : Int) (r0 : List Int) : Option (((List (List Int)) × Int × Int × (List Int)) ⊕ (((List Int)))) :=
  if decide (s8 < s7) = true then
    Option.bind (ix s6 s8) fun (v0 : (List Int)) =>
    Option.bind (room (1 : Nat) (List.length r0 + List.length v0)) fun _ =>
    some (.inl (s6, s7, IntKind.wrap IntKind.i64 (s8 + (1 : Int)), r0 ++ v0))
  else
  some (.inr (r0))
def pack_Join_L1_P : (List (List Int)) × Int × Int × (List Int) → Option (((List (List Int)) × Int × Int × (List Int)) ⊕ (((List Int)))) := fun p => pack_Join_L1 p.1 p.2.1 p.2.2.1 p.2.2.2
def pack_Join_L1_MM : HL [(.slc (.slc (.int .u8))), (.int .i64), (.int .i64), (.slc (.int .u8))] → Option (HL [(.slc (.slc (.int .u8))), (.int .i64), (.int .i64), (.slc (.int .u8))] ⊕ SumL [[(.slc (.int .u8))]]) := fun p => pack_Join_L1 p.1 p.2.1 p.2.2.1 p.2.2.2
def pack_Join_L1_C : Con := ⟨0, pack_Join_L1_T, pack_Join_L1_O, stdCn [(.slc (.slc (.int .u8))), (.int .i64), (.int .i64), (.slc (.int .u8))] [[(.slc (.int .u8))]] (loop pack_Join_L1_MM)⟩
def pack_Join_T : Tm := ⟨[(0, false, [.hole (.slc (.slc (.int .u8)))])], 1, []⟩
def pack_Join_O : List (Ex × Tm) := [(.ret, ⟨[(0, false, [.row 0])], 1, [.row (.int .u8)]⟩)]
def pack_Join_M (s0 : List (List Int)) : Option ((List Int)) :=
  Option.bind (loop pack_Join_L1_P (s0, (((List.length s0) : Nat) : Int), (0 : Int), [])) fun (v0 : (List Int)) =>
  some (v0)
def pack_Join_P : (List (List Int)) → Option ((List Int)) := fun p => pack_Join_M p
def pack_Join_MM : HL [(.slc (.slc (.int .u8)))] → Option (SumL [[(.slc (.int .u8))]]) := fun p => pack_Join_M p
def pack_Join_C : Con := ⟨0, pack_Join_T, pack_Join_O, stdCn [(.slc (.slc (.int .u8)))] [[(.slc (.int .u8))]] pack_Join_MM⟩

def tree_Leaf_T : Tm := ⟨[(0, false, [.hole (.slc (.int .u8))])], 1, []⟩
def tree_Leaf_O : List (Ex × Tm) := [(.ret, ⟨[(0, true, [.hole (.arr 32 (.int .u8))])], 1, []⟩)]
def tree_Leaf_M (s0 : List Int) : Option ((Arr 32 Int)) :=
  Option.bind (pack_Join_P [[(0 : Int)], s0]) fun (v0 : (List Int)) =>
  Option.bind (sha_Sum_P v0) fun (v1 : (Arr (32 : Nat) Int)) =>
  some (v1)
def tree_Leaf_P : (List Int) → Option ((Arr 32 Int)) := fun p => tree_Leaf_M p
def tree_Leaf_MM : HL [(.slc (.int .u8))] → Option (SumL [[(.arr 32 (.int .u8))]]) := fun p => tree_Leaf_M p
def tree_Leaf_C : Con := ⟨0, tree_Leaf_T, tree_Leaf_O, stdCn [(.slc (.int .u8))] [[(.arr 32 (.int .u8))]] tree_Leaf_MM⟩

def tree_Node_T : Tm := ⟨[(0, true, [.hole (.arr 32 (.int .u8))]), (1, true, [.hole (.arr 32 (.int .u8))])], 2, []⟩
def tree_Node_O : List (Ex × Tm) := [(.ret, ⟨[(0, true, [.hole (.arr 32 (.int .u8))])], 1, []⟩)]
def tree_Node_M (s0 : Arr 32 Int) (s1 : Arr 32 Int) : Option ((Arr 32 Int)) :=
  Option.bind (subn (32 : Nat) (0 : Int) (32 : Int)) fun _ =>
  Option.bind (subn (32 : Nat) (0 : Int) (32 : Int)) fun _ =>
  Option.bind (pack_Join_P [[(1 : Int)], List.drop (nat_lit 0) (List.take (nat_lit 32) s0.val), List.drop (nat_lit 0) (List.take (nat_lit 32) s1.val)]) fun (v2 : (List Int)) =>
  Option.bind (sha_Sum_P v2) fun (v3 : (Arr (32 : Nat) Int)) =>
  some (v3)
def tree_Node_P : (Arr 32 Int) × (Arr 32 Int) → Option ((Arr 32 Int)) := fun p => tree_Node_M p.1 p.2
def tree_Node_MM : HL [(.arr 32 (.int .u8)), (.arr 32 (.int .u8))] → Option (SumL [[(.arr 32 (.int .u8))]]) := fun p => tree_Node_M p.1 p.2
def tree_Node_C : Con := ⟨0, tree_Node_T, tree_Node_O, stdCn [(.arr 32 (.int .u8)), (.arr 32 (.int .u8))] [[(.arr 32 (.int .u8))]] tree_Node_MM⟩

def tree_New_T : Tm := ⟨[], 0, []⟩
def tree_New_O : List (Ex × Tm) := [(.ret, ⟨[(0, false, [.ptr 0 0])], 1, [.box [.row 1, .hole (.int .i64), .hole .bool], .row (.pair (.int .i64) (.pair (.arr 32 (.int .u8)) .unit))]⟩)]
def tree_New_M  : Option (Int × Bool × (List (Int × (Arr 32 Int) × Unit))) :=
  some ((0 : Int), true, [])
def tree_New_P : Unit → Option (Int × Bool × (List (Int × (Arr 32 Int) × Unit))) := fun p => tree_New_M 
def tree_New_MM : HL [] → Option (SumL [[(.int .i64), .bool, (.slc (.pair (.int .i64) (.pair (.arr 32 (.int .u8)) .unit)))]]) := fun p => tree_New_M 
def tree_New_C : Con := ⟨0, tree_New_T, tree_New_O, stdCn [] [[(.int .i64), .bool, (.slc (.pair (.int .i64) (.pair (.arr 32 (.int .u8)) .unit)))]] tree_New_MM⟩

def tree_Builder_Len_n_T : Tm := ⟨[(0, false, [.nilp])], 1, []⟩
def tree_Builder_Len_n_O : List (Ex × Tm) := [(.ret, ⟨[(0, false, [.hole (.int .i64)])], 1, []⟩)]
def tree_Builder_Len_n_M  : Option (Int) :=
  some ((0 : Int))
def tree_Builder_Len_n_P : Unit → Option (Int) := fun p => tree_Builder_Len_n_M 
def tree_Builder_Len_n_MM : HL [] → Option (SumL [[(.int .i64)]]) := fun p => tree_Builder_Len_n_M 
def tree_Builder_Len_n_C : Con := ⟨0, tree_Builder_Len_n_T, tree_Builder_Len_n_O, stdCn [] [[(.int .i64)]] tree_Builder_Len_n_MM⟩

def tree_Builder_Len_T : Tm := ⟨[(0, false, [.ptr 0 0])], 1, [.box [.row 1, .hole (.int .i64), .hole .bool], .row (.pair (.int .i64) (.pair (.arr 32 (.int .u8)) .unit))]⟩
def tree_Builder_Len_O : List (Ex × Tm) := [(.ret, ⟨[(0, false, [.hole (.int .i64)])], 1, [.box [.row 1, .hole (.int .i64), .hole .bool], .row (.pair (.int .i64) (.pair (.arr 32 (.int .u8)) .unit))]⟩)]
def tree_Builder_Len_M (m0_0 : Int) (m0_1 : Bool) (r1 : List (Int × (Arr 32 Int) × Unit)) : Option (Int × Int × Bool × (List (Int × (Arr 32 Int) × Unit))) :=
  some (m0_0, m0_0, m0_1, r1)
def tree_Builder_Len_P : Int × Bool × (List (Int × (Arr 32 Int) × Unit)) → Option (Int × Int × Bool × (List (Int × (Arr 32 Int) × Unit))) := fun p => tree_Builder_Len_M p.1 p.2.1 p.2.2
def tree_Builder_Len_MM : HL [(.int .i64), .bool, (.slc (.pair (.int .i64) (.pair (.arr 32 (.int .u8)) .unit)))] → Option (SumL [[(.int .i64), (.int .i64), .bool, (.slc (.pair (.int .i64) (.pair (.arr 32 (.int .u8)) .unit)))]]) := fun p => tree_Builder_Len_M p.1 p.2.1 p.2.2
def tree_Builder_Len_C : Con := ⟨1, tree_Builder_Len_T, tree_Builder_Len_O, stdCn [(.int .i64), .bool, (.slc (.pair (.int .i64) (.pair (.arr 32 (.int .u8)) .unit)))] [[(.int .i64), (.int .i64), .bool, (.slc (.pair (.int .i64) (.pair (.arr 32 (.int .u8)) .unit)))]] tree_Builder_Len_MM⟩

def tree_none_T : Tm := ⟨[], 0, []⟩
def tree_none_O : List (Ex × Tm) := [(.ret, ⟨[(0, true, [.hole (.arr 32 (.int .u8))])], 1, []⟩)]
def tree_none_M  : Option ((Arr 32 Int)) :=
  Option.bind (sha_Sum_P [(2 : Int)]) fun (v0 : (Arr (32 : Nat) Int)) =>
  some (v0)
def tree_none_P : Unit → Option ((Arr 32 Int)) := fun p => tree_none_M 
def tree_none_MM : HL [] → Option (SumL [[(.arr 32 (.int .u8))]]) := fun p => tree_none_M 
def tree_none_C : Con := ⟨0, tree_none_T, tree_none_O, stdCn [] [[(.arr 32 (.int .u8))]] tree_none_MM⟩

def tree_Builder_Root_n_T : Tm := ⟨[(0, false, [.nilp])], 1, []⟩
def tree_Builder_Root_n_O : List (Ex × Tm) := [(.ret, ⟨[(0, true, [.hole (.arr 32 (.int .u8))])], 1, []⟩)]
def tree_Builder_Root_n_M  : Option ((Arr 32 Int)) :=
  Option.bind (tree_Builder_Len_n_P ()) fun (v0 : Int) =>
  if (v0 == (0 : Int)) = true then
    Option.bind (tree_none_P ()) fun (v1 : (Arr (32 : Nat) Int)) =>
    some (v1)
  else
  none -- STUCK after t10 nilCheck
def tree_Builder_Root_n_P : Unit → Option ((Arr 32 Int)) := fun p => tree_Builder_Root_n_M 
def tree_Builder_Root_n_MM : HL [] → Option (SumL [[(.arr 32 (.int .u8))]]) := fun p => tree_Builder_Root_n_M 
def tree_Builder_Root_n_C : Con := ⟨0, tree_Builder_Root_n_T, tree_Builder_Root_n_O, stdCn [] [[(.arr 32 (.int .u8))]] tree_Builder_Root_n_MM⟩

def tree_Builder_Root_L1_T : Tm := ⟨[(0, false, [.ptr 0 0]), (2, false, [.ptr 1 0]), (3, false, [.hole (.int .i64)]), (4, false, [.ptr 2 0])], 40, [.box [.row 3, .hole (.int .i64), .hole .bool], .box [.hole (.arr 32 (.int .u8))], .box [.hole (.arr 32 (.int .u8))], .row (.pair (.int .i64) (.pair (.arr 32 (.int .u8)) .unit))]⟩
def tree_Builder_Root_L1_O : List (Ex × Tm) := [(.exit 0, ⟨[(2, false, [.ptr 1 0]), (4, false, [.ptr 2 0])], 40, [.box [.row 3, .hole (.int .i64), .hole .bool], .box [.hole (.arr 32 (.int .u8))], .box [.hole (.arr 32 (.int .u8))], .row (.pair (.int .i64) (.pair (.arr 32 (.int .u8)) .unit))]⟩)]
def tree_Builder_Root_L1 (s3 : Int) (m0_0 : Int) (m0_1 : Bool) (m1 : Arr 32 Int) (m2 : Arr 32 Int) (r3 : List (Int × (Arr 32 Int) × Unit)) : Option ((Int × Int × Bool × (Arr 32 Int) × (Arr 32 Int) × (List (Int × (Arr 32 Int) × Unit))) ⊕ ((Int × Bool × (Arr 32 Int) × (Arr 32 Int) × (List (Int × (Arr 32 Int) × Unit))))) :=
  if decide (s3 ≥ (0 : Int)) = true then
    Option.bind (inb (List.length r3) s3) fun _ =>
    Option.bind (tree_Node_P ((List.getD r3 (Int.toNat s3) (Ty.zero (Ty.pair (Ty.int IntKind.i64) (Ty.pair (Ty.arr (32 : Nat) (Ty.int IntKind.u8)) Ty.unit)))).snd.fst, m2)) fun (v1 : (Arr (32 : Nat) Int)) =>
    some (.inl (IntKind.wrap IntKind.i64 (s3 - (1 : Int)), m0_0, m0_1, m1, v1, r3))
  else
  some (.inr (m0_0, m0_1, m1, m2, r3))
def tree_Builder_Root_L1_P : Int × Int × Bool × (Arr 32 Int) × (Arr 32 Int) × (List (Int × (Arr 32 Int) × Unit)) → Option ((Int × Int × Bool × (Arr 32 Int) × (Arr 32 Int) × (List (Int × (Arr 32 Int) × Unit))) ⊕ ((Int × Bool × (Arr 32 Int) × (Arr 32 Int) × (List (Int × (Arr 32 Int) × Unit))))) := fun p => tree_Builder_Root_L1 p.1 p.2.1 p.2.2.1 p.2.2.2.1 p.2.2.2.2.1 p.2.2.2.2.2
def tree_Builder_Root_L1_MM : HL [(.int .i64), (.int .i64), .bool, (.arr 32 (.int .u8)), (.arr 32 (.int .u8)), (.slc (.pair (.int .i64) (.pair (.arr 32 (.int .u8)) .unit)))] → Option (HL [(.int .i64), (.int .i64), .bool, (.arr 32 (.int .u8)), (.arr 32 (.int .u8)), (.slc (.pair (.int .i64) (.pair (.arr 32 (.int .u8)) .unit)))] ⊕ SumL [[(.int .i64), .bool, (.arr 32 (.int .u8)), (.arr 32 (.int .u8)), (.slc (.pair (.int .i64) (.pair (.arr 32 (.int .u8)) .unit)))]]) := fun p => tree_Builder_Root_L1 p.1 p.2.1 p.2.2.1 p.2.2.2.1 p.2.2.2.2.1 p.2.2.2.2.2
def tree_Builder_Root_L1_C : Con := ⟨3, tree_Builder_Root_L1_T, tree_Builder_Root_L1_O, stdCn [(.int .i64), (.int .i64), .bool, (.arr 32 (.int .u8)), (.arr 32 (.int .u8)), (.slc (.pair (.int .i64) (.pair (.arr 32 (.int .u8)) .unit)))] [[(.int .i64), .bool, (.arr 32 (.int .u8)), (.arr 32 (.int .u8)), (.slc (.pair (.int .i64) (.pair (.arr 32 (.int .u8)) .unit)))]] (loop tree_Builder_Root_L1_MM)⟩
def tree_Builder_Root_T : Tm := ⟨[(0, false, [.ptr 0 0])], 1, [.box [.row 1, .hole (.int .i64), .hole .bool], .row (.pair (.int .i64) (.pair (.arr 32 (.int .u8)) .unit))]⟩
def tree_Builder_Root_O : List (Ex × Tm) := [(.ret, ⟨[(0, true, [.hole (.arr 32 (.int .u8))])], 1, [.box [.row 1, .hole (.int .i64), .hole .bool], .row (.pair (.int .i64) (.pair (.arr 32 (.int .u8)) .unit))]⟩)]
def tree_Builder_Root_M (m0_0 : Int) (m0_1 : Bool) (r1 : List (Int × (Arr 32 Int) × Unit)) : Option ((Arr 32 Int) × Int × Bool × (List (Int × (Arr 32 Int) × Unit))) :=
  Option.bind (tree_Builder_Len_P (m0_0, m0_1, r1)) fun (v0 : (Int × (Int × (Bool × (List (Int × ((Arr (32 : Nat) Int) × Unit))))))) =>
  if (v0.fst == (0 : Int)) = true then
    Option.bind (tree_none_P ()) fun (v1 : (Arr (32 : Nat) Int)) =>
    some (v1, v0.snd.fst, v0.snd.snd.fst, v0.snd.snd.snd)
  else
  Option.bind (inb (List.length v0.snd.snd.snd) (IntKind.wrap IntKind.i64 ((((List.length v0.snd.snd.snd) : Nat) : Int) - (1 : Int)))) fun _ =>
  Option.bind (loop tree_Builder_Root_L1_P (IntKind.wrap IntKind.i64 (IntKind.wrap IntKind.i64 ((((List.length v0.snd.snd.snd) : Nat) : Int) - (1 : Int)) - (1 : Int)), v0.snd.fst, v0.snd.snd.fst, Arr.rep (32 : Nat) (0 : Int), (List.getD v0.snd.snd.snd (Int.toNat (IntKind.wrap IntKind.i64 ((((List.length v0.snd.snd.snd) : Nat) : Int) - (1 : Int)))) (Ty.zero (Ty.pair (Ty.int IntKind.i64) (Ty.pair (Ty.arr (32 : Nat) (Ty.int IntKind.u8)) Ty.unit)))).snd.fst, v0.snd.snd.snd)) fun (v3 : (Int × (Bool × ((Arr (32 : Nat) Int) × ((Arr (32 : Nat) Int) × (List (Int × ((Arr (32 : Nat) Int) × Unit)))))))) =>
  some (v3.snd.snd.snd.fst, v3.fst, v3.snd.fst, v3.snd.snd.snd.snd)
def tree_Builder_Root_P : Int × Bool × (List (Int × (Arr 32 Int) × Unit)) → Option ((Arr 32 Int) × Int × Bool × (List (Int × (Arr 32 Int) × Unit))) := fun p => tree_Builder_Root_M p.1 p.2.1 p.2.2
def tree_Builder_Root_MM : HL [(.int .i64), .bool, (.slc (.pair (.int .i64) (.pair (.arr 32 (.int .u8)) .unit)))] → Option (SumL [[(.arr 32 (.int .u8)), (.int .i64), .bool, (.slc (.pair (.int .i64) (.pair (.arr 32 (.int .u8)) .unit)))]]) := fun p => tree_Builder_Root_M p.1 p.2.1 p.2.2
def tree_Builder_Root_C : Con := ⟨1, tree_Builder_Root_T, tree_Builder_Root_O, stdCn [(.int .i64), .bool, (.slc (.pair (.int .i64) (.pair (.arr 32 (.int .u8)) .unit)))] [[(.arr 32 (.int .u8)), (.int .i64), .bool, (.slc (.pair (.int .i64) (.pair (.arr 32 (.int .u8)) .unit)))]] tree_Builder_Root_MM⟩

def tree_Builder_Add_n_T : Tm := ⟨[(0, false, [.nilp]), (1, false, [.hole (.slc (.int .u8))])], 2, []⟩
def tree_Builder_Add_n_O : List (Ex × Tm) := [(.ret, ⟨[], 0, []⟩)]
def tree_Builder_Add_n_M (s1 : List Int) : Option (Unit) :=
  some (())
def tree_Builder_Add_n_P : (List Int) → Option (Unit) := fun p => tree_Builder_Add_n_M p
def tree_Builder_Add_n_MM : HL [(.slc (.int .u8))] → Option (SumL [[]]) := fun p => tree_Builder_Add_n_M p
def tree_Builder_Add_n_C : Con := ⟨0, tree_Builder_Add_n_T, tree_Builder_Add_n_O, stdCn [(.slc (.int .u8))] [[]] tree_Builder_Add_n_MM⟩

def tree_Builder_Add_L1_T : Tm := ⟨[(0, false, [.ptr 0 0]), (4, false, [.ptr 1 0]), (5, false, [.hole (.int .i64)])], 82, [.box [.row 2, .hole (.int .i64), .hole .bool], .box [.hole (.int .i64), .hole (.arr 32 (.int .u8))], .row (.pair (.int .i64) (.pair (.arr 32 (.int .u8)) .unit))]⟩
def tree_Builder_Add_L1_O : List (Ex × Tm) := [(.exit 0, ⟨[(0, false, [.ptr 0 0]), (4, false, [.ptr 1 0])], 82, [.box [.row 2, .hole (.int .i64), .hole .bool], .box [.hole (.int .i64), .hole (.arr 32 (.int .u8))], .row (.pair (.int .i64) (.pair (.arr 32 (.int .u8)) .unit))]⟩)]
def tree_Builder_Add_L1 (s5 : Int) (m0_0 : Int) (m0_1 : Bool) (m1_0 : Int) (m1_1 : Arr 32 Int) (r2 : List (Int × (Arr 32 Int) × Unit)) : Option ((Int × Int × Bool × Int × (Arr 32 Int) × (List (Int × (Arr 32 Int) × Unit))) ⊕ ((Int × Bool × Int × (Arr 32 Int) × (List (Int × (Arr 32 Int) × Unit))))) :=
  if decide (s5 ≥ (0 : Int)) = true then
    Option.bind (inb (List.length r2) s5) fun _ =>
    if ((List.getD r2 (Int.toNat s5) (Ty.zero (Ty.pair (Ty.int IntKind.i64) (Ty.pair (Ty.arr (32 : Nat) (Ty.int IntKind.u8)) Ty.unit)))).fst == m1_0) = true then
      Option.bind (inb (List.length r2) s5) fun _ =>
      Option.bind (tree_Node_P ((List.getD r2 (Int.toNat s5) (Ty.zero (Ty.pair (Ty.int IntKind.i64) (Ty.pair (Ty.arr (32 : Nat) (Ty.int IntKind.u8)) Ty.unit)))).snd.fst, m1_1)) fun (v2 : (Arr (32 : Nat) Int)) =>
      Option.bind (subn (List.length r2) (0 : Int) s5) fun _ =>
      some (.inl (IntKind.wrap IntKind.i64 (s5 - (1 : Int)), m0_0, m0_1, IntKind.wrap IntKind.i64 ((2 : Int) * m1_0), v2, List.drop (nat_lit 0) (List.take (Int.toNat s5) r2)))
    else
    some (.inr (m0_0, m0_1, m1_0, m1_1, r2))
  else
  some (.inr (m0_0, m0_1, m1_0, m1_1, r2))
def tree_Builder_Add_L1_P : Int × Int × Bool × Int × (Arr 32 Int) × (List (Int × (Arr 32 Int) × Unit)) → Option ((Int × Int × Bool × Int × (Arr 32 Int) × (List (Int × (Arr 32 Int) × Unit))) ⊕ ((Int × Bool × Int × (Arr 32 Int) × (List (Int × (Arr 32 Int) × Unit))))) := fun p => tree_Builder_Add_L1 p.1 p.2.1 p.2.2.1 p.2.2.2.1 p.2.2.2.2.1 p.2.2.2.2.2
def tree_Builder_Add_L1_MM : HL [(.int .i64), (.int .i64), .bool, (.int .i64), (.arr 32 (.int .u8)), (.slc (.pair (.int .i64) (.pair (.arr 32 (.int .u8)) .unit)))] → Option (HL [(.int .i64), (.int .i64), .bool, (.int .i64), (.arr 32 (.int .u8)), (.slc (.pair (.int .i64) (.pair (.arr 32 (.int .u8)) .unit)))] ⊕ SumL [[(.int .i64), .bool, (.int .i64), (.arr 32 (.int .u8)), (.slc (.pair (.int .i64) (.pair (.arr 32 (.int .u8)) .unit)))]]) := fun p => tree_Builder_Add_L1 p.1 p.2.1 p.2.2.1 p.2.2.2.1 p.2.2.2.2.1 p.2.2.2.2.2
def tree_Builder_Add_L1_C : Con := ⟨2, tree_Builder_Add_L1_T, tree_Builder_Add_L1_O, stdCn [(.int .i64), (.int .i64), .bool, (.int .i64), (.arr 32 (.int .u8)), (.slc (.pair (.int .i64) (.pair (.arr 32 (.int .u8)) .unit)))] [[(.int .i64), .bool, (.int .i64), (.arr 32 (.int .u8)), (.slc (.pair (.int .i64) (.pair (.arr 32 (.int .u8)) .unit)))]] (loop tree_Builder_Add_L1_MM)⟩
def tree_Builder_Add_T : Tm := ⟨[(0, false, [.ptr 0 0]), (1, false, [.hole (.slc (.int .u8))])], 2, [.box [.row 1, .hole (.int .i64), .hole .bool], .row (.pair (.int .i64) (.pair (.arr 32 (.int .u8)) .unit))]⟩
def tree_Builder_Add_O : List (Ex × Tm) := [(.ret, ⟨[], 0, [.box [.row 1, .hole (.int .i64), .hole .bool], .row (.pair (.int .i64) (.pair (.arr 32 (.int .u8)) .unit))]⟩)]
def tree_Builder_Add_M (s1 : List Int) (m0_0 : Int) (m0_1 : Bool) (r1 : List (Int × (Arr 32 Int) × Unit)) : Option (Int × Bool × (List (Int × (Arr 32 Int) × Unit))) :=
  if (!m0_1) = true then
    some (m0_0, m0_1, r1)
  else
  Option.bind (tree_Leaf_P s1) fun (v0 : (Arr (32 : Nat) Int)) =>
  Option.bind (loop tree_Builder_Add_L1_P (IntKind.wrap IntKind.i64 ((((List.length r1) : Nat) : Int) - (1 : Int)), IntKind.wrap IntKind.i64 (m0_0 + (1 : Int)), m0_1, (1 : Int), v0, r1)) fun (v1 : (Int × (Bool × (Int × ((Arr (32 : Nat) Int) × (List (Int × ((Arr (32 : Nat) Int) × Unit)))))))) =>
  Option.bind (room (40 : Nat) (List.length v1.snd.snd.snd.snd + List.length [(v1.snd.snd.fst, v1.snd.snd.snd.fst, ())])) fun _ =>
  some (v1.fst, v1.snd.fst, v1.snd.snd.snd.snd ++ [(v1.snd.snd.fst, v1.snd.snd.snd.fst, ())])
def tree_Builder_Add_P : (List Int) × Int × Bool × (List (Int × (Arr 32 Int) × Unit)) → Option (Int × Bool × (List (Int × (Arr 32 Int) × Unit))) := fun p => tree_Builder_Add_M p.1 p.2.1 p.2.2.1 p.2.2.2
def tree_Builder_Add_MM : HL [(.slc (.int .u8)), (.int .i64), .bool, (.slc (.pair (.int .i64) (.pair (.arr 32 (.int .u8)) .unit)))] → Option (SumL [[(.int .i64), .bool, (.slc (.pair (.int .i64) (.pair (.arr 32 (.int .u8)) .unit)))]]) := fun p => tree_Builder_Add_M p.1 p.2.1 p.2.2.1 p.2.2.2
def tree_Builder_Add_C : Con := ⟨1, tree_Builder_Add_T, tree_Builder_Add_O, stdCn [(.slc (.int .u8)), (.int .i64), .bool, (.slc (.pair (.int .i64) (.pair (.arr 32 (.int .u8)) .unit)))] [[(.int .i64), .bool, (.slc (.pair (.int .i64) (.pair (.arr 32 (.int .u8)) .unit)))]] tree_Builder_Add_MM⟩

def tree_Root_L1_T : Tm := ⟨[(2, false, [.ptr 0 0]), (3, false, [.ptr 1 0]), (7, false, [.hole (.slc (.slc (.int .u8)))]), (8, false, [.hole (.int .i64)]), (9, false, [.hole (.int .i64)])], 19, [.box [.hole (.arr 32 (.int .u8))], .box [.row 2, .hole (.int .i64), .hole .bool], .row (.pair (.int .i64) (.pair (.arr 32 (.int .u8)) .unit))]⟩
def tree_Root_L1_O : List (Ex × Tm) := [(.exit 0, ⟨[(2, false, [.ptr 0 0]), (3, false, [.ptr 1 0])], 19, [.box [.hole (.arr 32 (.int .u8))], .box [.row 2, .hole (.int .i64), .hole .bool], .row (.pair (.int .i64) (.pair (.arr 32 (.int .u8)) .unit))]⟩)]
def tree_Root_L1 (s7 : List (List Int)) (s8 : Int) (s9 : Int) (m0 : Arr 32 Int) (m1_0 : Int) (m1_1 : Bool) (r2 : List (Int × (Arr 32 Int) × Unit)) : Option (((List (List Int)) × Int × Int × (Arr 32 Int) × Int × Bool × (List (Int × (Arr 32 Int) × Unit))) ⊕ (((Arr 32 Int) × Int × Bool × (List (Int × (Arr 32 Int) × Unit))))) :=
  if decide (s9 < s8) = true then
    Option.bind (ix s7 s9) fun (v0 : (List Int)) =>
    Option.bind (tree_Builder_Add_P (v0, m1_0, m1_1, r2)) fun (v1 : (Int × (Bool × (List (Int × ((Arr (32 : Nat) Int) × Unit)))))) =>
    some (.inl (s7, s8, IntKind.wrap IntKind.i64 (s9 + (1 : Int)), m0, v1.fst, v1.snd.fst, v1.snd.snd))
  else
  some (.inr (m0, m1_0, m1_1, r2))
def tree_Root_L1_P : (List (List Int)) × Int × Int × (Arr 32 Int) × Int × Bool × (List (Int × (Arr 32 Int) × Unit)) → Option (((List (List Int)) × Int × Int × (Arr 32 Int) × Int × Bool × (List (Int × (Arr 32 Int) × Unit))) ⊕ (((Arr 32 Int) × Int × Bool × (List (Int × (Arr 32 Int) × Unit))))) := fun p => tree_Root_L1 p.1 p.2.1 p.2.2.1 p.2.2.2.1 p.2.2.2.2.1 p.2.2.2.2.2.1 p.2.2.2.2.2.2
def tree_Root_L1_MM : HL [(.slc (.slc (.int .u8))), (.int .i64), (.int .i64), (.arr 32 (.int .u8)), (.int .i64), .bool, (.slc (.pair (.int .i64) (.pair (.arr 32 (.int .u8)) .unit)))] → Option (HL [(.slc (.slc (.int .u8))), (.int .i64), (.int .i64), (.arr 32 (.int .u8)), (.int .i64), .bool, (.slc (.pair (.int .i64) (.pair (.arr 32 (.int .u8)) .unit)))] ⊕ SumL [[(.arr 32 (.int .u8)), (.int .i64), .bool, (.slc (.pair (.int .i64) (.pair (.arr 32 (.int .u8)) .unit)))]]) := fun p => tree_Root_L1 p.1 p.2.1 p.2.2.1 p.2.2.2.1 p.2.2.2.2.1 p.2.2.2.2.2.1 p.2.2.2.2.2.2
def tree_Root_L1_C : Con := ⟨2, tree_Root_L1_T, tree_Root_L1_O, stdCn [(.slc (.slc (.int .u8))), (.int .i64), (.int .i64), (.arr 32 (.int .u8)), (.int .i64), .bool, (.slc (.pair (.int .i64) (.pair (.arr 32 (.int .u8)) .unit)))] [[(.arr 32 (.int .u8)), (.int .i64), .bool, (.slc (.pair (.int .i64) (.pair (.arr 32 (.int .u8)) .unit)))]] (loop tree_Root_L1_MM)⟩
def tree_Root_T : Tm := ⟨[(0, false, [.hole (.slc (.slc (.int .u8)))])], 1, []⟩
def tree_Root_O : List (Ex × Tm) := [(.ret, ⟨[(0, true, [.hole (.arr 32 (.int .u8))])], 1, []⟩)]
def tree_Root_M (s0 : List (List Int)) : Option ((Arr 32 Int)) :=
  Option.bind (tree_New_P ()) fun (v0 : (Int × (Bool × (List (Int × ((Arr (32 : Nat) Int) × Unit)))))) =>
  Option.bind (loop tree_Root_L1_P (s0, (((List.length s0) : Nat) : Int), (0 : Int), Arr.rep (32 : Nat) (0 : Int), v0.fst, v0.snd.fst, v0.snd.snd)) fun (v1 : ((Arr (32 : Nat) Int) × (Int × (Bool × (List (Int × ((Arr (32 : Nat) Int) × Unit))))))) =>
  Option.bind (tree_Builder_Root_P (v1.snd.fst, v1.snd.snd.fst, v1.snd.snd.snd)) fun (v2 : ((Arr (32 : Nat) Int) × (Int × (Bool × (List (Int × ((Arr (32 : Nat) Int) × Unit))))))) =>
  some (v2.fst)
def tree_Root_P : (List (List Int)) → Option ((Arr 32 Int)) := fun p => tree_Root_M p
def tree_Root_MM : HL [(.slc (.slc (.int .u8)))] → Option (SumL [[(.arr 32 (.int .u8))]]) := fun p => tree_Root_M p
def tree_Root_C : Con := ⟨0, tree_Root_T, tree_Root_O, stdCn [(.slc (.slc (.int .u8)))] [[(.arr 32 (.int .u8))]] tree_Root_MM⟩

def bits_Len32_T : Tm := ⟨[(0, false, [.hole (.int .u32)])], 1, []⟩
def bits_Len32_O : List (Ex × Tm) := [(.ret, ⟨[(0, false, [.hole (.int .i64)])], 1, []⟩)]
def bits_Len32_M (s0 : Int) : Option (Int) :=
  if decide (s0 ≥ (65536 : Int)) = true then
    Option.bind (gshr IntKind.u32 s0 (16 : Int)) fun (v0 : Int) =>
    if decide (v0 ≥ (256 : Int)) = true then
      Option.bind (gshr IntKind.u32 v0 (8 : Int)) fun (v1 : Int) =>
      Option.bind (ix [(0 : UInt8), (1 : UInt8), (2 : UInt8), (2 : UInt8), (3 : UInt8), (3 : UInt8), (3 : UInt8), (3 : UInt8), (4 : UInt8), (4 : UInt8), (4 : UInt8), (4 : UInt8), (4 : UInt8), (4 : UInt8), (4 : UInt8), (4 : UInt8), (5 : UInt8), (5 : UInt8), (5 : UInt8), (5 : UInt8), (5 : UInt8), (5 : UInt8), (5 : UInt8), (5 : UInt8), (5 : UInt8), (5 : UInt8), (5 : UInt8), (5 : UInt8), (5 : UInt8), (5 : UInt8), (5 : UInt8), (5 : UInt8), (6 : UInt8), (6 : UInt8), (6 : UInt8), (6 : UInt8), (6 : UInt8), (6 : UInt8), (6 : UInt8), (6 : UInt8), (6 : UInt8), (6 : UInt8), (6 : UInt8), (6 : UInt8), (6 : UInt8), (6 : UInt8), (6 : UInt8), (6 : UInt8), (6 : UInt8), (6 : UInt8), (6 : UInt8), (6 : UInt8), (6 : UInt8), (6 : UInt8), (6 : UInt8), (6 : UInt8), (6 : UInt8), (6 : UInt8), (6 : UInt8), (6 : UInt8), (6 : UInt8), (6 : UInt8), (6 : UInt8), (6 : UInt8), (7 : UInt8), (7 : UInt8), (7 : UInt8), (7 : UInt8), (7 : UInt8), (7 : UInt8), (7 : UInt8), (7 : UInt8), (7 : UInt8), (7 : UInt8), (7 : UInt8), (7 : UInt8), (7 : UInt8), (7 : UInt8), (7 : UInt8), (7 : UInt8), (7 : UInt8), (7 : UInt8), (7 : UInt8), (7 : UInt8), (7 : UInt8), (7 : UInt8), (7 : UInt8), (7 : UInt8), (7 : UInt8), (7 : UInt8), (7 : UInt8), (7 : UInt8), (7 : UInt8), (7 : UInt8), (7 : UInt8), (7 : UInt8), (7 : UInt8), (7 : UInt8), (7 : UInt8), (7 : UInt8), (7 : UInt8), (7 : UInt8), (7 : UInt8), (7 : UInt8), (7 : UInt8), (7 : UInt8), (7 : UInt8), (7 : UInt8), (7 : UInt8), (7 : UInt8), (7 : UInt8), (7 : UInt8), (7 : UInt8), (7 : UInt8), (7 : UInt8), (7 : UInt8), (7 : UInt8), (7 : UInt8), (7 : UInt8), (7 : UInt8), (7 : UInt8), (7 : UInt8), (7 : UInt8), (7 : UInt8), (7 : UInt8), (7 : UInt8), (7 : UInt8), (7 : UInt8), (8 : UInt8), (8 : UInt8), (8 : UInt8), (8 : UInt8), (8 : UInt8), (8 : UInt8), (8 : UInt8), (8 : UInt8), (8 : UInt8), (8 : UInt8), (8 : UInt8), (8 : UInt8), (8 : UInt8), (8 : UInt8), (8 : UInt8), (8 : UInt8), (8 : UInt8), (8 : UInt8), (8 : UInt8), (8 : UInt8), (8 : UInt8), (8 : UInt8), (8 : UInt8), (8 : UInt8), (8 : UInt8), (8 : UInt8), (8 : UInt8), (8 : UInt8), (8 : UInt8), (8 : UInt8), (8 : UInt8), (8 : UInt8), (8 : UInt8), (8 : UInt8), (8 : UInt8), (8 : UInt8), (8 : UInt8), (8 : UInt8), (8 : UInt8), (8 : UInt8), (8 : UInt8), (8 : UInt8), (8 : UInt8), (8 : UInt8), (8 : UInt8), (8 : UInt8), (8 : UInt8), (8 : UInt8), (8 : UInt8), (8 : UInt8), (8 : UInt8), (8 : UInt8), (8 : UInt8), (8 : UInt8), (8 : UInt8), (8 : UInt8), (8 : UInt8), (8 : UInt8), (8 : UInt8), (8 : UInt8), (8 : UInt8), (8 : UInt8), (8 : UInt8), (8 : UInt8), (8 : UInt8), (8 : UInt8), (8 : UInt8), (8 : UInt8), (8 : UInt8), (8 : UInt8), (8 : UInt8), (8 : UInt8), (8 : UInt8), (8 : UInt8), (8 : UInt8), (8 : UInt8), (8 : UInt8), (8 : UInt8), (8 : UInt8), (8 : UInt8), (8 : UInt8), (8 : UInt8), (8 : UInt8), (8 : UInt8), (8 : UInt8), (8 : UInt8), (8 : UInt8), (8 : UInt8), (8 : UInt8), (8 : UInt8), (8 : UInt8), (8 : UInt8), (8 : UInt8), (8 : UInt8), (8 : UInt8), (8 : UInt8), (8 : UInt8), (8 : UInt8), (8 : UInt8), (8 : UInt8), (8 : UInt8), (8 : UInt8), (8 : UInt8), (8 : UInt8), (8 : UInt8), (8 : UInt8), (8 : UInt8), (8 : UInt8), (8 : UInt8), (8 : UInt8), (8 : UInt8), (8 : UInt8), (8 : UInt8), (8 : UInt8), (8 : UInt8), (8 : UInt8), (8 : UInt8), (8 : UInt8), (8 : UInt8), (8 : UInt8), (8 : UInt8), (8 : UInt8), (8 : UInt8), (8 : UInt8), (8 : UInt8), (8 : UInt8), (8 : UInt8), (8 : UInt8)] (IntKind.wrap IntKind.u8 v1)) fun (v2 : UInt8) =>
      some (IntKind.wrap IntKind.i64 ((24 : Int) + IntKind.wrap IntKind.i64 (((UInt8.toNat v2) : Nat) : Int)))
    else
    Option.bind (ix [(0 : UInt8), (1 : UInt8), (2 : UInt8), (2 : UInt8), (3 : UInt8), (3 : UInt8), (3 : UInt8), (3 : UInt8), (4 : UInt8), (4 : UInt8), (4 : UInt8), (4 : UInt8), (4 : UInt8), (4 : UInt8), (4 : UInt8), (4 : UInt8), (5 : UInt8), (5 : UInt8), (5 : UInt8), (5 : UInt8), (5 : UInt8), (5 : UInt8), (5 : UInt8), (5 : UInt8), (5 : UInt8), (5 : UInt8), (5 : UInt8), (5 : UInt8), (5 : UInt8), (5 : UInt8), (5 : UInt8), (5 : UInt8), (6 : UInt8), (6 : UInt8), (6 : UInt8), (6 : UInt8), (6 : UInt8), (6 : UInt8), (6 : UInt8), (6 : UInt8), (6 : UInt8), (6 : UInt8), (6 : UInt8), (6 : UInt8), (6 : UInt8), (6 : UInt8), (6 : UInt8), (6 : UInt8), (6 : UInt8), (6 : UInt8), (6 : UInt8), (6 : UInt8), (6 : UInt8), (6 : UInt8), (6 : UInt8), (6 : UInt8), (6 : UInt8), (6 : UInt8), (6 : UInt8), (6 : UInt8), (6 : UInt8), (6 : UInt8), (6 : UInt8), (6 : UInt8), (7 : UInt8), (7 : UInt8), (7 : UInt8), (7 : UInt8), (7 : UInt8), (7 : UInt8), (7 : UInt8), (7 : UInt8), (7 : UInt8), (7 : UInt8), (7 : UInt8), (7 : UInt8), (7 : UInt8), (7 : UInt8), (7 : UInt8), (7 : UInt8), (7 : UInt8), (7 : UInt8), (7 : UInt8), (7 : UInt8), (7 : UInt8), (7 : UInt8), (7 : UInt8), (7 : UInt8), (7 : UInt8), (7 : UInt8), (7 : UInt8), (7 : UInt8), (7 : UInt8), (7 : UInt8), (7 : UInt8), (7 : UInt8), (7 : UInt8), (7 : UInt8), (7 : UInt8), (7 : UInt8), (7 : UInt8), (7 : UInt8), (7 : UInt8), (7 : UInt8), (7 : UInt8), (7 : UInt8), (7 : UInt8), (7 : UInt8), (7 : UInt8), (7 : UInt8), (7 : UInt8), (7 : UInt8), (7 : UInt8), (7 : UInt8), (7 : UInt8), (7 : UInt8), (7 : UInt8), (7 : UInt8), (7 : UInt8), (7 : UInt8), (7 : UInt8), (7 : UInt8), (7 : UInt8), (7 : UInt8), (7 : UInt8), (7 : UInt8), (7 : UInt8), (7 : UInt8), (8 : UInt8), (8 : UInt8), (8 : UInt8), (8 : UInt8), (8 : UInt8), (8 : UInt8), (8 : UInt8), (8 : UInt8), (8 : UInt8), (8 : UInt8), (8 : UInt8), (8 : UInt8), (8 : UInt8), (8 : UInt8), (8 : UInt8), (8 : UInt8), (8 : UInt8), (8 : UInt8), (8 : UInt8), (8 : UInt8), (8 : UInt8), (8 : UInt8), (8 : UInt8), (8 : UInt8), (8 : UInt8), (8 : UInt8), (8 : UInt8), (8 : UInt8), (8 : UInt8), (8 : UInt8), (8 : UInt8), (8 : UInt8), (8 : UInt8), (8 : UInt8), (8 : UInt8), (8 : UInt8), (8 : UInt8), (8 : UInt8), (8 : UInt8), (8 : UInt8), (8 : UInt8), (8 : UInt8), (8 : UInt8), (8 : UInt8), (8 : UInt8), (8 : UInt8), (8 : UInt8), (8 : UInt8), (8 : UInt8), (8 : UInt8), (8 : UInt8), (8 : UInt8), (8 : UInt8), (8 : UInt8), (8 : UInt8), (8 : UInt8), (8 : UInt8), (8 : UInt8), (8 : UInt8), (8 : UInt8), (8 : UInt8), (8 : UInt8), (8 : UInt8), (8 : UInt8), (8 : UInt8), (8 : UInt8), (8 : UInt8), (8 : UInt8), (8 : UInt8), (8 : UInt8), (8 : UInt8), (8 : UInt8), (8 : UInt8), (8 : UInt8), (8 : UInt8), (8 : UInt8), (8 : UInt8), (8 : UInt8), (8 : UInt8), (8 : UInt8), (8 : UInt8), (8 : UInt8), (8 : UInt8), (8 : UInt8), (8 : UInt8), (8 : UInt8), (8 : UInt8), (8 : UInt8), (8 : UInt8), (8 : UInt8), (8 : UInt8), (8 : UInt8), (8 : UInt8), (8 : UInt8), (8 : UInt8), (8 : UInt8), (8 : UInt8), (8 : UInt8), (8 : UInt8), (8 : UInt8), (8 : UInt8), (8 : UInt8), (8 : UInt8), (8 : UInt8), (8 : UInt8), (8 : UInt8), (8 : UInt8), (8 : UInt8), (8 : UInt8), (8 : UInt8), (8 : UInt8), (8 : UInt8), (8 : UInt8), (8 : UInt8), (8 : UInt8), (8 : UInt8), (8 : UInt8), (8 : UInt8), (8 : UInt8), (8 : UInt8), (8 : UInt8), (8 : UInt8), (8 : UInt8), (8 : UInt8), (8 : UInt8), (8 : UInt8), (8 : UInt8), (8 : UInt8)] (IntKind.wrap IntKind.u8 v0)) fun (v3 : UInt8) =>
    some (IntKind.wrap IntKind.i64 ((16 : Int) + IntKind.wrap IntKind.i64 (((UInt8.toNat v3) : Nat) : Int)))
  else
  if decide (s0 ≥ (256 : Int)) = true then
    Option.bind (gshr IntKind.u32 s0 (8 : Int)) fun (v4 : Int) =>
    Option.bind (ix [(0 : UInt8), (1 : UInt8), (2 : UInt8), (2 : UInt8), (3 : UInt8), (3 : UInt8), (3 : UInt8), (3 : UInt8), (4 : UInt8), (4 : UInt8), (4 : UInt8), (4 : UInt8), (4 : UInt8), (4 : UInt8), (4 : UInt8), (4 : UInt8), (5 : UInt8), (5 : UInt8), (5 : UInt8), (5 : UInt8), (5 : UInt8), (5 : UInt8), (5 : UInt8), (5 : UInt8), (5 : UInt8), (5 : UInt8), (5 : UInt8), (5 : UInt8), (5 : UInt8), (5 : UInt8), (5 : UInt8), (5 : UInt8), (6 : UInt8), (6 : UInt8), (6 : UInt8), (6 : UInt8), (6 : UInt8), (6 : UInt8), (6 : UInt8), (6 : UInt8), (6 : UInt8), (6 : UInt8), (6 : UInt8), (6 : UInt8), (6 : UInt8), (6 : UInt8), (6 : UInt8), (6 : UInt8), (6 : UInt8), (6 : UInt8), (6 : UInt8), (6 : UInt8), (6 : UInt8), (6 : UInt8), (6 : UInt8), (6 : UInt8), (6 : UInt8), (6 : UInt8), (6 : UInt8), (6 : UInt8), (6 : UInt8), (6 : UInt8), (6 : UInt8), (6 : UInt8), (7 : UInt8), (7 : UInt8), (7 : UInt8), (7 : UInt8), (7 : UInt8), (7 : UInt8), (7 : UInt8), (7 : UInt8), (7 : UInt8), (7 : UInt8), (7 : UInt8), (7 : UInt8), (7 : UInt8), (7 : UInt8), (7 : UInt8), (7 : UInt8), (7 : UInt8), (7 : UInt8), (7 : UInt8), (7 : UInt8), (7 : UInt8), (7 : UInt8), (7 : UInt8), (7 : UInt8), (7 : UInt8), (7 : UInt8), (7 : UInt8), (7 : UInt8), (7 : UInt8), (7 : UInt8), (7 : UInt8), (7 : UInt8), (7 : UInt8), (7 : UInt8), (7 : UInt8), (7 : UInt8), (7 : UInt8), (7 : UInt8), (7 : UInt8), (7 : UInt8), (7 : UInt8), (7 : UInt8), (7 : UInt8), (7 : UInt8), (7 : UInt8), (7 : UInt8), (7 : UInt8), (7 : UInt8), (7 : UInt8), (7 : UInt8), (7 : UInt8), (7 : UInt8), (7 : UInt8), (7 : UInt8), (7 : UInt8), (7 : UInt8), (7 : UInt8), (7 : UInt8), (7 : UInt8), (7 : UInt8), (7 : UInt8), (7 : UInt8), (7 : UInt8), (7 : UInt8), (8 : UInt8), (8 : UInt8), (8 : UInt8), (8 : UInt8), (8 : UInt8), (8 : UInt8), (8 : UInt8), (8 : UInt8), (8 : UInt8), (8 : UInt8), (8 : UInt8), (8 : UInt8), (8 : UInt8), (8 : UInt8), (8 : UInt8), (8 : UInt8), (8 : UInt8), (8 : UInt8), (8 : UInt8), (8 : UInt8), (8 : UInt8), (8 : UInt8), (8 : UInt8), (8 : UInt8), (8 : UInt8), (8 : UInt8), (8 : UInt8), (8 : UInt8), (8 : UInt8), (8 : UInt8), (8 : UInt8), (8 : UInt8), (8 : UInt8), (8 : UInt8), (8 : UInt8), (8 : UInt8), (8 : UInt8), (8 : UInt8), (8 : UInt8), (8 : UInt8), (8 : UInt8), (8 : UInt8), (8 : UInt8), (8 : UInt8), (8 : UInt8), (8 : UInt8), (8 : UInt8), (8 : UInt8), (8 : UInt8), (8 : UInt8), (8 : UInt8), (8 : UInt8), (8 : UInt8), (8 : UInt8), (8 : UInt8), (8 : UInt8), (8 : UInt8), (8 : UInt8), (8 : UInt8), (8 : UInt8), (8 : UInt8), (8 : UInt8), (8 : UInt8), (8 : UInt8), (8 : UInt8), (8 : UInt8), (8 : UInt8), (8 : UInt8), (8 : UInt8), (8 : UInt8), (8 : UInt8), (8 : UInt8), (8 : UInt8), (8 : UInt8), (8 : UInt8), (8 : UInt8), (8 : UInt8), (8 : UInt8), (8 : UInt8), (8 : UInt8), (8 : UInt8), (8 : UInt8), (8 : UInt8), (8 : UInt8), (8 : UInt8), (8 : UInt8), (8 : UInt8), (8 : UInt8), (8 : UInt8), (8 : UInt8), (8 : UInt8), (8 : UInt8), (8 : UInt8), (8 : UInt8), (8 : UInt8), (8 : UInt8), (8 : UInt8), (8 : UInt8), (8 : UInt8), (8 : UInt8), (8 : UInt8), (8 : UInt8), (8 : UInt8), (8 : UInt8), (8 : UInt8), (8 : UInt8), (8 : UInt8), (8 : UInt8), (8 : UInt8), (8 : UInt8), (8 : UInt8), (8 : UInt8), (8 : UInt8), (8 : UInt8), (8 : UInt8), (8 : UInt8), (8 : UInt8), (8 : UInt8), (8 : UInt8), (8 : UInt8), (8 : UInt8), (8 : UInt8), (8 : UInt8), (8 : UInt8), (8 : UInt8), (8 : UInt8), (8 : UInt8), (8 : UInt8)] (IntKind.wrap IntKind.u8 v4)) fun (v5 : UInt8) =>
    some (IntKind.wrap IntKind.i64 ((8 : Int) + IntKind.wrap IntKind.i64 (((UInt8.toNat v5) : Nat) : Int)))
  else
  Option.bind (ix [(0 : UInt8), (1 : UInt8), (2 : UInt8), (2 : UInt8), (3 : UInt8), (3 : UInt8), (3 : UInt8), (3 : UInt8), (4 : UInt8), (4 : UInt8), (4 : UInt8), (4 : UInt8), (4 : UInt8), (4 : UInt8), (4 : UInt8), (4 : UInt8), (5 : UInt8), (5 : UInt8), (5 : UInt8), (5 : UInt8), (5 : UInt8), (5 : UInt8), (5 : UInt8), (5 : UInt8), (5 : UInt8), (5 : UInt8), (5 : UInt8), (5 : UInt8), (5 : UInt8), (5 : UInt8), (5 : UInt8), (5 : UInt8), (6 : UInt8), (6 : UInt8), (6 : UInt8), (6 : UInt8), (6 : UInt8), (6 : UInt8), (6 : UInt8), (6 : UInt8), (6 : UInt8), (6 : UInt8), (6 : UInt8), (6 : UInt8), (6 : UInt8), (6 : UInt8), (6 : UInt8), (6 : UInt8), (6 : UInt8), (6 : UInt8), (6 : UInt8), (6 : UInt8), (6 : UInt8), (6 : UInt8), (6 : UInt8), (6 : UInt8), (6 : UInt8), (6 : UInt8), (6 : UInt8), (6 : UInt8), (6 : UInt8), (6 : UInt8), (6 : UInt8), (6 : UInt8), (7 : UInt8), (7 : UInt8), (7 : UInt8), (7 : UInt8), (7 : UInt8), (7 : UInt8), (7 : UInt8), (7 : UInt8), (7 : UInt8), (7 : UInt8), (7 : UInt8), (7 : UInt8), (7 : UInt8), (7 : UInt8), (7 : UInt8), (7 : UInt8), (7 : UInt8), (7 : UInt8), (7 : UInt8), (7 : UInt8), (7 : UInt8), (7 : UInt8), (7 : UInt8), (7 : UInt8), (7 : UInt8), (7 : UInt8), (7 : UInt8), (7 : UInt8), (7 : UInt8), (7 : UInt8), (7 : UInt8), (7 : UInt8), (7 : UInt8), (7 : UInt8), (7 : UInt8), (7 : UInt8), (7 : UInt8), (7 : UInt8), (7 : UInt8), (7 : UInt8), (7 : UInt8), (7 : UInt8), (7 : UInt8), (7 : UInt8), (7 : UInt8), (7 : UInt8), (7 : UInt8), (7 : UInt8), (7 : UInt8), (7 : UInt8), (7 : UInt8), (7 : UInt8), (7 : UInt8), (7 : UInt8), (7 : UInt8), (7 : UInt8), (7 : UInt8), (7 : UInt8), (7 : UInt8), (7 : UInt8), (7 : UInt8), (7 : UInt8), (7 : UInt8), (7 : UInt8), (8 : UInt8), (8 : UInt8), (8 : UInt8), (8 : UInt8), (8 : UInt8), (8 : UInt8), (8 : UInt8), (8 : UInt8), (8 : UInt8), (8 : UInt8), (8 : UInt8), (8 : UInt8), (8 : UInt8), (8 : UInt8), (8 : UInt8), (8 : UInt8), (8 : UInt8), (8 : UInt8), (8 : UInt8), (8 : UInt8), (8 : UInt8), (8 : UInt8), (8 : UInt8), (8 : UInt8), (8 : UInt8), (8 : UInt8), (8 : UInt8), (8 : UInt8), (8 : UInt8), (8 : UInt8), (8 : UInt8), (8 : UInt8), (8 : UInt8), (8 : UInt8), (8 : UInt8), (8 : UInt8), (8 : UInt8), (8 : UInt8), (8 : UInt8), (8 : UInt8), (8 : UInt8), (8 : UInt8), (8 : UInt8), (8 : UInt8), (8 : UInt8), (8 : UInt8), (8 : UInt8), (8 : UInt8), (8 : UInt8), (8 : UInt8), (8 : UInt8), (8 : UInt8), (8 : UInt8), (8 : UInt8), (8 : UInt8), (8 : UInt8), (8 : UInt8), (8 : UInt8), (8 : UInt8), (8 : UInt8), (8 : UInt8), (8 : UInt8), (8 : UInt8), (8 : UInt8), (8 : UInt8), (8 : UInt8), (8 : UInt8), (8 : UInt8), (8 : UInt8), (8 : UInt8), (8 : UInt8), (8 : UInt8), (8 : UInt8), (8 : UInt8), (8 : UInt8), (8 : UInt8), (8 : UInt8), (8 : UInt8), (8 : UInt8), (8 : UInt8), (8 : UInt8), (8 : UInt8), (8 : UInt8), (8 : UInt8), (8 : UInt8), (8 : UInt8), (8 : UInt8), (8 : UInt8), (8 : UInt8), (8 : UInt8), (8 : UInt8), (8 : UInt8), (8 : UInt8), (8 : UInt8), (8 : UInt8), (8 : UInt8), (8 : UInt8), (8 : UInt8), (8 : UInt8), (8 : UInt8), (8 : UInt8), (8 : UInt8), (8 : UInt8), (8 : UInt8), (8 : UInt8), (8 : UInt8), (8 : UInt8), (8 : UInt8), (8 : UInt8), (8 : UInt8), (8 : UInt8), (8 : UInt8), (8 : UInt8), (8 : UInt8), (8 : UInt8), (8 : UInt8), (8 : UInt8), (8 : UInt8), (8 : UInt8), (8 : UInt8), (8 : UInt8), (8 : UInt8), (8 : UInt8), (8 : UInt8), (8 : UInt8), (8 : UInt8), (8 : UInt8), (8 : UInt8)] (IntKind.wrap IntKind.u8 s0)) fun (v6 : UInt8) =>
  some (IntKind.wrap IntKind.i64 ((0 : Int) + IntKind.wrap IntKind.i64 (((UInt8.toNat v6) : Nat) : Int)))
def bits_Len32_P : Int → Option (Int) := fun p => bits_Len32_M p
def bits_Len32_MM : HL [(.int .u32)] → Option (SumL [[(.int .i64)]]) := fun p => bits_Len32_M p
def bits_Len32_C : Con := ⟨0, bits_Len32_T, bits_Len32_O, stdCn [(.int .u32)] [[(.int .i64)]] bits_Len32_MM⟩

def bits_Len64_T : Tm := ⟨[(0, false, [.hole (.int .u64)])], 1, []⟩
def bits_Len64_O : List (Ex × Tm) := [(.ret, ⟨[(0, false, [.hole (.int .i64)])], 1, []⟩)]
def bits_Len64_M (s0 : Int) : Option (Int) :=
  if decide (s0 ≥ (4294967296 : Int)) = true then
    Option.bind (gshr IntKind.u64 s0 (32 : Int)) fun (v0 : Int) =>
    if decide (v0 ≥ (65536 : Int)) = true then
      Option.bind (gshr IntKind.u64 v0 (16 : Int)) fun (v1 : Int) =>
      if decide (v1 ≥ (256 : Int)) = true then
        Option.bind (gshr IntKind.u64 v1 (8 : Int)) fun (v2 : Int) =>
        Option.bind (ix [(0 : UInt8), (1 : UInt8), (2 : UInt8), (2 : UInt8), (3 : UInt8), (3 : UInt8), (3 : UInt8), (3 : UInt8), (4 : UInt8), (4 : UInt8), (4 : UInt8), (4 : UInt8), (4 : UInt8), (4 : UInt8), (4 : UInt8), (4 : UInt8), (5 : UInt8), (5 : UInt8), (5 : UInt8), (5 : UInt8), (5 : UInt8), (5 : UInt8), (5 : UInt8), (5 : UInt8), (5 : UInt8), (5 : UInt8), (5 : UInt8), (5 : UInt8), (5 : UInt8), (5 : UInt8), (5 : UInt8), (5 : UInt8), (6 : UInt8), (6 : UInt8), (6 : UInt8), (6 : UInt8), (6 : UInt8), (6 : UInt8), (6 : UInt8), (6 : UInt8), (6 : UInt8), (6 : UInt8), (6 : UInt8), (6 : UInt8), (6 : UInt8), (6 : UInt8), (6 : UInt8), (6 : UInt8), (6 : UInt8), (6 : UInt8), (6 : UInt8), (6 : UInt8), (6 : UInt8), (6 : UInt8), (6 : UInt8), (6 : UInt8), (6 : UInt8), (6 : UInt8), (6 : UInt8), (6 : UInt8), (6 : UInt8), (6 : UInt8), (6 : UInt8), (6 : UInt8), (7 : UInt8), (7 : UInt8), (7 : UInt8), (7 : UInt8), (7 : UInt8), (7 : UInt8), (7 : UInt8), (7 : UInt8), (7 : UInt8), (7 : UInt8), (7 : UInt8), (7 : UInt8), (7 : UInt8), (7 : UInt8), (7 : UInt8), (7 : UInt8), (7 : UInt8), (7 : UInt8), (7 : UInt8), (7 : UInt8), (7 : UInt8), (7 : UInt8), (7 : UInt8), (7 : UInt8), (7 : UInt8), (7 : UInt8), (7 : UInt8), (7 : UInt8), (7 : UInt8), (7 : UInt8), (7 : UInt8), (7 : UInt8), (7 : UInt8), (7 : UInt8), (7 : UInt8), (7 : UInt8), (7 : UInt8), (7 : UInt8), (7 : UInt8), (7 : UInt8), (7 : UInt8), (7 : UInt8), (7 : UInt8), (7 : UInt8), (7 : UInt8), (7 : UInt8), (7 : UInt8), (7 : UInt8), (7 : UInt8), (7 : UInt8), (7 : UInt8), (7 : UInt8), (7 : UInt8), (7 : UInt8), (7 : UInt8), (7 : UInt8), (7 : UInt8), (7 : UInt8), (7 : UInt8), (7 : UInt8), (7 : UInt8), (7 : UInt8), (7 : UInt8), (7 : UInt8), (8 : UInt8), (8 : UInt8), (8 : UInt8), (8 : UInt8), (8 : UInt8), (8 : UInt8), (8 : UInt8), (8 : UInt8), (8 : UInt8), (8 : UInt8), (8 : UInt8), (8 : UInt8), (8 : UInt8), (8 : UInt8), (8 : UInt8), (8 : UInt8), (8 : UInt8), (8 : UInt8), (8 : UInt8), (8 : UInt8), (8 : UInt8), (8 : UInt8), (8 : UInt8), (8 : UInt8), (8 : UInt8), (8 : UInt8), (8 : UInt8), (8 : UInt8), (8 : UInt8), (8 : UInt8), (8 : UInt8), (8 : UInt8), (8 : UInt8), (8 : UInt8), (8 : UInt8), (8 : UInt8), (8 : UInt8), (8 : UInt8), (8 : UInt8), (8 : UInt8), (8 : UInt8), (8 : UInt8), (8 : UInt8), (8 : UInt8), (8 : UInt8), (8 : UInt8), (8 : UInt8), (8 : UInt8), (8 : UInt8), (8 : UInt8), (8 : UInt8), (8 : UInt8), (8 : UInt8), (8 : UInt8), (8 : UInt8), (8 : UInt8), (8 : UInt8), (8 : UInt8), (8 : UInt8), (8 : UInt8), (8 : UInt8), (8 : UInt8), (8 : UInt8), (8 : UInt8), (8 : UInt8), (8 : UInt8), (8 : UInt8), (8 : UInt8), (8 : UInt8), (8 : UInt8), (8 : UInt8), (8 : UInt8), (8 : UInt8), (8 : UInt8), (8 : UInt8), (8 : UInt8), (8 : UInt8), (8 : UInt8), (8 : UInt8), (8 : UInt8), (8 : UInt8), (8 : UInt8), (8 : UInt8), (8 : UInt8), (8 : UInt8), (8 : UInt8), (8 : UInt8), (8 : UInt8), (8 : UInt8), (8 : UInt8), (8 : UInt8), (8 : UInt8), (8 : UInt8), (8 : UInt8), (8 : UInt8), (8 : UInt8), (8 : UInt8), (8 : UInt8), (8 : UInt8), (8 : UInt8), (8 : UInt8), (8 : UInt8), (8 : UInt8), (8 : UInt8), (8 : UInt8), (8 : UInt8), (8 : UInt8), (8 : UInt8), (8 : UInt8), (8 : UInt8), (8 : UInt8), (8 : UInt8), (8 : UInt8), (8 : UInt8), (8 : UInt8), (8 : UInt8), (8 : UInt8), (8 : UInt8), (8 : UInt8), (8 : UInt8), (8 : UInt8), (8 : UInt8), (8 : UInt8), (8 : UInt8), (8 : UInt8), (8 : UInt8), (8 : UInt8), (8 : UInt8)] (IntKind.wrap IntKind.u8 v2)) fun (v3 : UInt8) =>
        some (IntKind.wrap IntKind.i64 ((56 : Int) + IntKind.wrap IntKind.i64 (((UInt8.toNat v3) : Nat) : Int)))
      else
      Option.bind (ix [(0 : UInt8), (1 : UInt8), (2 : UInt8), (2 : UInt8), (3 : UInt8), (3 : UInt8), (3 : UInt8), (3 : UInt8), (4 : UInt8), (4 : UInt8), (4 : UInt8), (4 : UInt8), (4 : UInt8), (4 : UInt8), (4 : UInt8), (4 : UInt8), (5 : UInt8), (5 : UInt8), (5 : UInt8), (5 : UInt8), (5 : UInt8), (5 : UInt8), (5 : UInt8), (5 : UInt8), (5 : UInt8), (5 : UInt8), (5 : UInt8), (5 : UInt8), (5 : UInt8), (5 : UInt8), (5 : UInt8), (5 : UInt8), (6 : UInt8), (6 : UInt8), (6 : UInt8), (6 : UInt8), (6 : UInt8), (6 : UInt8), (6 : UInt8), (6 : UInt8), (6 : UInt8), (6 : UInt8), (6 : UInt8), (6 : UInt8), (6 : UInt8), (6 : UInt8), (6 : UInt8), (6 : UInt8), (6 : UInt8), (6 : UInt8), (6 : UInt8), (6 : UInt8), (6 : UInt8), (6 : UInt8), (6 : UInt8), (6 : UInt8), (6 : UInt8), (6 : UInt8), (6 : UInt8), (6 : UInt8), (6 : UInt8), (6 : UInt8), (6 : UInt8), (6 : UInt8), (7 : UInt8), (7 : UInt8), (7 : UInt8), (7 : UInt8), (7 : UInt8), (7 : UInt8), (7 : UInt8), (7 : UInt8), (7 : UInt8), (7 : UInt8), (7 : UInt8), (7 : UInt8), (7 : UInt8), (7 : UInt8), (7 : UInt8), (7 : UInt8), (7 : UInt8), (7 : UInt8), (7 : UInt8), (7 : UInt8), (7 : UInt8), (7 : UInt8), (7 : UInt8), (7 : UInt8), (7 : UInt8), (7 : UInt8), (7 : UInt8), (7 : UInt8), (7 : UInt8), (7 : UInt8), (7 : UInt8), (7 : UInt8), (7 : UInt8), (7 : UInt8), (7 : UInt8), (7 : UInt8), (7 : UInt8), (7 : UInt8), (7 : UInt8), (7 : UInt8), (7 : UInt8), (7 : UInt8), (7 : UInt8), (7 : UInt8), (7 : UInt8), (7 : UInt8), (7 : UInt8), (7 : UInt8), (7 : UInt8), (7 : UInt8), (7 : UInt8), (7 : UInt8), (7 : UInt8), (7 : UInt8), (7 : UInt8), (7 : UInt8), (7 : UInt8), (7 : UInt8), (7 : UInt8), (7 : UInt8), (7 : UInt8), (7 : UInt8), (7 : UInt8), (7 : UInt8), (8 : UInt8), (8 : UInt8), (8 : UInt8), (8 : UInt8), (8 : UInt8), (8 : UInt8), (8 : UInt8), (8 : UInt8), (8 : UInt8), (8 : UInt8), (8 : UInt8), (8 : UInt8), (8 : UInt8), (8 : UInt8), (8 : UInt8), (8 : UInt8), (8 : UInt8), (8 : UInt8), (8 : UInt8), (8 : UInt8), (8 : UInt8), (8 : UInt8), (8 : UInt8), (8 : UInt8), (8 : UInt8), (8 : UInt8), (8 : UInt8), (8 : UInt8), (8 : UInt8), (8 : UInt8), (8 : UInt8), (8 : UInt8), (8 : UInt8), (8 : UInt8), (8 : UInt8), (8 : UInt8), (8 : UInt8), (8 : UInt8), (8 : UInt8), (8 : UInt8), (8 : UInt8), (8 : UInt8), (8 : UInt8), (8 : UInt8), (8 : UInt8), (8 : UInt8), (8 : UInt8), (8 : UInt8), (8 : UInt8), (8 : UInt8), (8 : UInt8), (8 : UInt8), (8 : UInt8), (8 : UInt8), (8 : UInt8), (8 : UInt8), (8 : UInt8), (8 : UInt8), (8 : UInt8), (8 : UInt8), (8 : UInt8), (8 : UInt8), (8 : UInt8), (8 : UInt8), (8 : UInt8), (8 : UInt8), (8 : UInt8), (8 : UInt8), (8 : UInt8), (8 : UInt8), (8 : UInt8), (8 : UInt8), (8 : UInt8), (8 : UInt8), (8 : UInt8), (8 : UInt8), (8 : UInt8), (8 : UInt8), (8 : UInt8), (8 : UInt8), (8 : UInt8), (8 : UInt8), (8 : UInt8), (8 : UInt8), (8 : UInt8), (8 : UInt8), (8 : UInt8), (8 : UInt8), (8 : UInt8), (8 : UInt8), (8 : UInt8), (8 : UInt8), (8 : UInt8), (8 : UInt8), (8 : UInt8), (8 : UInt8), (8 : UInt8), (8 : UInt8), (8 : UInt8), (8 : UInt8), (8 : UInt8), (8 : UInt8), (8 : UInt8), (8 : UInt8), (8 : UInt8), (8 : UInt8), (8 : UInt8), (8 : UInt8), (8 : UInt8), (8 : UInt8), (8 : UInt8), (8 : UInt8), (8 : UInt8), (8 : UInt8), (8 : UInt8), (8 : UInt8), (8 : UInt8), (8 : UInt8), (8 : UInt8), (8 : UInt8), (8 : UInt8), (8 : UInt8), (8 : UInt8), (8 : UInt8), (8 : UInt8), (8 : UInt8), (8 : UInt8), (8 : UInt8)] (IntKind.wrap IntKind.u8 v1)) fun (v4 : UInt8) =>
      some (IntKind.wrap IntKind.i64 ((48 : Int) + IntKind.wrap IntKind.i64 (((UInt8.toNat v4) : Nat) : Int)))
    else
    if decide (v0 ≥ (256 : Int)) = true then
      Option.bind (gshr IntKind.u64 v0 (8 : Int)) fun (v5 : Int) =>
      Option.bind (ix [(0 : UInt8), (1 : UInt8), (2 : UInt8), (2 : UInt8), (3 : UInt8), (3 : UInt8), (3 : UInt8), (3 : UInt8), (4 : UInt8), (4 : UInt8), (4 : UInt8), (4 : UInt8), (4 : UInt8), (4 : UInt8), (4 : UInt8), (4 : UInt8), (5 : UInt8), (5 : UInt8), (5 : UInt8), (5 : UInt8), (5 : UInt8), (5 : UInt8), (5 : UInt8), (5 : UInt8), (5 : UInt8), (5 : UInt8), (5 : UInt8), (5 : UInt8), (5 : UInt8), (5 : UInt8), (5 : UInt8), (5 : UInt8), (6 : UInt8), (6 : UInt8), (6 : UInt8), (6 : UInt8), (6 : UInt8), (6 : UInt8), (6 : UInt8), (6 : UInt8), (6 : UInt8), (6 : UInt8), (6 : UInt8), (6 : UInt8), (6 : UInt8), (6 : UInt8), (6 : UInt8), (6 : UInt8), (6 : UInt8), (6 : UInt8), (6 : UInt8), (6 : UInt8), (6 : UInt8), (6 : UInt8), (6 : UInt8), (6 : UInt8), (6 : UInt8), (6 : UInt8), (6 : UInt8), (6 : UInt8), (6 : UInt8), (6 : UInt8), (6 : UInt8), (6 : UInt8), (7 : UInt8), (7 : UInt8), (7 : UInt8), (7 : UInt8), (7 : UInt8), (7 : UInt8), (7 : UInt8), (7 : UInt8), (7 : UInt8), (7 : UInt8), (7 : UInt8), (7 : UInt8), (7 : UInt8), (7 : UInt8), (7 : UInt8), (7 : UInt8), (7 : UInt8), (7 : UInt8), (7 : UInt8), (7 : UInt8), (7 : UInt8), (7 : UInt8), (7 : UInt8), (7 : UInt8), (7 : UInt8), (7 : UInt8), (7 : UInt8), (7 : UInt8), (7 : UInt8), (7 : UInt8), (7 : UInt8), (7 : UInt8), (7 : UInt8), (7 : UInt8), (7 : UInt8), (7 : UInt8), (7 : UInt8), (7 : UInt8), (7 : UInt8), (7 : UInt8), (7 : UInt8), (7 : UInt8), (7 : UInt8), (7 : UInt8), (7 : UInt8), (7 : UInt8), (7 : UInt8), (7 : UInt8), (7 : UInt8), (7 : UInt8), (7 : UInt8), (7 : UInt8), (7 : UInt8), (7 : UInt8), (7 : UInt8), (7 : UInt8), (7 : UInt8), (7 : UInt8), (7 : UInt8), (7 : UInt8), (7 : UInt8), (7 : UInt8), (7 : UInt8), (7 : UInt8), (8 : UInt8), (8 : UInt8), (8 : UInt8), (8 : UInt8), (8 : UInt8), (8 : UInt8), (8 : UInt8), (8 : UInt8), (8 : UInt8), (8 : UInt8), (8 : UInt8), (8 : UInt8), (8 : UInt8), (8 : UInt8), (8 : UInt8), (8 : UInt8), (8 : UInt8), (8 : UInt8), (8 : UInt8), (8 : UInt8), (8 : UInt8), (8 : UInt8), (8 : UInt8), (8 : UInt8), (8 : UInt8), (8 : UInt8), (8 : UInt8), (8 : UInt8), (8 : UInt8), (8 : UInt8), (8 : UInt8), (8 : UInt8), (8 : UInt8), (8 : UInt8), (8 : UInt8), (8 : UInt8), (8 : UInt8), (8 : UInt8), (8 : UInt8), (8 : UInt8), (8 : UInt8), (8 : UInt8), (8 : UInt8), (8 : UInt8), (8 : UInt8), (8 : UInt8), (8 : UInt8), (8 : UInt8), (8 : UInt8), (8 : UInt8), (8 : UInt8), (8 : UInt8), (8 : UInt8), (8 : UInt8), (8 : UInt8), (8 : UInt8), (8 : UInt8), (8 : UInt8), (8 : UInt8), (8 : UInt8), (8 : UInt8), (8 : UInt8), (8 : UInt8), (8 : UInt8), (8 : UInt8), (8 : UInt8), (8 : UInt8), (8 : UInt8), (8 : UInt8), (8 : UInt8), (8 : UInt8), (8 : UInt8), (8 : UInt8), (8 : UInt8), (8 : UInt8), (8 : UInt8), (8 : UInt8), (8 : UInt8), (8 : UInt8), (8 : UInt8), (8 : UInt8), (8 : UInt8), (8 : UInt8), (8 : UInt8), (8 : UInt8), (8 : UInt8), (8 : UInt8), (8 : UInt8), (8 : UInt8), (8 : UInt8), (8 : UInt8), (8 : UInt8), (8 : UInt8), (8 : UInt8), (8 : UInt8), (8 : UInt8), (8 : UInt8), (8 : UInt8), (8 : UInt8), (8 : UInt8), (8 : UInt8), (8 : UInt8), (8 : UInt8), (8 : UInt8), (8 : UInt8), (8 : UInt8), (8 : UInt8), (8 : UInt8), (8 : UInt8), (8 : UInt8), (8 : UInt8), (8 : UInt8), (8 : UInt8), (8 : UInt8), (8 : UInt8), (8 : UInt8), (8 : UInt8), (8 : UInt8), (8 : UInt8), (8 : UInt8), (8 : UInt8), (8 : UInt8), (8 : UInt8), (8 : UInt8), (8 : UInt8), (8 : UInt8), (8 : UInt8), (8 : UInt8)] (IntKind.wrap IntKind.u8 v5)) fun (v6 : UInt8) =>
      some (IntKind.wrap IntKind.i64 ((40 : Int) + IntKind.wrap IntKind.i64 (((UInt8.toNat v6) : Nat) : Int)))
    else
    Option.bind (ix [(0 : UInt8), (1 : UInt8), (2 : UInt8), (2 : UInt8), (3 : UInt8), (3 : UInt8), (3 : UInt8), (3 : UInt8), (4 : UInt8), (4 : UInt8), (4 : UInt8), (4 : UInt8), (4 : UInt8), (4 : UInt8), (4 : UInt8), (4 : UInt8), (5 : UInt8), (5 : UInt8), (5 : UInt8), (5 : UInt8), (5 : UInt8), (5 : UInt8), (5 : UInt8), (5 : UInt8), (5 : UInt8), (5 : UInt8), (5 : UInt8), (5 : UInt8), (5 : UInt8), (5 : UInt8), (5 : UInt8), (5 : UInt8), (6 : UInt8), (6 : UInt8), (6 : UInt8), (6 : UInt8), (6 : UInt8), (6 : UInt8), (6 : UInt8), (6 : UInt8), (6 : UInt8), (6 : UInt8), (6 : UInt8), (6 : UInt8), (6 : UInt8), (6 : UInt8), (6 : UInt8), (6 : UInt8), (6 : UInt8), (6 : UInt8), (6 : UInt8), (6 : UInt8), (6 : UInt8), (6 : UInt8), (6 : UInt8), (6 : UInt8), (6 : UInt8), (6 : UInt8), (6 : UInt8), (6 : UInt8), (6 : UInt8), (6 : UInt8), (6 : UInt8), (6 : UInt8), (7 : UInt8), (7 : UInt8), (7 : UInt8), (7 : UInt8), (7 : UInt8), (7 : UInt8), (7 : UInt8), (7 : UInt8), (7 : UInt8), (7 : UInt8), (7 : UInt8), (7 : UInt8), (7 : UInt8), (7 : UInt8), (7 : UInt8), (7 : UInt8), (7 : UInt8), (7 : UInt8), (7 : UInt8), (7 : UInt8), (7 : UInt8), (7 : UInt8), (7 : UInt8), (7 : UInt8), (7 : UInt8), (7 : UInt8), (7 : UInt8), (7 : UInt8), (7 : UInt8), (7 : UInt8), (7 : UInt8), (7 : UInt8), (7 : UInt8), (7 : UInt8), (7 : UInt8), (7 : UInt8), (7 : UInt8), (7 : UInt8), (7 : UInt8), (7 : UInt8), (7 : UInt8), (7 : UInt8), (7 : UInt8), (7 : UInt8), (7 : UInt8), (7 : UInt8), (7 : UInt8), (7 : UInt8), (7 : UInt8), (7 : UInt8), (7 : UInt8), (7 : UInt8), (7 : UInt8), (7 : UInt8), (7 : UInt8), (7 : UInt8), (7 : UInt8), (7 : UInt8), (7 : UInt8), (7 : UInt8), (7 : UInt8), (7 : UInt8), (7 : UInt8), (7 : UInt8), (8 : UInt8), (8 : UInt8), (8 : UInt8), (8 : UInt8), (8 : UInt8), (8 : UInt8), (8 : UInt8), (8 : UInt8), (8 : UInt8), (8 : UInt8), (8 : UInt8), (8 : UInt8), (8 : UInt8), (8 : UInt8), (8 : UInt8), (8 : UInt8), (8 : UInt8), (8 : UInt8), (8 : UInt8), (8 : UInt8), (8 : UInt8), (8 : UInt8), (8 : UInt8), (8 : UInt8), (8 : UInt8), (8 : UInt8), (8 : UInt8), (8 : UInt8), (8 : UInt8), (8 : UInt8), (8 : UInt8), (8 : UInt8), (8 : UInt8), (8 : UInt8), (8 : UInt8), (8 : UInt8), (8 : UInt8), (8 : UInt8), (8 : UInt8), (8 : UInt8), (8 : UInt8), (8 : UInt8), (8 : UInt8), (8 : UInt8), (8 : UInt8), (8 : UInt8), (8 : UInt8), (8 : UInt8), (8 : UInt8), (8 : UInt8), (8 : UInt8), (8 : UInt8), (8 : UInt8), (8 : UInt8), (8 : UInt8), (8 : UInt8), (8 : UInt8), (8 : UInt8), (8 : UInt8), (8 : UInt8), (8 : UInt8), (8 : UInt8), (8 : UInt8), (8 : UInt8), (8 : UInt8), (8 : UInt8), (8 : UInt8), (8 : UInt8), (8 : UInt8), (8 : UInt8), (8 : UInt8), (8 : UInt8), (8 : UInt8), (8 : UInt8), (8 : UInt8), (8 : UInt8), (8 : UInt8), (8 : UInt8), (8 : UInt8), (8 : UInt8), (8 : UInt8), (8 : UInt8), (8 : UInt8), (8 : UInt8), (8 : UInt8), (8 : UInt8), (8 : UInt8), (8 : UInt8), (8 : UInt8), (8 : UInt8), (8 : UInt8), (8 : UInt8), (8 : UInt8), (8 : UInt8), (8 : UInt8), (8 : UInt8), (8 : UInt8), (8 : UInt8), (8 : UInt8), (8 : UInt8), (8 : UInt8), (8 : UInt8), (8 : UInt8), (8 : UInt8), (8 : UInt8), (8 : UInt8), (8 : UInt8), (8 : UInt8), (8 : UInt8), (8 : UInt8), (8 : UInt8), (8 : UInt8), (8 : UInt8), (8 : UInt8), (8 : UInt8), (8 : UInt8), (8 : UInt8), (8 : UInt8), (8 : UInt8), (8 : UInt8), (8 : UInt8), (8 : UInt8), (8 : UInt8), (8 : UInt8), (8 : UInt8), (8 : UInt8), (8 : UInt8), (8 : UInt8)] (IntKind.wrap IntKind.u8 v0)) fun (v7 : UInt8) =>
    some (IntKind.wrap IntKind.i64 ((32 : Int) + IntKind.wrap IntKind.i64 (((UInt8.toNat v7) : Nat) : Int)))
  else
  if decide (s0 ≥ (65536 : Int)) = true then
    Option.bind (gshr IntKind.u64 s0 (16 : Int)) fun (v8 : Int) =>
    if decide (v8 ≥ (256 : Int)) = true then
      Option.bind (gshr IntKind.u64 v8 (8 : Int)) fun (v9 : Int) =>
      Option.bind (ix [(0 : UInt8), (1 : UInt8), (2 : UInt8), (2 : UInt8), (3 : UInt8), (3 : UInt8), (3 : UInt8), (3 : UInt8), (4 : UInt8), (4 : UInt8), (4 : UInt8), (4 : UInt8), (4 : UInt8), (4 : UInt8), (4 : UInt8), (4 : UInt8), (5 : UInt8), (5 : UInt8), (5 : UInt8), (5 : UInt8), (5 : UInt8), (5 : UInt8), (5 : UInt8), (5 : UInt8), (5 : UInt8), (5 : UInt8), (5 : UInt8), (5 : UInt8), (5 : UInt8), (5 : UInt8), (5 : UInt8), (5 : UInt8), (6 : UInt8), (6 : UInt8), (6 : UInt8), (6 : UInt8), (6 : UInt8), (6 : UInt8), (6 : UInt8), (6 : UInt8), (6 : UInt8), (6 : UInt8), (6 : UInt8), (6 : UInt8), (6 : UInt8), (6 : UInt8), (6 : UInt8), (6 : UInt8), (6 : UInt8), (6 : UInt8), (6 : UInt8), (6 : UInt8), (6 : UInt8), (6 : UInt8), (6 : UInt8), (6 : UInt8), (6 : UInt8), (6 : UInt8), (6 : UInt8), (6 : UInt8), (6 : UInt8), (6 : UInt8), (6 : UInt8), (6 : UInt8), (7 : UInt8), (7 : UInt8), (7 : UInt8), (7 : UInt8), (7 : UInt8), (7 : UInt8), (7 : UInt8), (7 : UInt8), (7 : UInt8), (7 : UInt8), (7 : UInt8), (7 : UInt8), (7 : UInt8), (7 : UInt8), (7 : UInt8), (7 : UInt8), (7 : UInt8), (7 : UInt8), (7 : UInt8), (7 : UInt8), (7 : UInt8), (7 : UInt8), (7 : UInt8), (7 : UInt8), (7 : UInt8), (7 : UInt8), (7 : UInt8), (7 : UInt8), (7 : UInt8), (7 : UInt8), (7 : UInt8), (7 : UInt8), (7 : UInt8), (7 : UInt8), (7 : UInt8), (7 : UInt8), (7 : UInt8), (7 : UInt8), (7 : UInt8), (7 : UInt8), (7 : UInt8), (7 : UInt8), (7 : UInt8), (7 : UInt8), (7 : UInt8), (7 : UInt8), (7 : UInt8), (7 : UInt8), (7 : UInt8), (7 : UInt8), (7 : UInt8), (7 : UInt8), (7 : UInt8), (7 : UInt8), (7 : UInt8), (7 : UInt8), (7 : UInt8), (7 : UInt8), (7 : UInt8), (7 : UInt8), (7 : UInt8), (7 : UInt8), (7 : UInt8), (7 : UInt8), (8 : UInt8), (8 : UInt8), (8 : UInt8), (8 : UInt8), (8 : UInt8), (8 : UInt8), (8 : UInt8), (8 : UInt8), (8 : UInt8), (8 : UInt8), (8 : UInt8), (8 : UInt8), (8 : UInt8), (8 : UInt8), (8 : UInt8), (8 : UInt8), (8 : UInt8), (8 : UInt8), (8 : UInt8), (8 : UInt8), (8 : UInt8), (8 : UInt8), (8 : UInt8), (8 : UInt8), (8 : UInt8), (8 : UInt8), (8 : UInt8), (8 : UInt8), (8 : UInt8), (8 : UInt8), (8 : UInt8), (8 : UInt8), (8 : UInt8), (8 : UInt8), (8 : UInt8), (8 : UInt8), (8 : UInt8), (8 : UInt8), (8 : UInt8), (8 : UInt8), (8 : UInt8), (8 : UInt8), (8 : UInt8), (8 : UInt8), (8 : UInt8), (8 : UInt8), (8 : UInt8), (8 : UInt8), (8 : UInt8), (8 : UInt8), (8 : UInt8), (8 : UInt8), (8 : UInt8), (8 : UInt8), (8 : UInt8), (8 : UInt8), (8 : UInt8), (8 : UInt8), (8 : UInt8), (8 : UInt8), (8 : UInt8), (8 : UInt8), (8 : UInt8), (8 : UInt8), (8 : UInt8), (8 : UInt8), (8 : UInt8), (8 : UInt8), (8 : UInt8), (8 : UInt8), (8 : UInt8), (8 : UInt8), (8 : UInt8), (8 : UInt8), (8 : UInt8), (8 : UInt8), (8 : UInt8), (8 : UInt8), (8 : UInt8), (8 : UInt8), (8 : UInt8), (8 : UInt8), (8 : UInt8), (8 : UInt8), (8 : UInt8), (8 : UInt8), (8 : UInt8), (8 : UInt8), (8 : UInt8), (8 : UInt8), (8 : UInt8), (8 : UInt8), (8 : UInt8), (8 : UInt8), (8 : UInt8), (8 : UInt8), (8 : UInt8), (8 : UInt8), (8 : UInt8), (8 : UInt8), (8 : UInt8), (8 : UInt8), (8 : UInt8), (8 : UInt8), (8 : UInt8), (8 : UInt8), (8 : UInt8), (8 : UInt8), (8 : UInt8), (8 : UInt8), (8 : UInt8), (8 : UInt8), (8 : UInt8), (8 : UInt8), (8 : UInt8), (8 : UInt8), (8 : UInt8), (8 : UInt8), (8 : UInt8), (8 : UInt8), (8 : UInt8), (8 : UInt8), (8 : UInt8), (8 : UInt8), (8 : UInt8), (8 : UInt8), (8 : UInt8), (8 : UInt8)] (IntKind.wrap IntKind.u8 v9)) fun (v10 : UInt8) =>
      some (IntKind.wrap IntKind.i64 ((24 : Int) + IntKind.wrap IntKind.i64 (((UInt8.toNat v10) : Nat) : Int)))
    else
    Option.bind (ix [(0 : UInt8), (1 : UInt8), (2 : UInt8), (2 : UInt8), (3 : UInt8), (3 : UInt8), (3 : UInt8), (3 : UInt8), (4 : UInt8), (4 : UInt8), (4 : UInt8), (4 : UInt8), (4 : UInt8), (4 : UInt8), (4 : UInt8), (4 : UInt8), (5 : UInt8), (5 : UInt8), (5 : UInt8), (5 : UInt8), (5 : UInt8), (5 : UInt8), (5 : UInt8), (5 : UInt8), (5 : UInt8), (5 : UInt8), (5 : UInt8), (5 : UInt8), (5 : UInt8), (5 : UInt8), (5 : UInt8), (5 : UInt8), (6 : UInt8), (6 : UInt8), (6 : UInt8), (6 : UInt8), (6 : UInt8), (6 : UInt8), (6 : UInt8), (6 : UInt8), (6 : UInt8), (6 : UInt8), (6 : UInt8), (6 : UInt8), (6 : UInt8), (6 : UInt8), (6 : UInt8), (6 : UInt8), (6 : UInt8), (6 : UInt8), (6 : UInt8), (6 : UInt8), (6 : UInt8), (6 : UInt8), (6 : UInt8), (6 : UInt8), (6 : UInt8), (6 : UInt8), (6 : UInt8), (6 : UInt8), (6 : UInt8), (6 : UInt8), (6 : UInt8), (6 : UInt8), (7 : UInt8), (7 : UInt8), (7 : UInt8), (7 : UInt8), (7 : UInt8), (7 : UInt8), (7 : UInt8), (7 : UInt8), (7 : UInt8), (7 : UInt8), (7 : UInt8), (7 : UInt8), (7 : UInt8), (7 : UInt8), (7 : UInt8), (7 : UInt8), (7 : UInt8), (7 : UInt8), (7 : UInt8), (7 : UInt8), (7 : UInt8), (7 : UInt8), (7 : UInt8), (7 : UInt8), (7 : UInt8), (7 : UInt8), (7 : UInt8), (7 : UInt8), (7 : UInt8), (7 : UInt8), (7 : UInt8), (7 : UInt8), (7 : UInt8), (7 : UInt8), (7 : UInt8), (7 : UInt8), (7 : UInt8), (7 : UInt8), (7 : UInt8), (7 : UInt8), (7 : UInt8), (7 : UInt8), (7 : UInt8), (7 : UInt8), (7 : UInt8), (7 : UInt8), (7 : UInt8), (7 : UInt8), (7 : UInt8), (7 : UInt8), (7 : UInt8), (7 : UInt8), (7 : UInt8), (7 : UInt8), (7 : UInt8), (7 : UInt8), (7 : UInt8), (7 : UInt8), (7 : UInt8), (7 : UInt8), (7 : UInt8), (7 : UInt8), (7 : UInt8), (7 : UInt8), (8 : UInt8), (8 : UInt8), (8 : UInt8), (8 : UInt8), (8 : UInt8), (8 : UInt8), (8 : UInt8), (8 : UInt8), (8 : UInt8), (8 : UInt8), (8 : UInt8), (8 : UInt8), (8 : UInt8), (8 : UInt8), (8 : UInt8), (8 : UInt8), (8 : UInt8), (8 : UInt8), (8 : UInt8), (8 : UInt8), (8 : UInt8), (8 : UInt8), (8 : UInt8), (8 : UInt8), (8 : UInt8), (8 : UInt8), (8 : UInt8), (8 : UInt8), (8 : UInt8), (8 : UInt8), (8 : UInt8), (8 : UInt8), (8 : UInt8), (8 : UInt8), (8 : UInt8), (8 : UInt8), (8 : UInt8), (8 : UInt8), (8 : UInt8), (8 : UInt8), (8 : UInt8), (8 : UInt8), (8 : UInt8), (8 : UInt8), (8 : UInt8), (8 : UInt8), (8 : UInt8), (8 : UInt8), (8 : UInt8), (8 : UInt8), (8 : UInt8), (8 : UInt8), (8 : UInt8), (8 : UInt8), (8 : UInt8), (8 : UInt8), (8 : UInt8), (8 : UInt8), (8 : UInt8), (8 : UInt8), (8 : UInt8), (8 : UInt8), (8 : UInt8), (8 : UInt8), (8 : UInt8), (8 : UInt8), (8 : UInt8), (8 : UInt8), (8 : UInt8), (8 : UInt8), (8 : UInt8), (8 : UInt8), (8 : UInt8), (8 : UInt8), (8 : UInt8), (8 : UInt8), (8 : UInt8), (8 : UInt8), (8 : UInt8), (8 : UInt8), (8 : UInt8), (8 : UInt8), (8 : UInt8), (8 : UInt8), (8 : UInt8), (8 : UInt8), (8 : UInt8), (8 : UInt8), (8 : UInt8), (8 : UInt8), (8 : UInt8), (8 : UInt8), (8 : UInt8), (8 : UInt8), (8 : UInt8), (8 : UInt8), (8 : UInt8), (8 : UInt8), (8 : UInt8), (8 : UInt8), (8 : UInt8), (8 : UInt8), (8 : UInt8), (8 : UInt8), (8 : UInt8), (8 : UInt8), (8 : UInt8), (8 : UInt8), (8 : UInt8), (8 : UInt8), (8 : UInt8), (8 : UInt8), (8 : UInt8), (8 : UInt8), (8 : UInt8), (8 : UInt8), (8 : UInt8), (8 : UInt8), (8 : UInt8), (8 : UInt8), (8 : UInt8), (8 : UInt8), (8 : UInt8), (8 : UInt8), (8 : UInt8), (8 : UInt8), (8 : UInt8), (8 : UInt8)] (IntKind.wrap IntKind.u8 v8)) fun (v11 : UInt8) =>
    some (IntKind.wrap IntKind.i64 ((16 : Int) + IntKind.wrap IntKind.i64 (((UInt8.toNat v11) : Nat) : Int)))
  else
  if decide (s0 ≥ (256 : Int)) = true then
    Option.bind (gshr IntKind.u64 s0 (8 : Int)) fun (v12 : Int) =>
    Option.bind (ix [(0 : UInt8), (1 : UInt8), (2 : UInt8), (2 : UInt8), (3 : UInt8), (3 : UInt8), (3 : UInt8), (3 : UInt8), (4 : UInt8), (4 : UInt8), (4 : UInt8), (4 : UInt8), (4 : UInt8), (4 : UInt8), (4 : UInt8), (4 : UInt8), (5 : UInt8), (5 : UInt8), (5 : UInt8), (5 : UInt8), (5 : UInt8), (5 : UInt8), (5 : UInt8), (5 : UInt8), (5 : UInt8), (5 : UInt8), (5 : UInt8), (5 : UInt8), (5 : UInt8), (5 : UInt8), (5 : UInt8), (5 : UInt8), (6 : UInt8), (6 : UInt8), (6 : UInt8), (6 : UInt8), (6 : UInt8), (6 : UInt8), (6 : UInt8), (6 : UInt8), (6 : UInt8), (6 : UInt8), (6 : UInt8), (6 : UInt8), (6 : UInt8), (6 : UInt8), (6 : UInt8), (6 : UInt8), (6 : UInt8), (6 : UInt8), (6 : UInt8), (6 : UInt8), (6 : UInt8), (6 : UInt8), (6 : UInt8), (6 : UInt8), (6 : UInt8), (6 : UInt8), (6 : UInt8), (6 : UInt8), (6 : UInt8), (6 : UInt8), (6 : UInt8), (6 : UInt8), (7 : UInt8), (7 : UInt8), (7 : UInt8), (7 : UInt8), (7 : UInt8), (7 : UInt8), (7 : UInt8), (7 : UInt8), (7 : UInt8), (7 : UInt8), (7 : UInt8), (7 : UInt8), (7 : UInt8), (7 : UInt8), (7 : UInt8), (7 : UInt8), (7 : UInt8), (7 : UInt8), (7 : UInt8), (7 : UInt8), (7 : UInt8), (7 : UInt8), (7 : UInt8), (7 : UInt8), (7 : UInt8), (7 : UInt8), (7 : UInt8), (7 : UInt8), (7 : UInt8), (7 : UInt8), (7 : UInt8), (7 : UInt8), (7 : UInt8), (7 : UInt8), (7 : UInt8), (7 : UInt8), (7 : UInt8), (7 : UInt8), (7 : UInt8), (7 : UInt8), (7 : UInt8), (7 : UInt8), (7 : UInt8), (7 : UInt8), (7 : UInt8), (7 : UInt8), (7 : UInt8), (7 : UInt8), (7 : UInt8), (7 : UInt8), (7 : UInt8), (7 : UInt8), (7 : UInt8), (7 : UInt8), (7 : UInt8), (7 : UInt8), (7 : UInt8), (7 : UInt8), (7 : UInt8), (7 : UInt8), (7 : UInt8), (7 : UInt8), (7 : UInt8), (7 : UInt8), (8 : UInt8), (8 : UInt8), (8 : UInt8), (8 : UInt8), (8 : UInt8), (8 : UInt8), (8 : UInt8), (8 : UInt8), (8 : UInt8), (8 : UInt8), (8 : UInt8), (8 : UInt8), (8 : UInt8), (8 : UInt8), (8 : UInt8), (8 : UInt8), (8 : UInt8), (8 : UInt8), (8 : UInt8), (8 : UInt8), (8 : UInt8), (8 : UInt8), (8 : UInt8), (8 : UInt8), (8 : UInt8), (8 : UInt8), (8 : UInt8), (8 : UInt8), (8 : UInt8), (8 : UInt8), (8 : UInt8), (8 : UInt8), (8 : UInt8), (8 : UInt8), (8 : UInt8), (8 : UInt8), (8 : UInt8), (8 : UInt8), (8 : UInt8), (8 : UInt8), (8 : UInt8), (8 : UInt8), (8 : UInt8), (8 : UInt8), (8 : UInt8), (8 : UInt8), (8 : UInt8), (8 : UInt8), (8 : UInt8), (8 : UInt8), (8 : UInt8), (8 : UInt8), (8 : UInt8), (8 : UInt8), (8 : UInt8), (8 : UInt8), (8 : UInt8), (8 : UInt8), (8 : UInt8), (8 : UInt8), (8 : UInt8), (8 : UInt8), (8 : UInt8), (8 : UInt8), (8 : UInt8), (8 : UInt8), (8 : UInt8), (8 : UInt8), (8 : UInt8), (8 : UInt8), (8 : UInt8), (8 : UInt8), (8 : UInt8), (8 : UInt8), (8 : UInt8), (8 : UInt8), (8 : UInt8), (8 : UInt8), (8 : UInt8), (8 : UInt8), (8 : UInt8), (8 : UInt8), (8 : UInt8), (8 : UInt8), (8 : UInt8), (8 : UInt8), (8 : UInt8), (8 : UInt8), (8 : UInt8), (8 : UInt8), (8 : UInt8), (8 : UInt8), (8 : UInt8), (8 : UInt8), (8 : UInt8), (8 : UInt8), (8 : UInt8), (8 : UInt8), (8 : UInt8), (8 : UInt8), (8 : UInt8), (8 : UInt8), (8 : UInt8), (8 : UInt8), (8 : UInt8), (8 : UInt8), (8 : UInt8), (8 : UInt8), (8 : UInt8), (8 : UInt8), (8 : UInt8), (8 : UInt8), (8 : UInt8), (8 : UInt8), (8 : UInt8), (8 : UInt8), (8 : UInt8), (8 : UInt8), (8 : UInt8), (8 : UInt8), (8 : UInt8), (8 : UInt8), (8 : UInt8), (8 : UInt8), (8 : UInt8), (8 : UInt8), (8 : UInt8), (8 : UInt8)] (IntKind.wrap IntKind.u8 v12)) fun (v13 : UInt8) =>
    some (IntKind.wrap IntKind.i64 ((8 : Int) + IntKind.wrap IntKind.i64 (((UInt8.toNat v13) : Nat) : Int)))
  else
  Option.bind (ix [(0 : UInt8), (1 : UInt8), (2 : UInt8), (2 : UInt8), (3 : UInt8), (3 : UInt8), (3 : UInt8), (3 : UInt8), (4 : UInt8), (4 : UInt8), (4 : UInt8), (4 : UInt8), (4 : UInt8), (4 : UInt8), (4 : UInt8), (4 : UInt8), (5 : UInt8), (5 : UInt8), (5 : UInt8), (5 : UInt8), (5 : UInt8), (5 : UInt8), (5 : UInt8), (5 : UInt8), (5 : UInt8), (5 : UInt8), (5 : UInt8), (5 : UInt8), (5 : UInt8), (5 : UInt8), (5 : UInt8), (5 : UInt8), (6 : UInt8), (6 : UInt8), (6 : UInt8), (6 : UInt8), (6 : UInt8), (6 : UInt8), (6 : UInt8), (6 : UInt8), (6 : UInt8), (6 : UInt8), (6 : UInt8), (6 : UInt8), (6 : UInt8), (6 : UInt8), (6 : UInt8), (6 : UInt8), (6 : UInt8), (6 : UInt8), (6 : UInt8), (6 : UInt8), (6 : UInt8), (6 : UInt8), (6 : UInt8), (6 : UInt8), (6 : UInt8), (6 : UInt8), (6 : UInt8), (6 : UInt8), (6 : UInt8), (6 : UInt8), (6 : UInt8), (6 : UInt8), (7 : UInt8), (7 : UInt8), (7 : UInt8), (7 : UInt8), (7 : UInt8), (7 : UInt8), (7 : UInt8), (7 : UInt8), (7 : UInt8), (7 : UInt8), (7 : UInt8), (7 : UInt8), (7 : UInt8), (7 : UInt8), (7 : UInt8), (7 : UInt8), (7 : UInt8), (7 : UInt8), (7 : UInt8), (7 : UInt8), (7 : UInt8), (7 : UInt8), (7 : UInt8), (7 : UInt8), (7 : UInt8), (7 : UInt8), (7 : UInt8), (7 : UInt8), (7 : UInt8), (7 : UInt8), (7 : UInt8), (7 : UInt8), (7 : UInt8), (7 : UInt8), (7 : UInt8), (7 : UInt8), (7 : UInt8), (7 : UInt8), (7 : UInt8), (7 : UInt8), (7 : UInt8), (7 : UInt8), (7 : UInt8), (7 : UInt8), (7 : UInt8), (7 : UInt8), (7 : UInt8), (7 : UInt8), (7 : UInt8), (7 : UInt8), (7 : UInt8), (7 : UInt8), (7 : UInt8), (7 : UInt8), (7 : UInt8), (7 : UInt8), (7 : UInt8), (7 : UInt8), (7 : UInt8), (7 : UInt8), (7 : UInt8), (7 : UInt8), (7 : UInt8), (7 : UInt8), (8 : UInt8), (8 : UInt8), (8 : UInt8), (8 : UInt8), (8 : UInt8), (8 : UInt8), (8 : UInt8), (8 : UInt8), (8 : UInt8), (8 : UInt8), (8 : UInt8), (8 : UInt8), (8 : UInt8), (8 : UInt8), (8 : UInt8), (8 : UInt8), (8 : UInt8), (8 : UInt8), (8 : UInt8), (8 : UInt8), (8 : UInt8), (8 : UInt8), (8 : UInt8), (8 : UInt8), (8 : UInt8), (8 : UInt8), (8 : UInt8), (8 : UInt8), (8 : UInt8), (8 : UInt8), (8 : UInt8), (8 : UInt8), (8 : UInt8), (8 : UInt8), (8 : UInt8), (8 : UInt8), (8 : UInt8), (8 : UInt8), (8 : UInt8), (8 : UInt8), (8 : UInt8), (8 : UInt8), (8 : UInt8), (8 : UInt8), (8 : UInt8), (8 : UInt8), (8 : UInt8), (8 : UInt8), (8 : UInt8), (8 : UInt8), (8 : UInt8), (8 : UInt8), (8 : UInt8), (8 : UInt8), (8 : UInt8), (8 : UInt8), (8 : UInt8), (8 : UInt8), (8 : UInt8), (8 : UInt8), (8 : UInt8), (8 : UInt8), (8 : UInt8), (8 : UInt8), (8 : UInt8), (8 : UInt8), (8 : UInt8), (8 : UInt8), (8 : UInt8), (8 : UInt8), (8 : UInt8), (8 : UInt8), (8 : UInt8), (8 : UInt8), (8 : UInt8), (8 : UInt8), (8 : UInt8), (8 : UInt8), (8 : UInt8), (8 : UInt8), (8 : UInt8), (8 : UInt8), (8 : UInt8), (8 : UInt8), (8 : UInt8), (8 : UInt8), (8 : UInt8), (8 : UInt8), (8 : UInt8), (8 : UInt8), (8 : UInt8), (8 : UInt8), (8 : UInt8), (8 : UInt8), (8 : UInt8), (8 : UInt8), (8 : UInt8), (8 : UInt8), (8 : UInt8), (8 : UInt8), (8 : UInt8), (8 : UInt8), (8 : UInt8), (8 : UInt8), (8 : UInt8), (8 : UInt8), (8 : UInt8), (8 : UInt8), (8 : UInt8), (8 : UInt8), (8 : UInt8), (8 : UInt8), (8 : UInt8), (8 : UInt8), (8 : UInt8), (8 : UInt8), (8 : UInt8), (8 : UInt8), (8 : UInt8), (8 : UInt8), (8 : UInt8), (8 : UInt8), (8 : UInt8), (8 : UInt8), (8 : UInt8), (8 : UInt8), (8 : UInt8), (8 : UInt8)] (IntKind.wrap IntKind.u8 s0)) fun (v14 : UInt8) =>
  some (IntKind.wrap IntKind.i64 ((0 : Int) + IntKind.wrap IntKind.i64 (((UInt8.toNat v14) : Nat) : Int)))
def bits_Len64_P : Int → Option (Int) := fun p => bits_Len64_M p
def bits_Len64_MM : HL [(.int .u64)] → Option (SumL [[(.int .i64)]]) := fun p => bits_Len64_M p
def bits_Len64_C : Con := ⟨0, bits_Len64_T, bits_Len64_O, stdCn [(.int .u64)] [[(.int .i64)]] bits_Len64_MM⟩

def bits_Len_T : Tm := ⟨[(0, false, [.hole (.int .u64)])], 1, []⟩
def bits_Len_O : List (Ex × Tm) := [(.ret, ⟨[(0, false, [.hole (.int .i64)])], 1, []⟩)]
def bits_Len_M (s0 : Int) : Option (Int) :=
  Option.bind (bits_Len64_P s0) fun (v0 : Int) =>
  some (v0)
def bits_Len_P : Int → Option (Int) := fun p => bits_Len_M p
def bits_Len_MM : HL [(.int .u64)] → Option (SumL [[(.int .i64)]]) := fun p => bits_Len_M p
def bits_Len_C : Con := ⟨0, bits_Len_T, bits_Len_O, stdCn [(.int .u64)] [[(.int .i64)]] bits_Len_MM⟩

def tree_split_T : Tm := ⟨[(0, false, [.hole (.int .i64)])], 1, []⟩
def tree_split_O : List (Ex × Tm) := [(.ret, ⟨[(0, false, [.hole (.int .i64)])], 1, []⟩)]
def tree_split_M (s0 : Int) : Option (Int) :=
  Option.bind (bits_Len_P (IntKind.wrap IntKind.u64 (IntKind.wrap IntKind.i64 (s0 - (1 : Int))))) fun (v0 : Int) =>
  Option.bind (gshl IntKind.i64 (1 : Int) (IntKind.wrap IntKind.i64 (v0 - (1 : Int)))) fun (v1 : Int) =>
  some (v1)
def tree_split_P : Int → Option (Int) := fun p => tree_split_M p
def tree_split_MM : HL [(.int .i64)] → Option (SumL [[(.int .i64)]]) := fun p => tree_split_M p
def tree_split_C : Con := ⟨0, tree_split_T, tree_split_O, stdCn [(.int .i64)] [[(.int .i64)]] tree_split_MM⟩

def tree_Path_1_T : Tm := ⟨[(0, false, [.hole (.slc (.slc (.int .u8)))]), (1, false, [.hole (.int .i64)]), (2, false, [.ptr 0 0]), (3, false, [.ptr 1 0])], 4, [.box [.clo 34 [(0, 0), (1, 0)]], .box [.row 2], .row (.arr 32 (.int .u8))]⟩
def tree_Path_1_O : List (Ex × Tm) := [(.ret, ⟨[], 0, [.box [.clo 34 [(0, 0), (1, 0)]], .box [.row 2], .row (.arr 32 (.int .u8))]⟩)]
def tree_Path_1_S (self : (List (List Int)) × Int × (List (Arr 32 Int)) → Option ((List (Arr 32 Int)))) (s0 : List (List Int)) (s1 : Int) (r2 : List (Arr 32 Int)) : Option ((List (Arr 32 Int))) :=
  if ((((List.length s0) : Nat) : Int) == (1 : Int)) = true then
    some (r2)
  else
  Option.bind (tree_split_P (((List.length s0) : Nat) : Int)) fun (v0 : Int) =>
  if decide (s1 < v0) = true then
    Option.bind (sub s0 (0 : Int) v0) fun (v1 : (List (List Int))) =>
    Option.bind (self (v1, s1, r2)) fun (v2 : (List (Arr (32 : Nat) Int))) =>
    Option.bind (sub s0 v0 (((List.length s0) : Nat) : Int)) fun (v3 : (List (List Int))) =>
    Option.bind (tree_Root_P v3) fun (v4 : (Arr (32 : Nat) Int)) =>
    Option.bind (room (32 : Nat) (List.length v2 + List.length [v4])) fun _ =>
    some (v2 ++ [v4])
  else
  Option.bind (sub s0 v0 (((List.length s0) : Nat) : Int)) fun (v6 : (List (List Int))) =>
  Option.bind (self (v6, IntKind.wrap IntKind.i64 (s1 - v0), r2)) fun (v7 : (List (Arr (32 : Nat) Int))) =>
  Option.bind (sub s0 (0 : Int) v0) fun (v8 : (List (List Int))) =>
  Option.bind (tree_Root_P v8) fun (v9 : (Arr (32 : Nat) Int)) =>
  Option.bind (room (32 : Nat) (List.length v7 + List.length [v9])) fun _ =>
  some (v7 ++ [v9])
def tree_Path_1_F : Nat → (List (List Int)) × Int × (List (Arr 32 Int)) → Option ((List (Arr 32 Int)))
  | 0 => fun _ => none
  | n + 1 => fun p => tree_Path_1_S (tree_Path_1_F n) p.1 p.2.1 p.2.2
def tree_Path_1_MF (n : Nat) : HL [(.slc (.slc (.int .u8))), (.int .i64), (.slc (.arr 32 (.int .u8)))] → Option (SumL [[(.slc (.arr 32 (.int .u8)))]]) := fun p => tree_Path_1_F n p
def tree_Path_1_CF (n : Nat) : Con := ⟨2, tree_Path_1_T, tree_Path_1_O, stdCn [(.slc (.slc (.int .u8))), (.int .i64), (.slc (.arr 32 (.int .u8)))] [[(.slc (.arr 32 (.int .u8)))]] (tree_Path_1_MF n)⟩
def tree_Path_1_M (s0 : List (List Int)) (s1 : Int) (r2 : List (Arr 32 Int)) : Option ((List (Arr 32 Int))) := tree_Path_1_F fuel (s0, s1, r2)
def tree_Path_1_P : (List (List Int)) × Int × (List (Arr 32 Int)) → Option ((List (Arr 32 Int))) := fun p => tree_Path_1_M p.1 p.2.1 p.2.2
def tree_Path_1_MM : HL [(.slc (.slc (.int .u8))), (.int .i64), (.slc (.arr 32 (.int .u8)))] → Option (SumL [[(.slc (.arr 32 (.int .u8)))]]) := fun p => tree_Path_1_M p.1 p.2.1 p.2.2
def tree_Path_1_C : Con := ⟨2, tree_Path_1_T, tree_Path_1_O, stdCn [(.slc (.slc (.int .u8))), (.int .i64), (.slc (.arr 32 (.int .u8)))] [[(.slc (.arr 32 (.int .u8)))]] tree_Path_1_MM⟩

def tree_Path_T : Tm := ⟨[(0, false, [.hole (.slc (.slc (.int .u8)))]), (1, false, [.hole (.int .i64)])], 2, []⟩
def tree_Path_O : List (Ex × Tm) := [(.ret, ⟨[(0, false, [.row 0]), (1, false, [.hole .bool])], 2, [.row (.arr 32 (.int .u8))]⟩)]
def tree_Path_M (s0 : List (List Int)) (s1 : Int) : Option (Bool × (List (Arr 32 Int))) :=
  if decide (s1 < (0 : Int)) = true then
    some (false, [])
  else
  if decide (s1 ≥ (((List.length s0) : Nat) : Int)) = true then
    some (false, [])
  else
  Option.bind (tree_Path_1_P (s0, s1, [])) fun (v0 : (List (Arr (32 : Nat) Int))) =>
  some (true, v0)
def tree_Path_P : (List (List Int)) × Int → Option (Bool × (List (Arr 32 Int))) := fun p => tree_Path_M p.1 p.2
def tree_Path_MM : HL [(.slc (.slc (.int .u8))), (.int .i64)] → Option (SumL [[.bool, (.slc (.arr 32 (.int .u8)))]]) := fun p => tree_Path_M p.1 p.2
def tree_Path_C : Con := ⟨0, tree_Path_T, tree_Path_O, stdCn [(.slc (.slc (.int .u8))), (.int .i64)] [[.bool, (.slc (.arr 32 (.int .u8)))]] tree_Path_MM⟩

def tree_climb_T : Tm := ⟨[(0, false, [.hole (.int .i64)]), (1, false, [.hole (.int .i64)]), (2, true, [.hole (.arr 32 (.int .u8))]), (3, false, [.hole (.slc (.arr 32 (.int .u8)))])], 4, []⟩
def tree_climb_O : List (Ex × Tm) := [(.ret, ⟨[(0, true, [.hole (.arr 32 (.int .u8))]), (1, false, [.hole .bool])], 2, []⟩)]
def tree_climb_R1_T : Tm := ⟨[(1, false, [.hole (.int .i64)]), (3, false, [.hole (.slc (.arr 32 (.int .u8)))]), (6, false, [.ptr 0 0]), (8, false, [.ptr 1 0]), (10, false, [.hole (.int .i64)]), (11, false, [.hole (.int .i64)])], 77, [.box [.hole (.arr 32 (.int .u8))], .box [.hole (.arr 32 (.int .u8))]]⟩
def tree_climb_R1_O : List (Ex × Tm) := [(.normal, ⟨[(3, false, [.hole (.slc (.arr 32 (.int .u8)))]), (8, false, [.ptr 1 0]), (10, false, [.hole (.int .i64)]), (12, false, [.ptr 2 0]), (13, false, [.hole .bool])], 77, [.box [.hole (.arr 32 (.int .u8))], .box [.hole (.arr 32 (.int .u8))], .box [.hole (.arr 32 (.int .u8))]]⟩)]
def tree_climb_R1_X (self : Int × Int × (Arr 32 Int) × (List (Arr 32 Int)) → Option ((Arr 32 Int) × Bool)) (s1 : Int) (s3 : List (Arr 32 Int)) (s10 : Int) (s11 : Int) (m0 : Arr 32 Int) (m1 : Arr 32 Int) : Option ((List (Arr 32 Int)) × Int × Bool × (Arr 32 Int) × (Arr 32 Int) × (Arr 32 Int)) :=
  Option.bind (sub s3 (0 : Int) s10) fun (v0 : (List (Arr (32 : Nat) Int))) =>
  agree (
    Option.bind (self (s11, s1, m0, v0)) fun (v1 : ((Arr (32 : Nat) Int) × Bool)) =>
    some (s3, s10, v1.snd, m0, m1, v1.fst)
  ) (
    Option.bind (self (s11, s1, m0, v0)) fun (v2 : ((Arr (32 : Nat) Int) × Bool)) =>
    some (s3, s10, v2.snd, m0, m1, v2.fst)
  )
def tree_climb_R1 (self : Int × Int × (Arr 32 Int) × (List (Arr 32 Int)) → Option ((Arr 32 Int) × Bool)) (s1 : Int) (s3 : List (Arr 32 Int)) (s10 : Int) (s11 : Int) (m0 : Arr 32 Int) (m1 : Arr 32 Int) : Option ((List (Arr 32 Int)) × Int × Bool × (Arr 32 Int) × (Arr 32 Int) × (Arr 32 Int)) :=
  Option.bind (sub s3 (0 : Int) s10) fun (v0 : (List (Arr (32 : Nat) Int))) =>
    Option.bind (self (s11, s1, m0, v0)) fun (v1 : ((Arr (32 : Nat) Int) × Bool)) =>
    some (s3, s10, v1.snd, m0, m1, v1.fst)
theorem tree_climb_R1_eq (self : Int × Int × (Arr 32 Int) × (List (Arr 32 Int)) → Option ((Arr 32 Int) × Bool)) (s1 : Int) (s3 : List (Arr 32 Int)) (s10 : Int) (s11 : Int) (m0 : Arr 32 Int) (m1 : Arr 32 Int) : (tree_climb_R1_X self) s1 s3 s10 s11 m0 m1 = (tree_climb_R1 self) s1 s3 s10 s11 m0 m1 := by unfold tree_climb_R1_X; simp only [agree_self]; rfl
def tree_climb_R1_P (self : Int × Int × (Arr 32 Int) × (List (Arr 32 Int)) → Option ((Arr 32 Int) × Bool)) : Int × (List (Arr 32 Int)) × Int × Int × (Arr 32 Int) × (Arr 32 Int) → Option ((List (Arr 32 Int)) × Int × Bool × (Arr 32 Int) × (Arr 32 Int) × (Arr 32 Int)) := fun p => (tree_climb_R1 self) p.1 p.2.1 p.2.2.1 p.2.2.2.1 p.2.2.2.2.1 p.2.2.2.2.2
def tree_climb_R2_T : Tm := ⟨[(0, false, [.hole (.int .i64)]), (1, false, [.hole (.int .i64)]), (3, false, [.hole (.slc (.arr 32 (.int .u8)))]), (6, false, [.ptr 0 0]), (8, false, [.ptr 1 0]), (10, false, [.hole (.int .i64)]), (11, false, [.hole (.int .i64)])], 77, [.box [.hole (.arr 32 (.int .u8))], .box [.hole (.arr 32 (.int .u8))]]⟩
def tree_climb_R2_O : List (Ex × Tm) := [(.normal, ⟨[(3, false, [.hole (.slc (.arr 32 (.int .u8)))]), (8, false, [.ptr 1 0]), (10, false, [.hole (.int .i64)]), (14, false, [.ptr 2 0]), (15, false, [.hole .bool])], 77, [.box [.hole (.arr 32 (.int .u8))], .box [.hole (.arr 32 (.int .u8))], .box [.hole (.arr 32 (.int .u8))]]⟩)]
def tree_climb_R2_X (self : Int × Int × (Arr 32 Int) × (List (Arr 32 Int)) → Option ((Arr 32 Int) × Bool)) (s0 : Int) (s1 : Int) (s3 : List (Arr 32 Int)) (s10 : Int) (s11 : Int) (m0 : Arr 32 Int) (m1 : Arr 32 Int) : Option ((List (Arr 32 Int)) × Int × Bool × (Arr 32 Int) × (Arr 32 Int) × (Arr 32 Int)) :=
  Option.bind (sub s3 (0 : Int) s10) fun (v0 : (List (Arr (32 : Nat) Int))) =>
  agree (
    Option.bind (self (IntKind.wrap IntKind.i64 (s0 - s11), IntKind.wrap IntKind.i64 (s1 - s11), m0, v0)) fun (v1 : ((Arr (32 : Nat) Int) × Bool)) =>
    some (s3, s10, v1.snd, m0, m1, v1.fst)
  ) (
    Option.bind (self (IntKind.wrap IntKind.i64 (s0 - s11), IntKind.wrap IntKind.i64 (s1 - s11), m0, v0)) fun (v2 : ((Arr (32 : Nat) Int) × Bool)) =>
    some (s3, s10, v2.snd, m0, m1, v2.fst)
  )
def tree_climb_R2 (self : Int × Int × (Arr 32 Int) × (List (Arr 32 Int)) → Option ((Arr 32 Int) × Bool)) (s0 : Int) (s1 : Int) (s3 : List (Arr 32 Int)) (s10 : Int) (s11 : Int) (m0 : Arr 32 Int) (m1 : Arr 32 Int) : Option ((List (Arr 32 Int)) × Int × Bool × (Arr 32 Int) × (Arr 32 Int) × (Arr 32 Int)) :=
  Option.bind (sub s3 (0 : Int) s10) fun (v0 : (List (Arr (32 : Nat) Int))) =>
    Option.bind (self (IntKind.wrap IntKind.i64 (s0 - s11), IntKind.wrap IntKind.i64 (s1 - s11), m0, v0)) fun (v1 : ((Arr (32 : Nat) Int) × Bool)) =>
    some (s3, s10, v1.snd, m0, m1, v1.fst)
theorem tree_climb_R2_eq (self : Int × Int × (Arr 32 Int) × (List (Arr 32 Int)) → Option ((Arr 32 Int) × Bool)) (s0 : Int) (s1 : Int) (s3 : List (Arr 32 Int)) (s10 : Int) (s11 : Int) (m0 : Arr 32 Int) (m1 : Arr 32 Int) : (tree_climb_R2_X self) s0 s1 s3 s10 s11 m0 m1 = (tree_climb_R2 self) s0 s1 s3 s10 s11 m0 m1 := by unfold tree_climb_R2_X; simp only [agree_self]; rfl
def tree_climb_R2_P (self : Int × Int × (Arr 32 Int) × (List (Arr 32 Int)) → Option ((Arr 32 Int) × Bool)) : Int × Int × (List (Arr 32 Int)) × Int × Int × (Arr 32 Int) × (Arr 32 Int) → Option ((List (Arr 32 Int)) × Int × Bool × (Arr 32 Int) × (Arr 32 Int) × (Arr 32 Int)) := fun p => (tree_climb_R2 self) p.1 p.2.1 p.2.2.1 p.2.2.2.1 p.2.2.2.2.1 p.2.2.2.2.2.1 p.2.2.2.2.2.2
def tree_climb_S (self : Int × Int × (Arr 32 Int) × (List (Arr 32 Int)) → Option ((Arr 32 Int) × Bool)) (s0 : Int) (s1 : Int) (s2 : Arr 32 Int) (s3 : List (Arr 32 Int)) : Option ((Arr 32 Int) × Bool) :=
  if (s0 == (1 : Int)) = true then
    if (s0 == (1 : Int)) = true then
      some (s2, (((List.length s3) : Nat) : Int) == (0 : Int))
    else
    some (s2, false)
  else
  if ((((List.length s3) : Nat) : Int) == (0 : Int)) = true then
    if (s0 == (1 : Int)) = true then
      some (s2, (((List.length s3) : Nat) : Int) == (0 : Int))
    else
    some (s2, false)
  else
  Option.bind (tree_split_P s0) fun (v0 : Int) =>
  if decide (s1 < v0) = true then
    Option.bind ((tree_climb_R1_P self) (s1, s3, IntKind.wrap IntKind.i64 ((((List.length s3) : Nat) : Int) - (1 : Int)), v0, s2, Arr.rep (32 : Nat) (0 : Int))) fun (v1 : ((List (Arr (32 : Nat) Int)) × (Int × (Bool × ((Arr (32 : Nat) Int) × ((Arr (32 : Nat) Int) × (Arr (32 : Nat) Int))))))) =>
    Option.bind (ix v1.fst v1.snd.fst) fun (v2 : (Arr (32 : Nat) Int)) =>
    Option.bind (tree_Node_P (v1.snd.snd.snd.snd.snd, v2)) fun (v3 : (Arr (32 : Nat) Int)) =>
    some (v3, v1.snd.snd.fst)
  else
  Option.bind ((tree_climb_R2_P self) (s0, s1, s3, IntKind.wrap IntKind.i64 ((((List.length s3) : Nat) : Int) - (1 : Int)), v0, s2, Arr.rep (32 : Nat) (0 : Int))) fun (v4 : ((List (Arr (32 : Nat) Int)) × (Int × (Bool × ((Arr (32 : Nat) Int) × ((Arr (32 : Nat) Int) × (Arr (32 : Nat) Int))))))) =>
  Option.bind (ix v4.fst v4.snd.fst) fun (v5 : (Arr (32 : Nat) Int)) =>
  Option.bind (tree_Node_P (v5, v4.snd.snd.snd.snd.snd)) fun (v6 : (Arr (32 : Nat) Int)) =>
  some (v6, v4.snd.snd.fst)
def tree_climb_F : Nat → Int × Int × (Arr 32 Int) × (List (Arr 32 Int)) → Option ((Arr 32 Int) × Bool)
  | 0 => fun _ => none
  | n + 1 => fun p => tree_climb_S (tree_climb_F n) p.1 p.2.1 p.2.2.1 p.2.2.2
def tree_climb_MF (n : Nat) : HL [(.int .i64), (.int .i64), (.arr 32 (.int .u8)), (.slc (.arr 32 (.int .u8)))] → Option (SumL [[(.arr 32 (.int .u8)), .bool]]) := fun p => tree_climb_F n p
def tree_climb_CF (n : Nat) : Con := ⟨0, tree_climb_T, tree_climb_O, stdCn [(.int .i64), (.int .i64), (.arr 32 (.int .u8)), (.slc (.arr 32 (.int .u8)))] [[(.arr 32 (.int .u8)), .bool]] (tree_climb_MF n)⟩
def tree_climb_R1_MM (n : Nat) : HL [(.int .i64), (.slc (.arr 32 (.int .u8))), (.int .i64), (.int .i64), (.arr 32 (.int .u8)), (.arr 32 (.int .u8))] → Option (SumL [[(.slc (.arr 32 (.int .u8))), (.int .i64), .bool, (.arr 32 (.int .u8)), (.arr 32 (.int .u8)), (.arr 32 (.int .u8))]]) := fun p => (tree_climb_R1 (tree_climb_F n)) p.1 p.2.1 p.2.2.1 p.2.2.2.1 p.2.2.2.2.1 p.2.2.2.2.2
def tree_climb_R1_C (n : Nat) : Con := ⟨2, tree_climb_R1_T, tree_climb_R1_O, stdCn [(.int .i64), (.slc (.arr 32 (.int .u8))), (.int .i64), (.int .i64), (.arr 32 (.int .u8)), (.arr 32 (.int .u8))] [[(.slc (.arr 32 (.int .u8))), (.int .i64), .bool, (.arr 32 (.int .u8)), (.arr 32 (.int .u8)), (.arr 32 (.int .u8))]] (tree_climb_R1_MM n)⟩
def tree_climb_R2_MM (n : Nat) : HL [(.int .i64), (.int .i64), (.slc (.arr 32 (.int .u8))), (.int .i64), (.int .i64), (.arr 32 (.int .u8)), (.arr 32 (.int .u8))] → Option (SumL [[(.slc (.arr 32 (.int .u8))), (.int .i64), .bool, (.arr 32 (.int .u8)), (.arr 32 (.int .u8)), (.arr 32 (.int .u8))]]) := fun p => (tree_climb_R2 (tree_climb_F n)) p.1 p.2.1 p.2.2.1 p.2.2.2.1 p.2.2.2.2.1 p.2.2.2.2.2.1 p.2.2.2.2.2.2
def tree_climb_R2_C (n : Nat) : Con := ⟨2, tree_climb_R2_T, tree_climb_R2_O, stdCn [(.int .i64), (.int .i64), (.slc (.arr 32 (.int .u8))), (.int .i64), (.int .i64), (.arr 32 (.int .u8)), (.arr 32 (.int .u8))] [[(.slc (.arr 32 (.int .u8))), (.int .i64), .bool, (.arr 32 (.int .u8)), (.arr 32 (.int .u8)), (.arr 32 (.int .u8))]] (tree_climb_R2_MM n)⟩
def tree_climb_M (s0 : Int) (s1 : Int) (s2 : Arr 32 Int) (s3 : List (Arr 32 Int)) : Option ((Arr 32 Int) × Bool) := tree_climb_F fuel (s0, s1, s2, s3)
def tree_climb_P : Int × Int × (Arr 32 Int) × (List (Arr 32 Int)) → Option ((Arr 32 Int) × Bool) := fun p => tree_climb_M p.1 p.2.1 p.2.2.1 p.2.2.2
def tree_climb_MM : HL [(.int .i64), (.int .i64), (.arr 32 (.int .u8)), (.slc (.arr 32 (.int .u8)))] → Option (SumL [[(.arr 32 (.int .u8)), .bool]]) := fun p => tree_climb_M p.1 p.2.1 p.2.2.1 p.2.2.2
def tree_climb_C : Con := ⟨0, tree_climb_T, tree_climb_O, stdCn [(.int .i64), (.int .i64), (.arr 32 (.int .u8)), (.slc (.arr 32 (.int .u8)))] [[(.arr 32 (.int .u8)), .bool]] tree_climb_MM⟩

def tree_Check_T : Tm := ⟨[(0, true, [.hole (.arr 32 (.int .u8))]), (1, false, [.hole (.int .i64)]), (2, false, [.hole (.int .i64)]), (3, false, [.hole (.slc (.int .u8))]), (4, false, [.hole (.slc (.arr 32 (.int .u8)))])], 5, []⟩
def tree_Check_O : List (Ex × Tm) := [(.ret, ⟨[(0, false, [.hole .bool])], 1, []⟩)]
def tree_Check_M (s0 : Arr 32 Int) (s1 : Int) (s2 : Int) (s3 : List Int) (s4 : List (Arr 32 Int)) : Option (Bool) :=
  if decide (s2 < (0 : Int)) = true then
    some (false)
  else
  if decide (s2 ≥ s1) = true then
    some (false)
  else
  if decide ((((List.length s4) : Nat) : Int) > (64 : Int)) = true then
    some (false)
  else
  Option.bind (tree_Leaf_P s3) fun (v0 : (Arr (32 : Nat) Int)) =>
  Option.bind (tree_climb_P (s1, s2, v0, s4)) fun (v1 : ((Arr (32 : Nat) Int) × Bool)) =>
  if v1.snd = true then
    some (xeqv.eqI v1.fst.val s0.val)
  else
  some (false)
def tree_Check_P : (Arr 32 Int) × Int × Int × (List Int) × (List (Arr 32 Int)) → Option (Bool) := fun p => tree_Check_M p.1 p.2.1 p.2.2.1 p.2.2.2.1 p.2.2.2.2
def tree_Check_MM : HL [(.arr 32 (.int .u8)), (.int .i64), (.int .i64), (.slc (.int .u8)), (.slc (.arr 32 (.int .u8)))] → Option (SumL [[.bool]]) := fun p => tree_Check_M p.1 p.2.1 p.2.2.1 p.2.2.2.1 p.2.2.2.2
def tree_Check_C : Con := ⟨0, tree_Check_T, tree_Check_O, stdCn [(.arr 32 (.int .u8)), (.int .i64), (.int .i64), (.slc (.int .u8)), (.slc (.arr 32 (.int .u8)))] [[.bool]] tree_Check_MM⟩

def intagliolaw12_awake_T : Tm := ⟨[], 0, []⟩
def intagliolaw12_awake_O : List (Ex × Tm) := [(.ret, ⟨[(0, false, [.hole .bool])], 1, []⟩)]
def intagliolaw12_awake_M  : Option (Bool) :=
  Option.bind (tree_Path_P ([[(1 : Int)], [(2 : Int)], [(3 : Int)]], (2 : Int))) fun (v0 : (Bool × (List (Arr (32 : Nat) Int)))) =>
  if v0.fst = true then
    if ((((List.length v0.snd) : Nat) : Int) == (1 : Int)) = true then
      Option.bind (inb (List.length v0.snd) (0 : Int)) fun _ =>
      Option.bind (inb (3 : Nat) (0 : Int)) fun _ =>
      Option.bind (inb (3 : Nat) (1 : Int)) fun _ =>
      Option.bind (tree_Leaf_P (List.getD [[(1 : Int)], [(2 : Int)], [(3 : Int)]] (nat_lit 0) [])) fun (v4 : (Arr (32 : Nat) Int)) =>
      Option.bind (tree_Leaf_P (List.getD [[(1 : Int)], [(2 : Int)], [(3 : Int)]] (nat_lit 1) [])) fun (v5 : (Arr (32 : Nat) Int)) =>
      Option.bind (tree_Node_P (v4, v5)) fun (v6 : (Arr (32 : Nat) Int)) =>
      if xeqv.eqI (List.getD v0.snd (nat_lit 0) (Arr.rep (32 : Nat) (0 : Int))).val v6.val = true then
        Option.bind (inb (3 : Nat) (2 : Int)) fun _ =>
        Option.bind (tree_Root_P [[(1 : Int)], [(2 : Int)], [(3 : Int)]]) fun (v8 : (Arr (32 : Nat) Int)) =>
        Option.bind (tree_Check_P (v8, (3 : Int), (2 : Int), List.getD [[(1 : Int)], [(2 : Int)], [(3 : Int)]] (nat_lit 2) [], v0.snd)) fun (v9 : Bool) =>
        if v9 = true then
          Option.bind (inb (3 : Nat) (1 : Int)) fun _ =>
          Option.bind (tree_Root_P [[(1 : Int)], [(2 : Int)], [(3 : Int)]]) fun (v11 : (Arr (32 : Nat) Int)) =>
          Option.bind (tree_Check_P (v11, (3 : Int), (2 : Int), List.getD [[(1 : Int)], [(2 : Int)], [(3 : Int)]] (nat_lit 1) [], v0.snd)) fun (v12 : Bool) =>
          some (!v12)
        else
        some (false)
      else
      some (false)
    else
    some (false)
  else
  some (false)
def intagliolaw12_awake_P : Unit → Option (Bool) := fun p => intagliolaw12_awake_M 
def intagliolaw12_awake_MM : HL [] → Option (SumL [[.bool]]) := fun p => intagliolaw12_awake_M 
def intagliolaw12_awake_C : Con := ⟨0, intagliolaw12_awake_T, intagliolaw12_awake_O, stdCn [] [[.bool]] intagliolaw12_awake_MM⟩

def intaglioref01_Both_T : Tm := ⟨[(0, false, [.hole (.slc (.int .u8))]), (1, false, [.hole (.slc (.int .u8))])], 2, []⟩
def intaglioref01_Both_O : List (Ex × Tm) := [(.ret, ⟨[(0, false, [.row 0])], 1, [.row (.int .u8)]⟩)]
def intaglioref01_Both_M (s0 : List Int) (s1 : List Int) : Option ((List Int)) :=
  Option.bind (room (1 : Nat) ((0 : Nat) + List.length s0)) fun _ =>
  Option.bind (room (1 : Nat) (List.length s0 + List.length s1)) fun _ =>
  some (s0 ++ s1)
def intaglioref01_Both_P : (List Int) × (List Int) → Option ((List Int)) := fun p => intaglioref01_Both_M p.1 p.2
def intaglioref01_Both_MM : HL [(.slc (.int .u8)), (.slc (.int .u8))] → Option (SumL [[(.slc (.int .u8))]]) := fun p => intaglioref01_Both_M p.1 p.2
def intaglioref01_Both_C : Con := ⟨0, intaglioref01_Both_T, intaglioref01_Both_O, stdCn [(.slc (.int .u8)), (.slc (.int .u8))] [[(.slc (.int .u8))]] intaglioref01_Both_MM⟩

def intaglioref12_LeafText_T : Tm := ⟨[(0, false, [.hole (.slc (.int .u8))])], 1, []⟩
def intaglioref12_LeafText_O : List (Ex × Tm) := [(.ret, ⟨[(0, false, [.row 0])], 1, [.row (.int .u8)]⟩)]
def intaglioref12_LeafText_M (s0 : List Int) : Option ((List Int)) :=
  Option.bind (intaglioref01_Both_P ([(0 : Int)], s0)) fun (v0 : (List Int)) =>
  some (v0)
def intaglioref12_LeafText_P : (List Int) → Option ((List Int)) := fun p => intaglioref12_LeafText_M p
def intaglioref12_LeafText_MM : HL [(.slc (.int .u8))] → Option (SumL [[(.slc (.int .u8))]]) := fun p => intaglioref12_LeafText_M p
def intaglioref12_LeafText_C : Con := ⟨0, intaglioref12_LeafText_T, intaglioref12_LeafText_O, stdCn [(.slc (.int .u8))] [[(.slc (.int .u8))]] intaglioref12_LeafText_MM⟩

def intaglioref05_Primes_L3_T : Tm := ⟨[(0, false, [.hole (.int .i64)]), (3, false, [.row 0]), (4, false, [.hole (.int .u64)]), (5, false, [.hole .bool]), (6, false, [.hole (.int .i64)])], 39, [.row (.int .u64)]⟩
def intaglioref05_Primes_L3_O : List (Ex × Tm) := [(.exit 2, ⟨[(0, false, [.hole (.int .i64)]), (3, false, [.row 0]), (4, false, [.hole (.int .u64)]), (5, false, [.hole .bool])], 39, [.row (.int .u64)]⟩)]
def intaglioref05_Primes_L3 (s0 : Int) (s4 : Int) (s5 : Bool) (s6 : Int) (r0 : List Int) : Option ((Int × Int × Bool × Int × (List Int)) ⊕ ((Int × Int × Bool × (List Int)))) :=
  if decide (s6 < (((List.length r0) : Nat) : Int)) = true then
    if s5 = true then
      Option.bind (inb (List.length r0) s6) fun _ =>
      Option.bind (grem IntKind.u64 s4 (List.getD r0 (Int.toNat s6) (0 : Int))) fun (v1 : Int) =>
      some (.inl (s0, s4, v1 != (0 : Int), IntKind.wrap IntKind.i64 (s6 + (1 : Int)), r0))
    else
    some (.inl (s0, s4, false, IntKind.wrap IntKind.i64 (s6 + (1 : Int)), r0))
  else
  some (.inr (s0, s4, s5, r0))
def intaglioref05_Primes_L3_P : Int × Int × Bool × Int × (List Int) → Option ((Int × Int × Bool × Int × (List Int)) ⊕ ((Int × Int × Bool × (List Int)))) := fun p => intaglioref05_Primes_L3 p.1 p.2.1 p.2.2.1 p.2.2.2.1 p.2.2.2.2
def intaglioref05_Primes_L3_MM : HL [(.int .i64), (.int .u64), .bool, (.int .i64), (.slc (.int .u64))] → Option (HL [(.int .i64), (.int .u64), .bool, (.int .i64), (.slc (.int .u64))] ⊕ SumL [[(.int .i64), (.int .u64), .bool, (.slc (.int .u64))]]) := fun p => intaglioref05_Primes_L3 p.1 p.2.1 p.2.2.1 p.2.2.2.1 p.2.2.2.2
def intaglioref05_Primes_L3_C : Con := ⟨0, intaglioref05_Primes_L3_T, intaglioref05_Primes_L3_O, stdCn [(.int .i64), (.int .u64), .bool, (.int .i64), (.slc (.int .u64))] [[(.int .i64), (.int .u64), .bool, (.slc (.int .u64))]] (loop intaglioref05_Primes_L3_MM)⟩
def intaglioref05_Primes_L1_T : Tm := ⟨[(0, false, [.hole (.int .i64)]), (3, false, [.row 0]), (4, false, [.hole (.int .u64)])], 39, [.row (.int .u64)]⟩
def intaglioref05_Primes_L1_O : List (Ex × Tm) := [(.exit 0, ⟨[(3, false, [.row 0])], 39, [.row (.int .u64)]⟩)]
def intaglioref05_Primes_L1 (s0 : Int) (s4 : Int) (r0 : List Int) : Option ((Int × Int × (List Int)) ⊕ (((List Int)))) :=
  if decide ((((List.length r0) : Nat) : Int) < s0) = true then
    if decide (s4 < (1000 : Int)) = true then
      Option.bind (loop intaglioref05_Primes_L3_P (s0, s4, true, (0 : Int), r0)) fun (v0 : (Int × (Int × (Bool × (List Int))))) =>
      if v0.snd.snd.fst = true then
        Option.bind (room (8 : Nat) (List.length v0.snd.snd.snd + List.length [v0.snd.fst])) fun _ =>
        some (.inl (v0.fst, IntKind.wrap IntKind.u64 (v0.snd.fst + (1 : Int)), v0.snd.snd.snd ++ [v0.snd.fst]))
      else
      some (.inl (v0.fst, IntKind.wrap IntKind.u64 (v0.snd.fst + (1 : Int)), v0.snd.snd.snd))
    else
    some (.inr (r0))
  else
  some (.inr (r0))
def intaglioref05_Primes_L1_P : Int × Int × (List Int) → Option ((Int × Int × (List Int)) ⊕ (((List Int)))) := fun p => intaglioref05_Primes_L1 p.1 p.2.1 p.2.2
def intaglioref05_Primes_L1_MM : HL [(.int .i64), (.int .u64), (.slc (.int .u64))] → Option (HL [(.int .i64), (.int .u64), (.slc (.int .u64))] ⊕ SumL [[(.slc (.int .u64))]]) := fun p => intaglioref05_Primes_L1 p.1 p.2.1 p.2.2
def intaglioref05_Primes_L1_C : Con := ⟨0, intaglioref05_Primes_L1_T, intaglioref05_Primes_L1_O, stdCn [(.int .i64), (.int .u64), (.slc (.int .u64))] [[(.slc (.int .u64))]] (loop intaglioref05_Primes_L1_MM)⟩
def intaglioref05_Primes_T : Tm := ⟨[(0, false, [.hole (.int .i64)])], 1, []⟩
def intaglioref05_Primes_O : List (Ex × Tm) := [(.ret, ⟨[(0, false, [.row 0])], 1, [.row (.int .u64)]⟩)]
def intaglioref05_Primes_M (s0 : Int) : Option ((List Int)) :=
  Option.bind (loop intaglioref05_Primes_L1_P (s0, (2 : Int), [])) fun (v0 : (List Int)) =>
  some (v0)
def intaglioref05_Primes_P : Int → Option ((List Int)) := fun p => intaglioref05_Primes_M p
def intaglioref05_Primes_MM : HL [(.int .i64)] → Option (SumL [[(.slc (.int .u64))]]) := fun p => intaglioref05_Primes_M p
def intaglioref05_Primes_C : Con := ⟨0, intaglioref05_Primes_T, intaglioref05_Primes_O, stdCn [(.int .i64)] [[(.slc (.int .u64))]] intaglioref05_Primes_MM⟩

def intaglioref05_times_L2_T : Tm := ⟨[(2, false, [.ptr 0 0]), (3, false, [.ptr 1 0]), (4, false, [.ptr 2 0]), (5, false, [.ptr 3 0]), (6, false, [.hole (.int .i64)]), (7, false, [.hole (.int .u64)]), (8, false, [.hole (.int .i64)])], 45, [.box [.hole (.arr 6 (.int .u64))], .box [.hole (.arr 6 (.int .u64))], .box [.hole (.arr 6 (.int .u64))], .box [.hole (.arr 6 (.int .u64))]]⟩
def intaglioref05_times_L2_O : List (Ex × Tm) := [(.exit 2, ⟨[(2, false, [.ptr 0 0]), (3, false, [.ptr 1 0]), (4, false, [.ptr 2 0]), (5, false, [.ptr 3 0]), (6, false, [.hole (.int .i64)]), (7, false, [.hole (.int .u64)])], 45, [.box [.hole (.arr 6 (.int .u64))], .box [.hole (.arr 6 (.int .u64))], .box [.hole (.arr 6 (.int .u64))], .box [.hole (.arr 6 (.int .u64))]]⟩)]
def intaglioref05_times_L2 (s6 : Int) (s7 : Int) (s8 : Int) (m0 : Arr 6 Int) (m1 : Arr 6 Int) (m2 : Arr 6 Int) (m3 : Arr 6 Int) : Option ((Int × Int × Int × (Arr 6 Int) × (Arr 6 Int) × (Arr 6 Int) × (Arr 6 Int)) ⊕ ((Int × Int × (Arr 6 Int) × (Arr 6 Int) × (Arr 6 Int) × (Arr 6 Int)))) :=
  if decide (s8 < (2 : Int)) = true then
    Option.bind (inb (6 : Nat) (IntKind.wrap IntKind.i64 (s6 + s8))) fun _ =>
    Option.bind (inb (6 : Nat) s6) fun _ =>
    Option.bind (inb (6 : Nat) s8) fun _ =>
    Option.bind (grem IntKind.u64 (IntKind.wrap IntKind.u64 (IntKind.wrap IntKind.u64 (s7 + List.getD m3.val (Int.toNat (IntKind.wrap IntKind.i64 (s6 + s8))) (0 : Int)) + IntKind.wrap IntKind.u64 (List.getD m0.val (Int.toNat s6) (0 : Int) * List.getD m1.val (Int.toNat s8) (0 : Int)))) (4294967296 : Int)) fun (v3 : Int) =>
    Option.bind (inb (6 : Nat) (IntKind.wrap IntKind.i64 (s6 + s8))) fun _ =>
    Option.bind (gquo IntKind.u64 (IntKind.wrap IntKind.u64 (IntKind.wrap IntKind.u64 (s7 + List.getD m3.val (Int.toNat (IntKind.wrap IntKind.i64 (s6 + s8))) (0 : Int)) + IntKind.wrap IntKind.u64 (List.getD m0.val (Int.toNat s6) (0 : Int) * List.getD m1.val (Int.toNat s8) (0 : Int)))) (4294967296 : Int)) fun (v5 : Int) =>
    some (.inl (s6, v5, IntKind.wrap IntKind.i64 (s8 + (1 : Int)), m0, m1, m2, Arr.set m3 (Int.toNat (IntKind.wrap IntKind.i64 (s6 + s8))) v3))
  else
  some (.inr (s6, s7, m0, m1, m2, m3))
def intaglioref05_times_L2_P : Int × Int × Int × (Arr 6 Int) × (Arr 6 Int) × (Arr 6 Int) × (Arr 6 Int) → Option ((Int × Int × Int × (Arr 6 Int) × (Arr 6 Int) × (Arr 6 Int) × (Arr 6 Int)) ⊕ ((Int × Int × (Arr 6 Int) × (Arr 6 Int) × (Arr 6 Int) × (Arr 6 Int)))) := fun p => intaglioref05_times_L2 p.1 p.2.1 p.2.2.1 p.2.2.2.1 p.2.2.2.2.1 p.2.2.2.2.2.1 p.2.2.2.2.2.2
def intaglioref05_times_L2_MM : HL [(.int .i64), (.int .u64), (.int .i64), (.arr 6 (.int .u64)), (.arr 6 (.int .u64)), (.arr 6 (.int .u64)), (.arr 6 (.int .u64))] → Option (HL [(.int .i64), (.int .u64), (.int .i64), (.arr 6 (.int .u64)), (.arr 6 (.int .u64)), (.arr 6 (.int .u64)), (.arr 6 (.int .u64))] ⊕ SumL [[(.int .i64), (.int .u64), (.arr 6 (.int .u64)), (.arr 6 (.int .u64)), (.arr 6 (.int .u64)), (.arr 6 (.int .u64))]]) := fun p => intaglioref05_times_L2 p.1 p.2.1 p.2.2.1 p.2.2.2.1 p.2.2.2.2.1 p.2.2.2.2.2.1 p.2.2.2.2.2.2
def intaglioref05_times_L2_C : Con := ⟨4, intaglioref05_times_L2_T, intaglioref05_times_L2_O, stdCn [(.int .i64), (.int .u64), (.int .i64), (.arr 6 (.int .u64)), (.arr 6 (.int .u64)), (.arr 6 (.int .u64)), (.arr 6 (.int .u64))] [[(.int .i64), (.int .u64), (.arr 6 (.int .u64)), (.arr 6 (.int .u64)), (.arr 6 (.int .u64)), (.arr 6 (.int .u64))]] (loop intaglioref05_times_L2_MM)⟩
def intaglioref05_times_L1_T : Tm := ⟨[(2, false, [.ptr 0 0]), (3, false, [.ptr 1 0]), (4, false, [.ptr 2 0]), (5, false, [.ptr 3 0]), (6, false, [.hole (.int .i64)])], 45, [.box [.hole (.arr 6 (.int .u64))], .box [.hole (.arr 6 (.int .u64))], .box [.hole (.arr 6 (.int .u64))], .box [.hole (.arr 6 (.int .u64))]]⟩
def intaglioref05_times_L1_O : List (Ex × Tm) := [(.exit 0, ⟨[(4, false, [.ptr 2 0]), (5, false, [.ptr 3 0])], 45, [.box [.hole (.arr 6 (.int .u64))], .box [.hole (.arr 6 (.int .u64))], .box [.hole (.arr 6 (.int .u64))], .box [.hole (.arr 6 (.int .u64))]]⟩)]
def intaglioref05_times_L1 (s6 : Int) (m0 : Arr 6 Int) (m1 : Arr 6 Int) (m2 : Arr 6 Int) (m3 : Arr 6 Int) : Option ((Int × (Arr 6 Int) × (Arr 6 Int) × (Arr 6 Int) × (Arr 6 Int)) ⊕ (((Arr 6 Int) × (Arr 6 Int) × (Arr 6 Int) × (Arr 6 Int)))) :=
  if decide (s6 < (4 : Int)) = true then
    Option.bind (loop intaglioref05_times_L2_P (s6, (0 : Int), (0 : Int), m0, m1, m2, m3)) fun (v0 : (Int × (Int × ((Arr (6 : Nat) Int) × ((Arr (6 : Nat) Int) × ((Arr (6 : Nat) Int) × (Arr (6 : Nat) Int))))))) =>
    Option.bind (inb (6 : Nat) (IntKind.wrap IntKind.i64 (v0.fst + (2 : Int)))) fun _ =>
    some (.inl (IntKind.wrap IntKind.i64 (v0.fst + (1 : Int)), v0.snd.snd.fst, v0.snd.snd.snd.fst, v0.snd.snd.snd.snd.fst, Arr.set v0.snd.snd.snd.snd.snd (Int.toNat (IntKind.wrap IntKind.i64 (v0.fst + (2 : Int)))) v0.snd.fst))
  else
  some (.inr (m0, m1, m2, m3))
def intaglioref05_times_L1_P : Int × (Arr 6 Int) × (Arr 6 Int) × (Arr 6 Int) × (Arr 6 Int) → Option ((Int × (Arr 6 Int) × (Arr 6 Int) × (Arr 6 Int) × (Arr 6 Int)) ⊕ (((Arr 6 Int) × (Arr 6 Int) × (Arr 6 Int) × (Arr 6 Int)))) := fun p => intaglioref05_times_L1 p.1 p.2.1 p.2.2.1 p.2.2.2.1 p.2.2.2.2
def intaglioref05_times_L1_MM : HL [(.int .i64), (.arr 6 (.int .u64)), (.arr 6 (.int .u64)), (.arr 6 (.int .u64)), (.arr 6 (.int .u64))] → Option (HL [(.int .i64), (.arr 6 (.int .u64)), (.arr 6 (.int .u64)), (.arr 6 (.int .u64)), (.arr 6 (.int .u64))] ⊕ SumL [[(.arr 6 (.int .u64)), (.arr 6 (.int .u64)), (.arr 6 (.int .u64)), (.arr 6 (.int .u64))]]) := fun p => intaglioref05_times_L1 p.1 p.2.1 p.2.2.1 p.2.2.2.1 p.2.2.2.2
def intaglioref05_times_L1_C : Con := ⟨4, intaglioref05_times_L1_T, intaglioref05_times_L1_O, stdCn [(.int .i64), (.arr 6 (.int .u64)), (.arr 6 (.int .u64)), (.arr 6 (.int .u64)), (.arr 6 (.int .u64))] [[(.arr 6 (.int .u64)), (.arr 6 (.int .u64)), (.arr 6 (.int .u64)), (.arr 6 (.int .u64))]] (loop intaglioref05_times_L1_MM)⟩
def intaglioref05_times_T : Tm := ⟨[(0, true, [.hole (.arr 6 (.int .u64))]), (1, true, [.hole (.arr 6 (.int .u64))])], 2, []⟩
def intaglioref05_times_O : List (Ex × Tm) := [(.ret, ⟨[(0, true, [.hole (.arr 6 (.int .u64))])], 1, []⟩)]
def intaglioref05_times_M (s0 : Arr 6 Int) (s1 : Arr 6 Int) : Option ((Arr 6 Int)) :=
  Option.bind (loop intaglioref05_times_L1_P ((0 : Int), s0, s1, Arr.rep (6 : Nat) (0 : Int), Arr.rep (6 : Nat) (0 : Int))) fun (v0 : ((Arr (6 : Nat) Int) × ((Arr (6 : Nat) Int) × ((Arr (6 : Nat) Int) × (Arr (6 : Nat) Int))))) =>
  some (v0.snd.snd.snd)
def intaglioref05_times_P : (Arr 6 Int) × (Arr 6 Int) → Option ((Arr 6 Int)) := fun p => intaglioref05_times_M p.1 p.2
def intaglioref05_times_MM : HL [(.arr 6 (.int .u64)), (.arr 6 (.int .u64))] → Option (SumL [[(.arr 6 (.int .u64))]]) := fun p => intaglioref05_times_M p.1 p.2
def intaglioref05_times_C : Con := ⟨0, intaglioref05_times_T, intaglioref05_times_O, stdCn [(.arr 6 (.int .u64)), (.arr 6 (.int .u64))] [[(.arr 6 (.int .u64))]] intaglioref05_times_MM⟩

def intaglioref05_of_T : Tm := ⟨[(0, false, [.hole (.int .u64)])], 1, []⟩
def intaglioref05_of_O : List (Ex × Tm) := [(.ret, ⟨[(0, true, [.hole (.arr 6 (.int .u64))])], 1, []⟩)]
def intaglioref05_of_M (s0 : Int) : Option ((Arr 6 Int)) :=
  Option.bind (grem IntKind.u64 s0 (4294967296 : Int)) fun (v0 : Int) =>
  Option.bind (gquo IntKind.u64 s0 (4294967296 : Int)) fun (v1 : Int) =>
  some (Arr.of (6 : Nat) [v0, v1, (0 : Int), (0 : Int), (0 : Int), (0 : Int)] rfl)
def intaglioref05_of_P : Int → Option ((Arr 6 Int)) := fun p => intaglioref05_of_M p
def intaglioref05_of_MM : HL [(.int .u64)] → Option (SumL [[(.arr 6 (.int .u64))]]) := fun p => intaglioref05_of_M p
def intaglioref05_of_C : Con := ⟨0, intaglioref05_of_T, intaglioref05_of_O, stdCn [(.int .u64)] [[(.arr 6 (.int .u64))]] intaglioref05_of_MM⟩

def intaglioref05_above_L1_T : Tm := ⟨[(2, false, [.ptr 0 0]), (3, false, [.ptr 1 0]), (5, false, [.hole (.int .i64)])], 24, [.box [.hole (.arr 6 (.int .u64))], .box [.hole (.arr 6 (.int .u64))]]⟩
def intaglioref05_above_L1_O : List (Ex × Tm) := [(.exit 0, ⟨[], 24, [.box [.hole (.arr 6 (.int .u64))], .box [.hole (.arr 6 (.int .u64))]]⟩), (.ret, ⟨[(4, false, [.hole .bool])], 24, [.box [.hole (.arr 6 (.int .u64))], .box [.hole (.arr 6 (.int .u64))]]⟩)]
def intaglioref05_above_L1 (s5 : Int) (m0 : Arr 6 Int) (m1 : Arr 6 Int) : Option ((Int × (Arr 6 Int) × (Arr 6 Int)) ⊕ (((Arr 6 Int) × (Arr 6 Int)) ⊕ (Bool × (Arr 6 Int) × (Arr 6 Int)))) :=
  if decide (s5 ≥ (0 : Int)) = true then
    Option.bind (inb (6 : Nat) s5) fun _ =>
    Option.bind (inb (6 : Nat) s5) fun _ =>
    if (List.getD m0.val (Int.toNat s5) (0 : Int) != List.getD m1.val (Int.toNat s5) (0 : Int)) = true then
      Option.bind (inb (6 : Nat) s5) fun _ =>
      Option.bind (inb (6 : Nat) s5) fun _ =>
      some (.inr (.inr (decide (List.getD m0.val (Int.toNat s5) (0 : Int) > List.getD m1.val (Int.toNat s5) (0 : Int)), m0, m1)))
    else
    some (.inl (IntKind.wrap IntKind.i64 (s5 - (1 : Int)), m0, m1))
  else
  some (.inr (.inl (m0, m1)))
def intaglioref05_above_L1_P : Int × (Arr 6 Int) × (Arr 6 Int) → Option ((Int × (Arr 6 Int) × (Arr 6 Int)) ⊕ (((Arr 6 Int) × (Arr 6 Int)) ⊕ (Bool × (Arr 6 Int) × (Arr 6 Int)))) := fun p => intaglioref05_above_L1 p.1 p.2.1 p.2.2
def intaglioref05_above_L1_MM : HL [(.int .i64), (.arr 6 (.int .u64)), (.arr 6 (.int .u64))] → Option (HL [(.int .i64), (.arr 6 (.int .u64)), (.arr 6 (.int .u64))] ⊕ SumL [[(.arr 6 (.int .u64)), (.arr 6 (.int .u64))], [.bool, (.arr 6 (.int .u64)), (.arr 6 (.int .u64))]]) := fun p => intaglioref05_above_L1 p.1 p.2.1 p.2.2
def intaglioref05_above_L1_C : Con := ⟨2, intaglioref05_above_L1_T, intaglioref05_above_L1_O, stdCn [(.int .i64), (.arr 6 (.int .u64)), (.arr 6 (.int .u64))] [[(.arr 6 (.int .u64)), (.arr 6 (.int .u64))], [.bool, (.arr 6 (.int .u64)), (.arr 6 (.int .u64))]] (loop intaglioref05_above_L1_MM)⟩
def intaglioref05_above_T : Tm := ⟨[(0, true, [.hole (.arr 6 (.int .u64))]), (1, true, [.hole (.arr 6 (.int .u64))])], 2, []⟩
def intaglioref05_above_O : List (Ex × Tm) := [(.ret, ⟨[(0, false, [.hole .bool])], 1, []⟩)]
def intaglioref05_above_M (s0 : Arr 6 Int) (s1 : Arr 6 Int) : Option (Bool) :=
  Option.bind (loop intaglioref05_above_L1_P ((5 : Int), s0, s1)) fun (v0 : (((Arr (6 : Nat) Int) × (Arr (6 : Nat) Int)) ⊕ (Bool × ((Arr (6 : Nat) Int) × (Arr (6 : Nat) Int))))) =>
  Sum.elim (fun (v1 : ((Arr (6 : Nat) Int) × (Arr (6 : Nat) Int))) =>
      some (false)
    ) (fun (v2 : (Bool × ((Arr (6 : Nat) Int) × (Arr (6 : Nat) Int)))) =>
    some (v2.fst)
  ) (v0)
def intaglioref05_above_P : (Arr 6 Int) × (Arr 6 Int) → Option (Bool) := fun p => intaglioref05_above_M p.1 p.2
def intaglioref05_above_MM : HL [(.arr 6 (.int .u64)), (.arr 6 (.int .u64))] → Option (SumL [[.bool]]) := fun p => intaglioref05_above_M p.1 p.2
def intaglioref05_above_C : Con := ⟨0, intaglioref05_above_T, intaglioref05_above_O, stdCn [(.arr 6 (.int .u64)), (.arr 6 (.int .u64))] [[.bool]] intaglioref05_above_MM⟩

def intaglioref05_root_L1_T : Tm := ⟨[(1, false, [.hole (.int .i64)]), (5, false, [.ptr 0 0]), (6, false, [.hole (.int .u64)]), (7, false, [.hole (.int .i64)])], 40, [.box [.hole (.arr 6 (.int .u64))]]⟩
def intaglioref05_root_L1_O : List (Ex × Tm) := [(.exit 0, ⟨[(6, false, [.hole (.int .u64)])], 40, [.box [.hole (.arr 6 (.int .u64))]]⟩)]
def intaglioref05_root_L1 (s1 : Int) (s6 : Int) (s7 : Int) (m0 : Arr 6 Int) : Option ((Int × Int × Int × (Arr 6 Int)) ⊕ ((Int × (Arr 6 Int)))) :=
  if decide (s7 < (38 : Int)) = true then
    Option.bind (gshl IntKind.u64 (1 : Int) (IntKind.wrap IntKind.i64 ((37 : Int) - s7))) fun (v0 : Int) =>
    Option.bind (intaglioref05_of_P (IntKind.wrap IntKind.u64 (s6 + v0))) fun (v1 : (Arr (6 : Nat) Int)) =>
    Option.bind (intaglioref05_of_P (IntKind.wrap IntKind.u64 (s6 + v0))) fun (v2 : (Arr (6 : Nat) Int)) =>
    Option.bind (intaglioref05_times_P (v1, v2)) fun (v3 : (Arr (6 : Nat) Int)) =>
    if (s1 == (3 : Int)) = true then
      Option.bind (intaglioref05_of_P (IntKind.wrap IntKind.u64 (s6 + v0))) fun (v4 : (Arr (6 : Nat) Int)) =>
      Option.bind (intaglioref05_times_P (v3, v4)) fun (v5 : (Arr (6 : Nat) Int)) =>
      Option.bind (intaglioref05_above_P (v5, m0)) fun (v6 : Bool) =>
      if (!v6) = true then
        some (.inl (s1, IntKind.wrap IntKind.u64 (s6 + v0), IntKind.wrap IntKind.i64 (s7 + (1 : Int)), m0))
      else
      some (.inl (s1, s6, IntKind.wrap IntKind.i64 (s7 + (1 : Int)), m0))
    else
    Option.bind (intaglioref05_above_P (v3, m0)) fun (v7 : Bool) =>
    if (!v7) = true then
      some (.inl (s1, IntKind.wrap IntKind.u64 (s6 + v0), IntKind.wrap IntKind.i64 (s7 + (1 : Int)), m0))
    else
    some (.inl (s1, s6, IntKind.wrap IntKind.i64 (s7 + (1 : Int)), m0))
  else
  some (.inr (s6, m0))
def intaglioref05_root_L1_P : Int × Int × Int × (Arr 6 Int) → Option ((Int × Int × Int × (Arr 6 Int)) ⊕ ((Int × (Arr 6 Int)))) := fun p => intaglioref05_root_L1 p.1 p.2.1 p.2.2.1 p.2.2.2
def intaglioref05_root_L1_MM : HL [(.int .i64), (.int .u64), (.int .i64), (.arr 6 (.int .u64))] → Option (HL [(.int .i64), (.int .u64), (.int .i64), (.arr 6 (.int .u64))] ⊕ SumL [[(.int .u64), (.arr 6 (.int .u64))]]) := fun p => intaglioref05_root_L1 p.1 p.2.1 p.2.2.1 p.2.2.2
def intaglioref05_root_L1_C : Con := ⟨1, intaglioref05_root_L1_T, intaglioref05_root_L1_O, stdCn [(.int .i64), (.int .u64), (.int .i64), (.arr 6 (.int .u64))] [[(.int .u64), (.arr 6 (.int .u64))]] (loop intaglioref05_root_L1_MM)⟩
def intaglioref05_root_T : Tm := ⟨[(0, false, [.hole (.int .u64)]), (1, false, [.hole (.int .i64)])], 2, []⟩
def intaglioref05_root_O : List (Ex × Tm) := [(.ret, ⟨[(0, false, [.hole (.int .u32)])], 1, []⟩)]
def intaglioref05_root_M (s0 : Int) (s1 : Int) : Option (Int) :=
  Option.bind (inb (6 : Nat) s1) fun _ =>
  Option.bind (loop intaglioref05_root_L1_P (s1, (0 : Int), (0 : Int), Arr.set (Arr.rep (6 : Nat) (0 : Int)) (Int.toNat s1) s0)) fun (v1 : (Int × (Arr (6 : Nat) Int))) =>
  some (IntKind.wrap IntKind.u32 v1.fst)
def intaglioref05_root_P : Int × Int → Option (Int) := fun p => intaglioref05_root_M p.1 p.2
def intaglioref05_root_MM : HL [(.int .u64), (.int .i64)] → Option (SumL [[(.int .u32)]]) := fun p => intaglioref05_root_M p.1 p.2
def intaglioref05_root_C : Con := ⟨0, intaglioref05_root_T, intaglioref05_root_O, stdCn [(.int .u64), (.int .i64)] [[(.int .u32)]] intaglioref05_root_MM⟩

def intaglioref01_High_L1_T : Tm := ⟨[(0, false, [.hole (.int .u64)]), (1, false, [.hole (.int .i64)]), (5, false, [.row 0]), (6, false, [.hole (.int .i64)])], 26, [.row (.int .u8)]⟩
def intaglioref01_High_L1_O : List (Ex × Tm) := [(.exit 0, ⟨[(5, false, [.row 0])], 26, [.row (.int .u8)]⟩)]
def intaglioref01_High_L1 (s0 : Int) (s1 : Int) (s6 : Int) (r0 : List Int) : Option ((Int × Int × Int × (List Int)) ⊕ (((List Int)))) :=
  if decide (s6 < s1) = true then
    Option.bind (grem IntKind.u64 s0 (256 : Int)) fun (v0 : Int) =>
    Option.bind (inb (List.length r0) (IntKind.wrap IntKind.i64 (IntKind.wrap IntKind.i64 (s1 - (1 : Int)) - s6))) fun _ =>
    Option.bind (gquo IntKind.u64 s0 (256 : Int)) fun (v2 : Int) =>
    some (.inl (v2, s1, IntKind.wrap IntKind.i64 (s6 + (1 : Int)), List.set r0 (Int.toNat (IntKind.wrap IntKind.i64 (IntKind.wrap IntKind.i64 (s1 - (1 : Int)) - s6))) (IntKind.wrap IntKind.u8 v0)))
  else
  some (.inr (r0))
def intaglioref01_High_L1_P : Int × Int × Int × (List Int) → Option ((Int × Int × Int × (List Int)) ⊕ (((List Int)))) := fun p => intaglioref01_High_L1 p.1 p.2.1 p.2.2.1 p.2.2.2
def intaglioref01_High_L1_MM : HL [(.int .u64), (.int .i64), (.int .i64), (.slc (.int .u8))] → Option (HL [(.int .u64), (.int .i64), (.int .i64), (.slc (.int .u8))] ⊕ SumL [[(.slc (.int .u8))]]) := fun p => intaglioref01_High_L1 p.1 p.2.1 p.2.2.1 p.2.2.2
def intaglioref01_High_L1_C : Con := ⟨0, intaglioref01_High_L1_T, intaglioref01_High_L1_O, stdCn [(.int .u64), (.int .i64), (.int .i64), (.slc (.int .u8))] [[(.slc (.int .u8))]] (loop intaglioref01_High_L1_MM)⟩
def intaglioref01_High_T : Tm := ⟨[(0, false, [.hole (.int .u64)]), (1, false, [.hole (.int .i64)])], 2, []⟩
def intaglioref01_High_O : List (Ex × Tm) := [(.ret, ⟨[(0, false, [.row 0])], 1, [.row (.int .u8)]⟩)]
def intaglioref01_High_M (s0 : Int) (s1 : Int) : Option ((List Int)) :=
  Option.bind (mk2 (1 : Nat) s1 s1) fun (v0 : Nat) =>
  Option.bind (loop intaglioref01_High_L1_P (s0, s1, (0 : Int), List.replicate v0 (0 : Int))) fun (v1 : (List Int)) =>
  some (v1)
def intaglioref01_High_P : Int × Int → Option ((List Int)) := fun p => intaglioref01_High_M p.1 p.2
def intaglioref01_High_MM : HL [(.int .u64), (.int .i64)] → Option (SumL [[(.slc (.int .u8))]]) := fun p => intaglioref01_High_M p.1 p.2
def intaglioref01_High_C : Con := ⟨0, intaglioref01_High_T, intaglioref01_High_O, stdCn [(.int .u64), (.int .i64)] [[(.slc (.int .u8))]] intaglioref01_High_MM⟩

def intaglioref05_Pad_L1_T : Tm := ⟨[(0, false, [.hole (.int .i64)]), (3, false, [.row 0]), (4, false, [.hole (.int .i64)])], 31, [.row (.int .u8)]⟩
def intaglioref05_Pad_L1_O : List (Ex × Tm) := [(.exit 0, ⟨[(0, false, [.hole (.int .i64)]), (3, false, [.row 0])], 31, [.row (.int .u8)]⟩)]
def intaglioref05_Pad_L1 (s0 : Int) (s4 : Int) (r0 : List Int) : Option ((Int × Int × (List Int)) ⊕ ((Int × (List Int)))) :=
  if decide (s4 < (64 : Int)) = true then
    Option.bind (grem IntKind.i64 s0 (64 : Int)) fun (v0 : Int) =>
    Option.bind (grem IntKind.i64 (IntKind.wrap IntKind.i64 (IntKind.wrap IntKind.i64 (v0 + (((List.length r0) : Nat) : Int)) + (8 : Int))) (64 : Int)) fun (v1 : Int) =>
    if (v1 != (0 : Int)) = true then
      Option.bind (room (1 : Nat) (List.length r0 + (1 : Nat))) fun _ =>
      some (.inl (s0, IntKind.wrap IntKind.i64 (s4 + (1 : Int)), r0 ++ [(0 : Int)]))
    else
    some (.inr (s0, r0))
  else
  some (.inr (s0, r0))
def intaglioref05_Pad_L1_P : Int × Int × (List Int) → Option ((Int × Int × (List Int)) ⊕ ((Int × (List Int)))) := fun p => intaglioref05_Pad_L1 p.1 p.2.1 p.2.2
def intaglioref05_Pad_L1_MM : HL [(.int .i64), (.int .i64), (.slc (.int .u8))] → Option (HL [(.int .i64), (.int .i64), (.slc (.int .u8))] ⊕ SumL [[(.int .i64), (.slc (.int .u8))]]) := fun p => intaglioref05_Pad_L1 p.1 p.2.1 p.2.2
def intaglioref05_Pad_L1_C : Con := ⟨0, intaglioref05_Pad_L1_T, intaglioref05_Pad_L1_O, stdCn [(.int .i64), (.int .i64), (.slc (.int .u8))] [[(.int .i64), (.slc (.int .u8))]] (loop intaglioref05_Pad_L1_MM)⟩
def intaglioref05_Pad_T : Tm := ⟨[(0, false, [.hole (.int .i64)])], 1, []⟩
def intaglioref05_Pad_O : List (Ex × Tm) := [(.ret, ⟨[(0, false, [.row 0])], 1, [.row (.int .u8)]⟩)]
def intaglioref05_Pad_M (s0 : Int) : Option ((List Int)) :=
  if decide (s0 < (0 : Int)) = true then
    Option.bind (loop intaglioref05_Pad_L1_P ((0 : Int), (0 : Int), [(128 : Int)])) fun (v0 : (Int × (List Int))) =>
    Option.bind (intaglioref01_High_P (IntKind.wrap IntKind.u64 ((8 : Int) * IntKind.wrap IntKind.u64 v0.fst), (8 : Int))) fun (v1 : (List Int)) =>
    Option.bind (room (1 : Nat) (List.length v0.snd + List.length v1)) fun _ =>
    some (v0.snd ++ v1)
  else
  Option.bind (loop intaglioref05_Pad_L1_P (s0, (0 : Int), [(128 : Int)])) fun (v3 : (Int × (List Int))) =>
  Option.bind (intaglioref01_High_P (IntKind.wrap IntKind.u64 ((8 : Int) * IntKind.wrap IntKind.u64 v3.fst), (8 : Int))) fun (v4 : (List Int)) =>
  Option.bind (room (1 : Nat) (List.length v3.snd + List.length v4)) fun _ =>
  some (v3.snd ++ v4)
def intaglioref05_Pad_P : Int → Option ((List Int)) := fun p => intaglioref05_Pad_M p
def intaglioref05_Pad_MM : HL [(.int .i64)] → Option (SumL [[(.slc (.int .u8))]]) := fun p => intaglioref05_Pad_M p
def intaglioref05_Pad_C : Con := ⟨0, intaglioref05_Pad_T, intaglioref05_Pad_O, stdCn [(.int .i64)] [[(.slc (.int .u8))]] intaglioref05_Pad_MM⟩

def intaglioref05_turn_T : Tm := ⟨[(0, false, [.hole (.int .u32)]), (1, false, [.hole (.int .i64)])], 2, []⟩
def intaglioref05_turn_O : List (Ex × Tm) := [(.ret, ⟨[(0, false, [.hole (.int .u32)])], 1, []⟩)]
def intaglioref05_turn_M (s0 : Int) (s1 : Int) : Option (Int) :=
  Option.bind (gshr IntKind.u32 s0 s1) fun (v0 : Int) =>
  Option.bind (gshl IntKind.u32 s0 (IntKind.wrap IntKind.i64 ((32 : Int) - s1))) fun (v1 : Int) =>
  some (bor IntKind.u32 v0 v1)
def intaglioref05_turn_P : Int × Int → Option (Int) := fun p => intaglioref05_turn_M p.1 p.2
def intaglioref05_turn_MM : HL [(.int .u32), (.int .i64)] → Option (SumL [[(.int .u32)]]) := fun p => intaglioref05_turn_M p.1 p.2
def intaglioref05_turn_C : Con := ⟨0, intaglioref05_turn_T, intaglioref05_turn_O, stdCn [(.int .u32), (.int .i64)] [[(.int .u32)]] intaglioref05_turn_MM⟩

def intaglioref05_block_L1_T : Tm := ⟨[(1, false, [.hole (.slc (.int .u8))]), (3, false, [.ptr 0 0]), (5, false, [.ptr 1 0]), (6, false, [.ptr 2 0]), (7, false, [.ptr 3 0]), (8, false, [.hole (.int .i64)])], 197, [.box [.hole (.arr 8 (.int .u32))], .box [.hole (.arr 64 (.int .u32))], .box [.hole (.arr 8 (.int .u32))], .box [.hole (.arr 64 (.int .u32))]]⟩
def intaglioref05_block_L1_O : List (Ex × Tm) := [(.exit 0, ⟨[(3, false, [.ptr 0 0]), (5, false, [.ptr 1 0]), (6, false, [.ptr 2 0]), (7, false, [.ptr 3 0])], 197, [.box [.hole (.arr 8 (.int .u32))], .box [.hole (.arr 64 (.int .u32))], .box [.hole (.arr 8 (.int .u32))], .box [.hole (.arr 64 (.int .u32))]]⟩)]
def intaglioref05_block_L1 (s1 : List Int) (s8 : Int) (m0 : Arr 8 Int) (m1 : Arr 64 Int) (m2 : Arr 8 Int) (m3 : Arr 64 Int) : Option (((List Int) × Int × (Arr 8 Int) × (Arr 64 Int) × (Arr 8 Int) × (Arr 64 Int)) ⊕ (((Arr 8 Int) × (Arr 64 Int) × (Arr 8 Int) × (Arr 64 Int)))) :=
  if decide (s8 < (64 : Int)) = true then
    Option.bind (gquo IntKind.i64 s8 (4 : Int)) fun (v0 : Int) =>
    Option.bind (gquo IntKind.i64 s8 (4 : Int)) fun (v1 : Int) =>
    Option.bind (inb (64 : Nat) v1) fun _ =>
    Option.bind (ix s1 s8) fun (v3 : Int) =>
    Option.bind (inb (64 : Nat) v0) fun _ =>
    some (.inl (s1, IntKind.wrap IntKind.i64 (s8 + (1 : Int)), m0, m1, m2, Arr.set m3 (Int.toNat v0) (IntKind.wrap IntKind.u32 (IntKind.wrap IntKind.u32 (List.getD m3.val (Int.toNat v1) (0 : Int) * (256 : Int)) + IntKind.wrap IntKind.u32 v3))))
  else
  some (.inr (m0, m1, m2, m3))
def intaglioref05_block_L1_P : (List Int) × Int × (Arr 8 Int) × (Arr 64 Int) × (Arr 8 Int) × (Arr 64 Int) → Option (((List Int) × Int × (Arr 8 Int) × (Arr 64 Int) × (Arr 8 Int) × (Arr 64 Int)) ⊕ (((Arr 8 Int) × (Arr 64 Int) × (Arr 8 Int) × (Arr 64 Int)))) := fun p => intaglioref05_block_L1 p.1 p.2.1 p.2.2.1 p.2.2.2.1 p.2.2.2.2.1 p.2.2.2.2.2
def intaglioref05_block_L1_MM : HL [(.slc (.int .u8)), (.int .i64), (.arr 8 (.int .u32)), (.arr 64 (.int .u32)), (.arr 8 (.int .u32)), (.arr 64 (.int .u32))] → Option (HL [(.slc (.int .u8)), (.int .i64), (.arr 8 (.int .u32)), (.arr 64 (.int .u32)), (.arr 8 (.int .u32)), (.arr 64 (.int .u32))] ⊕ SumL [[(.arr 8 (.int .u32)), (.arr 64 (.int .u32)), (.arr 8 (.int .u32)), (.arr 64 (.int .u32))]]) := fun p => intaglioref05_block_L1 p.1 p.2.1 p.2.2.1 p.2.2.2.1 p.2.2.2.2.1 p.2.2.2.2.2
def intaglioref05_block_L1_C : Con := ⟨4, intaglioref05_block_L1_T, intaglioref05_block_L1_O, stdCn [(.slc (.int .u8)), (.int .i64), (.arr 8 (.int .u32)), (.arr 64 (.int .u32)), (.arr 8 (.int .u32)), (.arr 64 (.int .u32))] [[(.arr 8 (.int .u32)), (.arr 64 (.int .u32)), (.arr 8 (.int .u32)), (.arr 64 (.int .u32))]] (loop intaglioref05_block_L1_MM)⟩
def intaglioref05_block_L2_T : Tm := ⟨[(3, false, [.ptr 0 0]), (5, false, [.ptr 1 0]), (6, false, [.ptr 2 0]), (7, false, [.ptr 3 0]), (9, false, [.hole (.int .i64)])], 197, [.box [.hole (.arr 8 (.int .u32))], .box [.hole (.arr 64 (.int .u32))], .box [.hole (.arr 8 (.int .u32))], .box [.hole (.arr 64 (.int .u32))]]⟩
def intaglioref05_block_L2_O : List (Ex × Tm) := [(.exit 2, ⟨[(3, false, [.ptr 0 0]), (5, false, [.ptr 1 0]), (6, false, [.ptr 2 0]), (7, false, [.ptr 3 0])], 197, [.box [.hole (.arr 8 (.int .u32))], .box [.hole (.arr 64 (.int .u32))], .box [.hole (.arr 8 (.int .u32))], .box [.hole (.arr 64 (.int .u32))]]⟩)]
def intaglioref05_block_L2 (s9 : Int) (m0 : Arr 8 Int) (m1 : Arr 64 Int) (m2 : Arr 8 Int) (m3 : Arr 64 Int) : Option ((Int × (Arr 8 Int) × (Arr 64 Int) × (Arr 8 Int) × (Arr 64 Int)) ⊕ (((Arr 8 Int) × (Arr 64 Int) × (Arr 8 Int) × (Arr 64 Int)))) :=
  if decide (s9 < (64 : Int)) = true then
    Option.bind (inb (64 : Nat) (IntKind.wrap IntKind.i64 (s9 - (15 : Int)))) fun _ =>
    Option.bind (inb (64 : Nat) (IntKind.wrap IntKind.i64 (s9 - (15 : Int)))) fun _ =>
    Option.bind (inb (64 : Nat) (IntKind.wrap IntKind.i64 (s9 - (15 : Int)))) fun _ =>
    Option.bind (gshr IntKind.u32 (List.getD m3.val (Int.toNat (IntKind.wrap IntKind.i64 (s9 - (15 : Int)))) (0 : Int)) (3 : Int)) fun (v3 : Int) =>
    Option.bind (intaglioref05_turn_P (List.getD m3.val (Int.toNat (IntKind.wrap IntKind.i64 (s9 - (15 : Int)))) (0 : Int), (7 : Int))) fun (v4 : Int) =>
    Option.bind (intaglioref05_turn_P (List.getD m3.val (Int.toNat (IntKind.wrap IntKind.i64 (s9 - (15 : Int)))) (0 : Int), (18 : Int))) fun (v5 : Int) =>
    Option.bind (inb (64 : Nat) (IntKind.wrap IntKind.i64 (s9 - (2 : Int)))) fun _ =>
    Option.bind (inb (64 : Nat) (IntKind.wrap IntKind.i64 (s9 - (2 : Int)))) fun _ =>
    Option.bind (inb (64 : Nat) (IntKind.wrap IntKind.i64 (s9 - (2 : Int)))) fun _ =>
    Option.bind (gshr IntKind.u32 (List.getD m3.val (Int.toNat (IntKind.wrap IntKind.i64 (s9 - (2 : Int)))) (0 : Int)) (10 : Int)) fun (v9 : Int) =>
    Option.bind (intaglioref05_turn_P (List.getD m3.val (Int.toNat (IntKind.wrap IntKind.i64 (s9 - (2 : Int)))) (0 : Int), (17 : Int))) fun (v10 : Int) =>
    Option.bind (intaglioref05_turn_P (List.getD m3.val (Int.toNat (IntKind.wrap IntKind.i64 (s9 - (2 : Int)))) (0 : Int), (19 : Int))) fun (v11 : Int) =>
    Option.bind (inb (64 : Nat) (IntKind.wrap IntKind.i64 (s9 - (7 : Int)))) fun _ =>
    Option.bind (inb (64 : Nat) (IntKind.wrap IntKind.i64 (s9 - (16 : Int)))) fun _ =>
    Option.bind (inb (64 : Nat) s9) fun _ =>
    some (.inl (IntKind.wrap IntKind.i64 (s9 + (1 : Int)), m0, m1, m2, Arr.set m3 (Int.toNat s9) (IntKind.wrap IntKind.u32 (IntKind.wrap IntKind.u32 (IntKind.wrap IntKind.u32 (bxor IntKind.u32 (bxor IntKind.u32 v10 v11) v9 + List.getD m3.val (Int.toNat (IntKind.wrap IntKind.i64 (s9 - (7 : Int)))) (0 : Int)) + bxor IntKind.u32 (bxor IntKind.u32 v4 v5) v3) + List.getD m3.val (Int.toNat (IntKind.wrap IntKind.i64 (s9 - (16 : Int)))) (0 : Int)))))
  else
  some (.inr (m0, m1, m2, m3))
def intaglioref05_block_L2_P : Int × (Arr 8 Int) × (Arr 64 Int) × (Arr 8 Int) × (Arr 64 Int) → Option ((Int × (Arr 8 Int) × (Arr 64 Int) × (Arr 8 Int) × (Arr 64 Int)) ⊕ (((Arr 8 Int) × (Arr 64 Int) × (Arr 8 Int) × (Arr 64 Int)))) := fun p => intaglioref05_block_L2 p.1 p.2.1 p.2.2.1 p.2.2.2.1 p.2.2.2.2
def intaglioref05_block_L2_MM : HL [(.int .i64), (.arr 8 (.int .u32)), (.arr 64 (.int .u32)), (.arr 8 (.int .u32)), (.arr 64 (.int .u32))] → Option (HL [(.int .i64), (.arr 8 (.int .u32)), (.arr 64 (.int .u32)), (.arr 8 (.int .u32)), (.arr 64 (.int .u32))] ⊕ SumL [[(.arr 8 (.int .u32)), (.arr 64 (.int .u32)), (.arr 8 (.int .u32)), (.arr 64 (.int .u32))]]) := fun p => intaglioref05_block_L2 p.1 p.2.1 p.2.2.1 p.2.2.2.1 p.2.2.2.2
def intaglioref05_block_L2_C : Con := ⟨4, intaglioref05_block_L2_T, intaglioref05_block_L2_O, stdCn [(.int .i64), (.arr 8 (.int .u32)), (.arr 64 (.int .u32)), (.arr 8 (.int .u32)), (.arr 64 (.int .u32))] [[(.arr 8 (.int .u32)), (.arr 64 (.int .u32)), (.arr 8 (.int .u32)), (.arr 64 (.int .u32))]] (loop intaglioref05_block_L2_MM)⟩
def intaglioref05_block_L4_T : Tm := ⟨[(3, false, [.ptr 0 0]), (5, false, [.ptr 1 0]), (6, false, [.ptr 2 0]), (7, false, [.ptr 3 0]), (12, false, [.ptr 4 0]), (13, false, [.hole (.int .i64)]), (16, false, [.hole (.int .u32)]), (17, false, [.hole (.int .u32)]), (18, false, [.hole (.int .u32)]), (19, false, [.hole (.int .i64)])], 197, [.box [.hole (.arr 8 (.int .u32))], .box [.hole (.arr 64 (.int .u32))], .box [.hole (.arr 8 (.int .u32))], .box [.hole (.arr 64 (.int .u32))], .box [.hole (.arr 8 (.int .u32))]]⟩
def intaglioref05_block_L4_O : List (Ex × Tm) := [(.exit 6, ⟨[(3, false, [.ptr 0 0]), (5, false, [.ptr 1 0]), (6, false, [.ptr 2 0]), (7, false, [.ptr 3 0]), (12, false, [.ptr 4 0]), (13, false, [.hole (.int .i64)]), (16, false, [.hole (.int .u32)]), (17, false, [.hole (.int .u32)]), (18, false, [.hole (.int .u32)])], 197, [.box [.hole (.arr 8 (.int .u32))], .box [.hole (.arr 64 (.int .u32))], .box [.hole (.arr 8 (.int .u32))], .box [.hole (.arr 64 (.int .u32))], .box [.hole (.arr 8 (.int .u32))]]⟩)]
def intaglioref05_block_L4 (s13 : Int) (s16 : Int) (s17 : Int) (s18 : Int) (s19 : Int) (m0 : Arr 8 Int) (m1 : Arr 64 Int) (m2 : Arr 8 Int) (m3 : Arr 64 Int) (m4 : Arr 8 Int) : Option ((Int × Int × Int × Int × Int × (Arr 8 Int) × (Arr 64 Int) × (Arr 8 Int) × (Arr 64 Int) × (Arr 8 Int)) ⊕ ((Int × Int × Int × Int × (Arr 8 Int) × (Arr 64 Int) × (Arr 8 Int) × (Arr 64 Int) × (Arr 8 Int)))) :=
  if decide (s19 > (0 : Int)) = true then
    Option.bind (inb (8 : Nat) (IntKind.wrap IntKind.i64 (s19 - (1 : Int)))) fun _ =>
    Option.bind (inb (8 : Nat) s19) fun _ =>
    some (.inl (s13, s16, s17, s18, IntKind.wrap IntKind.i64 (s19 - (1 : Int)), m0, m1, m2, m3, Arr.set m4 (Int.toNat s19) (List.getD m4.val (Int.toNat (IntKind.wrap IntKind.i64 (s19 - (1 : Int)))) (0 : Int))))
  else
  some (.inr (s13, s16, s17, s18, m0, m1, m2, m3, m4))
def intaglioref05_block_L4_P : Int × Int × Int × Int × Int × (Arr 8 Int) × (Arr 64 Int) × (Arr 8 Int) × (Arr 64 Int) × (Arr 8 Int) → Option ((Int × Int × Int × Int × Int × (Arr 8 Int) × (Arr 64 Int) × (Arr 8 Int) × (Arr 64 Int) × (Arr 8 Int)) ⊕ ((Int × Int × Int × Int × (Arr 8 Int) × (Arr 64 Int) × (Arr 8 Int) × (Arr 64 Int) × (Arr 8 Int)))) := fun p => intaglioref05_block_L4 p.1 p.2.1 p.2.2.1 p.2.2.2.1 p.2.2.2.2.1 p.2.2.2.2.2.1 p.2.2.2.2.2.2.1 p.2.2.2.2.2.2.2.1 p.2.2.2.2.2.2.2.2.1 p.2.2.2.2.2.2.2.2.2
def intaglioref05_block_L4_MM : HL [(.int .i64), (.int .u32), (.int .u32), (.int .u32), (.int .i64), (.arr 8 (.int .u32)), (.arr 64 (.int .u32)), (.arr 8 (.int .u32)), (.arr 64 (.int .u32)), (.arr 8 (.int .u32))] → Option (HL [(.int .i64), (.int .u32), (.int .u32), (.int .u32), (.int .i64), (.arr 8 (.int .u32)), (.arr 64 (.int .u32)), (.arr 8 (.int .u32)), (.arr 64 (.int .u32)), (.arr 8 (.int .u32))] ⊕ SumL [[(.int .i64), (.int .u32), (.int .u32), (.int .u32), (.arr 8 (.int .u32)), (.arr 64 (.int .u32)), (.arr 8 (.int .u32)), (.arr 64 (.int .u32)), (.arr 8 (.int .u32))]]) := fun p => intaglioref05_block_L4 p.1 p.2.1 p.2.2.1 p.2.2.2.1 p.2.2.2.2.1 p.2.2.2.2.2.1 p.2.2.2.2.2.2.1 p.2.2.2.2.2.2.2.1 p.2.2.2.2.2.2.2.2.1 p.2.2.2.2.2.2.2.2.2
def intaglioref05_block_L4_C : Con := ⟨5, intaglioref05_block_L4_T, intaglioref05_block_L4_O, stdCn [(.int .i64), (.int .u32), (.int .u32), (.int .u32), (.int .i64), (.arr 8 (.int .u32)), (.arr 64 (.int .u32)), (.arr 8 (.int .u32)), (.arr 64 (.int .u32)), (.arr 8 (.int .u32))] [[(.int .i64), (.int .u32), (.int .u32), (.int .u32), (.arr 8 (.int .u32)), (.arr 64 (.int .u32)), (.arr 8 (.int .u32)), (.arr 64 (.int .u32)), (.arr 8 (.int .u32))]] (loop intaglioref05_block_L4_MM)⟩
def intaglioref05_block_L3_T : Tm := ⟨[(3, false, [.ptr 0 0]), (5, false, [.ptr 1 0]), (6, false, [.ptr 2 0]), (7, false, [.ptr 3 0]), (12, false, [.ptr 4 0]), (13, false, [.hole (.int .i64)])], 197, [.box [.hole (.arr 8 (.int .u32))], .box [.hole (.arr 64 (.int .u32))], .box [.hole (.arr 8 (.int .u32))], .box [.hole (.arr 64 (.int .u32))], .box [.hole (.arr 8 (.int .u32))]]⟩
def intaglioref05_block_L3_O : List (Ex × Tm) := [(.exit 4, ⟨[(3, false, [.ptr 0 0]), (6, false, [.ptr 2 0]), (12, false, [.ptr 4 0])], 197, [.box [.hole (.arr 8 (.int .u32))], .box [.hole (.arr 64 (.int .u32))], .box [.hole (.arr 8 (.int .u32))], .box [.hole (.arr 64 (.int .u32))], .box [.hole (.arr 8 (.int .u32))]]⟩)]
def intaglioref05_block_L3 (s13 : Int) (m0 : Arr 8 Int) (m1 : Arr 64 Int) (m2 : Arr 8 Int) (m3 : Arr 64 Int) (m4 : Arr 8 Int) : Option ((Int × (Arr 8 Int) × (Arr 64 Int) × (Arr 8 Int) × (Arr 64 Int) × (Arr 8 Int)) ⊕ (((Arr 8 Int) × (Arr 64 Int) × (Arr 8 Int) × (Arr 64 Int) × (Arr 8 Int)))) :=
  if decide (s13 < (64 : Int)) = true then
    Option.bind (inb (8 : Nat) (4 : Int)) fun _ =>
    Option.bind (inb (8 : Nat) (4 : Int)) fun _ =>
    Option.bind (inb (8 : Nat) (4 : Int)) fun _ =>
    Option.bind (intaglioref05_turn_P (List.getD m4.val (nat_lit 4) (0 : Int), (6 : Int))) fun (v3 : Int) =>
    Option.bind (intaglioref05_turn_P (List.getD m4.val (nat_lit 4) (0 : Int), (11 : Int))) fun (v4 : Int) =>
    Option.bind (intaglioref05_turn_P (List.getD m4.val (nat_lit 4) (0 : Int), (25 : Int))) fun (v5 : Int) =>
    Option.bind (inb (8 : Nat) (4 : Int)) fun _ =>
    Option.bind (inb (8 : Nat) (5 : Int)) fun _ =>
    Option.bind (inb (8 : Nat) (4 : Int)) fun _ =>
    Option.bind (inb (8 : Nat) (6 : Int)) fun _ =>
    Option.bind (inb (8 : Nat) (7 : Int)) fun _ =>
    Option.bind (inb (64 : Nat) s13) fun _ =>
    Option.bind (inb (64 : Nat) s13) fun _ =>
    Option.bind (inb (8 : Nat) (0 : Int)) fun _ =>
    Option.bind (inb (8 : Nat) (0 : Int)) fun _ =>
    Option.bind (inb (8 : Nat) (0 : Int)) fun _ =>
    Option.bind (intaglioref05_turn_P (List.getD m4.val (nat_lit 0) (0 : Int), (2 : Int))) fun (v16 : Int) =>
    Option.bind (intaglioref05_turn_P (List.getD m4.val (nat_lit 0) (0 : Int), (13 : Int))) fun (v17 : Int) =>
    Option.bind (intaglioref05_turn_P (List.getD m4.val (nat_lit 0) (0 : Int), (22 : Int))) fun (v18 : Int) =>
    Option.bind (inb (8 : Nat) (0 : Int)) fun _ =>
    Option.bind (inb (8 : Nat) (1 : Int)) fun _ =>
    Option.bind (inb (8 : Nat) (0 : Int)) fun _ =>
    Option.bind (inb (8 : Nat) (2 : Int)) fun _ =>
    Option.bind (inb (8 : Nat) (1 : Int)) fun _ =>
    Option.bind (inb (8 : Nat) (2 : Int)) fun _ =>
    Option.bind (loop intaglioref05_block_L4_P (s13, IntKind.wrap IntKind.u32 (IntKind.wrap IntKind.u32 (IntKind.wrap IntKind.u32 (IntKind.wrap IntKind.u32 (List.getD m4.val (nat_lit 7) (0 : Int) + bxor IntKind.u32 (bxor IntKind.u32 v3 v4) v5) + bxor IntKind.u32 (band IntKind.u32 (List.getD m4.val (nat_lit 4) (0 : Int)) (List.getD m4.val (nat_lit 5) (0 : Int))) (band IntKind.u32 (bxor IntKind.u32 (List.getD m4.val (nat_lit 4) (0 : Int)) (4294967295 : Int)) (List.getD m4.val (nat_lit 6) (0 : Int)))) + List.getD m1.val (Int.toNat s13) (0 : Int)) + List.getD m3.val (Int.toNat s13) (0 : Int)), bxor IntKind.u32 (bxor IntKind.u32 v16 v17) v18, bxor IntKind.u32 (bxor IntKind.u32 (band IntKind.u32 (List.getD m4.val (nat_lit 0) (0 : Int)) (List.getD m4.val (nat_lit 1) (0 : Int))) (band IntKind.u32 (List.getD m4.val (nat_lit 0) (0 : Int)) (List.getD m4.val (nat_lit 2) (0 : Int)))) (band IntKind.u32 (List.getD m4.val (nat_lit 1) (0 : Int)) (List.getD m4.val (nat_lit 2) (0 : Int))), (7 : Int), m0, m1, m2, m3, m4)) fun (v25 : (Int × (Int × (Int × (Int × ((Arr (8 : Nat) Int) × ((Arr (64 : Nat) Int) × ((Arr (8 : Nat) Int) × ((Arr (64 : Nat) Int) × (Arr (8 : Nat) Int)))))))))) =>
    Option.bind (inb (8 : Nat) (4 : Int)) fun _ =>
    Option.bind (inb (8 : Nat) (4 : Int)) fun _ =>
    Option.bind (inb (8 : Nat) (0 : Int)) fun _ =>
    some (.inl (IntKind.wrap IntKind.i64 (v25.fst + (1 : Int)), v25.snd.snd.snd.snd.fst, v25.snd.snd.snd.snd.snd.fst, v25.snd.snd.snd.snd.snd.snd.fst, v25.snd.snd.snd.snd.snd.snd.snd.fst, Arr.set (Arr.set v25.snd.snd.snd.snd.snd.snd.snd.snd (nat_lit 4) (IntKind.wrap IntKind.u32 (List.getD v25.snd.snd.snd.snd.snd.snd.snd.snd.val (nat_lit 4) (0 : Int) + v25.snd.fst))) (nat_lit 0) (IntKind.wrap IntKind.u32 (IntKind.wrap IntKind.u32 (v25.snd.fst + v25.snd.snd.fst) + v25.snd.snd.snd.fst))))
  else
  some (.inr (m0, m1, m2, m3, m4))
def intaglioref05_block_L3_P : Int × (Arr 8 Int) × (Arr 64 Int) × (Arr 8 Int) × (Arr 64 Int) × (Arr 8 Int) → Option ((Int × (Arr 8 Int) × (Arr 64 Int) × (Arr 8 Int) × (Arr 64 Int) × (Arr 8 Int)) ⊕ (((Arr 8 Int) × (Arr 64 Int) × (Arr 8 Int) × (Arr 64 Int) × (Arr 8 Int)))) := fun p => intaglioref05_block_L3 p.1 p.2.1 p.2.2.1 p.2.2.2.1 p.2.2.2.2.1 p.2.2.2.2.2
def intaglioref05_block_L3_MM : HL [(.int .i64), (.arr 8 (.int .u32)), (.arr 64 (.int .u32)), (.arr 8 (.int .u32)), (.arr 64 (.int .u32)), (.arr 8 (.int .u32))] → Option (HL [(.int .i64), (.arr 8 (.int .u32)), (.arr 64 (.int .u32)), (.arr 8 (.int .u32)), (.arr 64 (.int .u32)), (.arr 8 (.int .u32))] ⊕ SumL [[(.arr 8 (.int .u32)), (.arr 64 (.int .u32)), (.arr 8 (.int .u32)), (.arr 64 (.int .u32)), (.arr 8 (.int .u32))]]) := fun p => intaglioref05_block_L3 p.1 p.2.1 p.2.2.1 p.2.2.2.1 p.2.2.2.2.1 p.2.2.2.2.2
def intaglioref05_block_L3_C : Con := ⟨5, intaglioref05_block_L3_T, intaglioref05_block_L3_O, stdCn [(.int .i64), (.arr 8 (.int .u32)), (.arr 64 (.int .u32)), (.arr 8 (.int .u32)), (.arr 64 (.int .u32)), (.arr 8 (.int .u32))] [[(.arr 8 (.int .u32)), (.arr 64 (.int .u32)), (.arr 8 (.int .u32)), (.arr 64 (.int .u32)), (.arr 8 (.int .u32))]] (loop intaglioref05_block_L3_MM)⟩
def intaglioref05_block_L5_T : Tm := ⟨[(3, false, [.ptr 0 0]), (6, false, [.ptr 1 0]), (12, false, [.ptr 2 0]), (20, false, [.hole (.int .i64)])], 197, [.box [.hole (.arr 8 (.int .u32))], .box [.hole (.arr 8 (.int .u32))], .box [.hole (.arr 8 (.int .u32))]]⟩
def intaglioref05_block_L5_O : List (Ex × Tm) := [(.exit 8, ⟨[(3, false, [.ptr 0 0]), (6, false, [.ptr 1 0])], 197, [.box [.hole (.arr 8 (.int .u32))], .box [.hole (.arr 8 (.int .u32))], .box [.hole (.arr 8 (.int .u32))]]⟩)]
def intaglioref05_block_L5 (s20 : Int) (m0 : Arr 8 Int) (m1 : Arr 8 Int) (m2 : Arr 8 Int) : Option ((Int × (Arr 8 Int) × (Arr 8 Int) × (Arr 8 Int)) ⊕ (((Arr 8 Int) × (Arr 8 Int) × (Arr 8 Int)))) :=
  if decide (s20 < (8 : Int)) = true then
    Option.bind (inb (8 : Nat) s20) fun _ =>
    Option.bind (inb (8 : Nat) s20) fun _ =>
    Option.bind (inb (8 : Nat) s20) fun _ =>
    some (.inl (IntKind.wrap IntKind.i64 (s20 + (1 : Int)), Arr.set m0 (Int.toNat s20) (IntKind.wrap IntKind.u32 (List.getD m0.val (Int.toNat s20) (0 : Int) + List.getD m2.val (Int.toNat s20) (0 : Int))), m1, m2))
  else
  some (.inr (m0, m1, m2))
def intaglioref05_block_L5_P : Int × (Arr 8 Int) × (Arr 8 Int) × (Arr 8 Int) → Option ((Int × (Arr 8 Int) × (Arr 8 Int) × (Arr 8 Int)) ⊕ (((Arr 8 Int) × (Arr 8 Int) × (Arr 8 Int)))) := fun p => intaglioref05_block_L5 p.1 p.2.1 p.2.2.1 p.2.2.2
def intaglioref05_block_L5_MM : HL [(.int .i64), (.arr 8 (.int .u32)), (.arr 8 (.int .u32)), (.arr 8 (.int .u32))] → Option (HL [(.int .i64), (.arr 8 (.int .u32)), (.arr 8 (.int .u32)), (.arr 8 (.int .u32))] ⊕ SumL [[(.arr 8 (.int .u32)), (.arr 8 (.int .u32)), (.arr 8 (.int .u32))]]) := fun p => intaglioref05_block_L5 p.1 p.2.1 p.2.2.1 p.2.2.2
def intaglioref05_block_L5_C : Con := ⟨3, intaglioref05_block_L5_T, intaglioref05_block_L5_O, stdCn [(.int .i64), (.arr 8 (.int .u32)), (.arr 8 (.int .u32)), (.arr 8 (.int .u32))] [[(.arr 8 (.int .u32)), (.arr 8 (.int .u32)), (.arr 8 (.int .u32))]] (loop intaglioref05_block_L5_MM)⟩
def intaglioref05_block_T : Tm := ⟨[(0, true, [.hole (.arr 8 (.int .u32))]), (1, false, [.hole (.slc (.int .u8))]), (2, true, [.hole (.arr 64 (.int .u32))])], 3, []⟩
def intaglioref05_block_O : List (Ex × Tm) := [(.ret, ⟨[(0, true, [.hole (.arr 8 (.int .u32))])], 1, []⟩)]
def intaglioref05_block_M (s0 : Arr 8 Int) (s1 : List Int) (s2 : Arr 64 Int) : Option ((Arr 8 Int)) :=
  Option.bind (loop intaglioref05_block_L1_P (s1, (0 : Int), s0, s2, Arr.rep (8 : Nat) (0 : Int), Arr.rep (64 : Nat) (0 : Int))) fun (v0 : ((Arr (8 : Nat) Int) × ((Arr (64 : Nat) Int) × ((Arr (8 : Nat) Int) × (Arr (64 : Nat) Int))))) =>
  Option.bind (loop intaglioref05_block_L2_P ((16 : Int), v0.fst, v0.snd.fst, v0.snd.snd.fst, v0.snd.snd.snd)) fun (v1 : ((Arr (8 : Nat) Int) × ((Arr (64 : Nat) Int) × ((Arr (8 : Nat) Int) × (Arr (64 : Nat) Int))))) =>
  Option.bind (loop intaglioref05_block_L3_P ((0 : Int), v1.fst, v1.snd.fst, v1.snd.snd.fst, v1.snd.snd.snd, v1.fst)) fun (v2 : ((Arr (8 : Nat) Int) × ((Arr (64 : Nat) Int) × ((Arr (8 : Nat) Int) × ((Arr (64 : Nat) Int) × (Arr (8 : Nat) Int)))))) =>
  Option.bind (loop intaglioref05_block_L5_P ((0 : Int), v2.fst, v2.snd.snd.fst, v2.snd.snd.snd.snd)) fun (v3 : ((Arr (8 : Nat) Int) × ((Arr (8 : Nat) Int) × (Arr (8 : Nat) Int)))) =>
  some (v3.fst)
def intaglioref05_block_P : (Arr 8 Int) × (List Int) × (Arr 64 Int) → Option ((Arr 8 Int)) := fun p => intaglioref05_block_M p.1 p.2.1 p.2.2
def intaglioref05_block_MM : HL [(.arr 8 (.int .u32)), (.slc (.int .u8)), (.arr 64 (.int .u32))] → Option (SumL [[(.arr 8 (.int .u32))]]) := fun p => intaglioref05_block_M p.1 p.2.1 p.2.2
def intaglioref05_block_C : Con := ⟨0, intaglioref05_block_T, intaglioref05_block_O, stdCn [(.arr 8 (.int .u32)), (.slc (.int .u8)), (.arr 64 (.int .u32))] [[(.arr 8 (.int .u32))]] intaglioref05_block_MM⟩

def intaglioref05_Sum_L1_T : Tm := ⟨[(0, false, [.hole (.slc (.int .u8))]), (2, false, [.ptr 0 0]), (3, false, [.ptr 1 0]), (4, false, [.ptr 2 0]), (5, false, [.row 3]), (6, false, [.hole (.int .i64)])], 78, [.box [.hole (.arr 32 (.int .u8))], .box [.hole (.arr 64 (.int .u32))], .box [.hole (.arr 8 (.int .u32))], .row (.int .u64)]⟩
def intaglioref05_Sum_L1_O : List (Ex × Tm) := [(.exit 0, ⟨[(0, false, [.hole (.slc (.int .u8))]), (2, false, [.ptr 0 0]), (3, false, [.ptr 1 0]), (4, false, [.ptr 2 0]), (5, false, [.row 3])], 78, [.box [.hole (.arr 32 (.int .u8))], .box [.hole (.arr 64 (.int .u32))], .box [.hole (.arr 8 (.int .u32))], .row (.int .u64)]⟩)]
def intaglioref05_Sum_L1 (s0 : List Int) (s6 : Int) (m0 : Arr 32 Int) (m1 : Arr 64 Int) (m2 : Arr 8 Int) (r3 : List Int) : Option (((List Int) × Int × (Arr 32 Int) × (Arr 64 Int) × (Arr 8 Int) × (List Int)) ⊕ (((List Int) × (Arr 32 Int) × (Arr 64 Int) × (Arr 8 Int) × (List Int)))) :=
  if decide (s6 < (((List.length r3) : Nat) : Int)) = true then
    if decide (s6 < (64 : Int)) = true then
      Option.bind (inb (List.length r3) s6) fun _ =>
      Option.bind (intaglioref05_root_P (List.getD r3 (Int.toNat s6) (0 : Int), (3 : Int))) fun (v1 : Int) =>
      Option.bind (inb (64 : Nat) s6) fun _ =>
      some (.inl (s0, IntKind.wrap IntKind.i64 (s6 + (1 : Int)), m0, Arr.set m1 (Int.toNat s6) v1, m2, r3))
    else
    some (.inr (s0, m0, m1, m2, r3))
  else
  some (.inr (s0, m0, m1, m2, r3))
def intaglioref05_Sum_L1_P : (List Int) × Int × (Arr 32 Int) × (Arr 64 Int) × (Arr 8 Int) × (List Int) → Option (((List Int) × Int × (Arr 32 Int) × (Arr 64 Int) × (Arr 8 Int) × (List Int)) ⊕ (((List Int) × (Arr 32 Int) × (Arr 64 Int) × (Arr 8 Int) × (List Int)))) := fun p => intaglioref05_Sum_L1 p.1 p.2.1 p.2.2.1 p.2.2.2.1 p.2.2.2.2.1 p.2.2.2.2.2
def intaglioref05_Sum_L1_MM : HL [(.slc (.int .u8)), (.int .i64), (.arr 32 (.int .u8)), (.arr 64 (.int .u32)), (.arr 8 (.int .u32)), (.slc (.int .u64))] → Option (HL [(.slc (.int .u8)), (.int .i64), (.arr 32 (.int .u8)), (.arr 64 (.int .u32)), (.arr 8 (.int .u32)), (.slc (.int .u64))] ⊕ SumL [[(.slc (.int .u8)), (.arr 32 (.int .u8)), (.arr 64 (.int .u32)), (.arr 8 (.int .u32)), (.slc (.int .u64))]]) := fun p => intaglioref05_Sum_L1 p.1 p.2.1 p.2.2.1 p.2.2.2.1 p.2.2.2.2.1 p.2.2.2.2.2
def intaglioref05_Sum_L1_C : Con := ⟨3, intaglioref05_Sum_L1_T, intaglioref05_Sum_L1_O, stdCn [(.slc (.int .u8)), (.int .i64), (.arr 32 (.int .u8)), (.arr 64 (.int .u32)), (.arr 8 (.int .u32)), (.slc (.int .u64))] [[(.slc (.int .u8)), (.arr 32 (.int .u8)), (.arr 64 (.int .u32)), (.arr 8 (.int .u32)), (.slc (.int .u64))]] (loop intaglioref05_Sum_L1_MM)⟩
def intaglioref05_Sum_L2_T : Tm := ⟨[(0, false, [.hole (.slc (.int .u8))]), (2, false, [.ptr 0 0]), (3, false, [.ptr 1 0]), (4, false, [.ptr 2 0]), (5, false, [.row 3]), (7, false, [.hole (.int .i64)])], 78, [.box [.hole (.arr 32 (.int .u8))], .box [.hole (.arr 64 (.int .u32))], .box [.hole (.arr 8 (.int .u32))], .row (.int .u64)]⟩
def intaglioref05_Sum_L2_O : List (Ex × Tm) := [(.exit 2, ⟨[(0, false, [.hole (.slc (.int .u8))]), (2, false, [.ptr 0 0]), (3, false, [.ptr 1 0]), (4, false, [.ptr 2 0])], 78, [.box [.hole (.arr 32 (.int .u8))], .box [.hole (.arr 64 (.int .u32))], .box [.hole (.arr 8 (.int .u32))]]⟩)]
def intaglioref05_Sum_L2 (s0 : List Int) (s7 : Int) (m0 : Arr 32 Int) (m1 : Arr 64 Int) (m2 : Arr 8 Int) (r3 : List Int) : Option (((List Int) × Int × (Arr 32 Int) × (Arr 64 Int) × (Arr 8 Int) × (List Int)) ⊕ (((List Int) × (Arr 32 Int) × (Arr 64 Int) × (Arr 8 Int)))) :=
  if decide (s7 < (8 : Int)) = true then
    Option.bind (inb (List.length r3) s7) fun _ =>
    Option.bind (intaglioref05_root_P (List.getD r3 (Int.toNat s7) (0 : Int), (2 : Int))) fun (v1 : Int) =>
    Option.bind (inb (8 : Nat) s7) fun _ =>
    some (.inl (s0, IntKind.wrap IntKind.i64 (s7 + (1 : Int)), m0, m1, Arr.set m2 (Int.toNat s7) v1, r3))
  else
  some (.inr (s0, m0, m1, m2))
def intaglioref05_Sum_L2_P : (List Int) × Int × (Arr 32 Int) × (Arr 64 Int) × (Arr 8 Int) × (List Int) → Option (((List Int) × Int × (Arr 32 Int) × (Arr 64 Int) × (Arr 8 Int) × (List Int)) ⊕ (((List Int) × (Arr 32 Int) × (Arr 64 Int) × (Arr 8 Int)))) := fun p => intaglioref05_Sum_L2 p.1 p.2.1 p.2.2.1 p.2.2.2.1 p.2.2.2.2.1 p.2.2.2.2.2
def intaglioref05_Sum_L2_MM : HL [(.slc (.int .u8)), (.int .i64), (.arr 32 (.int .u8)), (.arr 64 (.int .u32)), (.arr 8 (.int .u32)), (.slc (.int .u64))] → Option (HL [(.slc (.int .u8)), (.int .i64), (.arr 32 (.int .u8)), (.arr 64 (.int .u32)), (.arr 8 (.int .u32)), (.slc (.int .u64))] ⊕ SumL [[(.slc (.int .u8)), (.arr 32 (.int .u8)), (.arr 64 (.int .u32)), (.arr 8 (.int .u32))]]) := fun p => intaglioref05_Sum_L2 p.1 p.2.1 p.2.2.1 p.2.2.2.1 p.2.2.2.2.1 p.2.2.2.2.2
def intaglioref05_Sum_L2_C : Con := ⟨3, intaglioref05_Sum_L2_T, intaglioref05_Sum_L2_O, stdCn [(.slc (.int .u8)), (.int .i64), (.arr 32 (.int .u8)), (.arr 64 (.int .u32)), (.arr 8 (.int .u32)), (.slc (.int .u64))] [[(.slc (.int .u8)), (.arr 32 (.int .u8)), (.arr 64 (.int .u32)), (.arr 8 (.int .u32))]] (loop intaglioref05_Sum_L2_MM)⟩
def intaglioref05_Sum_L3_T : Tm := ⟨[(2, false, [.ptr 0 0]), (3, false, [.ptr 1 0]), (4, false, [.ptr 2 0]), (8, false, [.row 3]), (9, false, [.hole (.int .i64)])], 78, [.box [.hole (.arr 32 (.int .u8))], .box [.hole (.arr 64 (.int .u32))], .box [.hole (.arr 8 (.int .u32))], .row (.int .u8)]⟩
def intaglioref05_Sum_L3_O : List (Ex × Tm) := [(.exit 4, ⟨[(2, false, [.ptr 0 0]), (4, false, [.ptr 2 0])], 78, [.box [.hole (.arr 32 (.int .u8))], .box [.hole (.arr 64 (.int .u32))], .box [.hole (.arr 8 (.int .u32))]]⟩)]
def intaglioref05_Sum_L3 (s9 : Int) (m0 : Arr 32 Int) (m1 : Arr 64 Int) (m2 : Arr 8 Int) (r3 : List Int) : Option ((Int × (Arr 32 Int) × (Arr 64 Int) × (Arr 8 Int) × (List Int)) ⊕ (((Arr 32 Int) × (Arr 64 Int) × (Arr 8 Int)))) :=
  if decide (IntKind.wrap IntKind.i64 (s9 + (64 : Int)) ≤ (((List.length r3) : Nat) : Int)) = true then
    Option.bind (subn (List.length r3) s9 (IntKind.wrap IntKind.i64 (s9 + (64 : Int)))) fun _ =>
    Option.bind (intaglioref05_block_P (m2, List.drop (Int.toNat s9) (List.take (Int.toNat (IntKind.wrap IntKind.i64 (s9 + (64 : Int)))) r3), m1)) fun (v1 : (Arr (8 : Nat) Int)) =>
    some (.inl (IntKind.wrap IntKind.i64 (s9 + (64 : Int)), m0, m1, v1, r3))
  else
  some (.inr (m0, m1, m2))
def intaglioref05_Sum_L3_P : Int × (Arr 32 Int) × (Arr 64 Int) × (Arr 8 Int) × (List Int) → Option ((Int × (Arr 32 Int) × (Arr 64 Int) × (Arr 8 Int) × (List Int)) ⊕ (((Arr 32 Int) × (Arr 64 Int) × (Arr 8 Int)))) := fun p => intaglioref05_Sum_L3 p.1 p.2.1 p.2.2.1 p.2.2.2.1 p.2.2.2.2
def intaglioref05_Sum_L3_MM : HL [(.int .i64), (.arr 32 (.int .u8)), (.arr 64 (.int .u32)), (.arr 8 (.int .u32)), (.slc (.int .u8))] → Option (HL [(.int .i64), (.arr 32 (.int .u8)), (.arr 64 (.int .u32)), (.arr 8 (.int .u32)), (.slc (.int .u8))] ⊕ SumL [[(.arr 32 (.int .u8)), (.arr 64 (.int .u32)), (.arr 8 (.int .u32))]]) := fun p => intaglioref05_Sum_L3 p.1 p.2.1 p.2.2.1 p.2.2.2.1 p.2.2.2.2
def intaglioref05_Sum_L3_C : Con := ⟨3, intaglioref05_Sum_L3_T, intaglioref05_Sum_L3_O, stdCn [(.int .i64), (.arr 32 (.int .u8)), (.arr 64 (.int .u32)), (.arr 8 (.int .u32)), (.slc (.int .u8))] [[(.arr 32 (.int .u8)), (.arr 64 (.int .u32)), (.arr 8 (.int .u32))]] (loop intaglioref05_Sum_L3_MM)⟩
def intaglioref05_Sum_L4_T : Tm := ⟨[(2, false, [.ptr 0 0]), (4, false, [.ptr 1 0]), (10, false, [.ptr 2 0]), (11, false, [.hole (.int .i64)])], 78, [.box [.hole (.arr 32 (.int .u8))], .box [.hole (.arr 8 (.int .u32))], .box [.hole (.arr 32 (.int .u8))]]⟩
def intaglioref05_Sum_L4_O : List (Ex × Tm) := [(.exit 6, ⟨[(2, false, [.ptr 0 0]), (10, false, [.ptr 2 0])], 78, [.box [.hole (.arr 32 (.int .u8))], .box [.hole (.arr 8 (.int .u32))], .box [.hole (.arr 32 (.int .u8))]]⟩)]
def intaglioref05_Sum_L4 (s11 : Int) (m0 : Arr 32 Int) (m1 : Arr 8 Int) (m2 : Arr 32 Int) : Option ((Int × (Arr 32 Int) × (Arr 8 Int) × (Arr 32 Int)) ⊕ (((Arr 32 Int) × (Arr 8 Int) × (Arr 32 Int)))) :=
  if decide (s11 < (32 : Int)) = true then
    Option.bind (gquo IntKind.i64 s11 (4 : Int)) fun (v0 : Int) =>
    Option.bind (inb (8 : Nat) v0) fun _ =>
    Option.bind (grem IntKind.i64 s11 (4 : Int)) fun (v2 : Int) =>
    Option.bind (gshr IntKind.u32 (List.getD m1.val (Int.toNat v0) (0 : Int)) (IntKind.wrap IntKind.i64 ((24 : Int) - IntKind.wrap IntKind.i64 ((8 : Int) * v2)))) fun (v3 : Int) =>
    Option.bind (inb (32 : Nat) s11) fun _ =>
    some (.inl (IntKind.wrap IntKind.i64 (s11 + (1 : Int)), m0, m1, Arr.set m2 (Int.toNat s11) (IntKind.wrap IntKind.u8 v3)))
  else
  some (.inr (m0, m1, m2))
def intaglioref05_Sum_L4_P : Int × (Arr 32 Int) × (Arr 8 Int) × (Arr 32 Int) → Option ((Int × (Arr 32 Int) × (Arr 8 Int) × (Arr 32 Int)) ⊕ (((Arr 32 Int) × (Arr 8 Int) × (Arr 32 Int)))) := fun p => intaglioref05_Sum_L4 p.1 p.2.1 p.2.2.1 p.2.2.2
def intaglioref05_Sum_L4_MM : HL [(.int .i64), (.arr 32 (.int .u8)), (.arr 8 (.int .u32)), (.arr 32 (.int .u8))] → Option (HL [(.int .i64), (.arr 32 (.int .u8)), (.arr 8 (.int .u32)), (.arr 32 (.int .u8))] ⊕ SumL [[(.arr 32 (.int .u8)), (.arr 8 (.int .u32)), (.arr 32 (.int .u8))]]) := fun p => intaglioref05_Sum_L4 p.1 p.2.1 p.2.2.1 p.2.2.2
def intaglioref05_Sum_L4_C : Con := ⟨3, intaglioref05_Sum_L4_T, intaglioref05_Sum_L4_O, stdCn [(.int .i64), (.arr 32 (.int .u8)), (.arr 8 (.int .u32)), (.arr 32 (.int .u8))] [[(.arr 32 (.int .u8)), (.arr 8 (.int .u32)), (.arr 32 (.int .u8))]] (loop intaglioref05_Sum_L4_MM)⟩
def intaglioref05_Sum_T : Tm := ⟨[(0, false, [.hole (.slc (.int .u8))])], 1, []⟩
def intaglioref05_Sum_O : List (Ex × Tm) := [(.ret, ⟨[(0, true, [.hole (.arr 32 (.int .u8))])], 1, []⟩)]
def intaglioref05_Sum_M (s0 : List Int) : Option ((Arr 32 Int)) :=
  Option.bind (intaglioref05_Primes_P (64 : Int)) fun (v0 : (List Int)) =>
  Option.bind (loop intaglioref05_Sum_L1_P (s0, (0 : Int), Arr.rep (32 : Nat) (0 : Int), Arr.rep (64 : Nat) (0 : Int), Arr.rep (8 : Nat) (0 : Int), v0)) fun (v1 : ((List Int) × ((Arr (32 : Nat) Int) × ((Arr (64 : Nat) Int) × ((Arr (8 : Nat) Int) × (List Int)))))) =>
  Option.bind (loop intaglioref05_Sum_L2_P (v1.fst, (0 : Int), v1.snd.fst, v1.snd.snd.fst, v1.snd.snd.snd.fst, v1.snd.snd.snd.snd)) fun (v2 : ((List Int) × ((Arr (32 : Nat) Int) × ((Arr (64 : Nat) Int) × (Arr (8 : Nat) Int))))) =>
  Option.bind (intaglioref05_Pad_P (((List.length v2.fst) : Nat) : Int)) fun (v3 : (List Int)) =>
  Option.bind (intaglioref01_Both_P (v2.fst, v3)) fun (v4 : (List Int)) =>
  Option.bind (loop intaglioref05_Sum_L3_P ((0 : Int), v2.snd.fst, v2.snd.snd.fst, v2.snd.snd.snd, v4)) fun (v5 : ((Arr (32 : Nat) Int) × ((Arr (64 : Nat) Int) × (Arr (8 : Nat) Int)))) =>
  Option.bind (loop intaglioref05_Sum_L4_P ((0 : Int), v5.fst, v5.snd.snd, Arr.rep (32 : Nat) (0 : Int))) fun (v6 : ((Arr (32 : Nat) Int) × ((Arr (8 : Nat) Int) × (Arr (32 : Nat) Int)))) =>
  some (v6.snd.snd)
def intaglioref05_Sum_P : (List Int) → Option ((Arr 32 Int)) := fun p => intaglioref05_Sum_M p
def intaglioref05_Sum_MM : HL [(.slc (.int .u8))] → Option (SumL [[(.arr 32 (.int .u8))]]) := fun p => intaglioref05_Sum_M p
def intaglioref05_Sum_C : Con := ⟨0, intaglioref05_Sum_T, intaglioref05_Sum_O, stdCn [(.slc (.int .u8))] [[(.arr 32 (.int .u8))]] intaglioref05_Sum_MM⟩

def intaglioref12_Leaf_T : Tm := ⟨[(0, false, [.hole (.slc (.int .u8))])], 1, []⟩
def intaglioref12_Leaf_O : List (Ex × Tm) := [(.ret, ⟨[(0, true, [.hole (.arr 32 (.int .u8))])], 1, []⟩)]
def intaglioref12_Leaf_M (s0 : List Int) : Option ((Arr 32 Int)) :=
  Option.bind (intaglioref12_LeafText_P s0) fun (v0 : (List Int)) =>
  Option.bind (intaglioref05_Sum_P v0) fun (v1 : (Arr (32 : Nat) Int)) =>
  some (v1)
def intaglioref12_Leaf_P : (List Int) → Option ((Arr 32 Int)) := fun p => intaglioref12_Leaf_M p
def intaglioref12_Leaf_MM : HL [(.slc (.int .u8))] → Option (SumL [[(.arr 32 (.int .u8))]]) := fun p => intaglioref12_Leaf_M p
def intaglioref12_Leaf_C : Con := ⟨0, intaglioref12_Leaf_T, intaglioref12_Leaf_O, stdCn [(.slc (.int .u8))] [[(.arr 32 (.int .u8))]] intaglioref12_Leaf_MM⟩

def intaglioref12_NodeText_T : Tm := ⟨[(0, true, [.hole (.arr 32 (.int .u8))]), (1, true, [.hole (.arr 32 (.int .u8))])], 2, []⟩
def intaglioref12_NodeText_O : List (Ex × Tm) := [(.ret, ⟨[(0, false, [.row 0])], 1, [.row (.int .u8)]⟩)]
def intaglioref12_NodeText_M (s0 : Arr 32 Int) (s1 : Arr 32 Int) : Option ((List Int)) :=
  Option.bind (subn (32 : Nat) (0 : Int) (32 : Int)) fun _ =>
  Option.bind (subn (32 : Nat) (0 : Int) (32 : Int)) fun _ =>
  Option.bind (intaglioref01_Both_P ([(1 : Int)], List.drop (nat_lit 0) (List.take (nat_lit 32) s0.val))) fun (v2 : (List Int)) =>
  Option.bind (intaglioref01_Both_P (v2, List.drop (nat_lit 0) (List.take (nat_lit 32) s1.val))) fun (v3 : (List Int)) =>
  some (v3)
def intaglioref12_NodeText_P : (Arr 32 Int) × (Arr 32 Int) → Option ((List Int)) := fun p => intaglioref12_NodeText_M p.1 p.2
def intaglioref12_NodeText_MM : HL [(.arr 32 (.int .u8)), (.arr 32 (.int .u8))] → Option (SumL [[(.slc (.int .u8))]]) := fun p => intaglioref12_NodeText_M p.1 p.2
def intaglioref12_NodeText_C : Con := ⟨0, intaglioref12_NodeText_T, intaglioref12_NodeText_O, stdCn [(.arr 32 (.int .u8)), (.arr 32 (.int .u8))] [[(.slc (.int .u8))]] intaglioref12_NodeText_MM⟩

def intaglioref12_Node_T : Tm := ⟨[(0, true, [.hole (.arr 32 (.int .u8))]), (1, true, [.hole (.arr 32 (.int .u8))])], 2, []⟩
def intaglioref12_Node_O : List (Ex × Tm) := [(.ret, ⟨[(0, true, [.hole (.arr 32 (.int .u8))])], 1, []⟩)]
def intaglioref12_Node_M (s0 : Arr 32 Int) (s1 : Arr 32 Int) : Option ((Arr 32 Int)) :=
  Option.bind (intaglioref12_NodeText_P (s0, s1)) fun (v0 : (List Int)) =>
  Option.bind (intaglioref05_Sum_P v0) fun (v1 : (Arr (32 : Nat) Int)) =>
  some (v1)
def intaglioref12_Node_P : (Arr 32 Int) × (Arr 32 Int) → Option ((Arr 32 Int)) := fun p => intaglioref12_Node_M p.1 p.2
def intaglioref12_Node_MM : HL [(.arr 32 (.int .u8)), (.arr 32 (.int .u8))] → Option (SumL [[(.arr 32 (.int .u8))]]) := fun p => intaglioref12_Node_M p.1 p.2
def intaglioref12_Node_C : Con := ⟨0, intaglioref12_Node_T, intaglioref12_Node_O, stdCn [(.arr 32 (.int .u8)), (.arr 32 (.int .u8))] [[(.arr 32 (.int .u8))]] intaglioref12_Node_MM⟩

def intagliolaw12_TreeSums_T : Tm := ⟨[(0, false, [.hole (.slc (.int .u8))]), (1, true, [.hole (.arr 32 (.int .u8))]), (2, true, [.hole (.arr 32 (.int .u8))])], 3, []⟩
def intagliolaw12_TreeSums_O : List (Ex × Tm) := [(.ret, ⟨[(0, false, [.hole .bool])], 1, []⟩)]
def intagliolaw12_TreeSums_M (s0 : List Int) (s1 : Arr 32 Int) (s2 : Arr 32 Int) : Option (Bool) :=
  if decide ((((List.length s0) : Nat) : Int) > (2000 : Int)) = true then
    Option.bind (intagliolaw12_awake_P ()) fun (v0 : Bool) =>
    some (v0)
  else
  Option.bind (tree_Leaf_P s0) fun (v1 : (Arr (32 : Nat) Int)) =>
  Option.bind (intaglioref12_Leaf_P s0) fun (v2 : (Arr (32 : Nat) Int)) =>
  if xeqv.eqI v1.val v2.val = true then
    Option.bind (tree_Node_P (s1, s2)) fun (v3 : (Arr (32 : Nat) Int)) =>
    Option.bind (intaglioref12_Node_P (s1, s2)) fun (v4 : (Arr (32 : Nat) Int)) =>
    if xeqv.eqI v3.val v4.val = true then
      Option.bind (intagliolaw12_awake_P ()) fun (v5 : Bool) =>
      some (v5)
    else
    some (false)
  else
  some (false)
def intagliolaw12_TreeSums_P : (List Int) × (Arr 32 Int) × (Arr 32 Int) → Option (Bool) := fun p => intagliolaw12_TreeSums_M p.1 p.2.1 p.2.2
def intagliolaw12_TreeSums_MM : HL [(.slc (.int .u8)), (.arr 32 (.int .u8)), (.arr 32 (.int .u8))] → Option (SumL [[.bool]]) := fun p => intagliolaw12_TreeSums_M p.1 p.2.1 p.2.2
def intagliolaw12_TreeSums_C : Con := ⟨0, intagliolaw12_TreeSums_T, intagliolaw12_TreeSums_O, stdCn [(.slc (.int .u8)), (.arr 32 (.int .u8)), (.arr 32 (.int .u8))] [[.bool]] intagliolaw12_TreeSums_MM⟩

def intagliolaw12_light_L1_T : Tm := ⟨[(0, false, [.hole (.slc (.slc (.int .u8)))]), (3, false, [.hole (.int .i64)])], 19, []⟩
def intagliolaw12_light_L1_O : List (Ex × Tm) := [(.exit 0, ⟨[], 19, []⟩), (.ret, ⟨[(2, false, [.hole .bool])], 19, []⟩)]
def intagliolaw12_light_L1 (s0 : List (List Int)) (s3 : Int) : Option (((List (List Int)) × Int) ⊕ ((Unit) ⊕ (Bool))) :=
  if decide (s3 < (((List.length s0) : Nat) : Int)) = true then
    Option.bind (ix s0 s3) fun (v0 : (List Int)) =>
    if decide ((((List.length v0) : Nat) : Int) > (200 : Int)) = true then
      some (.inr (.inr (false)))
    else
    some (.inl (s0, IntKind.wrap IntKind.i64 (s3 + (1 : Int))))
  else
  some (.inr (.inl (())))
def intagliolaw12_light_L1_P : (List (List Int)) × Int → Option (((List (List Int)) × Int) ⊕ ((Unit) ⊕ (Bool))) := fun p => intagliolaw12_light_L1 p.1 p.2
def intagliolaw12_light_L1_MM : HL [(.slc (.slc (.int .u8))), (.int .i64)] → Option (HL [(.slc (.slc (.int .u8))), (.int .i64)] ⊕ SumL [[], [.bool]]) := fun p => intagliolaw12_light_L1 p.1 p.2
def intagliolaw12_light_L1_C : Con := ⟨0, intagliolaw12_light_L1_T, intagliolaw12_light_L1_O, stdCn [(.slc (.slc (.int .u8))), (.int .i64)] [[], [.bool]] (loop intagliolaw12_light_L1_MM)⟩
def intagliolaw12_light_T : Tm := ⟨[(0, false, [.hole (.slc (.slc (.int .u8)))])], 1, []⟩
def intagliolaw12_light_O : List (Ex × Tm) := [(.ret, ⟨[(0, false, [.hole .bool])], 1, []⟩)]
def intagliolaw12_light_M (s0 : List (List Int)) : Option (Bool) :=
  if decide ((((List.length s0) : Nat) : Int) > (24 : Int)) = true then
    some (false)
  else
  Option.bind (loop intagliolaw12_light_L1_P (s0, (0 : Int))) fun (v0 : (Unit ⊕ Bool)) =>
  Sum.elim (fun _ =>
      some (true)
    ) (fun (v2 : Bool) =>
    some (v2)
  ) (v0)
def intagliolaw12_light_P : (List (List Int)) → Option (Bool) := fun p => intagliolaw12_light_M p
def intagliolaw12_light_MM : HL [(.slc (.slc (.int .u8)))] → Option (SumL [[.bool]]) := fun p => intagliolaw12_light_M p
def intagliolaw12_light_C : Con := ⟨0, intagliolaw12_light_T, intagliolaw12_light_O, stdCn [(.slc (.slc (.int .u8)))] [[.bool]] intagliolaw12_light_MM⟩

def intaglioref12_Half_L1_T : Tm := ⟨[(0, false, [.hole (.int .i64)]), (3, false, [.hole (.int .i64)]), (4, false, [.hole (.int .i64)])], 19, []⟩
def intaglioref12_Half_L1_O : List (Ex × Tm) := [(.exit 0, ⟨[(3, false, [.hole (.int .i64)])], 19, []⟩)]
def intaglioref12_Half_L1 (s0 : Int) (s3 : Int) (s4 : Int) : Option ((Int × Int × Int) ⊕ ((Int))) :=
  if decide (s4 < (62 : Int)) = true then
    if decide (s3 < IntKind.wrap IntKind.i64 (s0 - s3)) = true then
      some (.inl (s0, IntKind.wrap IntKind.i64 ((2 : Int) * s3), IntKind.wrap IntKind.i64 (s4 + (1 : Int))))
    else
    some (.inr (s3))
  else
  some (.inr (s3))
def intaglioref12_Half_L1_P : Int × Int × Int → Option ((Int × Int × Int) ⊕ ((Int))) := fun p => intaglioref12_Half_L1 p.1 p.2.1 p.2.2
def intaglioref12_Half_L1_MM : HL [(.int .i64), (.int .i64), (.int .i64)] → Option (HL [(.int .i64), (.int .i64), (.int .i64)] ⊕ SumL [[(.int .i64)]]) := fun p => intaglioref12_Half_L1 p.1 p.2.1 p.2.2
def intaglioref12_Half_L1_C : Con := ⟨0, intaglioref12_Half_L1_T, intaglioref12_Half_L1_O, stdCn [(.int .i64), (.int .i64), (.int .i64)] [[(.int .i64)]] (loop intaglioref12_Half_L1_MM)⟩
def intaglioref12_Half_T : Tm := ⟨[(0, false, [.hole (.int .i64)])], 1, []⟩
def intaglioref12_Half_O : List (Ex × Tm) := [(.ret, ⟨[(0, false, [.hole (.int .i64)])], 1, []⟩)]
def intaglioref12_Half_M (s0 : Int) : Option (Int) :=
  Option.bind (loop intaglioref12_Half_L1_P (s0, (1 : Int), (0 : Int))) fun (v0 : Int) =>
  some (v0)
def intaglioref12_Half_P : Int → Option (Int) := fun p => intaglioref12_Half_M p
def intaglioref12_Half_MM : HL [(.int .i64)] → Option (SumL [[(.int .i64)]]) := fun p => intaglioref12_Half_M p
def intaglioref12_Half_C : Con := ⟨0, intaglioref12_Half_T, intaglioref12_Half_O, stdCn [(.int .i64)] [[(.int .i64)]] intaglioref12_Half_MM⟩

def intaglioref12_Root_T : Tm := ⟨[(0, false, [.hole (.slc (.slc (.int .u8)))])], 1, []⟩
def intaglioref12_Root_O : List (Ex × Tm) := [(.ret, ⟨[(0, true, [.hole (.arr 32 (.int .u8))])], 1, []⟩)]
def intaglioref12_Root_S (self : (List (List Int)) → Option ((Arr 32 Int))) (s0 : List (List Int)) : Option ((Arr 32 Int)) :=
  if ((((List.length s0) : Nat) : Int) == (0 : Int)) = true then
    Option.bind (intaglioref05_Sum_P [(2 : Int)]) fun (v0 : (Arr (32 : Nat) Int)) =>
    some (v0)
  else
  if ((((List.length s0) : Nat) : Int) == (1 : Int)) = true then
    Option.bind (ix s0 (0 : Int)) fun (v1 : (List Int)) =>
    Option.bind (intaglioref12_Leaf_P v1) fun (v2 : (Arr (32 : Nat) Int)) =>
    some (v2)
  else
  Option.bind (intaglioref12_Half_P (((List.length s0) : Nat) : Int)) fun (v3 : Int) =>
  Option.bind (sub s0 (0 : Int) v3) fun (v4 : (List (List Int))) =>
  Option.bind (sub s0 v3 (((List.length s0) : Nat) : Int)) fun (v5 : (List (List Int))) =>
  Option.bind (self v4) fun (v6 : (Arr (32 : Nat) Int)) =>
  Option.bind (self v5) fun (v7 : (Arr (32 : Nat) Int)) =>
  Option.bind (intaglioref12_Node_P (v6, v7)) fun (v8 : (Arr (32 : Nat) Int)) =>
  some (v8)
def intaglioref12_Root_F : Nat → (List (List Int)) → Option ((Arr 32 Int))
  | 0 => fun _ => none
  | n + 1 => fun p => intaglioref12_Root_S (intaglioref12_Root_F n) p
def intaglioref12_Root_MF (n : Nat) : HL [(.slc (.slc (.int .u8)))] → Option (SumL [[(.arr 32 (.int .u8))]]) := fun p => intaglioref12_Root_F n p
def intaglioref12_Root_CF (n : Nat) : Con := ⟨0, intaglioref12_Root_T, intaglioref12_Root_O, stdCn [(.slc (.slc (.int .u8)))] [[(.arr 32 (.int .u8))]] (intaglioref12_Root_MF n)⟩
def intaglioref12_Root_M (s0 : List (List Int)) : Option ((Arr 32 Int)) := intaglioref12_Root_F fuel s0
def intaglioref12_Root_P : (List (List Int)) → Option ((Arr 32 Int)) := fun p => intaglioref12_Root_M p
def intaglioref12_Root_MM : HL [(.slc (.slc (.int .u8)))] → Option (SumL [[(.arr 32 (.int .u8))]]) := fun p => intaglioref12_Root_M p
def intaglioref12_Root_C : Con := ⟨0, intaglioref12_Root_T, intaglioref12_Root_O, stdCn [(.slc (.slc (.int .u8)))] [[(.arr 32 (.int .u8))]] intaglioref12_Root_MM⟩

def intagliolaw12_TreeRoots_T : Tm := ⟨[(0, false, [.hole (.slc (.slc (.int .u8)))])], 1, []⟩
def intagliolaw12_TreeRoots_O : List (Ex × Tm) := [(.ret, ⟨[(0, false, [.hole .bool])], 1, []⟩)]
def intagliolaw12_TreeRoots_M (s0 : List (List Int)) : Option (Bool) :=
  Option.bind (intagliolaw12_light_P s0) fun (v0 : Bool) =>
  if (!v0) = true then
    Option.bind (intagliolaw12_awake_P ()) fun (v1 : Bool) =>
    some (v1)
  else
  Option.bind (tree_Root_P s0) fun (v2 : (Arr (32 : Nat) Int)) =>
  Option.bind (intaglioref12_Root_P s0) fun (v3 : (Arr (32 : Nat) Int)) =>
  if xeqv.eqI v2.val v3.val = true then
    Option.bind (intagliolaw12_awake_P ()) fun (v4 : Bool) =>
    some (v4)
  else
  some (false)
def intagliolaw12_TreeRoots_P : (List (List Int)) → Option (Bool) := fun p => intagliolaw12_TreeRoots_M p
def intagliolaw12_TreeRoots_MM : HL [(.slc (.slc (.int .u8)))] → Option (SumL [[.bool]]) := fun p => intagliolaw12_TreeRoots_M p
def intagliolaw12_TreeRoots_C : Con := ⟨0, intagliolaw12_TreeRoots_T, intagliolaw12_TreeRoots_O, stdCn [(.slc (.slc (.int .u8)))] [[.bool]] intagliolaw12_TreeRoots_MM⟩

def intaglioref12_Path_T : Tm := ⟨[(0, false, [.hole (.slc (.slc (.int .u8)))]), (1, false, [.hole (.int .i64)])], 2, []⟩
def intaglioref12_Path_O : List (Ex × Tm) := [(.ret, ⟨[(0, false, [.row 0]), (1, false, [.hole .bool])], 2, [.row (.arr 32 (.int .u8))]⟩)]
def intaglioref12_Path_S (self : (List (List Int)) × Int → Option (Bool × (List (Arr 32 Int)))) (s0 : List (List Int)) (s1 : Int) : Option (Bool × (List (Arr 32 Int))) :=
  if decide (s1 < (0 : Int)) = true then
    some (false, [])
  else
  if decide (s1 ≥ (((List.length s0) : Nat) : Int)) = true then
    some (false, [])
  else
  if ((((List.length s0) : Nat) : Int) == (1 : Int)) = true then
    some (true, [])
  else
  Option.bind (intaglioref12_Half_P (((List.length s0) : Nat) : Int)) fun (v0 : Int) =>
  if decide (s1 < v0) = true then
    Option.bind (sub s0 (0 : Int) v0) fun (v1 : (List (List Int))) =>
    Option.bind (self (v1, s1)) fun (v2 : (Bool × (List (Arr (32 : Nat) Int)))) =>
    Option.bind (sub s0 v0 (((List.length s0) : Nat) : Int)) fun (v3 : (List (List Int))) =>
    Option.bind (intaglioref12_Root_P v3) fun (v4 : (Arr (32 : Nat) Int)) =>
    Option.bind (room (32 : Nat) (List.length v2.snd + List.length [v4])) fun _ =>
    some (true, v2.snd ++ [v4])
  else
  Option.bind (sub s0 v0 (((List.length s0) : Nat) : Int)) fun (v6 : (List (List Int))) =>
  Option.bind (self (v6, IntKind.wrap IntKind.i64 (s1 - v0))) fun (v7 : (Bool × (List (Arr (32 : Nat) Int)))) =>
  Option.bind (sub s0 (0 : Int) v0) fun (v8 : (List (List Int))) =>
  Option.bind (intaglioref12_Root_P v8) fun (v9 : (Arr (32 : Nat) Int)) =>
  Option.bind (room (32 : Nat) (List.length v7.snd + List.length [v9])) fun _ =>
  some (true, v7.snd ++ [v9])
def intaglioref12_Path_F : Nat → (List (List Int)) × Int → Option (Bool × (List (Arr 32 Int)))
  | 0 => fun _ => none
  | n + 1 => fun p => intaglioref12_Path_S (intaglioref12_Path_F n) p.1 p.2
def intaglioref12_Path_MF (n : Nat) : HL [(.slc (.slc (.int .u8))), (.int .i64)] → Option (SumL [[.bool, (.slc (.arr 32 (.int .u8)))]]) := fun p => intaglioref12_Path_F n p
def intaglioref12_Path_CF (n : Nat) : Con := ⟨0, intaglioref12_Path_T, intaglioref12_Path_O, stdCn [(.slc (.slc (.int .u8))), (.int .i64)] [[.bool, (.slc (.arr 32 (.int .u8)))]] (intaglioref12_Path_MF n)⟩
def intaglioref12_Path_M (s0 : List (List Int)) (s1 : Int) : Option (Bool × (List (Arr 32 Int))) := intaglioref12_Path_F fuel (s0, s1)
def intaglioref12_Path_P : (List (List Int)) × Int → Option (Bool × (List (Arr 32 Int))) := fun p => intaglioref12_Path_M p.1 p.2
def intaglioref12_Path_MM : HL [(.slc (.slc (.int .u8))), (.int .i64)] → Option (SumL [[.bool, (.slc (.arr 32 (.int .u8)))]]) := fun p => intaglioref12_Path_M p.1 p.2
def intaglioref12_Path_C : Con := ⟨0, intaglioref12_Path_T, intaglioref12_Path_O, stdCn [(.slc (.slc (.int .u8))), (.int .i64)] [[.bool, (.slc (.arr 32 (.int .u8)))]] intaglioref12_Path_MM⟩

def intagliolaw12_TreePaths_L1_T : Tm := ⟨[(5, false, [.row 0]), (7, false, [.row 1]), (9, false, [.hole (.int .i64)])], 52, [.row (.arr 32 (.int .u8)), .row (.arr 32 (.int .u8))]⟩
def intagliolaw12_TreePaths_L1_O : List (Ex × Tm) := [(.exit 0, ⟨[], 52, []⟩), (.ret, ⟨[(4, false, [.hole .bool])], 52, []⟩)]
def intagliolaw12_TreePaths_L1 (s9 : Int) (r0 : List (Arr 32 Int)) (r1 : List (Arr 32 Int)) : Option ((Int × (List (Arr 32 Int)) × (List (Arr 32 Int))) ⊕ ((Unit) ⊕ (Bool))) :=
  if decide (s9 < (((List.length r0) : Nat) : Int)) = true then
    Option.bind (inb (List.length r0) s9) fun _ =>
    Option.bind (inb (List.length r1) s9) fun _ =>
    if (!xeqv.eqI (List.getD r0 (Int.toNat s9) (Arr.rep (32 : Nat) (0 : Int))).val (List.getD r1 (Int.toNat s9) (Arr.rep (32 : Nat) (0 : Int))).val) = true then
      some (.inr (.inr (false)))
    else
    some (.inl (IntKind.wrap IntKind.i64 (s9 + (1 : Int)), r0, r1))
  else
  some (.inr (.inl (())))
def intagliolaw12_TreePaths_L1_P : Int × (List (Arr 32 Int)) × (List (Arr 32 Int)) → Option ((Int × (List (Arr 32 Int)) × (List (Arr 32 Int))) ⊕ ((Unit) ⊕ (Bool))) := fun p => intagliolaw12_TreePaths_L1 p.1 p.2.1 p.2.2
def intagliolaw12_TreePaths_L1_MM : HL [(.int .i64), (.slc (.arr 32 (.int .u8))), (.slc (.arr 32 (.int .u8)))] → Option (HL [(.int .i64), (.slc (.arr 32 (.int .u8))), (.slc (.arr 32 (.int .u8)))] ⊕ SumL [[], [.bool]]) := fun p => intagliolaw12_TreePaths_L1 p.1 p.2.1 p.2.2
def intagliolaw12_TreePaths_L1_C : Con := ⟨0, intagliolaw12_TreePaths_L1_T, intagliolaw12_TreePaths_L1_O, stdCn [(.int .i64), (.slc (.arr 32 (.int .u8))), (.slc (.arr 32 (.int .u8)))] [[], [.bool]] (loop intagliolaw12_TreePaths_L1_MM)⟩
def intagliolaw12_TreePaths_T : Tm := ⟨[(0, false, [.hole (.slc (.slc (.int .u8)))]), (1, false, [.hole (.int .i64)])], 2, []⟩
def intagliolaw12_TreePaths_O : List (Ex × Tm) := [(.ret, ⟨[(0, false, [.hole .bool])], 1, []⟩)]
def intagliolaw12_TreePaths_M (s0 : List (List Int)) (s1 : Int) : Option (Bool) :=
  Option.bind (intagliolaw12_light_P s0) fun (v0 : Bool) =>
  if (!v0) = true then
    Option.bind (intagliolaw12_awake_P ()) fun (v1 : Bool) =>
    some (v1)
  else
  Option.bind (tree_Path_P (s0, s1)) fun (v2 : (Bool × (List (Arr (32 : Nat) Int)))) =>
  Option.bind (intaglioref12_Path_P (s0, s1)) fun (v3 : (Bool × (List (Arr (32 : Nat) Int)))) =>
  if (!v2.fst == v3.fst) = true then
    some (false)
  else
  if ((((List.length v2.snd) : Nat) : Int) != (((List.length v3.snd) : Nat) : Int)) = true then
    some (false)
  else
  Option.bind (loop intagliolaw12_TreePaths_L1_P ((0 : Int), v2.snd, v3.snd)) fun (v4 : (Unit ⊕ Bool)) =>
  Sum.elim (fun _ =>
      Option.bind (intagliolaw12_awake_P ()) fun (v7 : Bool) =>
      some (v7)
    ) (fun (v6 : Bool) =>
    some (v6)
  ) (v4)
def intagliolaw12_TreePaths_P : (List (List Int)) × Int → Option (Bool) := fun p => intagliolaw12_TreePaths_M p.1 p.2
def intagliolaw12_TreePaths_MM : HL [(.slc (.slc (.int .u8))), (.int .i64)] → Option (SumL [[.bool]]) := fun p => intagliolaw12_TreePaths_M p.1 p.2
def intagliolaw12_TreePaths_C : Con := ⟨0, intagliolaw12_TreePaths_T, intagliolaw12_TreePaths_O, stdCn [(.slc (.slc (.int .u8))), (.int .i64)] [[.bool]] intagliolaw12_TreePaths_MM⟩

def intaglioref12_Sides_L1_T : Tm := ⟨[(0, false, [.hole (.int .i64)]), (1, false, [.hole (.int .i64)]), (5, false, [.row 0]), (6, false, [.hole (.int .i64)])], 39, [.row (.int .i64)]⟩
def intaglioref12_Sides_L1_O : List (Ex × Tm) := [(.exit 0, ⟨[(5, false, [.row 0])], 39, [.row (.int .i64)]⟩)]
def intaglioref12_Sides_L1 (s0 : Int) (s1 : Int) (s6 : Int) (r0 : List Int) : Option ((Int × Int × Int × (List Int)) ⊕ (((List Int)))) :=
  if decide (s6 < (64 : Int)) = true then
    if decide (s0 > (1 : Int)) = true then
      Option.bind (intaglioref12_Half_P s0) fun (v0 : Int) =>
      if decide (s1 < v0) = true then
        Option.bind (room (8 : Nat) (1 : Nat)) fun _ =>
        Option.bind (room (8 : Nat) ((1 : Nat) + List.length r0)) fun _ =>
        some (.inl (v0, s1, IntKind.wrap IntKind.i64 (s6 + (1 : Int)), [(1 : Int)] ++ r0))
      else
      Option.bind (room (8 : Nat) (1 : Nat)) fun _ =>
      Option.bind (room (8 : Nat) ((1 : Nat) + List.length r0)) fun _ =>
      some (.inl (IntKind.wrap IntKind.i64 (s0 - v0), IntKind.wrap IntKind.i64 (s1 - v0), IntKind.wrap IntKind.i64 (s6 + (1 : Int)), [(0 : Int)] ++ r0))
    else
    some (.inr (r0))
  else
  some (.inr (r0))
def intaglioref12_Sides_L1_P : Int × Int × Int × (List Int) → Option ((Int × Int × Int × (List Int)) ⊕ (((List Int)))) := fun p => intaglioref12_Sides_L1 p.1 p.2.1 p.2.2.1 p.2.2.2
def intaglioref12_Sides_L1_MM : HL [(.int .i64), (.int .i64), (.int .i64), (.slc (.int .i64))] → Option (HL [(.int .i64), (.int .i64), (.int .i64), (.slc (.int .i64))] ⊕ SumL [[(.slc (.int .i64))]]) := fun p => intaglioref12_Sides_L1 p.1 p.2.1 p.2.2.1 p.2.2.2
def intaglioref12_Sides_L1_C : Con := ⟨0, intaglioref12_Sides_L1_T, intaglioref12_Sides_L1_O, stdCn [(.int .i64), (.int .i64), (.int .i64), (.slc (.int .i64))] [[(.slc (.int .i64))]] (loop intaglioref12_Sides_L1_MM)⟩
def intaglioref12_Sides_T : Tm := ⟨[(0, false, [.hole (.int .i64)]), (1, false, [.hole (.int .i64)])], 2, []⟩
def intaglioref12_Sides_O : List (Ex × Tm) := [(.ret, ⟨[(0, false, [.row 0])], 1, [.row (.int .i64)]⟩)]
def intaglioref12_Sides_M (s0 : Int) (s1 : Int) : Option ((List Int)) :=
  Option.bind (loop intaglioref12_Sides_L1_P (s0, s1, (0 : Int), [])) fun (v0 : (List Int)) =>
  some (v0)
def intaglioref12_Sides_P : Int × Int → Option ((List Int)) := fun p => intaglioref12_Sides_M p.1 p.2
def intaglioref12_Sides_MM : HL [(.int .i64), (.int .i64)] → Option (SumL [[(.slc (.int .i64))]]) := fun p => intaglioref12_Sides_M p.1 p.2
def intaglioref12_Sides_C : Con := ⟨0, intaglioref12_Sides_T, intaglioref12_Sides_O, stdCn [(.int .i64), (.int .i64)] [[(.slc (.int .i64))]] intaglioref12_Sides_MM⟩

def intaglioref12_Check_L1_T : Tm := ⟨[(4, false, [.hole (.slc (.arr 32 (.int .u8)))]), (5, false, [.ptr 0 0]), (11, false, [.row 2]), (12, false, [.ptr 1 0]), (13, false, [.hole (.int .i64)])], 57, [.box [.hole (.arr 32 (.int .u8))], .box [.hole (.arr 32 (.int .u8))], .row (.int .i64)]⟩
def intaglioref12_Check_L1_O : List (Ex × Tm) := [(.exit 0, ⟨[(5, false, [.ptr 0 0]), (12, false, [.ptr 1 0])], 57, [.box [.hole (.arr 32 (.int .u8))], .box [.hole (.arr 32 (.int .u8))]]⟩)]
def intaglioref12_Check_L1 (s4 : List (Arr 32 Int)) (s13 : Int) (m0 : Arr 32 Int) (m1 : Arr 32 Int) (r2 : List Int) : Option (((List (Arr 32 Int)) × Int × (Arr 32 Int) × (Arr 32 Int) × (List Int)) ⊕ (((Arr 32 Int) × (Arr 32 Int)))) :=
  if decide (s13 < (((List.length s4) : Nat) : Int)) = true then
    Option.bind (inb (List.length r2) s13) fun _ =>
    if (List.getD r2 (Int.toNat s13) (0 : Int) == (1 : Int)) = true then
      Option.bind (ix s4 s13) fun (v1 : (Arr (32 : Nat) Int)) =>
      Option.bind (intaglioref12_Node_P (m1, v1)) fun (v2 : (Arr (32 : Nat) Int)) =>
      some (.inl (s4, IntKind.wrap IntKind.i64 (s13 + (1 : Int)), m0, v2, r2))
    else
    Option.bind (ix s4 s13) fun (v3 : (Arr (32 : Nat) Int)) =>
    Option.bind (intaglioref12_Node_P (v3, m1)) fun (v4 : (Arr (32 : Nat) Int)) =>
    some (.inl (s4, IntKind.wrap IntKind.i64 (s13 + (1 : Int)), m0, v4, r2))
  else
  some (.inr (m0, m1))
def intaglioref12_Check_L1_P : (List (Arr 32 Int)) × Int × (Arr 32 Int) × (Arr 32 Int) × (List Int) → Option (((List (Arr 32 Int)) × Int × (Arr 32 Int) × (Arr 32 Int) × (List Int)) ⊕ (((Arr 32 Int) × (Arr 32 Int)))) := fun p => intaglioref12_Check_L1 p.1 p.2.1 p.2.2.1 p.2.2.2.1 p.2.2.2.2
def intaglioref12_Check_L1_MM : HL [(.slc (.arr 32 (.int .u8))), (.int .i64), (.arr 32 (.int .u8)), (.arr 32 (.int .u8)), (.slc (.int .i64))] → Option (HL [(.slc (.arr 32 (.int .u8))), (.int .i64), (.arr 32 (.int .u8)), (.arr 32 (.int .u8)), (.slc (.int .i64))] ⊕ SumL [[(.arr 32 (.int .u8)), (.arr 32 (.int .u8))]]) := fun p => intaglioref12_Check_L1 p.1 p.2.1 p.2.2.1 p.2.2.2.1 p.2.2.2.2
def intaglioref12_Check_L1_C : Con := ⟨2, intaglioref12_Check_L1_T, intaglioref12_Check_L1_O, stdCn [(.slc (.arr 32 (.int .u8))), (.int .i64), (.arr 32 (.int .u8)), (.arr 32 (.int .u8)), (.slc (.int .i64))] [[(.arr 32 (.int .u8)), (.arr 32 (.int .u8))]] (loop intaglioref12_Check_L1_MM)⟩
def intaglioref12_Check_T : Tm := ⟨[(0, true, [.hole (.arr 32 (.int .u8))]), (1, false, [.hole (.int .i64)]), (2, false, [.hole (.int .i64)]), (3, false, [.hole (.slc (.int .u8))]), (4, false, [.hole (.slc (.arr 32 (.int .u8)))])], 5, []⟩
def intaglioref12_Check_O : List (Ex × Tm) := [(.ret, ⟨[(0, false, [.hole .bool])], 1, []⟩)]
def intaglioref12_Check_M (s0 : Arr 32 Int) (s1 : Int) (s2 : Int) (s3 : List Int) (s4 : List (Arr 32 Int)) : Option (Bool) :=
  if decide (s2 < (0 : Int)) = true then
    some (false)
  else
  if decide (s2 ≥ s1) = true then
    some (false)
  else
  Option.bind (intaglioref12_Sides_P (s1, s2)) fun (v0 : (List Int)) =>
  if ((((List.length v0) : Nat) : Int) != (((List.length s4) : Nat) : Int)) = true then
    some (false)
  else
  Option.bind (intaglioref12_Leaf_P s3) fun (v1 : (Arr (32 : Nat) Int)) =>
  Option.bind (loop intaglioref12_Check_L1_P (s4, (0 : Int), s0, v1, v0)) fun (v2 : ((Arr (32 : Nat) Int) × (Arr (32 : Nat) Int))) =>
  some (xeqv.eqI v2.snd.val v2.fst.val)
def intaglioref12_Check_P : (Arr 32 Int) × Int × Int × (List Int) × (List (Arr 32 Int)) → Option (Bool) := fun p => intaglioref12_Check_M p.1 p.2.1 p.2.2.1 p.2.2.2.1 p.2.2.2.2
def intaglioref12_Check_MM : HL [(.arr 32 (.int .u8)), (.int .i64), (.int .i64), (.slc (.int .u8)), (.slc (.arr 32 (.int .u8)))] → Option (SumL [[.bool]]) := fun p => intaglioref12_Check_M p.1 p.2.1 p.2.2.1 p.2.2.2.1 p.2.2.2.2
def intaglioref12_Check_C : Con := ⟨0, intaglioref12_Check_T, intaglioref12_Check_O, stdCn [(.arr 32 (.int .u8)), (.int .i64), (.int .i64), (.slc (.int .u8)), (.slc (.arr 32 (.int .u8)))] [[.bool]] intaglioref12_Check_MM⟩

def intagliolaw12_TreeChecks_L1_T : Tm := ⟨[(2, false, [.ptr 0 0]), (3, false, [.ptr 1 0]), (5, false, [.ptr 2 0]), (6, false, [.row 3]), (7, false, [.hole (.int .i64)])], 124, [.box [.hole (.arr 32 (.int .u8))], .box [.hole (.int .i64), .hole (.int .i64), .hole (.slc (.int .u8)), .hole (.slc (.arr 32 (.int .u8)))], .box [.hole (.arr 32 (.int .u8))], .row (.int .i64)]⟩
def intagliolaw12_TreeChecks_L1_O : List (Ex × Tm) := [(.exit 0, ⟨[(2, false, [.ptr 0 0]), (3, false, [.ptr 1 0]), (5, false, [.ptr 2 0])], 124, [.box [.hole (.arr 32 (.int .u8))], .box [.hole (.int .i64), .hole (.int .i64), .hole (.slc (.int .u8)), .hole (.slc (.arr 32 (.int .u8)))], .box [.hole (.arr 32 (.int .u8))]]⟩)]
def intagliolaw12_TreeChecks_L1 (s7 : Int) (m0 : Arr 32 Int) (m1_0 : Int) (m1_1 : Int) (m1_2 : List Int) (m1_3 : List (Arr 32 Int)) (m2 : Arr 32 Int) (r3 : List Int) : Option ((Int × (Arr 32 Int) × Int × Int × (List Int) × (List (Arr 32 Int)) × (Arr 32 Int) × (List Int)) ⊕ (((Arr 32 Int) × Int × Int × (List Int) × (List (Arr 32 Int)) × (Arr 32 Int)))) :=
  if decide (s7 < (((List.length m1_3) : Nat) : Int)) = true then
    if decide (s7 < (((List.length r3) : Nat) : Int)) = true then
      Option.bind (inb (List.length r3) s7) fun _ =>
      if (List.getD r3 (Int.toNat s7) (0 : Int) == (1 : Int)) = true then
        Option.bind (ix m1_3 s7) fun (v1 : (Arr (32 : Nat) Int)) =>
        Option.bind (intaglioref12_Node_P (m2, v1)) fun (v2 : (Arr (32 : Nat) Int)) =>
        some (.inl (IntKind.wrap IntKind.i64 (s7 + (1 : Int)), m0, m1_0, m1_1, m1_2, m1_3, v2, r3))
      else
      Option.bind (ix m1_3 s7) fun (v3 : (Arr (32 : Nat) Int)) =>
      Option.bind (intaglioref12_Node_P (v3, m2)) fun (v4 : (Arr (32 : Nat) Int)) =>
      some (.inl (IntKind.wrap IntKind.i64 (s7 + (1 : Int)), m0, m1_0, m1_1, m1_2, m1_3, v4, r3))
    else
    some (.inr (m0, m1_0, m1_1, m1_2, m1_3, m2))
  else
  some (.inr (m0, m1_0, m1_1, m1_2, m1_3, m2))
def intagliolaw12_TreeChecks_L1_P : Int × (Arr 32 Int) × Int × Int × (List Int) × (List (Arr 32 Int)) × (Arr 32 Int) × (List Int) → Option ((Int × (Arr 32 Int) × Int × Int × (List Int) × (List (Arr 32 Int)) × (Arr 32 Int) × (List Int)) ⊕ (((Arr 32 Int) × Int × Int × (List Int) × (List (Arr 32 Int)) × (Arr 32 Int)))) := fun p => intagliolaw12_TreeChecks_L1 p.1 p.2.1 p.2.2.1 p.2.2.2.1 p.2.2.2.2.1 p.2.2.2.2.2.1 p.2.2.2.2.2.2.1 p.2.2.2.2.2.2.2
def intagliolaw12_TreeChecks_L1_MM : HL [(.int .i64), (.arr 32 (.int .u8)), (.int .i64), (.int .i64), (.slc (.int .u8)), (.slc (.arr 32 (.int .u8))), (.arr 32 (.int .u8)), (.slc (.int .i64))] → Option (HL [(.int .i64), (.arr 32 (.int .u8)), (.int .i64), (.int .i64), (.slc (.int .u8)), (.slc (.arr 32 (.int .u8))), (.arr 32 (.int .u8)), (.slc (.int .i64))] ⊕ SumL [[(.arr 32 (.int .u8)), (.int .i64), (.int .i64), (.slc (.int .u8)), (.slc (.arr 32 (.int .u8))), (.arr 32 (.int .u8))]]) := fun p => intagliolaw12_TreeChecks_L1 p.1 p.2.1 p.2.2.1 p.2.2.2.1 p.2.2.2.2.1 p.2.2.2.2.2.1 p.2.2.2.2.2.2.1 p.2.2.2.2.2.2.2
def intagliolaw12_TreeChecks_L1_C : Con := ⟨3, intagliolaw12_TreeChecks_L1_T, intagliolaw12_TreeChecks_L1_O, stdCn [(.int .i64), (.arr 32 (.int .u8)), (.int .i64), (.int .i64), (.slc (.int .u8)), (.slc (.arr 32 (.int .u8))), (.arr 32 (.int .u8)), (.slc (.int .i64))] [[(.arr 32 (.int .u8)), (.int .i64), (.int .i64), (.slc (.int .u8)), (.slc (.arr 32 (.int .u8))), (.arr 32 (.int .u8))]] (loop intagliolaw12_TreeChecks_L1_MM)⟩
def intagliolaw12_TreeChecks_T : Tm := ⟨[(0, true, [.hole (.arr 32 (.int .u8))]), (1, true, [.hole (.int .i64), .hole (.int .i64), .hole (.slc (.int .u8)), .hole (.slc (.arr 32 (.int .u8)))])], 2, []⟩
def intagliolaw12_TreeChecks_O : List (Ex × Tm) := [(.ret, ⟨[(0, false, [.hole .bool])], 1, []⟩)]
def intagliolaw12_TreeChecks_M (s0 : Arr 32 Int) (s1_0 : Int) (s1_1 : Int) (s1_2 : List Int) (s1_3 : List (Arr 32 Int)) : Option (Bool) :=
  if decide ((((List.length s1_2) : Nat) : Int) > (200 : Int)) = true then
    Option.bind (intagliolaw12_awake_P ()) fun (v0 : Bool) =>
    some (v0)
  else
  if decide ((((List.length s1_3) : Nat) : Int) > (80 : Int)) = true then
    Option.bind (intagliolaw12_awake_P ()) fun (v1 : Bool) =>
    some (v1)
  else
  Option.bind (intaglioref12_Leaf_P s1_2) fun (v2 : (Arr (32 : Nat) Int)) =>
  if decide (s1_1 ≥ (0 : Int)) = true then
    if decide (s1_1 < s1_0) = true then
      if decide ((((List.length s1_3) : Nat) : Int) < (40 : Int)) = true then
        Option.bind (intaglioref12_Sides_P (s1_0, s1_1)) fun (v3 : (List Int)) =>
        Option.bind (loop intagliolaw12_TreeChecks_L1_P ((0 : Int), s0, s1_0, s1_1, s1_2, s1_3, v2, v3)) fun (v4 : ((Arr (32 : Nat) Int) × (Int × (Int × ((List Int) × ((List (Arr (32 : Nat) Int)) × (Arr (32 : Nat) Int))))))) =>
        Option.bind (tree_Check_P (v4.snd.snd.snd.snd.snd, v4.snd.fst, v4.snd.snd.fst, v4.snd.snd.snd.fst, v4.snd.snd.snd.snd.fst)) fun (v5 : Bool) =>
        Option.bind (intaglioref12_Check_P (v4.snd.snd.snd.snd.snd, v4.snd.fst, v4.snd.snd.fst, v4.snd.snd.snd.fst, v4.snd.snd.snd.snd.fst)) fun (v6 : Bool) =>
        if (v5 == v6) = true then
          Option.bind (tree_Check_P (v4.fst, v4.snd.fst, v4.snd.snd.fst, v4.snd.snd.snd.fst, v4.snd.snd.snd.snd.fst)) fun (v7 : Bool) =>
          Option.bind (intaglioref12_Check_P (v4.fst, v4.snd.fst, v4.snd.snd.fst, v4.snd.snd.snd.fst, v4.snd.snd.snd.snd.fst)) fun (v8 : Bool) =>
          if (v7 == v8) = true then
            Option.bind (intagliolaw12_awake_P ()) fun (v9 : Bool) =>
            some (v9)
          else
          some (false)
        else
        some (false)
      else
      Option.bind (tree_Check_P (v2, s1_0, s1_1, s1_2, s1_3)) fun (v10 : Bool) =>
      Option.bind (intaglioref12_Check_P (v2, s1_0, s1_1, s1_2, s1_3)) fun (v11 : Bool) =>
      if (v10 == v11) = true then
        Option.bind (tree_Check_P (s0, s1_0, s1_1, s1_2, s1_3)) fun (v12 : Bool) =>
        Option.bind (intaglioref12_Check_P (s0, s1_0, s1_1, s1_2, s1_3)) fun (v13 : Bool) =>
        if (v12 == v13) = true then
          Option.bind (intagliolaw12_awake_P ()) fun (v14 : Bool) =>
          some (v14)
        else
        some (false)
      else
      some (false)
    else
    Option.bind (tree_Check_P (v2, s1_0, s1_1, s1_2, s1_3)) fun (v15 : Bool) =>
    Option.bind (intaglioref12_Check_P (v2, s1_0, s1_1, s1_2, s1_3)) fun (v16 : Bool) =>
    if (v15 == v16) = true then
      Option.bind (tree_Check_P (s0, s1_0, s1_1, s1_2, s1_3)) fun (v17 : Bool) =>
      Option.bind (intaglioref12_Check_P (s0, s1_0, s1_1, s1_2, s1_3)) fun (v18 : Bool) =>
      if (v17 == v18) = true then
        Option.bind (intagliolaw12_awake_P ()) fun (v19 : Bool) =>
        some (v19)
      else
      some (false)
    else
    some (false)
  else
  Option.bind (tree_Check_P (v2, s1_0, s1_1, s1_2, s1_3)) fun (v20 : Bool) =>
  Option.bind (intaglioref12_Check_P (v2, s1_0, s1_1, s1_2, s1_3)) fun (v21 : Bool) =>
  if (v20 == v21) = true then
    Option.bind (tree_Check_P (s0, s1_0, s1_1, s1_2, s1_3)) fun (v22 : Bool) =>
    Option.bind (intaglioref12_Check_P (s0, s1_0, s1_1, s1_2, s1_3)) fun (v23 : Bool) =>
    if (v22 == v23) = true then
      Option.bind (intagliolaw12_awake_P ()) fun (v24 : Bool) =>
      some (v24)
    else
    some (false)
  else
  some (false)
def intagliolaw12_TreeChecks_P : (Arr 32 Int) × Int × Int × (List Int) × (List (Arr 32 Int)) → Option (Bool) := fun p => intagliolaw12_TreeChecks_M p.1 p.2.1 p.2.2.1 p.2.2.2.1 p.2.2.2.2
def intagliolaw12_TreeChecks_MM : HL [(.arr 32 (.int .u8)), (.int .i64), (.int .i64), (.slc (.int .u8)), (.slc (.arr 32 (.int .u8)))] → Option (SumL [[.bool]]) := fun p => intagliolaw12_TreeChecks_M p.1 p.2.1 p.2.2.1 p.2.2.2.1 p.2.2.2.2
def intagliolaw12_TreeChecks_C : Con := ⟨0, intagliolaw12_TreeChecks_T, intagliolaw12_TreeChecks_O, stdCn [(.arr 32 (.int .u8)), (.int .i64), (.int .i64), (.slc (.int .u8)), (.slc (.arr 32 (.int .u8)))] [[.bool]] intagliolaw12_TreeChecks_MM⟩

def intagliolaw12_TreeBuilds_L1_T : Tm := ⟨[(0, false, [.hole (.slc (.slc (.int .u8)))]), (3, false, [.ptr 0 0]), (4, false, [.hole (.int .i64)])], 82, [.box [.row 1, .hole (.int .i64), .hole .bool], .row (.pair (.int .i64) (.pair (.arr 32 (.int .u8)) .unit))]⟩
def intagliolaw12_TreeBuilds_L1_O : List (Ex × Tm) := [(.exit 0, ⟨[(0, false, [.hole (.slc (.slc (.int .u8)))]), (3, false, [.ptr 0 0])], 82, [.box [.row 1, .hole (.int .i64), .hole .bool], .row (.pair (.int .i64) (.pair (.arr 32 (.int .u8)) .unit))]⟩), (.ret, ⟨[(2, false, [.hole .bool])], 82, [.box [.row 1, .hole (.int .i64), .hole .bool], .row (.pair (.int .i64) (.pair (.arr 32 (.int .u8)) .unit))]⟩)]
def intagliolaw12_TreeBuilds_L1 (s0 : List (List Int)) (s4 : Int) (m0_0 : Int) (m0_1 : Bool) (r1 : List (Int × (Arr 32 Int) × Unit)) : Option (((List (List Int)) × Int × Int × Bool × (List (Int × (Arr 32 Int) × Unit))) ⊕ (((List (List Int)) × Int × Bool × (List (Int × (Arr 32 Int) × Unit))) ⊕ (Bool × Int × Bool × (List (Int × (Arr 32 Int) × Unit))))) :=
  if decide (s4 < (((List.length s0) : Nat) : Int)) = true then
    Option.bind (tree_Builder_Len_P (m0_0, m0_1, r1)) fun (v0 : (Int × (Int × (Bool × (List (Int × ((Arr (32 : Nat) Int) × Unit))))))) =>
    if (v0.fst != s4) = true then
      some (.inr (.inr (false, v0.snd.fst, v0.snd.snd.fst, v0.snd.snd.snd)))
    else
    Option.bind (sub s0 (0 : Int) s4) fun (v1 : (List (List Int))) =>
    Option.bind (tree_Builder_Root_P (v0.snd.fst, v0.snd.snd.fst, v0.snd.snd.snd)) fun (v2 : ((Arr (32 : Nat) Int) × (Int × (Bool × (List (Int × ((Arr (32 : Nat) Int) × Unit))))))) =>
    Option.bind (intaglioref12_Root_P v1) fun (v3 : (Arr (32 : Nat) Int)) =>
    if (!xeqv.eqI v2.fst.val v3.val) = true then
      some (.inr (.inr (false, v2.snd.fst, v2.snd.snd.fst, v2.snd.snd.snd)))
    else
    Option.bind (ix s0 s4) fun (v4 : (List Int)) =>
    Option.bind (tree_Builder_Add_P (v4, v2.snd.fst, v2.snd.snd.fst, v2.snd.snd.snd)) fun (v5 : (Int × (Bool × (List (Int × ((Arr (32 : Nat) Int) × Unit)))))) =>
    some (.inl (s0, IntKind.wrap IntKind.i64 (s4 + (1 : Int)), v5.fst, v5.snd.fst, v5.snd.snd))
  else
  some (.inr (.inl (s0, m0_0, m0_1, r1)))
def intagliolaw12_TreeBuilds_L1_P : (List (List Int)) × Int × Int × Bool × (List (Int × (Arr 32 Int) × Unit)) → Option (((List (List Int)) × Int × Int × Bool × (List (Int × (Arr 32 Int) × Unit))) ⊕ (((List (List Int)) × Int × Bool × (List (Int × (Arr 32 Int) × Unit))) ⊕ (Bool × Int × Bool × (List (Int × (Arr 32 Int) × Unit))))) := fun p => intagliolaw12_TreeBuilds_L1 p.1 p.2.1 p.2.2.1 p.2.2.2.1 p.2.2.2.2
def intagliolaw12_TreeBuilds_L1_MM : HL [(.slc (.slc (.int .u8))), (.int .i64), (.int .i64), .bool, (.slc (.pair (.int .i64) (.pair (.arr 32 (.int .u8)) .unit)))] → Option (HL [(.slc (.slc (.int .u8))), (.int .i64), (.int .i64), .bool, (.slc (.pair (.int .i64) (.pair (.arr 32 (.int .u8)) .unit)))] ⊕ SumL [[(.slc (.slc (.int .u8))), (.int .i64), .bool, (.slc (.pair (.int .i64) (.pair (.arr 32 (.int .u8)) .unit)))], [.bool, (.int .i64), .bool, (.slc (.pair (.int .i64) (.pair (.arr 32 (.int .u8)) .unit)))]]) := fun p => intagliolaw12_TreeBuilds_L1 p.1 p.2.1 p.2.2.1 p.2.2.2.1 p.2.2.2.2
def intagliolaw12_TreeBuilds_L1_C : Con := ⟨1, intagliolaw12_TreeBuilds_L1_T, intagliolaw12_TreeBuilds_L1_O, stdCn [(.slc (.slc (.int .u8))), (.int .i64), (.int .i64), .bool, (.slc (.pair (.int .i64) (.pair (.arr 32 (.int .u8)) .unit)))] [[(.slc (.slc (.int .u8))), (.int .i64), .bool, (.slc (.pair (.int .i64) (.pair (.arr 32 (.int .u8)) .unit)))], [.bool, (.int .i64), .bool, (.slc (.pair (.int .i64) (.pair (.arr 32 (.int .u8)) .unit)))]] (loop intagliolaw12_TreeBuilds_L1_MM)⟩
def intagliolaw12_TreeBuilds_T : Tm := ⟨[(0, false, [.hole (.slc (.slc (.int .u8)))])], 1, []⟩
def intagliolaw12_TreeBuilds_O : List (Ex × Tm) := [(.ret, ⟨[(0, false, [.hole .bool])], 1, []⟩)]
def intagliolaw12_TreeBuilds_M (s0 : List (List Int)) : Option (Bool) :=
  Option.bind (intagliolaw12_light_P s0) fun (v0 : Bool) =>
  if (!v0) = true then
    Option.bind (intagliolaw12_awake_P ()) fun (v1 : Bool) =>
    some (v1)
  else
  Option.bind (tree_New_P ()) fun (v2 : (Int × (Bool × (List (Int × ((Arr (32 : Nat) Int) × Unit)))))) =>
  Option.bind (loop intagliolaw12_TreeBuilds_L1_P (s0, (0 : Int), v2.fst, v2.snd.fst, v2.snd.snd)) fun (v3 : (((List (List Int)) × (Int × (Bool × (List (Int × ((Arr (32 : Nat) Int) × Unit)))))) ⊕ (Bool × (Int × (Bool × (List (Int × ((Arr (32 : Nat) Int) × Unit)))))))) =>
  Sum.elim (fun (v4 : ((List (List Int)) × (Int × (Bool × (List (Int × ((Arr (32 : Nat) Int) × Unit))))))) =>
      Option.bind (inb (nat_lit 2) (0 : Int)) fun _ =>
      Option.bind (tree_Builder_Add_n_P [(1 : Int)]) fun _ =>
      Option.bind (inb (nat_lit 2) (0 : Int)) fun _ =>
      Option.bind (tree_Builder_Len_n_P ()) fun (v9 : Int) =>
      if (v9 != (0 : Int)) = true then
        some (false)
      else
      Option.bind (inb (nat_lit 2) (0 : Int)) fun _ =>
      Option.bind (tree_Builder_Root_n_P ()) fun (v11 : (Arr (32 : Nat) Int)) =>
      Option.bind (intaglioref12_Root_P []) fun (v12 : (Arr (32 : Nat) Int)) =>
      if (!xeqv.eqI v11.val v12.val) = true then
        some (false)
      else
      Option.bind (inb (nat_lit 2) (1 : Int)) fun _ =>
      Option.bind (tree_Builder_Add_P ([(1 : Int)], (0 : Int), false, [])) fun (v14 : (Int × (Bool × (List (Int × ((Arr (32 : Nat) Int) × Unit)))))) =>
      Option.bind (inb (nat_lit 2) (1 : Int)) fun _ =>
      Option.bind (tree_Builder_Len_P (v14.fst, v14.snd.fst, v14.snd.snd)) fun (v16 : (Int × (Int × (Bool × (List (Int × ((Arr (32 : Nat) Int) × Unit))))))) =>
      if (v16.fst != (0 : Int)) = true then
        some (false)
      else
      Option.bind (inb (nat_lit 2) (1 : Int)) fun _ =>
      Option.bind (tree_Builder_Root_P (v16.snd.fst, v16.snd.snd.fst, v16.snd.snd.snd)) fun (v18 : ((Arr (32 : Nat) Int) × (Int × (Bool × (List (Int × ((Arr (32 : Nat) Int) × Unit))))))) =>
      Option.bind (intaglioref12_Root_P []) fun (v19 : (Arr (32 : Nat) Int)) =>
      if (!xeqv.eqI v18.fst.val v19.val) = true then
        some (false)
      else
      Option.bind (tree_Builder_Len_P (v4.snd.fst, v4.snd.snd.fst, v4.snd.snd.snd)) fun (v20 : (Int × (Int × (Bool × (List (Int × ((Arr (32 : Nat) Int) × Unit))))))) =>
      if (v20.fst == (((List.length v4.fst) : Nat) : Int)) = true then
        Option.bind (tree_Builder_Root_P (v20.snd.fst, v20.snd.snd.fst, v20.snd.snd.snd)) fun (v21 : ((Arr (32 : Nat) Int) × (Int × (Bool × (List (Int × ((Arr (32 : Nat) Int) × Unit))))))) =>
        Option.bind (intaglioref12_Root_P v4.fst) fun (v22 : (Arr (32 : Nat) Int)) =>
        if xeqv.eqI v21.fst.val v22.val = true then
          Option.bind (intagliolaw12_awake_P ()) fun (v23 : Bool) =>
          some (v23)
        else
        some (false)
      else
      some (false)
    ) (fun (v5 : (Bool × (Int × (Bool × (List (Int × ((Arr (32 : Nat) Int) × Unit))))))) =>
    some (v5.fst)
  ) (v3)
def intagliolaw12_TreeBuilds_P : (List (List Int)) → Option (Bool) := fun p => intagliolaw12_TreeBuilds_M p
def intagliolaw12_TreeBuilds_MM : HL [(.slc (.slc (.int .u8)))] → Option (SumL [[.bool]]) := fun p => intagliolaw12_TreeBuilds_M p
def intagliolaw12_TreeBuilds_C : Con := ⟨0, intagliolaw12_TreeBuilds_T, intagliolaw12_TreeBuilds_O, stdCn [(.slc (.slc (.int .u8)))] [[.bool]] intagliolaw12_TreeBuilds_MM⟩

def intagliolaw12_TreeBack_L1_T : Tm := ⟨[(0, false, [.hole (.slc (.slc (.int .u8)))]), (3, false, [.ptr 0 0]), (4, false, [.hole (.int .i64)])], 65, [.box [.hole (.arr 32 (.int .u8))]]⟩
def intagliolaw12_TreeBack_L1_O : List (Ex × Tm) := [(.exit 0, ⟨[], 65, [.box [.hole (.arr 32 (.int .u8))]]⟩), (.ret, ⟨[(2, false, [.hole .bool])], 65, [.box [.hole (.arr 32 (.int .u8))]]⟩)]
def intagliolaw12_TreeBack_L1 (s0 : List (List Int)) (s4 : Int) (m0 : Arr 32 Int) : Option (((List (List Int)) × Int × (Arr 32 Int)) ⊕ (((Arr 32 Int)) ⊕ (Bool × (Arr 32 Int)))) :=
  if decide (s4 < (((List.length s0) : Nat) : Int)) = true then
    Option.bind (tree_Path_P (s0, s4)) fun (v0 : (Bool × (List (Arr (32 : Nat) Int)))) =>
    if (!v0.fst) = true then
      some (.inr (.inr (false, m0)))
    else
    Option.bind (ix s0 s4) fun (v1 : (List Int)) =>
    Option.bind (tree_Check_P (m0, (((List.length s0) : Nat) : Int), s4, v1, v0.snd)) fun (v2 : Bool) =>
    if (!v2) = true then
      some (.inr (.inr (false, m0)))
    else
    Option.bind (ix s0 s4) fun (v3 : (List Int)) =>
    Option.bind (tree_Check_P (m0, (((List.length s0) : Nat) : Int), (((List.length s0) : Nat) : Int), v3, v0.snd)) fun (v4 : Bool) =>
    if v4 = true then
      some (.inr (.inr (false, m0)))
    else
    Option.bind (ix s0 s4) fun (v5 : (List Int)) =>
    Option.bind (tree_Check_P (m0, (((List.length s0) : Nat) : Int), (-1 : Int), v5, v0.snd)) fun (v6 : Bool) =>
    if v6 = true then
      some (.inr (.inr (false, m0)))
    else
    some (.inl (s0, IntKind.wrap IntKind.i64 (s4 + (1 : Int)), m0))
  else
  some (.inr (.inl (m0)))
def intagliolaw12_TreeBack_L1_P : (List (List Int)) × Int × (Arr 32 Int) → Option (((List (List Int)) × Int × (Arr 32 Int)) ⊕ (((Arr 32 Int)) ⊕ (Bool × (Arr 32 Int)))) := fun p => intagliolaw12_TreeBack_L1 p.1 p.2.1 p.2.2
def intagliolaw12_TreeBack_L1_MM : HL [(.slc (.slc (.int .u8))), (.int .i64), (.arr 32 (.int .u8))] → Option (HL [(.slc (.slc (.int .u8))), (.int .i64), (.arr 32 (.int .u8))] ⊕ SumL [[(.arr 32 (.int .u8))], [.bool, (.arr 32 (.int .u8))]]) := fun p => intagliolaw12_TreeBack_L1 p.1 p.2.1 p.2.2
def intagliolaw12_TreeBack_L1_C : Con := ⟨1, intagliolaw12_TreeBack_L1_T, intagliolaw12_TreeBack_L1_O, stdCn [(.slc (.slc (.int .u8))), (.int .i64), (.arr 32 (.int .u8))] [[(.arr 32 (.int .u8))], [.bool, (.arr 32 (.int .u8))]] (loop intagliolaw12_TreeBack_L1_MM)⟩
def intagliolaw12_TreeBack_T : Tm := ⟨[(0, false, [.hole (.slc (.slc (.int .u8)))])], 1, []⟩
def intagliolaw12_TreeBack_O : List (Ex × Tm) := [(.ret, ⟨[(0, false, [.hole .bool])], 1, []⟩)]
def intagliolaw12_TreeBack_M (s0 : List (List Int)) : Option (Bool) :=
  Option.bind (intagliolaw12_light_P s0) fun (v0 : Bool) =>
  if (!v0) = true then
    Option.bind (intagliolaw12_awake_P ()) fun (v1 : Bool) =>
    some (v1)
  else
  Option.bind (tree_Root_P s0) fun (v2 : (Arr (32 : Nat) Int)) =>
  Option.bind (loop intagliolaw12_TreeBack_L1_P (s0, (0 : Int), v2)) fun (v3 : ((Arr (32 : Nat) Int) ⊕ (Bool × (Arr (32 : Nat) Int)))) =>
  Sum.elim (fun (v4 : (Arr (32 : Nat) Int)) =>
      Option.bind (intagliolaw12_awake_P ()) fun (v6 : Bool) =>
      some (v6)
    ) (fun (v5 : (Bool × (Arr (32 : Nat) Int))) =>
    some (v5.fst)
  ) (v3)
def intagliolaw12_TreeBack_P : (List (List Int)) → Option (Bool) := fun p => intagliolaw12_TreeBack_M p
def intagliolaw12_TreeBack_MM : HL [(.slc (.slc (.int .u8)))] → Option (SumL [[.bool]]) := fun p => intagliolaw12_TreeBack_M p
def intagliolaw12_TreeBack_C : Con := ⟨0, intagliolaw12_TreeBack_T, intagliolaw12_TreeBack_O, stdCn [(.slc (.slc (.int .u8)))] [[.bool]] intagliolaw12_TreeBack_MM⟩

def bytes_Equal_T : Tm := ⟨[(0, false, [.hole (.slc (.int .u8))]), (1, false, [.hole (.slc (.int .u8))])], 2, []⟩
def bytes_Equal_O : List (Ex × Tm) := [(.ret, ⟨[(0, false, [.hole .bool])], 1, []⟩)]
def bytes_Equal_M (s0 : List Int) (s1 : List Int) : Option (Bool) :=
  some (b8 s0 == b8 s1)
def bytes_Equal_P : (List Int) × (List Int) → Option (Bool) := fun p => bytes_Equal_M p.1 p.2
def bytes_Equal_MM : HL [(.slc (.int .u8)), (.slc (.int .u8))] → Option (SumL [[.bool]]) := fun p => bytes_Equal_M p.1 p.2
def bytes_Equal_C : Con := ⟨0, bytes_Equal_T, bytes_Equal_O, stdCn [(.slc (.int .u8)), (.slc (.int .u8))] [[.bool]] bytes_Equal_MM⟩

def intagliolaw12_TreeBinds_L1_T : Tm := ⟨[(0, false, [.hole (.slc (.slc (.int .u8)))]), (3, false, [.ptr 0 0]), (5, false, [.row 1]), (7, false, [.row 2]), (8, false, [.row 3]), (9, false, [.row 4]), (10, false, [.hole .bool]), (11, false, [.hole (.int .i64)])], 162, [.box [.hole (.int .i64), .hole (.int .i64), .hole (.slc (.int .u8)), .hole (.slc (.arr 32 (.int .u8)))], .row (.arr 32 (.int .u8)), .row (.int .i64), .row (.int .u8), .row (.int .u8)]⟩
def intagliolaw12_TreeBinds_L1_O : List (Ex × Tm) := [(.exit 0, ⟨[(0, false, [.hole (.slc (.slc (.int .u8)))]), (3, false, [.ptr 0 0]), (10, false, [.hole .bool])], 162, [.box [.hole (.int .i64), .hole (.int .i64), .hole (.slc (.int .u8)), .hole (.slc (.arr 32 (.int .u8)))]]⟩)]
def intagliolaw12_TreeBinds_L1 (s0 : List (List Int)) (s10 : Bool) (s11 : Int) (m0_0 : Int) (m0_1 : Int) (m0_2 : List Int) (m0_3 : List (Arr 32 Int)) (r1 : List (Arr 32 Int)) (r2 : List Int) (r3 : List Int) (r4 : List Int) : Option (((List (List Int)) × Bool × Int × Int × Int × (List Int) × (List (Arr 32 Int)) × (List (Arr 32 Int)) × (List Int) × (List Int) × (List Int)) ⊕ (((List (List Int)) × Bool × Int × Int × (List Int) × (List (Arr 32 Int))))) :=
  if decide (s11 < (((List.length r2) : Nat) : Int)) = true then
    Option.bind (intaglioref05_Sum_P r3) fun (v0 : (Arr (32 : Nat) Int)) =>
    Option.bind (intaglioref05_Sum_P r4) fun (v1 : (Arr (32 : Nat) Int)) =>
    Option.bind (inb (List.length r2) s11) fun _ =>
    if (List.getD r2 (Int.toNat s11) (0 : Int) == (1 : Int)) = true then
      Option.bind (inb (List.length r1) s11) fun _ =>
      Option.bind (ix m0_3 s11) fun (v4 : (Arr (32 : Nat) Int)) =>
      Option.bind (intaglioref12_NodeText_P (v0, List.getD r1 (Int.toNat s11) (Arr.rep (32 : Nat) (0 : Int)))) fun (v5 : (List Int)) =>
      Option.bind (intaglioref12_NodeText_P (v1, v4)) fun (v6 : (List Int)) =>
      if s10 = true then
        some (.inl (s0, true, IntKind.wrap IntKind.i64 (s11 + (1 : Int)), m0_0, m0_1, m0_2, m0_3, r1, r2, v5, v6))
      else
      Option.bind (bytes_Equal_P (v5, v6)) fun (v7 : Bool) =>
      if (!v7) = true then
        Option.bind (intaglioref05_Sum_P v5) fun (v8 : (Arr (32 : Nat) Int)) =>
        Option.bind (intaglioref05_Sum_P v6) fun (v9 : (Arr (32 : Nat) Int)) =>
        some (.inl (s0, xeqv.eqI v8.val v9.val, IntKind.wrap IntKind.i64 (s11 + (1 : Int)), m0_0, m0_1, m0_2, m0_3, r1, r2, v5, v6))
      else
      some (.inl (s0, false, IntKind.wrap IntKind.i64 (s11 + (1 : Int)), m0_0, m0_1, m0_2, m0_3, r1, r2, v5, v6))
    else
    Option.bind (inb (List.length r1) s11) fun _ =>
    Option.bind (ix m0_3 s11) fun (v11 : (Arr (32 : Nat) Int)) =>
    Option.bind (intaglioref12_NodeText_P (List.getD r1 (Int.toNat s11) (Arr.rep (32 : Nat) (0 : Int)), v0)) fun (v12 : (List Int)) =>
    Option.bind (intaglioref12_NodeText_P (v11, v1)) fun (v13 : (List Int)) =>
    if s10 = true then
      some (.inl (s0, true, IntKind.wrap IntKind.i64 (s11 + (1 : Int)), m0_0, m0_1, m0_2, m0_3, r1, r2, v12, v13))
    else
    Option.bind (bytes_Equal_P (v12, v13)) fun (v14 : Bool) =>
    if (!v14) = true then
      Option.bind (intaglioref05_Sum_P v12) fun (v15 : (Arr (32 : Nat) Int)) =>
      Option.bind (intaglioref05_Sum_P v13) fun (v16 : (Arr (32 : Nat) Int)) =>
      some (.inl (s0, xeqv.eqI v15.val v16.val, IntKind.wrap IntKind.i64 (s11 + (1 : Int)), m0_0, m0_1, m0_2, m0_3, r1, r2, v12, v13))
    else
    some (.inl (s0, false, IntKind.wrap IntKind.i64 (s11 + (1 : Int)), m0_0, m0_1, m0_2, m0_3, r1, r2, v12, v13))
  else
  some (.inr (s0, s10, m0_0, m0_1, m0_2, m0_3))
def intagliolaw12_TreeBinds_L1_P : (List (List Int)) × Bool × Int × Int × Int × (List Int) × (List (Arr 32 Int)) × (List (Arr 32 Int)) × (List Int) × (List Int) × (List Int) → Option (((List (List Int)) × Bool × Int × Int × Int × (List Int) × (List (Arr 32 Int)) × (List (Arr 32 Int)) × (List Int) × (List Int) × (List Int)) ⊕ (((List (List Int)) × Bool × Int × Int × (List Int) × (List (Arr 32 Int))))) := fun p => intagliolaw12_TreeBinds_L1 p.1 p.2.1 p.2.2.1 p.2.2.2.1 p.2.2.2.2.1 p.2.2.2.2.2.1 p.2.2.2.2.2.2.1 p.2.2.2.2.2.2.2.1 p.2.2.2.2.2.2.2.2.1 p.2.2.2.2.2.2.2.2.2.1 p.2.2.2.2.2.2.2.2.2.2
def intagliolaw12_TreeBinds_L1_MM : HL [(.slc (.slc (.int .u8))), .bool, (.int .i64), (.int .i64), (.int .i64), (.slc (.int .u8)), (.slc (.arr 32 (.int .u8))), (.slc (.arr 32 (.int .u8))), (.slc (.int .i64)), (.slc (.int .u8)), (.slc (.int .u8))] → Option (HL [(.slc (.slc (.int .u8))), .bool, (.int .i64), (.int .i64), (.int .i64), (.slc (.int .u8)), (.slc (.arr 32 (.int .u8))), (.slc (.arr 32 (.int .u8))), (.slc (.int .i64)), (.slc (.int .u8)), (.slc (.int .u8))] ⊕ SumL [[(.slc (.slc (.int .u8))), .bool, (.int .i64), (.int .i64), (.slc (.int .u8)), (.slc (.arr 32 (.int .u8)))]]) := fun p => intagliolaw12_TreeBinds_L1 p.1 p.2.1 p.2.2.1 p.2.2.2.1 p.2.2.2.2.1 p.2.2.2.2.2.1 p.2.2.2.2.2.2.1 p.2.2.2.2.2.2.2.1 p.2.2.2.2.2.2.2.2.1 p.2.2.2.2.2.2.2.2.2.1 p.2.2.2.2.2.2.2.2.2.2
def intagliolaw12_TreeBinds_L1_C : Con := ⟨1, intagliolaw12_TreeBinds_L1_T, intagliolaw12_TreeBinds_L1_O, stdCn [(.slc (.slc (.int .u8))), .bool, (.int .i64), (.int .i64), (.int .i64), (.slc (.int .u8)), (.slc (.arr 32 (.int .u8))), (.slc (.arr 32 (.int .u8))), (.slc (.int .i64)), (.slc (.int .u8)), (.slc (.int .u8))] [[(.slc (.slc (.int .u8))), .bool, (.int .i64), (.int .i64), (.slc (.int .u8)), (.slc (.arr 32 (.int .u8)))]] (loop intagliolaw12_TreeBinds_L1_MM)⟩
def intagliolaw12_TreeBinds_T : Tm := ⟨[(0, false, [.hole (.slc (.slc (.int .u8)))]), (1, true, [.hole (.int .i64), .hole (.int .i64), .hole (.slc (.int .u8)), .hole (.slc (.arr 32 (.int .u8)))])], 2, []⟩
def intagliolaw12_TreeBinds_O : List (Ex × Tm) := [(.ret, ⟨[(0, false, [.hole .bool])], 1, []⟩)]
def intagliolaw12_TreeBinds_M (s0 : List (List Int)) (s1_0 : Int) (s1_1 : Int) (s1_2 : List Int) (s1_3 : List (Arr 32 Int)) : Option (Bool) :=
  Option.bind (intagliolaw12_light_P s0) fun (v0 : Bool) =>
  if (!v0) = true then
    Option.bind (intagliolaw12_awake_P ()) fun (v1 : Bool) =>
    some (v1)
  else
  if decide ((((List.length s1_2) : Nat) : Int) > (200 : Int)) = true then
    Option.bind (intagliolaw12_awake_P ()) fun (v2 : Bool) =>
    some (v2)
  else
  if decide ((((List.length s1_3) : Nat) : Int) > (20 : Int)) = true then
    Option.bind (intagliolaw12_awake_P ()) fun (v3 : Bool) =>
    some (v3)
  else
  if decide (s1_1 < (0 : Int)) = true then
    Option.bind (intagliolaw12_awake_P ()) fun (v4 : Bool) =>
    some (v4)
  else
  if decide (s1_1 ≥ (((List.length s0) : Nat) : Int)) = true then
    Option.bind (intagliolaw12_awake_P ()) fun (v5 : Bool) =>
    some (v5)
  else
  Option.bind (tree_Root_P s0) fun (v6 : (Arr (32 : Nat) Int)) =>
  Option.bind (tree_Check_P (v6, (((List.length s0) : Nat) : Int), s1_1, s1_2, s1_3)) fun (v7 : Bool) =>
  if (!v7) = true then
    Option.bind (intagliolaw12_awake_P ()) fun (v8 : Bool) =>
    some (v8)
  else
  Option.bind (intaglioref12_Path_P (s0, s1_1)) fun (v9 : (Bool × (List (Arr (32 : Nat) Int)))) =>
  Option.bind (intaglioref12_Sides_P ((((List.length s0) : Nat) : Int), s1_1)) fun (v10 : (List Int)) =>
  if ((((List.length v9.snd) : Nat) : Int) != (((List.length s1_3) : Nat) : Int)) = true then
    some (false)
  else
  Option.bind (ix s0 s1_1) fun (v11 : (List Int)) =>
  Option.bind (intaglioref12_LeafText_P v11) fun (v12 : (List Int)) =>
  Option.bind (intaglioref12_LeafText_P s1_2) fun (v13 : (List Int)) =>
  Option.bind (bytes_Equal_P (v12, v13)) fun (v14 : Bool) =>
  if (!v14) = true then
    Option.bind (intaglioref05_Sum_P v12) fun (v15 : (Arr (32 : Nat) Int)) =>
    Option.bind (intaglioref05_Sum_P v13) fun (v16 : (Arr (32 : Nat) Int)) =>
    Option.bind (loop intagliolaw12_TreeBinds_L1_P (s0, xeqv.eqI v15.val v16.val, (0 : Int), s1_0, s1_1, s1_2, s1_3, v9.snd, v10, v12, v13)) fun (v17 : ((List (List Int)) × (Bool × (Int × (Int × ((List Int) × (List (Arr (32 : Nat) Int)))))))) =>
    Option.bind (ix v17.fst v17.snd.snd.snd.fst) fun (v18 : (List Int)) =>
    Option.bind (bytes_Equal_P (v17.snd.snd.snd.snd.fst, v18)) fun (v19 : Bool) =>
    if v19 = true then
      Option.bind (intagliolaw12_awake_P ()) fun (v20 : Bool) =>
      some (v20)
    else
    if v17.snd.fst = true then
      Option.bind (intagliolaw12_awake_P ()) fun (v21 : Bool) =>
      some (v21)
    else
    some (false)
  else
  Option.bind (loop intagliolaw12_TreeBinds_L1_P (s0, false, (0 : Int), s1_0, s1_1, s1_2, s1_3, v9.snd, v10, v12, v13)) fun (v22 : ((List (List Int)) × (Bool × (Int × (Int × ((List Int) × (List (Arr (32 : Nat) Int)))))))) =>
  Option.bind (ix v22.fst v22.snd.snd.snd.fst) fun (v23 : (List Int)) =>
  Option.bind (bytes_Equal_P (v22.snd.snd.snd.snd.fst, v23)) fun (v24 : Bool) =>
  if v24 = true then
    Option.bind (intagliolaw12_awake_P ()) fun (v25 : Bool) =>
    some (v25)
  else
  if v22.snd.fst = true then
    Option.bind (intagliolaw12_awake_P ()) fun (v26 : Bool) =>
    some (v26)
  else
  some (false)
def intagliolaw12_TreeBinds_P : (List (List Int)) × Int × Int × (List Int) × (List (Arr 32 Int)) → Option (Bool) := fun p => intagliolaw12_TreeBinds_M p.1 p.2.1 p.2.2.1 p.2.2.2.1 p.2.2.2.2
def intagliolaw12_TreeBinds_MM : HL [(.slc (.slc (.int .u8))), (.int .i64), (.int .i64), (.slc (.int .u8)), (.slc (.arr 32 (.int .u8)))] → Option (SumL [[.bool]]) := fun p => intagliolaw12_TreeBinds_M p.1 p.2.1 p.2.2.1 p.2.2.2.1 p.2.2.2.2
def intagliolaw12_TreeBinds_C : Con := ⟨0, intagliolaw12_TreeBinds_T, intagliolaw12_TreeBinds_O, stdCn [(.slc (.slc (.int .u8))), (.int .i64), (.int .i64), (.slc (.int .u8)), (.slc (.arr 32 (.int .u8)))] [[.bool]] intagliolaw12_TreeBinds_MM⟩
end
end Go.Proofs.YtmjmjfbmgiidiaaDoor
