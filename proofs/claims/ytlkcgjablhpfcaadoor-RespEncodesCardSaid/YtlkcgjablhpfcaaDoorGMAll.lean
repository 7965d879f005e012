/- Plain models of Go functions. -/
import Derived.Test.YtlkcgjablhpfcaaDoorEd
import Derived.Lib.ParseIntB
import Derived.Lib.Bytealg
import Derived.Lib.ItoaNum
namespace Go.Proofs.YtlkcgjablhpfcaaDoor
open Go Go.Lift
set_option maxRecDepth 100000
set_option maxHeartbeats 4000000
set_option linter.unusedVariables false
noncomputable section
theorem fuel_ex : ∃ n : Nat, n = 1000000 := ⟨_, rfl⟩
noncomputable def fuel : Nat := Classical.choose fuel_ex
theorem fuel_is : fuel = 1000000 := Classical.choose_spec fuel_ex
def tb_math_bits_deBruijn32tab : Arr 32 Int := Arr.of 32 [0, 1, 28, 2, 29, 14, 24, 3, 30, 22, 20, 15, 25, 17, 4, 8, 31, 27, 13, 23, 21, 19, 16, 7, 26, 12, 18, 6, 11, 5, 10, 9] rfl
def tb_math_bits_deBruijn64tab : Arr 64 Int := Arr.of 64 [0, 1, 56, 2, 57, 49, 28, 3, 61, 58, 42, 50, 38, 29, 17, 4, 62, 47, 59, 36, 45, 43, 51, 22, 53, 39, 33, 30, 24, 18, 12, 5, 63, 55, 48, 27, 60, 41, 37, 16, 46, 35, 44, 21, 52, 32, 23, 11, 54, 26, 40, 15, 34, 20, 31, 10, 25, 14, 19, 9, 13, 8, 7, 6] rfl
def tb_internal_strconv_uint64pow10 : Arr 20 Int := Arr.of 20 [1, 10, 100, 1000, 10000, 100000, 1000000, 10000000, 100000000, 1000000000, 10000000000, 100000000000, 1000000000000, 10000000000000, 100000000000000, 1000000000000000, 10000000000000000, 100000000000000000, 1000000000000000000, 10000000000000000000] rfl
def GL : Globs := [(4, ⟨.arr 32 (.int .u8), tb_math_bits_deBruijn32tab⟩), (5, ⟨.arr 64 (.int .u8), tb_math_bits_deBruijn64tab⟩), (1, ⟨.arr 20 (.int .u64), tb_internal_strconv_uint64pow10⟩), (3, ⟨.err, true⟩), (2, ⟨.err, true⟩)]
def sc_parse (s : List UInt8) : Int × Bool := match Go.Lib.parseIntB 64 s with
  | .ok v => (v, false)
  | .range => (Go.Lib.intSat 64 s, true)
  | _ => (0, true)
def sc_bulk (t : List UInt8) : List UInt8 := 36 :: (Go.Lib.itoa (t.length : Int) ++ (13 :: 10 :: (t ++ [13, 10])))
def sc_command (l : List (List UInt8)) : List UInt8 := 42 :: (Go.Lib.itoa (l.length : Int) ++ (13 :: 10 :: l.flatMap sc_bulk))

def resp_Command_T : Tm := ⟨[(0, false, [.hole (.slc .str)])], 1, []⟩
def resp_Command_O : List (Ex × Tm) := [(.ret, ⟨[(0, false, [.row 0])], 1, [.row (.int .u8)]⟩)]
def resp_Command_M (l : List (List UInt8)) : Option ((List Int)) :=
  if l.length ≤ 1000 ∧ (sc_command l).length ≤ 2000000 then some (bnums (sc_command l)) else none
def resp_Command_P : (List (List UInt8)) → Option ((List Int)) := fun p => resp_Command_M p
def resp_Command_MM : HL [(.slc .str)] → Option (SumL [[(.slc (.int .u8))]]) := fun p => resp_Command_M p
def resp_Command_C : Con := ⟨0, resp_Command_T, resp_Command_O, stdCn [(.slc .str)] [[(.slc (.int .u8))]] resp_Command_MM, []⟩

def resp_New_T : Tm := ⟨[], 0, []⟩
def resp_New_O : List (Ex × Tm) := [(.ret, ⟨[(0, false, [.ptr 0 0])], 1, [.box [.row 1, .hole (.int .i64), .hole .bool], .row (.int .u8)]⟩)]
def resp_New_M  : Option (Int × Bool × (List Int)) :=
  some ((0 : Int), true, [])
def resp_New_P : Unit → Option (Int × Bool × (List Int)) := fun p => resp_New_M 
def resp_New_MM : HL [] → Option (SumL [[(.int .i64), .bool, (.slc (.int .u8))]]) := fun p => resp_New_M 
def resp_New_C : Con := ⟨0, resp_New_T, resp_New_O, stdCn [] [[(.int .i64), .bool, (.slc (.int .u8))]] resp_New_MM, []⟩

def strconv_Itoa_T : Tm := ⟨[(0, false, [.hole (.int .i64)])], 1, []⟩
def strconv_Itoa_O : List (Ex × Tm) := [(.ret, ⟨[(0, false, [.hole .str])], 1, []⟩)]
def strconv_Itoa_M (n : Int) : Option ((List UInt8)) :=
  if -9223372036854775808 ≤ n ∧ n ≤ 9223372036854775807 then some (Go.Lib.itoa n) else none
def strconv_Itoa_P : Int → Option ((List UInt8)) := fun p => strconv_Itoa_M p
def strconv_Itoa_MM : HL [(.int .i64)] → Option (SumL [[.str]]) := fun p => strconv_Itoa_M p
def strconv_Itoa_C : Con := ⟨0, strconv_Itoa_T, strconv_Itoa_O, stdCn [(.int .i64)] [[.str]] strconv_Itoa_MM, []⟩

def verb_Text_T : Tm := ⟨[(0, false, [.hole (.int .i64)])], 1, []⟩
def verb_Text_O : List (Ex × Tm) := [(.ret, ⟨[(0, false, [.hole .str])], 1, []⟩)]
def verb_Text_M (s0 : Int) : Option ((List UInt8)) :=
  Option.bind (strconv_Itoa_P s0) fun (v0 : (List UInt8)) =>
  some (v0)
def verb_Text_P : Int → Option ((List UInt8)) := fun p => verb_Text_M p
def verb_Text_MM : HL [(.int .i64)] → Option (SumL [[.str]]) := fun p => verb_Text_M p
def verb_Text_C : Con := ⟨0, verb_Text_T, verb_Text_O, stdCn [(.int .i64)] [[.str]] verb_Text_MM, []⟩

def strconv_ParseInt_T : Tm := ⟨[(0, false, [.hole .str]), (1, false, [.hole (.int .i64)]), (2, false, [.hole (.int .i64)])], 3, []⟩
def strconv_ParseInt_O : List (Ex × Tm) := [(.ret, ⟨[(0, false, [.hole (.int .i64)]), (1, false, [.hole .err])], 2, []⟩)]
def strconv_ParseInt_M (s : List UInt8) (b : Int) (k : Int) : Option (Int × Bool) :=
  if b = 10 ∧ k = 64 ∧ s.length ≤ 281474976710656 then some (sc_parse s) else none
def strconv_ParseInt_P : (List UInt8) × Int × Int → Option (Int × Bool) := fun p => strconv_ParseInt_M p.1 p.2.1 p.2.2
def strconv_ParseInt_MM : HL [.str, (.int .i64), (.int .i64)] → Option (SumL [[(.int .i64), .err]]) := fun p => strconv_ParseInt_M p.1 p.2.1 p.2.2
def strconv_ParseInt_C : Con := ⟨0, strconv_ParseInt_T, strconv_ParseInt_O, stdCn [.str, (.int .i64), (.int .i64)] [[(.int .i64), .err]] strconv_ParseInt_MM, []⟩

def verb_Int_T : Tm := ⟨[(0, false, [.hole .str])], 1, []⟩
def verb_Int_O : List (Ex × Tm) := [(.ret, ⟨[(0, false, [.hole (.int .i64)]), (1, false, [.hole .bool])], 2, []⟩)]
def verb_Int_M (s0 : List UInt8) : Option (Int × Bool) :=
  Option.bind (strconv_ParseInt_P (s0, (10 : Int), (64 : Int))) fun (v0 : (Int × Bool)) =>
  if (!!v0.snd) = true then
    some ((0 : Int), false)
  else
  Option.bind (verb_Text_P v0.fst) fun (v1 : (List UInt8)) =>
  if (!v1 == s0) = true then
    some ((0 : Int), false)
  else
  some (v0.fst, true)
def verb_Int_P : (List UInt8) → Option (Int × Bool) := fun p => verb_Int_M p
def verb_Int_MM : HL [.str] → Option (SumL [[(.int .i64), .bool]]) := fun p => verb_Int_M p
def verb_Int_C : Con := ⟨0, verb_Int_T, verb_Int_O, stdCn [.str] [[(.int .i64), .bool]] verb_Int_MM, []⟩

def bytes_IndexByte_T : Tm := ⟨[(0, false, [.hole (.slc (.int .u8))]), (1, false, [.hole (.int .u8)])], 2, []⟩
def bytes_IndexByte_O : List (Ex × Tm) := [(.ret, ⟨[(0, false, [.hole (.int .i64)])], 1, []⟩)]
def bytes_IndexByte_M (s : List Int) (c : Int) : Option (Int) :=
  some (Go.Lib.indexByte (b8 s) c.toNat.toUInt8)
def bytes_IndexByte_P : (List Int) × Int → Option (Int) := fun p => bytes_IndexByte_M p.1 p.2
def bytes_IndexByte_MM : HL [(.slc (.int .u8)), (.int .u8)] → Option (SumL [[(.int .i64)]]) := fun p => bytes_IndexByte_M p.1 p.2
def bytes_IndexByte_C : Con := ⟨0, bytes_IndexByte_T, bytes_IndexByte_O, stdCn [(.slc (.int .u8)), (.int .u8)] [[(.int .i64)]] bytes_IndexByte_MM, []⟩

def stringslite_HasSuffix_T : Tm := ⟨[(0, false, [.hole .str]), (1, false, [.hole .str])], 2, []⟩
def stringslite_HasSuffix_O : List (Ex × Tm) := [(.ret, ⟨[(0, false, [.hole .bool])], 1, []⟩)]
def stringslite_HasSuffix_M (s0 : List UInt8) (s1 : List UInt8) : Option (Bool) :=
  if decide ((((List.length s0) : Nat) : Int) ≥ (((List.length s1) : Nat) : Int)) = true then
    Option.bind (sub s0 (IntKind.wrap IntKind.i64 ((((List.length s0) : Nat) : Int) - (((List.length s1) : Nat) : Int))) (((List.length s0) : Nat) : Int)) fun (v0 : (List UInt8)) =>
    some (v0 == s1)
  else
  some (false)
def stringslite_HasSuffix_P : (List UInt8) × (List UInt8) → Option (Bool) := fun p => stringslite_HasSuffix_M p.1 p.2
def stringslite_HasSuffix_MM : HL [.str, .str] → Option (SumL [[.bool]]) := fun p => stringslite_HasSuffix_M p.1 p.2
def stringslite_HasSuffix_C : Con := ⟨0, stringslite_HasSuffix_T, stringslite_HasSuffix_O, stdCn [.str, .str] [[.bool]] stringslite_HasSuffix_MM, []⟩

def stringslite_CutSuffix_T : Tm := ⟨[(0, false, [.hole .str]), (1, false, [.hole .str])], 2, []⟩
def stringslite_CutSuffix_O : List (Ex × Tm) := [(.ret, ⟨[(0, false, [.hole .str]), (1, false, [.hole .bool])], 2, []⟩)]
def stringslite_CutSuffix_M (s0 : List UInt8) (s1 : List UInt8) : Option ((List UInt8) × Bool) :=
  Option.bind (stringslite_HasSuffix_P (s0, s1)) fun (v0 : Bool) =>
  if (!v0) = true then
    some (s0, false)
  else
  Option.bind (sub s0 (0 : Int) (IntKind.wrap IntKind.i64 ((((List.length s0) : Nat) : Int) - (((List.length s1) : Nat) : Int)))) fun (v1 : (List UInt8)) =>
  some (v1, true)
def stringslite_CutSuffix_P : (List UInt8) × (List UInt8) → Option ((List UInt8) × Bool) := fun p => stringslite_CutSuffix_M p.1 p.2
def stringslite_CutSuffix_MM : HL [.str, .str] → Option (SumL [[.str, .bool]]) := fun p => stringslite_CutSuffix_M p.1 p.2
def stringslite_CutSuffix_C : Con := ⟨0, stringslite_CutSuffix_T, stringslite_CutSuffix_O, stdCn [.str, .str] [[.str, .bool]] stringslite_CutSuffix_MM, []⟩

def strings_CutSuffix_T : Tm := ⟨[(0, false, [.hole .str]), (1, false, [.hole .str])], 2, []⟩
def strings_CutSuffix_O : List (Ex × Tm) := [(.ret, ⟨[(0, false, [.hole .str]), (1, false, [.hole .bool])], 2, []⟩)]
def strings_CutSuffix_M (s0 : List UInt8) (s1 : List UInt8) : Option ((List UInt8) × Bool) :=
  Option.bind (stringslite_CutSuffix_P (s0, s1)) fun (v0 : ((List UInt8) × Bool)) =>
  some (v0.fst, v0.snd)
def strings_CutSuffix_P : (List UInt8) × (List UInt8) → Option ((List UInt8) × Bool) := fun p => strings_CutSuffix_M p.1 p.2
def strings_CutSuffix_MM : HL [.str, .str] → Option (SumL [[.str, .bool]]) := fun p => strings_CutSuffix_M p.1 p.2
def strings_CutSuffix_C : Con := ⟨0, strings_CutSuffix_T, strings_CutSuffix_O, stdCn [.str, .str] [[.str, .bool]] strings_CutSuffix_MM, []⟩

def resp_count_T : Tm := ⟨[(0, false, [.part 0]), (1, false, [.hole (.int .u8)]), (2, false, [.hole (.int .i64)])], 3, [.row (.int .u8)]⟩
def resp_count_O : List (Ex × Tm) := [(.ret, ⟨[(0, false, [.hole (.int .i64)]), (1, false, [.nils]), (2, false, [.hole (.int .i64)])], 3, [.row (.int .u8)]⟩), (.ret, ⟨[(0, false, [.hole (.int .i64)]), (1, false, [.part 0]), (2, false, [.hole (.int .i64)])], 3, [.row (.int .u8)]⟩)]
def resp_count_M (s0_0 : Int) (s0_1 : Int) (s1 : Int) (s2 : Int) (r0 : List Int) : Option (((Int × Int × (List Int)) ⊕ (Int × Int × Int × Int × (List Int)))) :=
  Option.bind (subn (Int.toNat s0_1 - Int.toNat s0_0) (0 : Int) (if (16 : Int) < (((Int.toNat s0_1 - Int.toNat s0_0) : Nat) : Int) then (16 : Int) else (((Int.toNat s0_1 - Int.toNat s0_0) : Nat) : Int))) fun _ =>
  Option.bind (bytes_IndexByte_P (List.drop (Int.toNat s0_0 + (0 : Nat)) (List.take (Int.toNat s0_0 + Int.toNat (if (16 : Int) < (((Int.toNat s0_1 - Int.toNat s0_0) : Nat) : Int) then (16 : Int) else (((Int.toNat s0_1 - Int.toNat s0_0) : Nat) : Int))) r0), (10 : Int))) fun (v1 : Int) =>
  if decide (v1 < (0 : Int)) = true then
    if decide ((((Int.toNat s0_1 - Int.toNat s0_0) : Nat) : Int) ≥ (16 : Int)) = true then
      some (.inl ((0 : Int), (3 : Int), r0))
    else
    some (.inl ((0 : Int), (4 : Int), r0))
  else
  Option.bind (subn (Int.toNat s0_1 - Int.toNat s0_0) (0 : Int) (IntKind.wrap IntKind.i64 (v1 + (1 : Int)))) fun _ =>
  Option.bind (strings_CutSuffix_P (b8 (List.drop (Int.toNat s0_0 + (0 : Nat)) (List.take (Int.toNat s0_0 + Int.toNat (IntKind.wrap IntKind.i64 (v1 + (1 : Int)))) r0)), [(13 : UInt8), (10 : UInt8)])) fun (v3 : ((List UInt8) × Bool)) =>
  if (!v3.snd) = true then
    some (.inl ((0 : Int), (3 : Int), r0))
  else
  if (v3.fst == []) = true then
    some (.inl ((0 : Int), (3 : Int), r0))
  else
  Option.bind (ix v3.fst (0 : Int)) fun (v4 : UInt8) =>
  if ((((UInt8.toNat v4) : Nat) : Int) != s1) = true then
    some (.inl ((0 : Int), (3 : Int), r0))
  else
  if decide ((((List.length v3.fst) : Nat) : Int) > (10 : Int)) = true then
    some (.inl ((0 : Int), (3 : Int), r0))
  else
  Option.bind (sub v3.fst (1 : Int) (((List.length v3.fst) : Nat) : Int)) fun (v5 : (List UInt8)) =>
  Option.bind (verb_Int_P v5) fun (v6 : (Int × Bool)) =>
  if (!v6.snd) = true then
    some (.inl ((0 : Int), (3 : Int), r0))
  else
  if decide (v6.fst < (0 : Int)) = true then
    some (.inl ((0 : Int), (3 : Int), r0))
  else
  if decide (v6.fst > s2) = true then
    some (.inl ((0 : Int), (5 : Int), r0))
  else
  Option.bind (subn (Int.toNat s0_1 - Int.toNat s0_0) (IntKind.wrap IntKind.i64 (v1 + (1 : Int))) (((Int.toNat s0_1 - Int.toNat s0_0) : Nat) : Int)) fun _ =>
  some (.inr (v6.fst, (((Int.toNat s0_0 + Int.toNat (IntKind.wrap IntKind.i64 (v1 + (1 : Int)))) : Nat) : Int), (((Int.toNat s0_0 + Int.toNat (((Int.toNat s0_1 - Int.toNat s0_0) : Nat) : Int)) : Nat) : Int), (0 : Int), r0))
def resp_count_P : Int × Int × Int × Int × (List Int) → Option (((Int × Int × (List Int)) ⊕ (Int × Int × Int × Int × (List Int)))) := fun p => resp_count_M p.1 p.2.1 p.2.2.1 p.2.2.2.1 p.2.2.2.2
def resp_count_MM : HL [(.int .i64), (.int .i64), (.int .u8), (.int .i64), (.slc (.int .u8))] → Option (SumL [[(.int .i64), (.int .i64), (.slc (.int .u8))], [(.int .i64), (.int .i64), (.int .i64), (.int .i64), (.slc (.int .u8))]]) := fun p => resp_count_M p.1 p.2.1 p.2.2.1 p.2.2.2.1 p.2.2.2.2
def resp_count_C : Con := ⟨1, resp_count_T, resp_count_O, stdCn [(.int .i64), (.int .i64), (.int .u8), (.int .i64), (.slc (.int .u8))] [[(.int .i64), (.int .i64), (.slc (.int .u8))], [(.int .i64), (.int .i64), (.int .i64), (.int .i64), (.slc (.int .u8))]] resp_count_MM, [0]⟩

def resp_word_T : Tm := ⟨[(0, false, [.part 0])], 1, [.row (.int .u8)]⟩
def resp_word_O : List (Ex × Tm) := [(.ret, ⟨[(0, false, [.hole .str]), (1, false, [.nils]), (2, false, [.hole (.int .i64)])], 3, [.row (.int .u8)]⟩), (.ret, ⟨[(0, false, [.hole .str]), (1, false, [.part 0]), (2, false, [.hole (.int .i64)])], 3, [.row (.int .u8)]⟩)]
def resp_word_M (s0_0 : Int) (s0_1 : Int) (r0 : List Int) : Option ((((List UInt8) × Int × (List Int)) ⊕ ((List UInt8) × Int × Int × Int × (List Int)))) :=
  Option.bind (resp_count_P ((((Int.toNat s0_0) : Nat) : Int), (((Int.toNat s0_1) : Nat) : Int), (36 : Int), (512 : Int), r0)) fun (v0 : ((Int × (Int × (List Int))) ⊕ (Int × (Int × (Int × (Int × (List Int))))))) =>
  Sum.elim (fun (v1 : (Int × (Int × (List Int)))) =>
      if (v1.snd.fst != (0 : Int)) = true then
        some (.inl ([], v1.snd.fst, v1.snd.snd))
      else
      if decide ((0 : Int) < IntKind.wrap IntKind.i64 (v1.fst + (2 : Int))) = true then
        some (.inl ([], (4 : Int), v1.snd.snd))
      else
      Option.bind (subn (0 : Nat) v1.fst (IntKind.wrap IntKind.i64 (v1.fst + (2 : Int)))) fun _ =>
      some (.inl ([], (3 : Int), v1.snd.snd))
    ) (fun (v2 : (Int × (Int × (Int × (Int × (List Int)))))) =>
    if (v2.snd.snd.snd.fst != (0 : Int)) = true then
      some (.inl ([], v2.snd.snd.snd.fst, v2.snd.snd.snd.snd))
    else
    if decide ((((Int.toNat v2.snd.snd.fst - Int.toNat v2.snd.fst) : Nat) : Int) < IntKind.wrap IntKind.i64 (v2.fst + (2 : Int))) = true then
      some (.inl ([], (4 : Int), v2.snd.snd.snd.snd))
    else
    Option.bind (subn (Int.toNat v2.snd.snd.fst - Int.toNat v2.snd.fst) v2.fst (IntKind.wrap IntKind.i64 (v2.fst + (2 : Int)))) fun _ =>
    if (!b8 (List.drop (Int.toNat v2.snd.fst + Int.toNat v2.fst) (List.take (Int.toNat v2.snd.fst + Int.toNat (IntKind.wrap IntKind.i64 (v2.fst + (2 : Int)))) v2.snd.snd.snd.snd)) == [(13 : UInt8), (10 : UInt8)]) = true then
      some (.inl ([], (3 : Int), v2.snd.snd.snd.snd))
    else
    Option.bind (subn (Int.toNat v2.snd.snd.fst - Int.toNat v2.snd.fst) (0 : Int) v2.fst) fun _ =>
    Option.bind (subn (Int.toNat v2.snd.snd.fst - Int.toNat v2.snd.fst) (IntKind.wrap IntKind.i64 (v2.fst + (2 : Int))) (((Int.toNat v2.snd.snd.fst - Int.toNat v2.snd.fst) : Nat) : Int)) fun _ =>
    some (.inr (b8 (List.drop (Int.toNat v2.snd.fst + (0 : Nat)) (List.take (Int.toNat v2.snd.fst + Int.toNat v2.fst) v2.snd.snd.snd.snd)), (((Int.toNat v2.snd.fst + Int.toNat (IntKind.wrap IntKind.i64 (v2.fst + (2 : Int)))) : Nat) : Int), (((Int.toNat v2.snd.fst + Int.toNat (((Int.toNat v2.snd.snd.fst - Int.toNat v2.snd.fst) : Nat) : Int)) : Nat) : Int), (0 : Int), v2.snd.snd.snd.snd))
  ) (v0)
def resp_word_P : Int × Int × (List Int) → Option ((((List UInt8) × Int × (List Int)) ⊕ ((List UInt8) × Int × Int × Int × (List Int)))) := fun p => resp_word_M p.1 p.2.1 p.2.2
def resp_word_MM : HL [(.int .i64), (.int .i64), (.slc (.int .u8))] → Option (SumL [[.str, (.int .i64), (.slc (.int .u8))], [.str, (.int .i64), (.int .i64), (.int .i64), (.slc (.int .u8))]]) := fun p => resp_word_M p.1 p.2.1 p.2.2
def resp_word_C : Con := ⟨1, resp_word_T, resp_word_O, stdCn [(.int .i64), (.int .i64), (.slc (.int .u8))] [[.str, (.int .i64), (.slc (.int .u8))], [.str, (.int .i64), (.int .i64), (.int .i64), (.slc (.int .u8))]] resp_word_MM, [0]⟩

def resp_command_L1_T : Tm := ⟨[(0, false, [.part 0]), (7, false, [.row 1]), (18, false, [.hole (.int .i64)]), (19, false, [.hole (.int .i64)])], 37, [.row (.int .u8), .row .str]⟩
def resp_command_L1_O : List (Ex × Tm) := [(.exit 0, ⟨[(0, false, [.part 0]), (7, false, [.row 1])], 37, [.row (.int .u8), .row .str]⟩), (.ret, ⟨[(2, false, [.nils]), (3, false, [.nils]), (4, false, [.hole (.int .i64)])], 37, [.row (.int .u8)]⟩)]
def resp_command_L1 (s0_0 : Int) (s0_1 : Int) (s18 : Int) (s19 : Int) (r0 : List Int) (r1 : List (List UInt8)) : Option ((Int × Int × Int × Int × (List Int) × (List (List UInt8))) ⊕ ((Int × Int × (List Int) × (List (List UInt8))) ⊕ (Int × (List Int)))) :=
  if decide (s19 < s18) = true then
    Option.bind (resp_word_P ((((Int.toNat s0_0) : Nat) : Int), (((Int.toNat s0_1) : Nat) : Int), r0)) fun (v0 : (((List UInt8) × (Int × (List Int))) ⊕ ((List UInt8) × (Int × (Int × (Int × (List Int))))))) =>
    Sum.elim (fun (v1 : ((List UInt8) × (Int × (List Int)))) =>
        if (v1.snd.fst != (0 : Int)) = true then
          some (.inr (.inr (v1.snd.fst, v1.snd.snd)))
        else
        Option.bind (room (16 : Nat) (List.length r1 + List.length [v1.fst])) fun _ =>
        none -- STUCK after t19 move [R6 R7 R8 R9 R10 R11 R12]
      ) (fun (v2 : ((List UInt8) × (Int × (Int × (Int × (List Int)))))) =>
      if (v2.snd.snd.snd.fst != (0 : Int)) = true then
        some (.inr (.inr (v2.snd.snd.snd.fst, v2.snd.snd.snd.snd)))
      else
      Option.bind (room (16 : Nat) (List.length r1 + List.length [v2.fst])) fun _ =>
      some (.inl ((((Int.toNat v2.snd.fst) : Nat) : Int), (((Int.toNat v2.snd.snd.fst) : Nat) : Int), s18, IntKind.wrap IntKind.i64 (s19 + (1 : Int)), v2.snd.snd.snd.snd, r1 ++ [v2.fst]))
    ) (v0)
  else
  some (.inr (.inl ((((Int.toNat s0_0) : Nat) : Int), (((Int.toNat s0_1) : Nat) : Int), r0, r1)))
def resp_command_L1_P : Int × Int × Int × Int × (List Int) × (List (List UInt8)) → Option ((Int × Int × Int × Int × (List Int) × (List (List UInt8))) ⊕ ((Int × Int × (List Int) × (List (List UInt8))) ⊕ (Int × (List Int)))) := fun p => resp_command_L1 p.1 p.2.1 p.2.2.1 p.2.2.2.1 p.2.2.2.2.1 p.2.2.2.2.2
def resp_command_L1_MM : HL [(.int .i64), (.int .i64), (.int .i64), (.int .i64), (.slc (.int .u8)), (.slc .str)] → Option (HL [(.int .i64), (.int .i64), (.int .i64), (.int .i64), (.slc (.int .u8)), (.slc .str)] ⊕ SumL [[(.int .i64), (.int .i64), (.slc (.int .u8)), (.slc .str)], [(.int .i64), (.slc (.int .u8))]]) := fun p => resp_command_L1 p.1 p.2.1 p.2.2.1 p.2.2.2.1 p.2.2.2.2.1 p.2.2.2.2.2
def resp_command_L1_C : Con := ⟨1, resp_command_L1_T, resp_command_L1_O, stdCn [(.int .i64), (.int .i64), (.int .i64), (.int .i64), (.slc (.int .u8)), (.slc .str)] [[(.int .i64), (.int .i64), (.slc (.int .u8)), (.slc .str)], [(.int .i64), (.slc (.int .u8))]] (loop resp_command_L1_MM), [0]⟩
def resp_command_T : Tm := ⟨[(0, false, [.part 0])], 1, [.row (.int .u8)]⟩
def resp_command_O : List (Ex × Tm) := [(.ret, ⟨[(0, false, [.nils]), (1, false, [.nils]), (2, false, [.hole (.int .i64)])], 3, [.row (.int .u8)]⟩), (.ret, ⟨[(0, false, [.row 1]), (1, false, [.part 0]), (2, false, [.hole (.int .i64)])], 3, [.row (.int .u8), .row .str]⟩)]
def resp_command_M (s0_0 : Int) (s0_1 : Int) (r0 : List Int) : Option (((Int × (List Int)) ⊕ (Int × Int × Int × (List Int) × (List (List UInt8))))) :=
  Option.bind (resp_count_P ((((Int.toNat s0_0) : Nat) : Int), (((Int.toNat s0_1) : Nat) : Int), (42 : Int), (40 : Int), r0)) fun (v0 : ((Int × (Int × (List Int))) ⊕ (Int × (Int × (Int × (Int × (List Int))))))) =>
  Sum.elim (fun (v1 : (Int × (Int × (List Int)))) =>
      if (v1.snd.fst != (0 : Int)) = true then
        some (.inl (v1.snd.fst, v1.snd.snd))
      else
      none -- STUCK after t19 move [R0 R1 R2 R3 R4 R5]
    ) (fun (v2 : (Int × (Int × (Int × (Int × (List Int)))))) =>
    if (v2.snd.snd.snd.fst != (0 : Int)) = true then
      some (.inl (v2.snd.snd.snd.fst, v2.snd.snd.snd.snd))
    else
    Option.bind (loop resp_command_L1_P ((((Int.toNat v2.snd.fst) : Nat) : Int), (((Int.toNat v2.snd.snd.fst) : Nat) : Int), v2.fst, (0 : Int), v2.snd.snd.snd.snd, [])) fun (v3 : ((Int × (Int × ((List Int) × (List (List UInt8))))) ⊕ (Int × (List Int)))) =>
    Sum.elim (fun (v4 : (Int × (Int × ((List Int) × (List (List UInt8)))))) =>
        some (.inr ((((Int.toNat v4.fst) : Nat) : Int), (((Int.toNat v4.snd.fst) : Nat) : Int), (0 : Int), v4.snd.snd.fst, v4.snd.snd.snd))
      ) (fun (v5 : (Int × (List Int))) =>
      some (.inl (v5.fst, v5.snd))
    ) (v3)
  ) (v0)
def resp_command_P : Int × Int × (List Int) → Option (((Int × (List Int)) ⊕ (Int × Int × Int × (List Int) × (List (List UInt8))))) := fun p => resp_command_M p.1 p.2.1 p.2.2
def resp_command_MM : HL [(.int .i64), (.int .i64), (.slc (.int .u8))] → Option (SumL [[(.int .i64), (.slc (.int .u8))], [(.int .i64), (.int .i64), (.int .i64), (.slc (.int .u8)), (.slc .str)]]) := fun p => resp_command_M p.1 p.2.1 p.2.2
def resp_command_C : Con := ⟨1, resp_command_T, resp_command_O, stdCn [(.int .i64), (.int .i64), (.slc (.int .u8))] [[(.int .i64), (.slc (.int .u8))], [(.int .i64), (.int .i64), (.int .i64), (.slc (.int .u8)), (.slc .str)]] resp_command_MM, [0]⟩

def resp_Parser_Feed_n_T : Tm := ⟨[(0, false, [.nilp]), (1, false, [.hole (.slc (.int .u8))])], 2, []⟩
def resp_Parser_Feed_n_O : List (Ex × Tm) := [(.ret, ⟨[(0, false, [.nils]), (1, false, [.hole (.int .i64)])], 2, []⟩)]
def resp_Parser_Feed_n_M (s1 : List Int) : Option (Int) :=
  some ((2 : Int))
def resp_Parser_Feed_n_P : (List Int) → Option (Int) := fun p => resp_Parser_Feed_n_M p
def resp_Parser_Feed_n_MM : HL [(.slc (.int .u8))] → Option (SumL [[(.int .i64)]]) := fun p => resp_Parser_Feed_n_M p
def resp_Parser_Feed_n_C : Con := ⟨0, resp_Parser_Feed_n_T, resp_Parser_Feed_n_O, stdCn [(.slc (.int .u8))] [[(.int .i64)]] resp_Parser_Feed_n_MM, []⟩

def resp_Parser_Feed_r_L1_T : Tm := ⟨[(0, false, [.ptr 0 0]), (6, false, [.row 1])], 71, [.box [.row 2, .hole (.int .i64), .hole .bool], .row (.slc .str), .row (.int .u8)]⟩
def resp_Parser_Feed_r_L1_O : List (Ex × Tm) := [(.ret, ⟨[(4, false, [.row 1]), (5, false, [.hole (.int .i64)])], 71, [.box [.row 2, .hole (.int .i64), .hole .bool], .row (.slc .str), .row (.int .u8)]⟩)]
def resp_Parser_Feed_r_L1 (m0_0 : Int) (m0_1 : Bool) (r1 : List (List (List UInt8))) (r2 : List Int) : Option ((Int × Bool × (List (List (List UInt8))) × (List Int)) ⊕ ((Int × Int × Bool × (List (List (List UInt8))) × (List Int)))) :=
  Option.bind (resp_command_P ((0 : Int), (((List.length r2) : Nat) : Int), r2)) fun (v0 : ((Int × (List Int)) ⊕ (Int × (Int × (Int × ((List Int) × (List (List UInt8)))))))) =>
  Sum.elim (fun (v1 : (Int × (List Int))) =>
      if (v1.fst == (4 : Int)) = true then
        some (.inr ((0 : Int), m0_0, m0_1, r1, List.drop (nat_lit 0) (List.take (List.length r2) v1.snd)))
      else
      if (v1.fst != (0 : Int)) = true then
        some (.inr (v1.fst, v1.fst, m0_1, r1, []))
      else
      none -- STUCK after t66 binOp [R7 R8 R9 R10 R11 R12 R13 R14]
    ) (fun (v2 : (Int × (Int × (Int × ((List Int) × (List (List UInt8))))))) =>
    if (v2.snd.snd.fst == (4 : Int)) = true then
      some (.inr ((0 : Int), m0_0, m0_1, r1, List.drop (nat_lit 0) (List.take (List.length r2) v2.snd.snd.snd.fst)))
    else
    if (v2.snd.snd.fst != (0 : Int)) = true then
      some (.inr (v2.snd.snd.fst, v2.snd.snd.fst, m0_1, r1, []))
    else
    if decide ((((List.length v2.snd.snd.snd.snd) : Nat) : Int) > (0 : Int)) = true then
      Option.bind (room (24 : Nat) (List.length r1 + List.length [v2.snd.snd.snd.snd])) fun _ =>
      some (.inl (m0_0, m0_1, r1 ++ [v2.snd.snd.snd.snd], List.drop (Int.toNat v2.fst) (List.take (Int.toNat v2.snd.fst) v2.snd.snd.snd.fst)))
    else
    some (.inl (m0_0, m0_1, r1, List.drop (Int.toNat v2.fst) (List.take (Int.toNat v2.snd.fst) v2.snd.snd.snd.fst)))
  ) (v0)
def resp_Parser_Feed_r_L1_P : Int × Bool × (List (List (List UInt8))) × (List Int) → Option ((Int × Bool × (List (List (List UInt8))) × (List Int)) ⊕ ((Int × Int × Bool × (List (List (List UInt8))) × (List Int)))) := fun p => resp_Parser_Feed_r_L1 p.1 p.2.1 p.2.2.1 p.2.2.2
def resp_Parser_Feed_r_L1_MM : HL [(.int .i64), .bool, (.slc (.slc .str)), (.slc (.int .u8))] → Option (HL [(.int .i64), .bool, (.slc (.slc .str)), (.slc (.int .u8))] ⊕ SumL [[(.int .i64), (.int .i64), .bool, (.slc (.slc .str)), (.slc (.int .u8))]]) := fun p => resp_Parser_Feed_r_L1 p.1 p.2.1 p.2.2.1 p.2.2.2
def resp_Parser_Feed_r_L1_C : Con := ⟨1, resp_Parser_Feed_r_L1_T, resp_Parser_Feed_r_L1_O, stdCn [(.int .i64), .bool, (.slc (.slc .str)), (.slc (.int .u8))] [[(.int .i64), (.int .i64), .bool, (.slc (.slc .str)), (.slc (.int .u8))]] (loop resp_Parser_Feed_r_L1_MM), []⟩
def resp_Parser_Feed_r_T : Tm := ⟨[(0, false, [.ptr 0 0]), (1, false, [.row 1])], 2, [.box [.row 2, .hole (.int .i64), .hole .bool], .row (.int .u8), .row (.int .u8)]⟩
def resp_Parser_Feed_r_O : List (Ex × Tm) := [(.ret, ⟨[(0, false, [.row 1]), (1, false, [.hole (.int .i64)])], 2, [.box [.row 2, .hole (.int .i64), .hole .bool], .row (.slc .str), .row (.int .u8)]⟩)]
def resp_Parser_Feed_r_M (m0_0 : Int) (m0_1 : Bool) (r1 : List Int) (r2 : List Int) : Option (Int × Int × Bool × (List (List (List UInt8))) × (List Int)) :=
  if (!m0_1) = true then
    some ((2 : Int), m0_0, m0_1, [], r2)
  else
  if (m0_0 != (0 : Int)) = true then
    some (m0_0, m0_0, m0_1, [], r2)
  else
  Option.bind (room (1 : Nat) (List.length r2 + List.length r1)) fun _ =>
  Option.bind (loop resp_Parser_Feed_r_L1_P (m0_0, m0_1, [], r2 ++ r1)) fun (v1 : (Int × (Int × (Bool × ((List (List (List UInt8))) × (List Int)))))) =>
  some (v1.fst, v1.snd.fst, v1.snd.snd.fst, v1.snd.snd.snd.fst, v1.snd.snd.snd.snd)
def resp_Parser_Feed_r_P : Int × Bool × (List Int) × (List Int) → Option (Int × Int × Bool × (List (List (List UInt8))) × (List Int)) := fun p => resp_Parser_Feed_r_M p.1 p.2.1 p.2.2.1 p.2.2.2
def resp_Parser_Feed_r_MM : HL [(.int .i64), .bool, (.slc (.int .u8)), (.slc (.int .u8))] → Option (SumL [[(.int .i64), (.int .i64), .bool, (.slc (.slc .str)), (.slc (.int .u8))]]) := fun p => resp_Parser_Feed_r_M p.1 p.2.1 p.2.2.1 p.2.2.2
def resp_Parser_Feed_r_C : Con := ⟨1, resp_Parser_Feed_r_T, resp_Parser_Feed_r_O, stdCn [(.int .i64), .bool, (.slc (.int .u8)), (.slc (.int .u8))] [[(.int .i64), (.int .i64), .bool, (.slc (.slc .str)), (.slc (.int .u8))]] resp_Parser_Feed_r_MM, []⟩

def resp_Parser_Feed_L1_T : Tm := ⟨[(0, false, [.ptr 0 0]), (6, false, [.row 1])], 71, [.box [.row 2, .hole (.int .i64), .hole .bool], .row (.slc .str), .row (.int .u8)]⟩
def resp_Parser_Feed_L1_O : List (Ex × Tm) := [(.ret, ⟨[(4, false, [.row 1]), (5, false, [.hole (.int .i64)])], 71, [.box [.row 2, .hole (.int .i64), .hole .bool], .row (.slc .str), .row (.int .u8)]⟩)]
def resp_Parser_Feed_L1 (m0_0 : Int) (m0_1 : Bool) (r1 : List (List (List UInt8))) (r2 : List Int) : Option ((Int × Bool × (List (List (List UInt8))) × (List Int)) ⊕ ((Int × Int × Bool × (List (List (List UInt8))) × (List Int)))) :=
  Option.bind (resp_command_P ((0 : Int), (((List.length r2) : Nat) : Int), r2)) fun (v0 : ((Int × (List Int)) ⊕ (Int × (Int × (Int × ((List Int) × (List (List UInt8)))))))) =>
  Sum.elim (fun (v1 : (Int × (List Int))) =>
      if (v1.fst == (4 : Int)) = true then
        some (.inr ((0 : Int), m0_0, m0_1, r1, List.drop (nat_lit 0) (List.take (List.length r2) v1.snd)))
      else
      if (v1.fst != (0 : Int)) = true then
        some (.inr (v1.fst, v1.fst, m0_1, r1, []))
      else
      none -- STUCK after t66 binOp [R7 R8 R9 R10 R11 R12 R13 R14]
    ) (fun (v2 : (Int × (Int × (Int × ((List Int) × (List (List UInt8))))))) =>
    if (v2.snd.snd.fst == (4 : Int)) = true then
      some (.inr ((0 : Int), m0_0, m0_1, r1, List.drop (nat_lit 0) (List.take (List.length r2) v2.snd.snd.snd.fst)))
    else
    if (v2.snd.snd.fst != (0 : Int)) = true then
      some (.inr (v2.snd.snd.fst, v2.snd.snd.fst, m0_1, r1, []))
    else
    if decide ((((List.length v2.snd.snd.snd.snd) : Nat) : Int) > (0 : Int)) = true then
      Option.bind (room (24 : Nat) (List.length r1 + List.length [v2.snd.snd.snd.snd])) fun _ =>
      some (.inl (m0_0, m0_1, r1 ++ [v2.snd.snd.snd.snd], List.drop (Int.toNat v2.fst) (List.take (Int.toNat v2.snd.fst) v2.snd.snd.snd.fst)))
    else
    some (.inl (m0_0, m0_1, r1, List.drop (Int.toNat v2.fst) (List.take (Int.toNat v2.snd.fst) v2.snd.snd.snd.fst)))
  ) (v0)
def resp_Parser_Feed_L1_P : Int × Bool × (List (List (List UInt8))) × (List Int) → Option ((Int × Bool × (List (List (List UInt8))) × (List Int)) ⊕ ((Int × Int × Bool × (List (List (List UInt8))) × (List Int)))) := fun p => resp_Parser_Feed_L1 p.1 p.2.1 p.2.2.1 p.2.2.2
def resp_Parser_Feed_L1_MM : HL [(.int .i64), .bool, (.slc (.slc .str)), (.slc (.int .u8))] → Option (HL [(.int .i64), .bool, (.slc (.slc .str)), (.slc (.int .u8))] ⊕ SumL [[(.int .i64), (.int .i64), .bool, (.slc (.slc .str)), (.slc (.int .u8))]]) := fun p => resp_Parser_Feed_L1 p.1 p.2.1 p.2.2.1 p.2.2.2
def resp_Parser_Feed_L1_C : Con := ⟨1, resp_Parser_Feed_L1_T, resp_Parser_Feed_L1_O, stdCn [(.int .i64), .bool, (.slc (.slc .str)), (.slc (.int .u8))] [[(.int .i64), (.int .i64), .bool, (.slc (.slc .str)), (.slc (.int .u8))]] (loop resp_Parser_Feed_L1_MM), []⟩
def resp_Parser_Feed_T : Tm := ⟨[(0, false, [.ptr 0 0]), (1, false, [.hole (.slc (.int .u8))])], 2, [.box [.row 1, .hole (.int .i64), .hole .bool], .row (.int .u8)]⟩
def resp_Parser_Feed_O : List (Ex × Tm) := [(.ret, ⟨[(0, false, [.row 1]), (1, false, [.hole (.int .i64)])], 2, [.box [.row 2, .hole (.int .i64), .hole .bool], .row (.slc .str), .row (.int .u8)]⟩)]
def resp_Parser_Feed_M (s1 : List Int) (m0_0 : Int) (m0_1 : Bool) (r1 : List Int) : Option (Int × Int × Bool × (List (List (List UInt8))) × (List Int)) :=
  if (!m0_1) = true then
    some ((2 : Int), m0_0, m0_1, [], r1)
  else
  if (m0_0 != (0 : Int)) = true then
    some (m0_0, m0_0, m0_1, [], r1)
  else
  Option.bind (room (1 : Nat) (List.length r1 + List.length s1)) fun _ =>
  Option.bind (loop resp_Parser_Feed_L1_P (m0_0, m0_1, [], r1 ++ s1)) fun (v1 : (Int × (Int × (Bool × ((List (List (List UInt8))) × (List Int)))))) =>
  some (v1.fst, v1.snd.fst, v1.snd.snd.fst, v1.snd.snd.snd.fst, v1.snd.snd.snd.snd)
def resp_Parser_Feed_P : (List Int) × Int × Bool × (List Int) → Option (Int × Int × Bool × (List (List (List UInt8))) × (List Int)) := fun p => resp_Parser_Feed_M p.1 p.2.1 p.2.2.1 p.2.2.2
def resp_Parser_Feed_MM : HL [(.slc (.int .u8)), (.int .i64), .bool, (.slc (.int .u8))] → Option (SumL [[(.int .i64), (.int .i64), .bool, (.slc (.slc .str)), (.slc (.int .u8))]]) := fun p => resp_Parser_Feed_M p.1 p.2.1 p.2.2.1 p.2.2.2
def resp_Parser_Feed_C : Con := ⟨1, resp_Parser_Feed_T, resp_Parser_Feed_O, stdCn [(.slc (.int .u8)), (.int .i64), .bool, (.slc (.int .u8))] [[(.int .i64), (.int .i64), .bool, (.slc (.slc .str)), (.slc (.int .u8))]] resp_Parser_Feed_MM, []⟩

def intaglioref17_Same_L1_T : Tm := ⟨[(0, false, [.hole (.slc .str)]), (1, false, [.hole (.slc .str)]), (5, false, [.hole (.int .i64)])], 26, []⟩
def intaglioref17_Same_L1_O : List (Ex × Tm) := [(.exit 0, ⟨[], 26, []⟩), (.ret, ⟨[(4, false, [.hole .bool])], 26, []⟩)]
def intaglioref17_Same_L1 (s0 : List (List UInt8)) (s1 : List (List UInt8)) (s5 : Int) : Option (((List (List UInt8)) × (List (List UInt8)) × Int) ⊕ ((Unit) ⊕ (Bool))) :=
  if decide (s5 < (((List.length s0) : Nat) : Int)) = true then
    Option.bind (ix s0 s5) fun (v0 : (List UInt8)) =>
    Option.bind (ix s1 s5) fun (v1 : (List UInt8)) =>
    if (!v0 == v1) = true then
      some (.inr (.inr (false)))
    else
    some (.inl (s0, s1, IntKind.wrap IntKind.i64 (s5 + (1 : Int))))
  else
  some (.inr (.inl (())))
def intaglioref17_Same_L1_P : (List (List UInt8)) × (List (List UInt8)) × Int → Option (((List (List UInt8)) × (List (List UInt8)) × Int) ⊕ ((Unit) ⊕ (Bool))) := fun p => intaglioref17_Same_L1 p.1 p.2.1 p.2.2
def intaglioref17_Same_L1_MM : HL [(.slc .str), (.slc .str), (.int .i64)] → Option (HL [(.slc .str), (.slc .str), (.int .i64)] ⊕ SumL [[], [.bool]]) := fun p => intaglioref17_Same_L1 p.1 p.2.1 p.2.2
def intaglioref17_Same_L1_C : Con := ⟨0, intaglioref17_Same_L1_T, intaglioref17_Same_L1_O, stdCn [(.slc .str), (.slc .str), (.int .i64)] [[], [.bool]] (loop intaglioref17_Same_L1_MM), []⟩
def intaglioref17_Same_T : Tm := ⟨[(0, false, [.hole (.slc .str)]), (1, false, [.hole (.slc .str)])], 2, []⟩
def intaglioref17_Same_O : List (Ex × Tm) := [(.ret, ⟨[(0, false, [.hole .bool])], 1, []⟩)]
def intaglioref17_Same_M (s0 : List (List UInt8)) (s1 : List (List UInt8)) : Option (Bool) :=
  if ((((List.length s0) : Nat) : Int) != (((List.length s1) : Nat) : Int)) = true then
    some (false)
  else
  Option.bind (loop intaglioref17_Same_L1_P (s0, s1, (0 : Int))) fun (v0 : (Unit ⊕ Bool)) =>
  Sum.elim (fun _ =>
      some (true)
    ) (fun (v2 : Bool) =>
    some (v2)
  ) (v0)
def intaglioref17_Same_P : (List (List UInt8)) × (List (List UInt8)) → Option (Bool) := fun p => intaglioref17_Same_M p.1 p.2
def intaglioref17_Same_MM : HL [(.slc .str), (.slc .str)] → Option (SumL [[.bool]]) := fun p => intaglioref17_Same_M p.1 p.2
def intaglioref17_Same_C : Con := ⟨0, intaglioref17_Same_T, intaglioref17_Same_O, stdCn [(.slc .str), (.slc .str)] [[.bool]] intaglioref17_Same_MM, []⟩

def intaglioref19_SameCommands_L1_T : Tm := ⟨[(0, false, [.hole (.slc (.slc .str))]), (1, false, [.hole (.slc (.slc .str))]), (5, false, [.hole (.int .i64)])], 27, []⟩
def intaglioref19_SameCommands_L1_O : List (Ex × Tm) := [(.exit 0, ⟨[], 27, []⟩), (.ret, ⟨[(4, false, [.hole .bool])], 27, []⟩)]
def intaglioref19_SameCommands_L1 (s0 : List (List (List UInt8))) (s1 : List (List (List UInt8))) (s5 : Int) : Option (((List (List (List UInt8))) × (List (List (List UInt8))) × Int) ⊕ ((Unit) ⊕ (Bool))) :=
  if decide (s5 < (((List.length s0) : Nat) : Int)) = true then
    Option.bind (ix s0 s5) fun (v0 : (List (List UInt8))) =>
    Option.bind (ix s1 s5) fun (v1 : (List (List UInt8))) =>
    Option.bind (intaglioref17_Same_P (v0, v1)) fun (v2 : Bool) =>
    if (!v2) = true then
      some (.inr (.inr (false)))
    else
    some (.inl (s0, s1, IntKind.wrap IntKind.i64 (s5 + (1 : Int))))
  else
  some (.inr (.inl (())))
def intaglioref19_SameCommands_L1_P : (List (List (List UInt8))) × (List (List (List UInt8))) × Int → Option (((List (List (List UInt8))) × (List (List (List UInt8))) × Int) ⊕ ((Unit) ⊕ (Bool))) := fun p => intaglioref19_SameCommands_L1 p.1 p.2.1 p.2.2
def intaglioref19_SameCommands_L1_MM : HL [(.slc (.slc .str)), (.slc (.slc .str)), (.int .i64)] → Option (HL [(.slc (.slc .str)), (.slc (.slc .str)), (.int .i64)] ⊕ SumL [[], [.bool]]) := fun p => intaglioref19_SameCommands_L1 p.1 p.2.1 p.2.2
def intaglioref19_SameCommands_L1_C : Con := ⟨0, intaglioref19_SameCommands_L1_T, intaglioref19_SameCommands_L1_O, stdCn [(.slc (.slc .str)), (.slc (.slc .str)), (.int .i64)] [[], [.bool]] (loop intaglioref19_SameCommands_L1_MM), []⟩
def intaglioref19_SameCommands_T : Tm := ⟨[(0, false, [.hole (.slc (.slc .str))]), (1, false, [.hole (.slc (.slc .str))])], 2, []⟩
def intaglioref19_SameCommands_O : List (Ex × Tm) := [(.ret, ⟨[(0, false, [.hole .bool])], 1, []⟩)]
def intaglioref19_SameCommands_M (s0 : List (List (List UInt8))) (s1 : List (List (List UInt8))) : Option (Bool) :=
  if ((((List.length s0) : Nat) : Int) != (((List.length s1) : Nat) : Int)) = true then
    some (false)
  else
  Option.bind (loop intaglioref19_SameCommands_L1_P (s0, s1, (0 : Int))) fun (v0 : (Unit ⊕ Bool)) =>
  Sum.elim (fun _ =>
      some (true)
    ) (fun (v2 : Bool) =>
    some (v2)
  ) (v0)
def intaglioref19_SameCommands_P : (List (List (List UInt8))) × (List (List (List UInt8))) → Option (Bool) := fun p => intaglioref19_SameCommands_M p.1 p.2
def intaglioref19_SameCommands_MM : HL [(.slc (.slc .str)), (.slc (.slc .str))] → Option (SumL [[.bool]]) := fun p => intaglioref19_SameCommands_M p.1 p.2
def intaglioref19_SameCommands_C : Con := ⟨0, intaglioref19_SameCommands_T, intaglioref19_SameCommands_O, stdCn [(.slc (.slc .str)), (.slc (.slc .str))] [[.bool]] intaglioref19_SameCommands_MM, []⟩

def intagliolaw19_awake_T : Tm := ⟨[], 0, []⟩
def intagliolaw19_awake_O : List (Ex × Tm) := [(.ret, ⟨[(0, false, [.hole .bool])], 1, []⟩)]
def intagliolaw19_awake_M  : Option (Bool) :=
  Option.bind (resp_Command_P [[(71 : UInt8), (69 : UInt8), (84 : UInt8)], [(107 : UInt8)]]) fun (v0 : (List Int)) =>
  Option.bind (resp_New_P ()) fun (v1 : (Int × (Bool × (List Int)))) =>
  Option.bind (resp_Parser_Feed_P (v0, v1.fst, v1.snd.fst, v1.snd.snd)) fun (v2 : (Int × (Int × (Bool × ((List (List (List UInt8))) × (List Int)))))) =>
  if (b8 v0 == [(42 : UInt8), (50 : UInt8), (13 : UInt8), (10 : UInt8), (36 : UInt8), (51 : UInt8), (13 : UInt8), (10 : UInt8), (71 : UInt8), (69 : UInt8), (84 : UInt8), (13 : UInt8), (10 : UInt8), (36 : UInt8), (49 : UInt8), (13 : UInt8), (10 : UInt8), (107 : UInt8), (13 : UInt8), (10 : UInt8)]) = true then
    if (v2.fst == (0 : Int)) = true then
      Option.bind (intaglioref19_SameCommands_P (v2.snd.snd.snd.fst, [[[(71 : UInt8), (69 : UInt8), (84 : UInt8)], [(107 : UInt8)]]])) fun (v3 : Bool) =>
      some (v3)
    else
    some (false)
  else
  some (false)
def intagliolaw19_awake_P : Unit → Option (Bool) := fun p => intagliolaw19_awake_M 
def intagliolaw19_awake_MM : HL [] → Option (SumL [[.bool]]) := fun p => intagliolaw19_awake_M 
def intagliolaw19_awake_C : Con := ⟨0, intagliolaw19_awake_T, intagliolaw19_awake_O, stdCn [] [[.bool]] intagliolaw19_awake_MM, []⟩

def intaglioref19_Weight_T : Tm := ⟨[(0, true, [.hole (.int .i64), .hole .str, .hole (.int .i64), .hole (.slc .rep)]), (1, false, [.hole (.int .i64)])], 2, []⟩
def intaglioref19_Weight_O : List (Ex × Tm) := [(.ret, ⟨[(0, false, [.hole (.int .i64)])], 1, []⟩)]
def intaglioref19_Weight_L1_T : Tm := ⟨[(1, false, [.hole (.int .i64)]), (2, false, [.ptr 0 0]), (5, false, [.hole (.int .i64)]), (6, false, [.hole (.int .i64)])], 47, [.box [.hole (.int .i64), .hole .str, .hole (.int .i64), .hole (.slc .rep)]]⟩
def intaglioref19_Weight_L1_O : List (Ex × Tm) := [(.exit 0, ⟨[(5, false, [.hole (.int .i64)])], 47, [.box [.hole (.int .i64), .hole .str, .hole (.int .i64), .hole (.slc .rep)]]⟩)]
def intaglioref19_Weight_L1 (self : Int × (List UInt8) × Int × (List Rep) × Int → Option (Int)) (s1 : Int) (s5 : Int) (s6 : Int) (m0_0 : Int) (m0_1 : List UInt8) (m0_2 : Int) (m0_3 : List Rep) : Option ((Int × Int × Int × Int × (List UInt8) × Int × (List Rep)) ⊕ ((Int × Int × (List UInt8) × Int × (List Rep)))) :=
  if decide (s6 < (((List.length m0_3) : Nat) : Int)) = true then
    if decide (s5 < (10000 : Int)) = true then
      Option.bind (ix m0_3 s6) fun (v0 : (Ty.den Ty.rep)) =>
      Option.bind (self (Rep.k v0, Rep.t v0, Rep.n v0, Rep.l v0, IntKind.wrap IntKind.i64 (s1 + (1 : Int)))) fun (v1 : Int) =>
      some (.inl (s1, IntKind.wrap IntKind.i64 (s5 + v1), IntKind.wrap IntKind.i64 (s6 + (1 : Int)), m0_0, m0_1, m0_2, m0_3))
    else
    some (.inr (s5, m0_0, m0_1, m0_2, m0_3))
  else
  some (.inr (s5, m0_0, m0_1, m0_2, m0_3))
def intaglioref19_Weight_L1_P (self : Int × (List UInt8) × Int × (List Rep) × Int → Option (Int)) : Int × Int × Int × Int × (List UInt8) × Int × (List Rep) → Option ((Int × Int × Int × Int × (List UInt8) × Int × (List Rep)) ⊕ ((Int × Int × (List UInt8) × Int × (List Rep)))) := fun p => (intaglioref19_Weight_L1 self) p.1 p.2.1 p.2.2.1 p.2.2.2.1 p.2.2.2.2.1 p.2.2.2.2.2.1 p.2.2.2.2.2.2
def intaglioref19_Weight_S (self : Int × (List UInt8) × Int × (List Rep) × Int → Option (Int)) (s0_0 : Int) (s0_1 : List UInt8) (s0_2 : Int) (s0_3 : List Rep) (s1 : Int) : Option (Int) :=
  if decide (s1 > (12 : Int)) = true then
    some ((10000 : Int))
  else
  if decide ((((List.length s0_3) : Nat) : Int) > (60 : Int)) = true then
    some ((10000 : Int))
  else
  if decide ((((List.length s0_1) : Nat) : Int) > (3000 : Int)) = true then
    some ((10000 : Int))
  else
  Option.bind (loop (intaglioref19_Weight_L1_P self) (s1, IntKind.wrap IntKind.i64 ((1 : Int) + (((List.length s0_1) : Nat) : Int)), (0 : Int), s0_0, s0_1, s0_2, s0_3)) fun (v0 : (Int × (Int × ((List UInt8) × (Int × (List (Ty.den Ty.rep))))))) =>
  some (v0.fst)
def intaglioref19_Weight_F : Nat → Int × (List UInt8) × Int × (List Rep) × Int → Option (Int)
  | 0 => fun _ => none
  | n + 1 => fun p => intaglioref19_Weight_S (intaglioref19_Weight_F n) p.1 p.2.1 p.2.2.1 p.2.2.2.1 p.2.2.2.2
def intaglioref19_Weight_MF (n : Nat) : HL [(.int .i64), .str, (.int .i64), (.slc .rep), (.int .i64)] → Option (SumL [[(.int .i64)]]) := fun p => intaglioref19_Weight_F n p
def intaglioref19_Weight_CF (n : Nat) : Con := ⟨0, intaglioref19_Weight_T, intaglioref19_Weight_O, stdCn [(.int .i64), .str, (.int .i64), (.slc .rep), (.int .i64)] [[(.int .i64)]] (intaglioref19_Weight_MF n), []⟩
def intaglioref19_Weight_L1_MM (n : Nat) : HL [(.int .i64), (.int .i64), (.int .i64), (.int .i64), .str, (.int .i64), (.slc .rep)] → Option (HL [(.int .i64), (.int .i64), (.int .i64), (.int .i64), .str, (.int .i64), (.slc .rep)] ⊕ SumL [[(.int .i64), (.int .i64), .str, (.int .i64), (.slc .rep)]]) := fun p => (intaglioref19_Weight_L1 (intaglioref19_Weight_F n)) p.1 p.2.1 p.2.2.1 p.2.2.2.1 p.2.2.2.2.1 p.2.2.2.2.2.1 p.2.2.2.2.2.2
def intaglioref19_Weight_L1_C (n : Nat) : Con := ⟨1, intaglioref19_Weight_L1_T, intaglioref19_Weight_L1_O, stdCn [(.int .i64), (.int .i64), (.int .i64), (.int .i64), .str, (.int .i64), (.slc .rep)] [[(.int .i64), (.int .i64), .str, (.int .i64), (.slc .rep)]] (loop (intaglioref19_Weight_L1_MM n)), []⟩
def intaglioref19_Weight_M (s0_0 : Int) (s0_1 : List UInt8) (s0_2 : Int) (s0_3 : List Rep) (s1 : Int) : Option (Int) := intaglioref19_Weight_F fuel (s0_0, s0_1, s0_2, s0_3, s1)
def intaglioref19_Weight_P : Int × (List UInt8) × Int × (List Rep) × Int → Option (Int) := fun p => intaglioref19_Weight_M p.1 p.2.1 p.2.2.1 p.2.2.2.1 p.2.2.2.2
def intaglioref19_Weight_MM : HL [(.int .i64), .str, (.int .i64), (.slc .rep), (.int .i64)] → Option (SumL [[(.int .i64)]]) := fun p => intaglioref19_Weight_M p.1 p.2.1 p.2.2.1 p.2.2.2.1 p.2.2.2.2
def intaglioref19_Weight_C : Con := ⟨0, intaglioref19_Weight_T, intaglioref19_Weight_O, stdCn [(.int .i64), .str, (.int .i64), (.slc .rep), (.int .i64)] [[(.int .i64)]] intaglioref19_Weight_MM, []⟩

def resp_bulk_T : Tm := ⟨[(0, false, [.hole .str])], 1, []⟩
def resp_bulk_O : List (Ex × Tm) := [(.ret, ⟨[(0, false, [.hole .str])], 1, []⟩)]
def resp_bulk_M (s0 : List UInt8) : Option ((List UInt8)) :=
  Option.bind (verb_Text_P (((List.length s0) : Nat) : Int)) fun (v0 : (List UInt8)) =>
  Option.bind (room (1 : Nat) ((1 : Nat) + List.length v0)) fun _ =>
  Option.bind (room (1 : Nat) (List.length ([(36 : UInt8)] ++ v0) + (2 : Nat))) fun _ =>
  Option.bind (room (1 : Nat) (List.length ([(36 : UInt8)] ++ v0 ++ [(13 : UInt8), (10 : UInt8)]) + List.length s0)) fun _ =>
  Option.bind (room (1 : Nat) (List.length ([(36 : UInt8)] ++ v0 ++ [(13 : UInt8), (10 : UInt8)] ++ s0) + (2 : Nat))) fun _ =>
  some ([(36 : UInt8)] ++ v0 ++ [(13 : UInt8), (10 : UInt8)] ++ s0 ++ [(13 : UInt8), (10 : UInt8)])
def resp_bulk_P : (List UInt8) → Option ((List UInt8)) := fun p => resp_bulk_M p
def resp_bulk_MM : HL [.str] → Option (SumL [[.str]]) := fun p => resp_bulk_M p
def resp_bulk_C : Con := ⟨0, resp_bulk_T, resp_bulk_O, stdCn [.str] [[.str]] resp_bulk_MM, []⟩

def resp_flat_L1_T : Tm := ⟨[(3, false, [.row 0]), (8, false, [.row 0]), (9, false, [.hole (.int .i64)]), (10, false, [.hole (.int .i64)])], 27, [.row (.int .u8)]⟩
def resp_flat_L1_O : List (Ex × Tm) := [(.exit 0, ⟨[(3, false, [.row 0])], 27, [.row (.int .u8)]⟩)]
def resp_flat_L1 (s9 : Int) (s10 : Int) (r0 : List Int) : Option ((Int × Int × (List Int)) ⊕ (((List Int)))) :=
  if decide (s10 < s9) = true then
    Option.bind (inb (List.length r0) s10) fun _ =>
    if (List.getD r0 (Int.toNat s10) (0 : Int) == (13 : Int)) = true then
      Option.bind (inb (List.length r0) s10) fun _ =>
      some (.inl (s9, IntKind.wrap IntKind.i64 (s10 + (1 : Int)), List.set r0 (Int.toNat s10) (32 : Int)))
    else
    if (List.getD r0 (Int.toNat s10) (0 : Int) == (10 : Int)) = true then
      Option.bind (inb (List.length r0) s10) fun _ =>
      some (.inl (s9, IntKind.wrap IntKind.i64 (s10 + (1 : Int)), List.set r0 (Int.toNat s10) (32 : Int)))
    else
    some (.inl (s9, IntKind.wrap IntKind.i64 (s10 + (1 : Int)), r0))
  else
  some (.inr (r0))
def resp_flat_L1_P : Int × Int × (List Int) → Option ((Int × Int × (List Int)) ⊕ (((List Int)))) := fun p => resp_flat_L1 p.1 p.2.1 p.2.2
def resp_flat_L1_MM : HL [(.int .i64), (.int .i64), (.slc (.int .u8))] → Option (HL [(.int .i64), (.int .i64), (.slc (.int .u8))] ⊕ SumL [[(.slc (.int .u8))]]) := fun p => resp_flat_L1 p.1 p.2.1 p.2.2
def resp_flat_L1_C : Con := ⟨0, resp_flat_L1_T, resp_flat_L1_O, stdCn [(.int .i64), (.int .i64), (.slc (.int .u8))] [[(.slc (.int .u8))]] (loop resp_flat_L1_MM), []⟩
def resp_flat_T : Tm := ⟨[(0, false, [.hole .str])], 1, []⟩
def resp_flat_O : List (Ex × Tm) := [(.ret, ⟨[(0, false, [.hole .str])], 1, []⟩)]
def resp_flat_M (s0 : List UInt8) : Option ((List UInt8)) :=
  Option.bind (loop resp_flat_L1_P ((((List.length (bnums s0)) : Nat) : Int), (0 : Int), bnums s0)) fun (v0 : (List Int)) =>
  some (b8 v0)
def resp_flat_P : (List UInt8) → Option ((List UInt8)) := fun p => resp_flat_M p
def resp_flat_MM : HL [.str] → Option (SumL [[.str]]) := fun p => resp_flat_M p
def resp_flat_C : Con := ⟨0, resp_flat_T, resp_flat_O, stdCn [.str] [[.str]] resp_flat_MM, []⟩

def resp_Encode_T : Tm := ⟨[(0, true, [.hole (.int .i64), .hole .str, .hole (.int .i64), .hole (.slc .rep)])], 1, []⟩
def resp_Encode_O : List (Ex × Tm) := [(.ret, ⟨[(0, false, [.hole (.slc (.int .u8))])], 1, []⟩)]
def resp_Encode_L1_T : Tm := ⟨[(3, false, [.row 0]), (56, false, [.hole (.slc .rep)]), (57, false, [.hole (.int .i64)]), (58, false, [.hole (.int .i64)])], 68, [.row (.int .u8)]⟩
def resp_Encode_L1_O : List (Ex × Tm) := [(.exit 1, ⟨[(3, false, [.row 0])], 68, [.row (.int .u8)]⟩)]
def resp_Encode_L1 (self : Int × (List UInt8) × Int × (List Rep) → Option ((List Int))) (s56 : List Rep) (s57 : Int) (s58 : Int) (r0 : List Int) : Option (((List Rep) × Int × Int × (List Int)) ⊕ (((List Int)))) :=
  if decide (s58 < s57) = true then
    Option.bind (ix s56 s58) fun (v0 : (Ty.den Ty.rep)) =>
    Option.bind (self (Rep.k v0, Rep.t v0, Rep.n v0, Rep.l v0)) fun (v1 : (List Int)) =>
    Option.bind (room (1 : Nat) (List.length r0 + List.length v1)) fun _ =>
    some (.inl (s56, s57, IntKind.wrap IntKind.i64 (s58 + (1 : Int)), r0 ++ v1))
  else
  some (.inr (r0))
def resp_Encode_L1_P (self : Int × (List UInt8) × Int × (List Rep) → Option ((List Int))) : (List Rep) × Int × Int × (List Int) → Option (((List Rep) × Int × Int × (List Int)) ⊕ (((List Int)))) := fun p => (resp_Encode_L1 self) p.1 p.2.1 p.2.2.1 p.2.2.2
def resp_Encode_S (self : Int × (List UInt8) × Int × (List Rep) → Option ((List Int))) (s0_0 : Int) (s0_1 : List UInt8) (s0_2 : Int) (s0_3 : List Rep) : Option ((List Int)) :=
  if (s0_0 == (1 : Int)) = true then
    Option.bind (resp_flat_P s0_1) fun (v0 : (List UInt8)) =>
    Option.bind (room (1 : Nat) ((1 : Nat) + List.length v0)) fun _ =>
    Option.bind (room (1 : Nat) (List.length ([(43 : UInt8)] ++ v0) + (2 : Nat))) fun _ =>
    some (bnums ([(43 : UInt8)] ++ v0 ++ [(13 : UInt8), (10 : UInt8)]))
  else
  if (s0_0 == (2 : Int)) = true then
    Option.bind (resp_flat_P s0_1) fun (v3 : (List UInt8)) =>
    Option.bind (room (1 : Nat) ((1 : Nat) + List.length v3)) fun _ =>
    Option.bind (room (1 : Nat) (List.length ([(45 : UInt8)] ++ v3) + (2 : Nat))) fun _ =>
    some (bnums ([(45 : UInt8)] ++ v3 ++ [(13 : UInt8), (10 : UInt8)]))
  else
  if (s0_0 == (3 : Int)) = true then
    Option.bind (verb_Text_P s0_2) fun (v6 : (List UInt8)) =>
    Option.bind (room (1 : Nat) ((1 : Nat) + List.length v6)) fun _ =>
    Option.bind (room (1 : Nat) (List.length ([(58 : UInt8)] ++ v6) + (2 : Nat))) fun _ =>
    some (bnums ([(58 : UInt8)] ++ v6 ++ [(13 : UInt8), (10 : UInt8)]))
  else
  if (s0_0 == (4 : Int)) = true then
    Option.bind (resp_bulk_P s0_1) fun (v9 : (List UInt8)) =>
    some (bnums v9)
  else
  if (s0_0 == (5 : Int)) = true then
    some ([(36 : Int), (45 : Int), (49 : Int), (13 : Int), (10 : Int)])
  else
  if (s0_0 == (7 : Int)) = true then
    some ([(42 : Int), (45 : Int), (49 : Int), (13 : Int), (10 : Int)])
  else
  if (s0_0 == (6 : Int)) = true then
    Option.bind (verb_Text_P (((List.length s0_3) : Nat) : Int)) fun (v10 : (List UInt8)) =>
    Option.bind (room (1 : Nat) ((1 : Nat) + List.length v10)) fun _ =>
    Option.bind (room (1 : Nat) (List.length ([(42 : UInt8)] ++ v10) + (2 : Nat))) fun _ =>
    Option.bind (loop (resp_Encode_L1_P self) (s0_3, (((List.length s0_3) : Nat) : Int), (0 : Int), bnums ([(42 : UInt8)] ++ v10 ++ [(13 : UInt8), (10 : UInt8)]))) fun (v13 : (List Int)) =>
    some (v13)
  else
  some ([])
def resp_Encode_F : Nat → Int × (List UInt8) × Int × (List Rep) → Option ((List Int))
  | 0 => fun _ => none
  | n + 1 => fun p => resp_Encode_S (resp_Encode_F n) p.1 p.2.1 p.2.2.1 p.2.2.2
def resp_Encode_MF (n : Nat) : HL [(.int .i64), .str, (.int .i64), (.slc .rep)] → Option (SumL [[(.slc (.int .u8))]]) := fun p => resp_Encode_F n p
def resp_Encode_CF (n : Nat) : Con := ⟨0, resp_Encode_T, resp_Encode_O, stdCn [(.int .i64), .str, (.int .i64), (.slc .rep)] [[(.slc (.int .u8))]] (resp_Encode_MF n), []⟩
def resp_Encode_L1_MM (n : Nat) : HL [(.slc .rep), (.int .i64), (.int .i64), (.slc (.int .u8))] → Option (HL [(.slc .rep), (.int .i64), (.int .i64), (.slc (.int .u8))] ⊕ SumL [[(.slc (.int .u8))]]) := fun p => (resp_Encode_L1 (resp_Encode_F n)) p.1 p.2.1 p.2.2.1 p.2.2.2
def resp_Encode_L1_C (n : Nat) : Con := ⟨0, resp_Encode_L1_T, resp_Encode_L1_O, stdCn [(.slc .rep), (.int .i64), (.int .i64), (.slc (.int .u8))] [[(.slc (.int .u8))]] (loop (resp_Encode_L1_MM n)), []⟩
def resp_Encode_M (s0_0 : Int) (s0_1 : List UInt8) (s0_2 : Int) (s0_3 : List Rep) : Option ((List Int)) := resp_Encode_F fuel (s0_0, s0_1, s0_2, s0_3)
def resp_Encode_P : Int × (List UInt8) × Int × (List Rep) → Option ((List Int)) := fun p => resp_Encode_M p.1 p.2.1 p.2.2.1 p.2.2.2
def resp_Encode_MM : HL [(.int .i64), .str, (.int .i64), (.slc .rep)] → Option (SumL [[(.slc (.int .u8))]]) := fun p => resp_Encode_M p.1 p.2.1 p.2.2.1 p.2.2.2
def resp_Encode_C : Con := ⟨0, resp_Encode_T, resp_Encode_O, stdCn [(.int .i64), .str, (.int .i64), (.slc .rep)] [[(.slc (.int .u8))]] resp_Encode_MM, []⟩

def intaglioref17_Text_T : Tm := ⟨[(0, false, [.hole (.int .i64)])], 1, []⟩
def intaglioref17_Text_O : List (Ex × Tm) := [(.ret, ⟨[(0, false, [.hole .str])], 1, []⟩)]
def intaglioref17_Text_S (self : Int → Option ((List UInt8))) (s0 : Int) : Option ((List UInt8)) :=
  if decide (s0 ≥ (0 : Int)) = true then
    if decide (s0 < (10 : Int)) = true then
      some (b8 [IntKind.wrap IntKind.u8 (IntKind.wrap IntKind.i64 ((48 : Int) + s0))])
    else
    if decide (s0 ≥ (0 : Int)) = true then
      Option.bind (gquo IntKind.i64 s0 (10 : Int)) fun (v0 : Int) =>
      Option.bind (self v0) fun (v1 : (List UInt8)) =>
      Option.bind (grem IntKind.i64 s0 (10 : Int)) fun (v2 : Int) =>
      Option.bind (self v2) fun (v3 : (List UInt8)) =>
      Option.bind (room (1 : Nat) (List.length v1 + List.length v3)) fun _ =>
      some (v1 ++ v3)
    else
    if decide (s0 > (-10 : Int)) = true then
      Option.bind (self (IntKind.wrap IntKind.i64 ((0 : Int) - s0))) fun (v5 : (List UInt8)) =>
      Option.bind (room (1 : Nat) ((1 : Nat) + List.length v5)) fun _ =>
      some ([(45 : UInt8)] ++ v5)
    else
    Option.bind (gquo IntKind.i64 s0 (10 : Int)) fun (v7 : Int) =>
    Option.bind (self v7) fun (v8 : (List UInt8)) =>
    Option.bind (grem IntKind.i64 s0 (10 : Int)) fun (v9 : Int) =>
    Option.bind (self (IntKind.wrap IntKind.i64 ((0 : Int) - v9))) fun (v10 : (List UInt8)) =>
    Option.bind (room (1 : Nat) (List.length v8 + List.length v10)) fun _ =>
    some (v8 ++ v10)
  else
  if decide (s0 ≥ (0 : Int)) = true then
    Option.bind (gquo IntKind.i64 s0 (10 : Int)) fun (v12 : Int) =>
    Option.bind (self v12) fun (v13 : (List UInt8)) =>
    Option.bind (grem IntKind.i64 s0 (10 : Int)) fun (v14 : Int) =>
    Option.bind (self v14) fun (v15 : (List UInt8)) =>
    Option.bind (room (1 : Nat) (List.length v13 + List.length v15)) fun _ =>
    some (v13 ++ v15)
  else
  if decide (s0 > (-10 : Int)) = true then
    Option.bind (self (IntKind.wrap IntKind.i64 ((0 : Int) - s0))) fun (v17 : (List UInt8)) =>
    Option.bind (room (1 : Nat) ((1 : Nat) + List.length v17)) fun _ =>
    some ([(45 : UInt8)] ++ v17)
  else
  Option.bind (gquo IntKind.i64 s0 (10 : Int)) fun (v19 : Int) =>
  Option.bind (self v19) fun (v20 : (List UInt8)) =>
  Option.bind (grem IntKind.i64 s0 (10 : Int)) fun (v21 : Int) =>
  Option.bind (self (IntKind.wrap IntKind.i64 ((0 : Int) - v21))) fun (v22 : (List UInt8)) =>
  Option.bind (room (1 : Nat) (List.length v20 + List.length v22)) fun _ =>
  some (v20 ++ v22)
def intaglioref17_Text_F : Nat → Int → Option ((List UInt8))
  | 0 => fun _ => none
  | n + 1 => fun p => intaglioref17_Text_S (intaglioref17_Text_F n) p
def intaglioref17_Text_MF (n : Nat) : HL [(.int .i64)] → Option (SumL [[.str]]) := fun p => intaglioref17_Text_F n p
def intaglioref17_Text_CF (n : Nat) : Con := ⟨0, intaglioref17_Text_T, intaglioref17_Text_O, stdCn [(.int .i64)] [[.str]] (intaglioref17_Text_MF n), []⟩
def intaglioref17_Text_M (s0 : Int) : Option ((List UInt8)) := intaglioref17_Text_F fuel s0
def intaglioref17_Text_P : Int → Option ((List UInt8)) := fun p => intaglioref17_Text_M p
def intaglioref17_Text_MM : HL [(.int .i64)] → Option (SumL [[.str]]) := fun p => intaglioref17_Text_M p
def intaglioref17_Text_C : Con := ⟨0, intaglioref17_Text_T, intaglioref17_Text_O, stdCn [(.int .i64)] [[.str]] intaglioref17_Text_MM, []⟩

def intaglioref19_bulk_T : Tm := ⟨[(0, false, [.hole .str])], 1, []⟩
def intaglioref19_bulk_O : List (Ex × Tm) := [(.ret, ⟨[(0, false, [.hole .str])], 1, []⟩)]
def intaglioref19_bulk_M (s0 : List UInt8) : Option ((List UInt8)) :=
  Option.bind (intaglioref17_Text_P (((List.length s0) : Nat) : Int)) fun (v0 : (List UInt8)) =>
  Option.bind (room (1 : Nat) ((1 : Nat) + List.length v0)) fun _ =>
  Option.bind (room (1 : Nat) (List.length ([(36 : UInt8)] ++ v0) + (2 : Nat))) fun _ =>
  Option.bind (room (1 : Nat) (List.length ([(36 : UInt8)] ++ v0 ++ [(13 : UInt8), (10 : UInt8)]) + List.length s0)) fun _ =>
  Option.bind (room (1 : Nat) (List.length ([(36 : UInt8)] ++ v0 ++ [(13 : UInt8), (10 : UInt8)] ++ s0) + (2 : Nat))) fun _ =>
  some ([(36 : UInt8)] ++ v0 ++ [(13 : UInt8), (10 : UInt8)] ++ s0 ++ [(13 : UInt8), (10 : UInt8)])
def intaglioref19_bulk_P : (List UInt8) → Option ((List UInt8)) := fun p => intaglioref19_bulk_M p
def intaglioref19_bulk_MM : HL [.str] → Option (SumL [[.str]]) := fun p => intaglioref19_bulk_M p
def intaglioref19_bulk_C : Con := ⟨0, intaglioref19_bulk_T, intaglioref19_bulk_O, stdCn [.str] [[.str]] intaglioref19_bulk_MM, []⟩

def intaglioref19_flat_L1_T : Tm := ⟨[(0, false, [.hole .str]), (3, false, [.row 0]), (4, false, [.hole (.int .i64)])], 27, [.row (.int .u8)]⟩
def intaglioref19_flat_L1_O : List (Ex × Tm) := [(.exit 0, ⟨[(3, false, [.row 0])], 27, [.row (.int .u8)]⟩)]
def intaglioref19_flat_L1 (s0 : List UInt8) (s4 : Int) (r0 : List Int) : Option (((List UInt8) × Int × (List Int)) ⊕ (((List Int)))) :=
  if decide (s4 < (((List.length s0) : Nat) : Int)) = true then
    Option.bind (ix s0 s4) fun (v0 : UInt8) =>
    if ((((UInt8.toNat v0) : Nat) : Int) == (13 : Int)) = true then
      Option.bind (room (1 : Nat) (List.length r0 + (1 : Nat))) fun _ =>
      some (.inl (s0, IntKind.wrap IntKind.i64 (s4 + (1 : Int)), r0 ++ [(32 : Int)]))
    else
    if ((((UInt8.toNat v0) : Nat) : Int) == (10 : Int)) = true then
      Option.bind (room (1 : Nat) (List.length r0 + (1 : Nat))) fun _ =>
      some (.inl (s0, IntKind.wrap IntKind.i64 (s4 + (1 : Int)), r0 ++ [(32 : Int)]))
    else
    Option.bind (room (1 : Nat) (List.length r0 + List.length [(((UInt8.toNat v0) : Nat) : Int)])) fun _ =>
    some (.inl (s0, IntKind.wrap IntKind.i64 (s4 + (1 : Int)), r0 ++ [(((UInt8.toNat v0) : Nat) : Int)]))
  else
  some (.inr (r0))
def intaglioref19_flat_L1_P : (List UInt8) × Int × (List Int) → Option (((List UInt8) × Int × (List Int)) ⊕ (((List Int)))) := fun p => intaglioref19_flat_L1 p.1 p.2.1 p.2.2
def intaglioref19_flat_L1_MM : HL [.str, (.int .i64), (.slc (.int .u8))] → Option (HL [.str, (.int .i64), (.slc (.int .u8))] ⊕ SumL [[(.slc (.int .u8))]]) := fun p => intaglioref19_flat_L1 p.1 p.2.1 p.2.2
def intaglioref19_flat_L1_C : Con := ⟨0, intaglioref19_flat_L1_T, intaglioref19_flat_L1_O, stdCn [.str, (.int .i64), (.slc (.int .u8))] [[(.slc (.int .u8))]] (loop intaglioref19_flat_L1_MM), []⟩
def intaglioref19_flat_T : Tm := ⟨[(0, false, [.hole .str])], 1, []⟩
def intaglioref19_flat_O : List (Ex × Tm) := [(.ret, ⟨[(0, false, [.hole .str])], 1, []⟩)]
def intaglioref19_flat_M (s0 : List UInt8) : Option ((List UInt8)) :=
  Option.bind (loop intaglioref19_flat_L1_P (s0, (0 : Int), [])) fun (v0 : (List Int)) =>
  some (b8 v0)
def intaglioref19_flat_P : (List UInt8) → Option ((List UInt8)) := fun p => intaglioref19_flat_M p
def intaglioref19_flat_MM : HL [.str] → Option (SumL [[.str]]) := fun p => intaglioref19_flat_M p
def intaglioref19_flat_C : Con := ⟨0, intaglioref19_flat_T, intaglioref19_flat_O, stdCn [.str] [[.str]] intaglioref19_flat_MM, []⟩

def intaglioref19_Encode_T : Tm := ⟨[(0, true, [.hole (.int .i64), .hole .str, .hole (.int .i64), .hole (.slc .rep)])], 1, []⟩
def intaglioref19_Encode_O : List (Ex × Tm) := [(.ret, ⟨[(0, false, [.hole .str])], 1, []⟩)]
def intaglioref19_Encode_L1_T : Tm := ⟨[(1, false, [.ptr 0 0]), (3, false, [.hole .str]), (4, false, [.hole (.int .i64)])], 61, [.box [.hole (.int .i64), .hole .str, .hole (.int .i64), .hole (.slc .rep)]]⟩
def intaglioref19_Encode_L1_O : List (Ex × Tm) := [(.exit 1, ⟨[(3, false, [.hole .str])], 61, [.box [.hole (.int .i64), .hole .str, .hole (.int .i64), .hole (.slc .rep)]]⟩)]
def intaglioref19_Encode_L1 (self : Int × (List UInt8) × Int × (List Rep) → Option ((List UInt8))) (s3 : List UInt8) (s4 : Int) (m0_0 : Int) (m0_1 : List UInt8) (m0_2 : Int) (m0_3 : List Rep) : Option (((List UInt8) × Int × Int × (List UInt8) × Int × (List Rep)) ⊕ (((List UInt8) × Int × (List UInt8) × Int × (List Rep)))) :=
  if decide (s4 < (((List.length m0_3) : Nat) : Int)) = true then
    Option.bind (ix m0_3 s4) fun (v0 : (Ty.den Ty.rep)) =>
    Option.bind (self (Rep.k v0, Rep.t v0, Rep.n v0, Rep.l v0)) fun (v1 : (List UInt8)) =>
    Option.bind (room (1 : Nat) (List.length s3 + List.length v1)) fun _ =>
    some (.inl (s3 ++ v1, IntKind.wrap IntKind.i64 (s4 + (1 : Int)), m0_0, m0_1, m0_2, m0_3))
  else
  some (.inr (s3, m0_0, m0_1, m0_2, m0_3))
def intaglioref19_Encode_L1_P (self : Int × (List UInt8) × Int × (List Rep) → Option ((List UInt8))) : (List UInt8) × Int × Int × (List UInt8) × Int × (List Rep) → Option (((List UInt8) × Int × Int × (List UInt8) × Int × (List Rep)) ⊕ (((List UInt8) × Int × (List UInt8) × Int × (List Rep)))) := fun p => (intaglioref19_Encode_L1 self) p.1 p.2.1 p.2.2.1 p.2.2.2.1 p.2.2.2.2.1 p.2.2.2.2.2
def intaglioref19_Encode_S (self : Int × (List UInt8) × Int × (List Rep) → Option ((List UInt8))) (s0_0 : Int) (s0_1 : List UInt8) (s0_2 : Int) (s0_3 : List Rep) : Option ((List UInt8)) :=
  if (s0_0 == (1 : Int)) = true then
    Option.bind (intaglioref19_flat_P s0_1) fun (v0 : (List UInt8)) =>
    Option.bind (room (1 : Nat) ((1 : Nat) + List.length v0)) fun _ =>
    Option.bind (room (1 : Nat) (List.length ([(43 : UInt8)] ++ v0) + (2 : Nat))) fun _ =>
    some ([(43 : UInt8)] ++ v0 ++ [(13 : UInt8), (10 : UInt8)])
  else
  if (s0_0 == (2 : Int)) = true then
    Option.bind (intaglioref19_flat_P s0_1) fun (v3 : (List UInt8)) =>
    Option.bind (room (1 : Nat) ((1 : Nat) + List.length v3)) fun _ =>
    Option.bind (room (1 : Nat) (List.length ([(45 : UInt8)] ++ v3) + (2 : Nat))) fun _ =>
    some ([(45 : UInt8)] ++ v3 ++ [(13 : UInt8), (10 : UInt8)])
  else
  if (s0_0 == (3 : Int)) = true then
    Option.bind (intaglioref17_Text_P s0_2) fun (v6 : (List UInt8)) =>
    Option.bind (room (1 : Nat) ((1 : Nat) + List.length v6)) fun _ =>
    Option.bind (room (1 : Nat) (List.length ([(58 : UInt8)] ++ v6) + (2 : Nat))) fun _ =>
    some ([(58 : UInt8)] ++ v6 ++ [(13 : UInt8), (10 : UInt8)])
  else
  if (s0_0 == (4 : Int)) = true then
    Option.bind (intaglioref19_bulk_P s0_1) fun (v9 : (List UInt8)) =>
    some (v9)
  else
  if (s0_0 == (5 : Int)) = true then
    some ([(36 : UInt8), (45 : UInt8), (49 : UInt8), (13 : UInt8), (10 : UInt8)])
  else
  if (s0_0 == (6 : Int)) = true then
    Option.bind (intaglioref17_Text_P (((List.length s0_3) : Nat) : Int)) fun (v10 : (List UInt8)) =>
    Option.bind (room (1 : Nat) ((1 : Nat) + List.length v10)) fun _ =>
    Option.bind (room (1 : Nat) (List.length ([(42 : UInt8)] ++ v10) + (2 : Nat))) fun _ =>
    Option.bind (loop (intaglioref19_Encode_L1_P self) ([(42 : UInt8)] ++ v10 ++ [(13 : UInt8), (10 : UInt8)], (0 : Int), s0_0, s0_1, s0_2, s0_3)) fun (v13 : ((List UInt8) × (Int × ((List UInt8) × (Int × (List (Ty.den Ty.rep))))))) =>
    some (v13.fst)
  else
  if (s0_0 == (7 : Int)) = true then
    some ([(42 : UInt8), (45 : UInt8), (49 : UInt8), (13 : UInt8), (10 : UInt8)])
  else
  some ([])
def intaglioref19_Encode_F : Nat → Int × (List UInt8) × Int × (List Rep) → Option ((List UInt8))
  | 0 => fun _ => none
  | n + 1 => fun p => intaglioref19_Encode_S (intaglioref19_Encode_F n) p.1 p.2.1 p.2.2.1 p.2.2.2
def intaglioref19_Encode_MF (n : Nat) : HL [(.int .i64), .str, (.int .i64), (.slc .rep)] → Option (SumL [[.str]]) := fun p => intaglioref19_Encode_F n p
def intaglioref19_Encode_CF (n : Nat) : Con := ⟨0, intaglioref19_Encode_T, intaglioref19_Encode_O, stdCn [(.int .i64), .str, (.int .i64), (.slc .rep)] [[.str]] (intaglioref19_Encode_MF n), []⟩
def intaglioref19_Encode_L1_MM (n : Nat) : HL [.str, (.int .i64), (.int .i64), .str, (.int .i64), (.slc .rep)] → Option (HL [.str, (.int .i64), (.int .i64), .str, (.int .i64), (.slc .rep)] ⊕ SumL [[.str, (.int .i64), .str, (.int .i64), (.slc .rep)]]) := fun p => (intaglioref19_Encode_L1 (intaglioref19_Encode_F n)) p.1 p.2.1 p.2.2.1 p.2.2.2.1 p.2.2.2.2.1 p.2.2.2.2.2
def intaglioref19_Encode_L1_C (n : Nat) : Con := ⟨1, intaglioref19_Encode_L1_T, intaglioref19_Encode_L1_O, stdCn [.str, (.int .i64), (.int .i64), .str, (.int .i64), (.slc .rep)] [[.str, (.int .i64), .str, (.int .i64), (.slc .rep)]] (loop (intaglioref19_Encode_L1_MM n)), []⟩
def intaglioref19_Encode_M (s0_0 : Int) (s0_1 : List UInt8) (s0_2 : Int) (s0_3 : List Rep) : Option ((List UInt8)) := intaglioref19_Encode_F fuel (s0_0, s0_1, s0_2, s0_3)
def intaglioref19_Encode_P : Int × (List UInt8) × Int × (List Rep) → Option ((List UInt8)) := fun p => intaglioref19_Encode_M p.1 p.2.1 p.2.2.1 p.2.2.2
def intaglioref19_Encode_MM : HL [(.int .i64), .str, (.int .i64), (.slc .rep)] → Option (SumL [[.str]]) := fun p => intaglioref19_Encode_M p.1 p.2.1 p.2.2.1 p.2.2.2
def intaglioref19_Encode_C : Con := ⟨0, intaglioref19_Encode_T, intaglioref19_Encode_O, stdCn [(.int .i64), .str, (.int .i64), (.slc .rep)] [[.str]] intaglioref19_Encode_MM, []⟩

def intagliolaw19_RespEncodes_R1_T : Tm := ⟨[(1, false, [.ptr 0 0])], 17, [.box [.hole (.int .i64), .hole .str, .hole (.int .i64), .hole (.slc .rep)]]⟩
def intagliolaw19_RespEncodes_R1_O : List (Ex × Tm) := [(.normal, ⟨[(2, false, [.hole .bool])], 17, [.box [.hole (.int .i64), .hole .str, .hole (.int .i64), .hole (.slc .rep)]]⟩)]
def intagliolaw19_RespEncodes_R1_X (m0_0 : Int) (m0_1 : List UInt8) (m0_2 : Int) (m0_3 : List Rep) : Option (Bool × Int × (List UInt8) × Int × (List Rep)) :=
  Option.bind (intaglioref19_Weight_P (m0_0, m0_1, m0_2, m0_3, (0 : Int))) fun (v0 : Int) =>
  if decide (v0 ≥ (10000 : Int)) = true then
    agree (
      Option.bind (intagliolaw19_awake_P ()) fun (v1 : Bool) =>
      some (v1, m0_0, m0_1, m0_2, m0_3)
    ) (
      Option.bind (intagliolaw19_awake_P ()) fun (v2 : Bool) =>
      some (v2, m0_0, m0_1, m0_2, m0_3)
    )
  else
  Option.bind (resp_Encode_P (m0_0, m0_1, m0_2, m0_3)) fun (v3 : (List Int)) =>
  agree (
    Option.bind (intaglioref19_Encode_P (m0_0, m0_1, m0_2, m0_3)) fun (v4 : (List UInt8)) =>
    if (b8 v3 == v4) = true then
      Option.bind (intagliolaw19_awake_P ()) fun (v5 : Bool) =>
      some (v5, m0_0, m0_1, m0_2, m0_3)
    else
    some (false, m0_0, m0_1, m0_2, m0_3)
  ) (
    Option.bind (intaglioref19_Encode_P (m0_0, m0_1, m0_2, m0_3)) fun (v6 : (List UInt8)) =>
    if (b8 v3 == v6) = true then
      Option.bind (intagliolaw19_awake_P ()) fun (v7 : Bool) =>
      some (v7, m0_0, m0_1, m0_2, m0_3)
    else
    some (false, m0_0, m0_1, m0_2, m0_3)
  )
def intagliolaw19_RespEncodes_R1 (m0_0 : Int) (m0_1 : List UInt8) (m0_2 : Int) (m0_3 : List Rep) : Option (Bool × Int × (List UInt8) × Int × (List Rep)) :=
  Option.bind (intaglioref19_Weight_P (m0_0, m0_1, m0_2, m0_3, (0 : Int))) fun (v0 : Int) =>
  if decide (v0 ≥ (10000 : Int)) = true then
      Option.bind (intagliolaw19_awake_P ()) fun (v1 : Bool) =>
      some (v1, m0_0, m0_1, m0_2, m0_3)
  else
  Option.bind (resp_Encode_P (m0_0, m0_1, m0_2, m0_3)) fun (v3 : (List Int)) =>
    Option.bind (intaglioref19_Encode_P (m0_0, m0_1, m0_2, m0_3)) fun (v4 : (List UInt8)) =>
    if (b8 v3 == v4) = true then
      Option.bind (intagliolaw19_awake_P ()) fun (v5 : Bool) =>
      some (v5, m0_0, m0_1, m0_2, m0_3)
    else
    some (false, m0_0, m0_1, m0_2, m0_3)
theorem intagliolaw19_RespEncodes_R1_eq (m0_0 : Int) (m0_1 : List UInt8) (m0_2 : Int) (m0_3 : List Rep) : intagliolaw19_RespEncodes_R1_X m0_0 m0_1 m0_2 m0_3 = intagliolaw19_RespEncodes_R1 m0_0 m0_1 m0_2 m0_3 := by unfold intagliolaw19_RespEncodes_R1_X; simp only [agree_self]; rfl
def intagliolaw19_RespEncodes_R1_P : Int × (List UInt8) × Int × (List Rep) → Option (Bool × Int × (List UInt8) × Int × (List Rep)) := fun p => intagliolaw19_RespEncodes_R1 p.1 p.2.1 p.2.2.1 p.2.2.2
def intagliolaw19_RespEncodes_R1_MM : HL [(.int .i64), .str, (.int .i64), (.slc .rep)] → Option (SumL [[.bool, (.int .i64), .str, (.int .i64), (.slc .rep)]]) := fun p => intagliolaw19_RespEncodes_R1 p.1 p.2.1 p.2.2.1 p.2.2.2
def intagliolaw19_RespEncodes_R1_C : Con := ⟨1, intagliolaw19_RespEncodes_R1_T, intagliolaw19_RespEncodes_R1_O, stdCn [(.int .i64), .str, (.int .i64), (.slc .rep)] [[.bool, (.int .i64), .str, (.int .i64), (.slc .rep)]] intagliolaw19_RespEncodes_R1_MM, []⟩
def intagliolaw19_RespEncodes_T : Tm := ⟨[(0, true, [.hole (.int .i64), .hole .str, .hole (.int .i64), .hole (.slc .rep)])], 1, []⟩
def intagliolaw19_RespEncodes_O : List (Ex × Tm) := [(.ret, ⟨[(0, false, [.hole .bool])], 1, []⟩)]
def intagliolaw19_RespEncodes_M (s0_0 : Int) (s0_1 : List UInt8) (s0_2 : Int) (s0_3 : List Rep) : Option (Bool) :=
  Option.bind (intagliolaw19_RespEncodes_R1_P (s0_0, s0_1, s0_2, s0_3)) fun (v0 : (Bool × (Int × ((List UInt8) × (Int × (List (Ty.den Ty.rep))))))) =>
  some (v0.fst)
def intagliolaw19_RespEncodes_P : Int × (List UInt8) × Int × (List Rep) → Option (Bool) := fun p => intagliolaw19_RespEncodes_M p.1 p.2.1 p.2.2.1 p.2.2.2
def intagliolaw19_RespEncodes_MM : HL [(.int .i64), .str, (.int .i64), (.slc .rep)] → Option (SumL [[.bool]]) := fun p => intagliolaw19_RespEncodes_M p.1 p.2.1 p.2.2.1 p.2.2.2
def intagliolaw19_RespEncodes_C : Con := ⟨0, intagliolaw19_RespEncodes_T, intagliolaw19_RespEncodes_O, stdCn [(.int .i64), .str, (.int .i64), (.slc .rep)] [[.bool]] intagliolaw19_RespEncodes_MM, []⟩

def intaglioref19_find_L1_T : Tm := ⟨[(0, false, [.hole .str]), (3, false, [.hole (.int .i64)])], 15, []⟩
def intaglioref19_find_L1_O : List (Ex × Tm) := [(.exit 0, ⟨[], 15, []⟩), (.ret, ⟨[(2, false, [.hole (.int .i64)])], 15, []⟩)]
def intaglioref19_find_L1 (s0 : List UInt8) (s3 : Int) : Option (((List UInt8) × Int) ⊕ ((Unit) ⊕ (Int))) :=
  if decide (s3 < (((List.length s0) : Nat) : Int)) = true then
    Option.bind (ix s0 s3) fun (v0 : UInt8) =>
    if ((((UInt8.toNat v0) : Nat) : Int) == (10 : Int)) = true then
      some (.inr (.inr (s3)))
    else
    some (.inl (s0, IntKind.wrap IntKind.i64 (s3 + (1 : Int))))
  else
  some (.inr (.inl (())))
def intaglioref19_find_L1_P : (List UInt8) × Int → Option (((List UInt8) × Int) ⊕ ((Unit) ⊕ (Int))) := fun p => intaglioref19_find_L1 p.1 p.2
def intaglioref19_find_L1_MM : HL [.str, (.int .i64)] → Option (HL [.str, (.int .i64)] ⊕ SumL [[], [(.int .i64)]]) := fun p => intaglioref19_find_L1 p.1 p.2
def intaglioref19_find_L1_C : Con := ⟨0, intaglioref19_find_L1_T, intaglioref19_find_L1_O, stdCn [.str, (.int .i64)] [[], [(.int .i64)]] (loop intaglioref19_find_L1_MM), []⟩
def intaglioref19_find_T : Tm := ⟨[(0, false, [.hole .str])], 1, []⟩
def intaglioref19_find_O : List (Ex × Tm) := [(.ret, ⟨[(0, false, [.hole (.int .i64)])], 1, []⟩)]
def intaglioref19_find_M (s0 : List UInt8) : Option (Int) :=
  Option.bind (loop intaglioref19_find_L1_P (s0, (0 : Int))) fun (v0 : (Unit ⊕ Int)) =>
  Sum.elim (fun _ =>
      some ((-1 : Int))
    ) (fun (v2 : Int) =>
    some (v2)
  ) (v0)
def intaglioref19_find_P : (List UInt8) → Option (Int) := fun p => intaglioref19_find_M p
def intaglioref19_find_MM : HL [.str] → Option (SumL [[(.int .i64)]]) := fun p => intaglioref19_find_M p
def intaglioref19_find_C : Con := ⟨0, intaglioref19_find_T, intaglioref19_find_O, stdCn [.str] [[(.int .i64)]] intaglioref19_find_MM, []⟩

def intaglioref17_Int_L1_T : Tm := ⟨[(0, false, [.hole .str]), (4, false, [.hole (.int .i64)]), (5, false, [.hole (.int .i64)]), (6, false, [.hole (.int .i64)])], 65, []⟩
def intaglioref17_Int_L1_O : List (Ex × Tm) := [(.exit 0, ⟨[(0, false, [.hole .str]), (4, false, [.hole (.int .i64)]), (5, false, [.hole (.int .i64)])], 65, []⟩), (.ret, ⟨[(2, false, [.hole (.int .i64)]), (3, false, [.hole .bool])], 65, []⟩)]
def intaglioref17_Int_L1 (s0 : List UInt8) (s4 : Int) (s5 : Int) (s6 : Int) : Option (((List UInt8) × Int × Int × Int) ⊕ (((List UInt8) × Int × Int) ⊕ (Int × Bool))) :=
  if decide (s6 < (((List.length s0) : Nat) : Int)) = true then
    Option.bind (ix s0 s6) fun (v0 : UInt8) =>
    if decide (IntKind.wrap IntKind.i64 (IntKind.wrap IntKind.i64 (((UInt8.toNat v0) : Nat) : Int) - (48 : Int)) < (0 : Int)) = true then
      some (.inr (.inr ((0 : Int), false)))
    else
    if decide (IntKind.wrap IntKind.i64 (IntKind.wrap IntKind.i64 (((UInt8.toNat v0) : Nat) : Int) - (48 : Int)) > (9 : Int)) = true then
      some (.inr (.inr ((0 : Int), false)))
    else
    Option.bind (gquo IntKind.i64 (IntKind.wrap IntKind.i64 ((-9223372036854775808 : Int) + IntKind.wrap IntKind.i64 (IntKind.wrap IntKind.i64 (((UInt8.toNat v0) : Nat) : Int) - (48 : Int)))) (10 : Int)) fun (v1 : Int) =>
    if decide (s5 < v1) = true then
      some (.inr (.inr ((0 : Int), false)))
    else
    some (.inl (s0, s4, IntKind.wrap IntKind.i64 (IntKind.wrap IntKind.i64 ((10 : Int) * s5) - IntKind.wrap IntKind.i64 (IntKind.wrap IntKind.i64 (((UInt8.toNat v0) : Nat) : Int) - (48 : Int))), IntKind.wrap IntKind.i64 (s6 + (1 : Int))))
  else
  some (.inr (.inl (s0, s4, s5)))
def intaglioref17_Int_L1_P : (List UInt8) × Int × Int × Int → Option (((List UInt8) × Int × Int × Int) ⊕ (((List UInt8) × Int × Int) ⊕ (Int × Bool))) := fun p => intaglioref17_Int_L1 p.1 p.2.1 p.2.2.1 p.2.2.2
def intaglioref17_Int_L1_MM : HL [.str, (.int .i64), (.int .i64), (.int .i64)] → Option (HL [.str, (.int .i64), (.int .i64), (.int .i64)] ⊕ SumL [[.str, (.int .i64), (.int .i64)], [(.int .i64), .bool]]) := fun p => intaglioref17_Int_L1 p.1 p.2.1 p.2.2.1 p.2.2.2
def intaglioref17_Int_L1_C : Con := ⟨0, intaglioref17_Int_L1_T, intaglioref17_Int_L1_O, stdCn [.str, (.int .i64), (.int .i64), (.int .i64)] [[.str, (.int .i64), (.int .i64)], [(.int .i64), .bool]] (loop intaglioref17_Int_L1_MM), []⟩
def intaglioref17_Int_T : Tm := ⟨[(0, false, [.hole .str])], 1, []⟩
def intaglioref17_Int_O : List (Ex × Tm) := [(.ret, ⟨[(0, false, [.hole (.int .i64)]), (1, false, [.hole .bool])], 2, []⟩)]
def intaglioref17_Int_M (s0 : List UInt8) : Option (Int × Bool) :=
  if decide ((((List.length s0) : Nat) : Int) > (0 : Int)) = true then
    Option.bind (ix s0 (0 : Int)) fun (v0 : UInt8) =>
    if ((((UInt8.toNat v0) : Nat) : Int) == (45 : Int)) = true then
      if ((((List.length s0) : Nat) : Int) == (1 : Int)) = true then
        some ((0 : Int), false)
      else
      if decide ((((List.length s0) : Nat) : Int) > (20 : Int)) = true then
        some ((0 : Int), false)
      else
      Option.bind (loop intaglioref17_Int_L1_P (s0, (1 : Int), (0 : Int), (1 : Int))) fun (v1 : (((List UInt8) × (Int × Int)) ⊕ (Int × Bool))) =>
      Sum.elim (fun (v2 : ((List UInt8) × (Int × Int))) =>
          if (v2.snd.fst == (0 : Int)) = true then
            if (v2.snd.snd == (-9223372036854775808 : Int)) = true then
              some ((0 : Int), false)
            else
            Option.bind (intaglioref17_Text_P (IntKind.wrap IntKind.i64 ((0 : Int) - v2.snd.snd))) fun (v4 : (List UInt8)) =>
            if (!v4 == v2.fst) = true then
              some ((0 : Int), false)
            else
            some (IntKind.wrap IntKind.i64 ((0 : Int) - v2.snd.snd), true)
          else
          Option.bind (intaglioref17_Text_P v2.snd.snd) fun (v5 : (List UInt8)) =>
          if (!v5 == v2.fst) = true then
            some ((0 : Int), false)
          else
          some (v2.snd.snd, true)
        ) (fun (v3 : (Int × Bool)) =>
        some (v3.fst, v3.snd)
      ) (v1)
    else
    if ((((List.length s0) : Nat) : Int) == (0 : Int)) = true then
      some ((0 : Int), false)
    else
    if decide ((((List.length s0) : Nat) : Int) > (20 : Int)) = true then
      some ((0 : Int), false)
    else
    Option.bind (loop intaglioref17_Int_L1_P (s0, (0 : Int), (0 : Int), (0 : Int))) fun (v6 : (((List UInt8) × (Int × Int)) ⊕ (Int × Bool))) =>
    Sum.elim (fun (v7 : ((List UInt8) × (Int × Int))) =>
        if (v7.snd.fst == (0 : Int)) = true then
          if (v7.snd.snd == (-9223372036854775808 : Int)) = true then
            some ((0 : Int), false)
          else
          Option.bind (intaglioref17_Text_P (IntKind.wrap IntKind.i64 ((0 : Int) - v7.snd.snd))) fun (v9 : (List UInt8)) =>
          if (!v9 == v7.fst) = true then
            some ((0 : Int), false)
          else
          some (IntKind.wrap IntKind.i64 ((0 : Int) - v7.snd.snd), true)
        else
        Option.bind (intaglioref17_Text_P v7.snd.snd) fun (v10 : (List UInt8)) =>
        if (!v10 == v7.fst) = true then
          some ((0 : Int), false)
        else
        some (v7.snd.snd, true)
      ) (fun (v8 : (Int × Bool)) =>
      some (v8.fst, v8.snd)
    ) (v6)
  else
  if ((((List.length s0) : Nat) : Int) == (0 : Int)) = true then
    some ((0 : Int), false)
  else
  if decide ((((List.length s0) : Nat) : Int) > (20 : Int)) = true then
    some ((0 : Int), false)
  else
  Option.bind (loop intaglioref17_Int_L1_P (s0, (0 : Int), (0 : Int), (0 : Int))) fun (v11 : (((List UInt8) × (Int × Int)) ⊕ (Int × Bool))) =>
  Sum.elim (fun (v12 : ((List UInt8) × (Int × Int))) =>
      if (v12.snd.fst == (0 : Int)) = true then
        if (v12.snd.snd == (-9223372036854775808 : Int)) = true then
          some ((0 : Int), false)
        else
        Option.bind (intaglioref17_Text_P (IntKind.wrap IntKind.i64 ((0 : Int) - v12.snd.snd))) fun (v14 : (List UInt8)) =>
        if (!v14 == v12.fst) = true then
          some ((0 : Int), false)
        else
        some (IntKind.wrap IntKind.i64 ((0 : Int) - v12.snd.snd), true)
      else
      Option.bind (intaglioref17_Text_P v12.snd.snd) fun (v15 : (List UInt8)) =>
      if (!v15 == v12.fst) = true then
        some ((0 : Int), false)
      else
      some (v12.snd.snd, true)
    ) (fun (v13 : (Int × Bool)) =>
    some (v13.fst, v13.snd)
  ) (v11)
def intaglioref17_Int_P : (List UInt8) → Option (Int × Bool) := fun p => intaglioref17_Int_M p
def intaglioref17_Int_MM : HL [.str] → Option (SumL [[(.int .i64), .bool]]) := fun p => intaglioref17_Int_M p
def intaglioref17_Int_C : Con := ⟨0, intaglioref17_Int_T, intaglioref17_Int_O, stdCn [.str] [[(.int .i64), .bool]] intaglioref17_Int_MM, []⟩

def intaglioref19_count_T : Tm := ⟨[(0, false, [.hole .str]), (1, false, [.hole .str]), (2, false, [.hole (.int .i64)])], 3, []⟩
def intaglioref19_count_O : List (Ex × Tm) := [(.ret, ⟨[(0, false, [.hole (.int .i64)]), (1, false, [.hole .str]), (2, false, [.hole (.int .i64)])], 3, []⟩)]
def intaglioref19_count_M (s0 : List UInt8) (s1 : List UInt8) (s2 : Int) : Option (Int × (List UInt8) × Int) :=
  Option.bind (sub s0 (0 : Int) (if (16 : Int) < (((List.length s0) : Nat) : Int) then (16 : Int) else (((List.length s0) : Nat) : Int))) fun (v0 : (List UInt8)) =>
  Option.bind (intaglioref19_find_P v0) fun (v1 : Int) =>
  if decide (v1 < (0 : Int)) = true then
    if decide ((((List.length s0) : Nat) : Int) ≥ (16 : Int)) = true then
      some ((0 : Int), [], (3 : Int))
    else
    if decide (v1 < (0 : Int)) = true then
      some ((0 : Int), [], (4 : Int))
    else
    Option.bind (sub s0 (0 : Int) (IntKind.wrap IntKind.i64 (v1 + (1 : Int)))) fun (v2 : (List UInt8)) =>
    if decide ((((List.length v2) : Nat) : Int) < (4 : Int)) = true then
      some ((0 : Int), [], (3 : Int))
    else
    if decide ((((List.length v2) : Nat) : Int) > (12 : Int)) = true then
      some ((0 : Int), [], (3 : Int))
    else
    Option.bind (sub v2 (0 : Int) (1 : Int)) fun (v3 : (List UInt8)) =>
    if (!v3 == s1) = true then
      some ((0 : Int), [], (3 : Int))
    else
    Option.bind (sub v2 (IntKind.wrap IntKind.i64 ((((List.length v2) : Nat) : Int) - (2 : Int))) (((List.length v2) : Nat) : Int)) fun (v4 : (List UInt8)) =>
    if (!v4 == [(13 : UInt8), (10 : UInt8)]) = true then
      some ((0 : Int), [], (3 : Int))
    else
    Option.bind (sub v2 (1 : Int) (IntKind.wrap IntKind.i64 ((((List.length v2) : Nat) : Int) - (2 : Int)))) fun (v5 : (List UInt8)) =>
    Option.bind (intaglioref17_Int_P v5) fun (v6 : (Int × Bool)) =>
    if (!v6.snd) = true then
      some ((0 : Int), [], (3 : Int))
    else
    if decide (v6.fst < (0 : Int)) = true then
      some ((0 : Int), [], (3 : Int))
    else
    if decide (v6.fst > s2) = true then
      some ((0 : Int), [], (5 : Int))
    else
    Option.bind (sub s0 (IntKind.wrap IntKind.i64 (v1 + (1 : Int))) (((List.length s0) : Nat) : Int)) fun (v7 : (List UInt8)) =>
    some (v6.fst, v7, (0 : Int))
  else
  if decide (v1 < (0 : Int)) = true then
    some ((0 : Int), [], (4 : Int))
  else
  Option.bind (sub s0 (0 : Int) (IntKind.wrap IntKind.i64 (v1 + (1 : Int)))) fun (v8 : (List UInt8)) =>
  if decide ((((List.length v8) : Nat) : Int) < (4 : Int)) = true then
    some ((0 : Int), [], (3 : Int))
  else
  if decide ((((List.length v8) : Nat) : Int) > (12 : Int)) = true then
    some ((0 : Int), [], (3 : Int))
  else
  Option.bind (sub v8 (0 : Int) (1 : Int)) fun (v9 : (List UInt8)) =>
  if (!v9 == s1) = true then
    some ((0 : Int), [], (3 : Int))
  else
  Option.bind (sub v8 (IntKind.wrap IntKind.i64 ((((List.length v8) : Nat) : Int) - (2 : Int))) (((List.length v8) : Nat) : Int)) fun (v10 : (List UInt8)) =>
  if (!v10 == [(13 : UInt8), (10 : UInt8)]) = true then
    some ((0 : Int), [], (3 : Int))
  else
  Option.bind (sub v8 (1 : Int) (IntKind.wrap IntKind.i64 ((((List.length v8) : Nat) : Int) - (2 : Int)))) fun (v11 : (List UInt8)) =>
  Option.bind (intaglioref17_Int_P v11) fun (v12 : (Int × Bool)) =>
  if (!v12.snd) = true then
    some ((0 : Int), [], (3 : Int))
  else
  if decide (v12.fst < (0 : Int)) = true then
    some ((0 : Int), [], (3 : Int))
  else
  if decide (v12.fst > s2) = true then
    some ((0 : Int), [], (5 : Int))
  else
  Option.bind (sub s0 (IntKind.wrap IntKind.i64 (v1 + (1 : Int))) (((List.length s0) : Nat) : Int)) fun (v13 : (List UInt8)) =>
  some (v12.fst, v13, (0 : Int))
def intaglioref19_count_P : (List UInt8) × (List UInt8) × Int → Option (Int × (List UInt8) × Int) := fun p => intaglioref19_count_M p.1 p.2.1 p.2.2
def intaglioref19_count_MM : HL [.str, .str, (.int .i64)] → Option (SumL [[(.int .i64), .str, (.int .i64)]]) := fun p => intaglioref19_count_M p.1 p.2.1 p.2.2
def intaglioref19_count_C : Con := ⟨0, intaglioref19_count_T, intaglioref19_count_O, stdCn [.str, .str, (.int .i64)] [[(.int .i64), .str, (.int .i64)]] intaglioref19_count_MM, []⟩

def intaglioref19_command_L1_T : Tm := ⟨[(0, false, [.hole .str]), (2, false, [.ptr 0 0]), (3, false, [.hole (.int .i64)]), (4, false, [.hole (.int .i64)]), (5, false, [.row 1]), (6, false, [.hole (.int .i64)])], 69, [.box [.nils, .hole (.int .i64), .hole (.int .i64)], .row .str]⟩
def intaglioref19_command_L1_O : List (Ex × Tm) := [(.exit 0, ⟨[(0, false, [.hole .str]), (2, false, [.ptr 0 0]), (4, false, [.hole (.int .i64)]), (5, false, [.row 1])], 69, [.box [.nils, .hole (.int .i64), .hole (.int .i64)], .row .str]⟩)]
def intaglioref19_command_L1 (s0 : List UInt8) (s3 : Int) (s4 : Int) (s6 : Int) (m0_0 : Int) (m0_1 : Int) (r1 : List (List UInt8)) : Option (((List UInt8) × Int × Int × Int × Int × Int × (List (List UInt8))) ⊕ (((List UInt8) × Int × Int × Int × (List (List UInt8))))) :=
  if decide (s6 < s3) = true then
    if (s4 == (0 : Int)) = true then
      Option.bind (intaglioref19_count_P (s0, [(36 : UInt8)], (512 : Int))) fun (v0 : (Int × ((List UInt8) × Int))) =>
      if (v0.snd.snd == (0 : Int)) = true then
        if decide ((((List.length v0.snd.fst) : Nat) : Int) < IntKind.wrap IntKind.i64 (v0.fst + (2 : Int))) = true then
          some (.inl (v0.snd.fst, s3, (4 : Int), IntKind.wrap IntKind.i64 (s6 + (1 : Int)), m0_0, m0_1, r1))
        else
        if (v0.snd.snd == (0 : Int)) = true then
          Option.bind (sub v0.snd.fst v0.fst (IntKind.wrap IntKind.i64 (v0.fst + (2 : Int)))) fun (v1 : (List UInt8)) =>
          if (!v1 == [(13 : UInt8), (10 : UInt8)]) = true then
            some (.inl (v0.snd.fst, s3, (3 : Int), IntKind.wrap IntKind.i64 (s6 + (1 : Int)), m0_0, m0_1, r1))
          else
          if (v0.snd.snd == (0 : Int)) = true then
            Option.bind (sub v0.snd.fst (0 : Int) v0.fst) fun (v2 : (List UInt8)) =>
            Option.bind (room (16 : Nat) (List.length r1 + List.length [v2])) fun _ =>
            Option.bind (sub v0.snd.fst (IntKind.wrap IntKind.i64 (v0.fst + (2 : Int))) (((List.length v0.snd.fst) : Nat) : Int)) fun (v4 : (List UInt8)) =>
            some (.inl (v4, s3, v0.snd.snd, IntKind.wrap IntKind.i64 (s6 + (1 : Int)), m0_0, m0_1, r1 ++ [v2]))
          else
          some (.inl (v0.snd.fst, s3, v0.snd.snd, IntKind.wrap IntKind.i64 (s6 + (1 : Int)), m0_0, m0_1, r1))
        else
        if (v0.snd.snd == (0 : Int)) = true then
          Option.bind (sub v0.snd.fst (0 : Int) v0.fst) fun (v5 : (List UInt8)) =>
          Option.bind (room (16 : Nat) (List.length r1 + List.length [v5])) fun _ =>
          Option.bind (sub v0.snd.fst (IntKind.wrap IntKind.i64 (v0.fst + (2 : Int))) (((List.length v0.snd.fst) : Nat) : Int)) fun (v7 : (List UInt8)) =>
          some (.inl (v7, s3, v0.snd.snd, IntKind.wrap IntKind.i64 (s6 + (1 : Int)), m0_0, m0_1, r1 ++ [v5]))
        else
        some (.inl (v0.snd.fst, s3, v0.snd.snd, IntKind.wrap IntKind.i64 (s6 + (1 : Int)), m0_0, m0_1, r1))
      else
      if (v0.snd.snd == (0 : Int)) = true then
        Option.bind (sub v0.snd.fst v0.fst (IntKind.wrap IntKind.i64 (v0.fst + (2 : Int)))) fun (v8 : (List UInt8)) =>
        if (!v8 == [(13 : UInt8), (10 : UInt8)]) = true then
          some (.inl (v0.snd.fst, s3, (3 : Int), IntKind.wrap IntKind.i64 (s6 + (1 : Int)), m0_0, m0_1, r1))
        else
        if (v0.snd.snd == (0 : Int)) = true then
          Option.bind (sub v0.snd.fst (0 : Int) v0.fst) fun (v9 : (List UInt8)) =>
          Option.bind (room (16 : Nat) (List.length r1 + List.length [v9])) fun _ =>
          Option.bind (sub v0.snd.fst (IntKind.wrap IntKind.i64 (v0.fst + (2 : Int))) (((List.length v0.snd.fst) : Nat) : Int)) fun (v11 : (List UInt8)) =>
          some (.inl (v11, s3, v0.snd.snd, IntKind.wrap IntKind.i64 (s6 + (1 : Int)), m0_0, m0_1, r1 ++ [v9]))
        else
        some (.inl (v0.snd.fst, s3, v0.snd.snd, IntKind.wrap IntKind.i64 (s6 + (1 : Int)), m0_0, m0_1, r1))
      else
      if (v0.snd.snd == (0 : Int)) = true then
        Option.bind (sub v0.snd.fst (0 : Int) v0.fst) fun (v12 : (List UInt8)) =>
        Option.bind (room (16 : Nat) (List.length r1 + List.length [v12])) fun _ =>
        Option.bind (sub v0.snd.fst (IntKind.wrap IntKind.i64 (v0.fst + (2 : Int))) (((List.length v0.snd.fst) : Nat) : Int)) fun (v14 : (List UInt8)) =>
        some (.inl (v14, s3, v0.snd.snd, IntKind.wrap IntKind.i64 (s6 + (1 : Int)), m0_0, m0_1, r1 ++ [v12]))
      else
      some (.inl (v0.snd.fst, s3, v0.snd.snd, IntKind.wrap IntKind.i64 (s6 + (1 : Int)), m0_0, m0_1, r1))
    else
    some (.inr (s0, s4, m0_0, m0_1, r1))
  else
  some (.inr (s0, s4, m0_0, m0_1, r1))
def intaglioref19_command_L1_P : (List UInt8) × Int × Int × Int × Int × Int × (List (List UInt8)) → Option (((List UInt8) × Int × Int × Int × Int × Int × (List (List UInt8))) ⊕ (((List UInt8) × Int × Int × Int × (List (List UInt8))))) := fun p => intaglioref19_command_L1 p.1 p.2.1 p.2.2.1 p.2.2.2.1 p.2.2.2.2.1 p.2.2.2.2.2.1 p.2.2.2.2.2.2
def intaglioref19_command_L1_MM : HL [.str, (.int .i64), (.int .i64), (.int .i64), (.int .i64), (.int .i64), (.slc .str)] → Option (HL [.str, (.int .i64), (.int .i64), (.int .i64), (.int .i64), (.int .i64), (.slc .str)] ⊕ SumL [[.str, (.int .i64), (.int .i64), (.int .i64), (.slc .str)]]) := fun p => intaglioref19_command_L1 p.1 p.2.1 p.2.2.1 p.2.2.2.1 p.2.2.2.2.1 p.2.2.2.2.2.1 p.2.2.2.2.2.2
def intaglioref19_command_L1_C : Con := ⟨1, intaglioref19_command_L1_T, intaglioref19_command_L1_O, stdCn [.str, (.int .i64), (.int .i64), (.int .i64), (.int .i64), (.int .i64), (.slc .str)] [[.str, (.int .i64), (.int .i64), (.int .i64), (.slc .str)]] (loop intaglioref19_command_L1_MM), []⟩
def intaglioref19_command_T : Tm := ⟨[(0, false, [.hole .str])], 1, []⟩
def intaglioref19_command_O : List (Ex × Tm) := [(.ret, ⟨[(0, true, [.hole (.slc (.slc .str)), .hole (.int .i64), .hole (.int .i64)])], 1, []⟩)]
def intaglioref19_command_M (s0 : List UInt8) : Option ((List (List (List UInt8))) × Int × Int) :=
  Option.bind (intaglioref19_count_P (s0, [(42 : UInt8)], (40 : Int))) fun (v0 : (Int × ((List UInt8) × Int))) =>
  Option.bind (loop intaglioref19_command_L1_P (v0.snd.fst, v0.fst, v0.snd.snd, (0 : Int), (0 : Int), (0 : Int), [])) fun (v1 : ((List UInt8) × (Int × (Int × (Int × (List (List UInt8))))))) =>
  if (v1.snd.fst != (0 : Int)) = true then
    some ([], v1.snd.fst, (0 : Int))
  else
  some ([v1.snd.snd.snd.snd], (0 : Int), (((List.length v1.fst) : Nat) : Int))
def intaglioref19_command_P : (List UInt8) → Option ((List (List (List UInt8))) × Int × Int) := fun p => intaglioref19_command_M p
def intaglioref19_command_MM : HL [.str] → Option (SumL [[(.slc (.slc .str)), (.int .i64), (.int .i64)]]) := fun p => intaglioref19_command_M p
def intaglioref19_command_C : Con := ⟨0, intaglioref19_command_T, intaglioref19_command_O, stdCn [.str] [[(.slc (.slc .str)), (.int .i64), (.int .i64)]] intaglioref19_command_MM, []⟩

def intaglioref19_Parse_L1_T : Tm := ⟨[(0, false, [.hole .str]), (2, false, [.ptr 0 0]), (3, false, [.ptr 1 0]), (4, false, [.hole (.int .i64)])], 54, [.box [.nils, .hole (.int .i64), .hole (.int .i64)], .box [.row 2, .hole (.int .i64), .hole (.int .i64)], .row (.slc .str)]⟩
def intaglioref19_Parse_L1_O : List (Ex × Tm) := [(.exit 0, ⟨[(2, false, [.ptr 0 0]), (3, false, [.ptr 1 0])], 54, [.box [.nils, .hole (.int .i64), .hole (.int .i64)], .box [.row 2, .hole (.int .i64), .hole (.int .i64)], .row (.slc .str)]⟩), (.ret, ⟨[(2, false, [.ptr 0 0])], 54, [.box [.hole (.slc (.slc .str)), .hole (.int .i64), .hole (.int .i64)], .box [.hole (.slc (.slc .str)), .hole (.int .i64), .hole (.int .i64)]]⟩)]
def intaglioref19_Parse_L1 (s0 : List UInt8) (s4 : Int) (m0_0 : Int) (m0_1 : Int) (m1_0 : Int) (m1_1 : Int) (r2 : List (List (List UInt8))) : Option (((List UInt8) × Int × Int × Int × Int × Int × (List (List (List UInt8)))) ⊕ ((Int × Int × Int × Int × (List (List (List UInt8)))) ⊕ ((List (List (List UInt8))) × Int × Int × (List (List (List UInt8))) × Int × Int))) :=
  if decide (s4 ≤ (((List.length s0) : Nat) : Int)) = true then
    Option.bind (sub s0 s4 (((List.length s0) : Nat) : Int)) fun (v0 : (List UInt8)) =>
    Option.bind (intaglioref19_command_P v0) fun (v1 : ((List (List (List UInt8))) × (Int × Int))) =>
    if (v1.snd.fst == (4 : Int)) = true then
      some (.inr (.inr (r2, m1_0, IntKind.wrap IntKind.i64 ((((List.length s0) : Nat) : Int) - s4), r2, m1_0, IntKind.wrap IntKind.i64 ((((List.length s0) : Nat) : Int) - s4))))
    else
    if (v1.snd.fst != (0 : Int)) = true then
      some (.inr (.inr (r2, v1.snd.fst, m1_1, r2, v1.snd.fst, m1_1)))
    else
    Option.bind (ix v1.fst (0 : Int)) fun (v2 : (List (List UInt8))) =>
    if decide ((((List.length v2) : Nat) : Int) > (0 : Int)) = true then
      Option.bind (ix v1.fst (0 : Int)) fun (v3 : (List (List UInt8))) =>
      Option.bind (room (24 : Nat) (List.length r2 + List.length [v3])) fun _ =>
      some (.inl (s0, IntKind.wrap IntKind.i64 (IntKind.wrap IntKind.i64 (IntKind.wrap IntKind.i64 ((((List.length s0) : Nat) : Int) - v1.snd.snd) - (1 : Int)) + (1 : Int)), m0_0, m0_1, m1_0, m1_1, r2 ++ [v3]))
    else
    some (.inl (s0, IntKind.wrap IntKind.i64 (IntKind.wrap IntKind.i64 (IntKind.wrap IntKind.i64 ((((List.length s0) : Nat) : Int) - v1.snd.snd) - (1 : Int)) + (1 : Int)), m0_0, m0_1, m1_0, m1_1, r2))
  else
  some (.inr (.inl (m0_0, m0_1, m1_0, m1_1, r2)))
def intaglioref19_Parse_L1_P : (List UInt8) × Int × Int × Int × Int × Int × (List (List (List UInt8))) → Option (((List UInt8) × Int × Int × Int × Int × Int × (List (List (List UInt8)))) ⊕ ((Int × Int × Int × Int × (List (List (List UInt8)))) ⊕ ((List (List (List UInt8))) × Int × Int × (List (List (List UInt8))) × Int × Int))) := fun p => intaglioref19_Parse_L1 p.1 p.2.1 p.2.2.1 p.2.2.2.1 p.2.2.2.2.1 p.2.2.2.2.2.1 p.2.2.2.2.2.2
def intaglioref19_Parse_L1_MM : HL [.str, (.int .i64), (.int .i64), (.int .i64), (.int .i64), (.int .i64), (.slc (.slc .str))] → Option (HL [.str, (.int .i64), (.int .i64), (.int .i64), (.int .i64), (.int .i64), (.slc (.slc .str))] ⊕ SumL [[(.int .i64), (.int .i64), (.int .i64), (.int .i64), (.slc (.slc .str))], [(.slc (.slc .str)), (.int .i64), (.int .i64), (.slc (.slc .str)), (.int .i64), (.int .i64)]]) := fun p => intaglioref19_Parse_L1 p.1 p.2.1 p.2.2.1 p.2.2.2.1 p.2.2.2.2.1 p.2.2.2.2.2.1 p.2.2.2.2.2.2
def intaglioref19_Parse_L1_C : Con := ⟨2, intaglioref19_Parse_L1_T, intaglioref19_Parse_L1_O, stdCn [.str, (.int .i64), (.int .i64), (.int .i64), (.int .i64), (.int .i64), (.slc (.slc .str))] [[(.int .i64), (.int .i64), (.int .i64), (.int .i64), (.slc (.slc .str))], [(.slc (.slc .str)), (.int .i64), (.int .i64), (.slc (.slc .str)), (.int .i64), (.int .i64)]] (loop intaglioref19_Parse_L1_MM), []⟩
def intaglioref19_Parse_T : Tm := ⟨[(0, false, [.hole .str])], 1, []⟩
def intaglioref19_Parse_O : List (Ex × Tm) := [(.ret, ⟨[(0, true, [.hole (.slc (.slc .str)), .hole (.int .i64), .hole (.int .i64)])], 1, []⟩)]
def intaglioref19_Parse_M (s0 : List UInt8) : Option ((List (List (List UInt8))) × Int × Int) :=
  Option.bind (loop intaglioref19_Parse_L1_P (s0, (0 : Int), (0 : Int), (0 : Int), (0 : Int), (0 : Int), [])) fun (v0 : ((Int × (Int × (Int × (Int × (List (List (List UInt8))))))) ⊕ ((List (List (List UInt8))) × (Int × (Int × ((List (List (List UInt8))) × (Int × Int))))))) =>
  Sum.elim (fun (v1 : (Int × (Int × (Int × (Int × (List (List (List UInt8)))))))) =>
      some (v1.snd.snd.snd.snd, v1.snd.snd.fst, v1.snd.snd.snd.fst)
    ) (fun (v2 : ((List (List (List UInt8))) × (Int × (Int × ((List (List (List UInt8))) × (Int × Int)))))) =>
    some (v2.fst, v2.snd.fst, v2.snd.snd.fst)
  ) (v0)
def intaglioref19_Parse_P : (List UInt8) → Option ((List (List (List UInt8))) × Int × Int) := fun p => intaglioref19_Parse_M p
def intaglioref19_Parse_MM : HL [.str] → Option (SumL [[(.slc (.slc .str)), (.int .i64), (.int .i64)]]) := fun p => intaglioref19_Parse_M p
def intaglioref19_Parse_C : Con := ⟨0, intaglioref19_Parse_T, intaglioref19_Parse_O, stdCn [.str] [[(.slc (.slc .str)), (.int .i64), (.int .i64)]] intaglioref19_Parse_MM, []⟩

def resp_Parser_Left_n_T : Tm := ⟨[(0, false, [.nilp])], 1, []⟩
def resp_Parser_Left_n_O : List (Ex × Tm) := [(.ret, ⟨[(0, false, [.hole (.int .i64)])], 1, []⟩)]
def resp_Parser_Left_n_M  : Option (Int) :=
  some ((0 : Int))
def resp_Parser_Left_n_P : Unit → Option (Int) := fun p => resp_Parser_Left_n_M 
def resp_Parser_Left_n_MM : HL [] → Option (SumL [[(.int .i64)]]) := fun p => resp_Parser_Left_n_M 
def resp_Parser_Left_n_C : Con := ⟨0, resp_Parser_Left_n_T, resp_Parser_Left_n_O, stdCn [] [[(.int .i64)]] resp_Parser_Left_n_MM, []⟩

def resp_Parser_Left_T : Tm := ⟨[(0, false, [.ptr 0 0])], 1, [.box [.row 1, .hole (.int .i64), .hole .bool], .row (.int .u8)]⟩
def resp_Parser_Left_O : List (Ex × Tm) := [(.ret, ⟨[(0, false, [.hole (.int .i64)])], 1, [.box [.row 1, .hole (.int .i64), .hole .bool], .row (.int .u8)]⟩)]
def resp_Parser_Left_M (m0_0 : Int) (m0_1 : Bool) (r1 : List Int) : Option (Int × Int × Bool × (List Int)) :=
  some ((((List.length r1) : Nat) : Int), m0_0, m0_1, r1)
def resp_Parser_Left_P : Int × Bool × (List Int) → Option (Int × Int × Bool × (List Int)) := fun p => resp_Parser_Left_M p.1 p.2.1 p.2.2
def resp_Parser_Left_MM : HL [(.int .i64), .bool, (.slc (.int .u8))] → Option (SumL [[(.int .i64), (.int .i64), .bool, (.slc (.int .u8))]]) := fun p => resp_Parser_Left_M p.1 p.2.1 p.2.2
def resp_Parser_Left_C : Con := ⟨1, resp_Parser_Left_T, resp_Parser_Left_O, stdCn [(.int .i64), .bool, (.slc (.int .u8))] [[(.int .i64), (.int .i64), .bool, (.slc (.int .u8))]] resp_Parser_Left_MM, []⟩

def intagliolaw19_RespParses_L1_T : Tm := ⟨[(0, false, [.hole (.slc (.slc (.int .u8)))]), (3, false, [.ptr 0 0]), (4, false, [.row 1]), (5, false, [.hole (.int .i64)]), (6, false, [.hole (.int .i64)])], 80, [.box [.row 2, .hole (.int .i64), .hole .bool], .row (.int .u8), .row (.int .u8)]⟩
def intagliolaw19_RespParses_L1_O : List (Ex × Tm) := [(.exit 0, ⟨[], 80, [.box [.row 1, .hole (.int .i64), .hole .bool], .row (.int .u8)]⟩), (.ret, ⟨[(2, false, [.hole .bool])], 80, [.box [.row 1, .hole (.int .i64), .hole .bool], .row (.int .u8)]⟩)]
def intagliolaw19_RespParses_L1 (s0 : List (List Int)) (s5 : Int) (s6 : Int) (m0_0 : Int) (m0_1 : Bool) (r1 : List Int) (r2 : List Int) : Option (((List (List Int)) × Int × Int × Int × Bool × (List Int) × (List Int)) ⊕ ((Int × Bool × (List Int)) ⊕ (Bool × Int × Bool × (List Int)))) :=
  if decide (s6 < (((List.length s0) : Nat) : Int)) = true then
    Option.bind (ix s0 s6) fun (v0 : (List Int)) =>
    if decide (IntKind.wrap IntKind.i64 ((((List.length v0) : Nat) : Int) + (((List.length r1) : Nat) : Int)) > (6000 : Int)) = true then
      Option.bind (intagliolaw19_awake_P ()) fun (v1 : Bool) =>
      some (.inr (.inr (v1, m0_0, m0_1, r2)))
    else
    Option.bind (ix s0 s6) fun (v2 : (List Int)) =>
    Option.bind (room (1 : Nat) (List.length r1 + List.length v2)) fun _ =>
    Option.bind (ix s0 s6) fun (v4 : (List Int)) =>
    Option.bind (resp_Parser_Feed_P (v4, m0_0, m0_1, r2)) fun (v5 : (Int × (Int × (Bool × ((List (List (List UInt8))) × (List Int)))))) =>
    Option.bind (intaglioref19_Parse_P (b8 (r1 ++ v2))) fun (v6 : ((List (List (List UInt8))) × (Int × Int))) =>
    if decide ((((List.length v6.fst) : Nat) : Int) < s5) = true then
      some (.inr (.inr (false, v5.snd.fst, v5.snd.snd.fst, v5.snd.snd.snd.snd)))
    else
    Option.bind (sub v6.fst s5 (((List.length v6.fst) : Nat) : Int)) fun (v7 : (List (List (List UInt8)))) =>
    Option.bind (intaglioref19_SameCommands_P (v5.snd.snd.snd.fst, v7)) fun (v8 : Bool) =>
    if (!v8) = true then
      some (.inr (.inr (false, v5.snd.fst, v5.snd.snd.fst, v5.snd.snd.snd.snd)))
    else
    if (v5.fst != v6.snd.fst) = true then
      some (.inr (.inr (false, v5.snd.fst, v5.snd.snd.fst, v5.snd.snd.snd.snd)))
    else
    Option.bind (resp_Parser_Left_P (v5.snd.fst, v5.snd.snd.fst, v5.snd.snd.snd.snd)) fun (v9 : (Int × (Int × (Bool × (List Int))))) =>
    if (v9.fst != v6.snd.snd) = true then
      some (.inr (.inr (false, v9.snd.fst, v9.snd.snd.fst, v9.snd.snd.snd)))
    else
    some (.inl (s0, (((List.length v6.fst) : Nat) : Int), IntKind.wrap IntKind.i64 (s6 + (1 : Int)), v9.snd.fst, v9.snd.snd.fst, r1 ++ v2, v9.snd.snd.snd))
  else
  some (.inr (.inl (m0_0, m0_1, r2)))
def intagliolaw19_RespParses_L1_P : (List (List Int)) × Int × Int × Int × Bool × (List Int) × (List Int) → Option (((List (List Int)) × Int × Int × Int × Bool × (List Int) × (List Int)) ⊕ ((Int × Bool × (List Int)) ⊕ (Bool × Int × Bool × (List Int)))) := fun p => intagliolaw19_RespParses_L1 p.1 p.2.1 p.2.2.1 p.2.2.2.1 p.2.2.2.2.1 p.2.2.2.2.2.1 p.2.2.2.2.2.2
def intagliolaw19_RespParses_L1_MM : HL [(.slc (.slc (.int .u8))), (.int .i64), (.int .i64), (.int .i64), .bool, (.slc (.int .u8)), (.slc (.int .u8))] → Option (HL [(.slc (.slc (.int .u8))), (.int .i64), (.int .i64), (.int .i64), .bool, (.slc (.int .u8)), (.slc (.int .u8))] ⊕ SumL [[(.int .i64), .bool, (.slc (.int .u8))], [.bool, (.int .i64), .bool, (.slc (.int .u8))]]) := fun p => intagliolaw19_RespParses_L1 p.1 p.2.1 p.2.2.1 p.2.2.2.1 p.2.2.2.2.1 p.2.2.2.2.2.1 p.2.2.2.2.2.2
def intagliolaw19_RespParses_L1_C : Con := ⟨1, intagliolaw19_RespParses_L1_T, intagliolaw19_RespParses_L1_O, stdCn [(.slc (.slc (.int .u8))), (.int .i64), (.int .i64), (.int .i64), .bool, (.slc (.int .u8)), (.slc (.int .u8))] [[(.int .i64), .bool, (.slc (.int .u8))], [.bool, (.int .i64), .bool, (.slc (.int .u8))]] (loop intagliolaw19_RespParses_L1_MM), []⟩
def intagliolaw19_RespParses_T : Tm := ⟨[(0, false, [.hole (.slc (.slc (.int .u8)))])], 1, []⟩
def intagliolaw19_RespParses_O : List (Ex × Tm) := [(.ret, ⟨[(0, false, [.hole .bool])], 1, []⟩)]
def intagliolaw19_RespParses_M (s0 : List (List Int)) : Option (Bool) :=
  if decide ((((List.length s0) : Nat) : Int) > (40 : Int)) = true then
    Option.bind (intagliolaw19_awake_P ()) fun (v0 : Bool) =>
    some (v0)
  else
  Option.bind (resp_New_P ()) fun (v1 : (Int × (Bool × (List Int)))) =>
  Option.bind (loop intagliolaw19_RespParses_L1_P (s0, (0 : Int), (0 : Int), v1.fst, v1.snd.fst, [], v1.snd.snd)) fun (v2 : ((Int × (Bool × (List Int))) ⊕ (Bool × (Int × (Bool × (List Int)))))) =>
  Sum.elim (fun (v3 : (Int × (Bool × (List Int)))) =>
      Option.bind (intagliolaw19_awake_P ()) fun (v5 : Bool) =>
      some (v5)
    ) (fun (v4 : (Bool × (Int × (Bool × (List Int))))) =>
    some (v4.fst)
  ) (v2)
def intagliolaw19_RespParses_P : (List (List Int)) → Option (Bool) := fun p => intagliolaw19_RespParses_M p
def intagliolaw19_RespParses_MM : HL [(.slc (.slc (.int .u8)))] → Option (SumL [[.bool]]) := fun p => intagliolaw19_RespParses_M p
def intagliolaw19_RespParses_C : Con := ⟨0, intagliolaw19_RespParses_T, intagliolaw19_RespParses_O, stdCn [(.slc (.slc (.int .u8)))] [[.bool]] intagliolaw19_RespParses_MM, []⟩

def intagliolaw19_RespPieces_T : Tm := ⟨[(0, false, [.hole (.slc (.int .u8))]), (1, true, [.hole (.arr 2 (.int .u16))])], 2, []⟩
def intagliolaw19_RespPieces_O : List (Ex × Tm) := [(.ret, ⟨[(0, false, [.hole .bool])], 1, []⟩)]
def intagliolaw19_RespPieces_M (s0 : List Int) (s1 : Arr 2 Int) : Option (Bool) :=
  if decide ((((List.length s0) : Nat) : Int) > (6000 : Int)) = true then
    Option.bind (intagliolaw19_awake_P ()) fun (v0 : Bool) =>
    some (v0)
  else
  Option.bind (inb (2 : Nat) (0 : Int)) fun _ =>
  Option.bind (grem IntKind.i64 (IntKind.wrap IntKind.i64 (List.getD s1.val (nat_lit 0) (0 : Int))) (IntKind.wrap IntKind.i64 ((((List.length s0) : Nat) : Int) + (1 : Int)))) fun (v2 : Int) =>
  Option.bind (inb (2 : Nat) (1 : Int)) fun _ =>
  Option.bind (grem IntKind.i64 (IntKind.wrap IntKind.i64 (List.getD s1.val (nat_lit 1) (0 : Int))) (IntKind.wrap IntKind.i64 (IntKind.wrap IntKind.i64 ((((List.length s0) : Nat) : Int) - v2) + (1 : Int)))) fun (v4 : Int) =>
  Option.bind (resp_New_P ()) fun (v5 : (Int × (Bool × (List Int)))) =>
  Option.bind (resp_New_P ()) fun (v6 : (Int × (Bool × (List Int)))) =>
  Option.bind (resp_Parser_Feed_P (s0, v5.fst, v5.snd.fst, v5.snd.snd)) fun (v7 : (Int × (Int × (Bool × ((List (List (List UInt8))) × (List Int)))))) =>
  Option.bind (sub s0 (0 : Int) v2) fun (v8 : (List Int)) =>
  Option.bind (resp_Parser_Feed_P (v8, v6.fst, v6.snd.fst, v6.snd.snd)) fun (v9 : (Int × (Int × (Bool × ((List (List (List UInt8))) × (List Int)))))) =>
  Option.bind (sub s0 v2 (IntKind.wrap IntKind.i64 (v2 + v4))) fun (v10 : (List Int)) =>
  Option.bind (resp_Parser_Feed_P (v10, v9.snd.fst, v9.snd.snd.fst, v9.snd.snd.snd.snd)) fun (v11 : (Int × (Int × (Bool × ((List (List (List UInt8))) × (List Int)))))) =>
  Option.bind (sub s0 (IntKind.wrap IntKind.i64 (v2 + v4)) (((List.length s0) : Nat) : Int)) fun (v12 : (List Int)) =>
  Option.bind (resp_Parser_Feed_P (v12, v11.snd.fst, v11.snd.snd.fst, v11.snd.snd.snd.snd)) fun (v13 : (Int × (Int × (Bool × ((List (List (List UInt8))) × (List Int)))))) =>
  Option.bind (room (24 : Nat) ((0 : Nat) + List.length v9.snd.snd.snd.fst)) fun _ =>
  Option.bind (room (24 : Nat) (List.length ([] ++ v9.snd.snd.snd.fst) + List.length v11.snd.snd.snd.fst)) fun _ =>
  Option.bind (room (24 : Nat) (List.length ([] ++ v9.snd.snd.snd.fst ++ v11.snd.snd.snd.fst) + List.length v13.snd.snd.snd.fst)) fun _ =>
  Option.bind (intaglioref19_SameCommands_P (v7.snd.snd.snd.fst, [] ++ v9.snd.snd.snd.fst ++ v11.snd.snd.snd.fst ++ v13.snd.snd.snd.fst)) fun (v17 : Bool) =>
  if v17 = true then
    if (v7.fst == v13.fst) = true then
      Option.bind (resp_Parser_Left_P (v7.snd.fst, v7.snd.snd.fst, v7.snd.snd.snd.snd)) fun (v18 : (Int × (Int × (Bool × (List Int))))) =>
      Option.bind (resp_Parser_Left_P (v13.snd.fst, v13.snd.snd.fst, v13.snd.snd.snd.snd)) fun (v19 : (Int × (Int × (Bool × (List Int))))) =>
      if (v18.fst == v19.fst) = true then
        Option.bind (intagliolaw19_awake_P ()) fun (v20 : Bool) =>
        some (v20)
      else
      some (false)
    else
    some (false)
  else
  some (false)
def intagliolaw19_RespPieces_P : (List Int) × (Arr 2 Int) → Option (Bool) := fun p => intagliolaw19_RespPieces_M p.1 p.2
def intagliolaw19_RespPieces_MM : HL [(.slc (.int .u8)), (.arr 2 (.int .u16))] → Option (SumL [[.bool]]) := fun p => intagliolaw19_RespPieces_M p.1 p.2
def intagliolaw19_RespPieces_C : Con := ⟨0, intagliolaw19_RespPieces_T, intagliolaw19_RespPieces_O, stdCn [(.slc (.int .u8)), (.arr 2 (.int .u16))] [[.bool]] intagliolaw19_RespPieces_MM, []⟩

def intagliolaw19_RespNobody_T : Tm := ⟨[(0, false, [.hole (.slc (.int .u8))]), (1, false, [.hole (.slc (.int .u8))])], 2, []⟩
def intagliolaw19_RespNobody_O : List (Ex × Tm) := [(.ret, ⟨[(0, false, [.hole .bool])], 1, []⟩)]
def intagliolaw19_RespNobody_M (s0 : List Int) (s1 : List Int) : Option (Bool) :=
  if decide ((((List.length s0) : Nat) : Int) > (6000 : Int)) = true then
    Option.bind (intagliolaw19_awake_P ()) fun (v0 : Bool) =>
    some (v0)
  else
  if decide ((((List.length s1) : Nat) : Int) > (6000 : Int)) = true then
    Option.bind (intagliolaw19_awake_P ()) fun (v1 : Bool) =>
    some (v1)
  else
  Option.bind (inb (nat_lit 2) (0 : Int)) fun _ =>
  Option.bind (resp_Parser_Feed_n_P s0) fun (v3 : Int) =>
  Option.bind (inb (nat_lit 2) (0 : Int)) fun _ =>
  Option.bind (resp_Parser_Left_n_P ()) fun (v5 : Int) =>
  if (IntKind.wrap IntKind.i64 ((0 : Int) + v5) != (0 : Int)) = true then
    some (false)
  else
  if (v3 != (2 : Int)) = true then
    some (false)
  else
  Option.bind (inb (nat_lit 2) (1 : Int)) fun _ =>
  Option.bind (resp_Parser_Feed_P (s0, (0 : Int), false, [])) fun (v7 : (Int × (Int × (Bool × ((List (List (List UInt8))) × (List Int)))))) =>
  Option.bind (inb (nat_lit 2) (1 : Int)) fun _ =>
  Option.bind (resp_Parser_Left_P (v7.snd.fst, v7.snd.snd.fst, v7.snd.snd.snd.snd)) fun (v9 : (Int × (Int × (Bool × (List Int))))) =>
  if (IntKind.wrap IntKind.i64 ((((List.length v7.snd.snd.snd.fst) : Nat) : Int) + v9.fst) != (0 : Int)) = true then
    some (false)
  else
  if (v7.fst != (2 : Int)) = true then
    some (false)
  else
  Option.bind (resp_New_P ()) fun (v10 : (Int × (Bool × (List Int)))) =>
  Option.bind (resp_Parser_Feed_P (s0, v10.fst, v10.snd.fst, v10.snd.snd)) fun (v11 : (Int × (Int × (Bool × ((List (List (List UInt8))) × (List Int)))))) =>
  if (v11.fst == (0 : Int)) = true then
    Option.bind (intagliolaw19_awake_P ()) fun (v12 : Bool) =>
    some (v12)
  else
  Option.bind (resp_Parser_Feed_P (s1, v11.snd.fst, v11.snd.snd.fst, v11.snd.snd.snd.snd)) fun (v13 : (Int × (Int × (Bool × ((List (List (List UInt8))) × (List Int)))))) =>
  Option.bind (resp_Parser_Left_P (v13.snd.fst, v13.snd.snd.fst, v13.snd.snd.snd.snd)) fun (v14 : (Int × (Int × (Bool × (List Int))))) =>
  if (IntKind.wrap IntKind.i64 ((((List.length v13.snd.snd.snd.fst) : Nat) : Int) + v14.fst) == (0 : Int)) = true then
    if (v13.fst == v11.fst) = true then
      Option.bind (intagliolaw19_awake_P ()) fun (v15 : Bool) =>
      some (v15)
    else
    some (false)
  else
  some (false)
def intagliolaw19_RespNobody_P : (List Int) × (List Int) → Option (Bool) := fun p => intagliolaw19_RespNobody_M p.1 p.2
def intagliolaw19_RespNobody_MM : HL [(.slc (.int .u8)), (.slc (.int .u8))] → Option (SumL [[.bool]]) := fun p => intagliolaw19_RespNobody_M p.1 p.2
def intagliolaw19_RespNobody_C : Con := ⟨0, intagliolaw19_RespNobody_T, intagliolaw19_RespNobody_O, stdCn [(.slc (.int .u8)), (.slc (.int .u8))] [[.bool]] intagliolaw19_RespNobody_MM, []⟩
end
end Go.Proofs.YtlkcgjablhpfcaaDoor
