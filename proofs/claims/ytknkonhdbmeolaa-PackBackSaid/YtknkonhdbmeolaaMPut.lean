/- Plain models of Go functions (Put). -/
import Derived.Test.YtknkonhdbmeolaaMore
namespace Go.Proofs.Ytknkonhdbmeolaa
open Go Go.Lift
set_option maxRecDepth 100000
set_option maxHeartbeats 4000000
set_option linter.unusedVariables false

def pack_high_uint32_L1 (p1 : Int) (l72 : List Int) (x73 : Int) : Option (((List Int) × Int) ⊕ (List Int)) :=
  if (decide (x73 ≥ 0)) = true then
    Option.bind (gshr .u32 p1 (IntKind.i64.wrap (8 * x73))) fun z91 =>
    Option.bind (room 1 (l72.length + [(IntKind.u8.wrap (z91))].length)) fun _ =>
    some (.inl ((l72 ++ [(IntKind.u8.wrap (z91))]), (IntKind.i64.wrap (x73 - 1))))
  else
    some (.inr l72)

def pack_high_uint32_J1 (l104 : List Int) : Option (List Int) :=
  some l104

def pack_high_uint32_M (p0 : List Int) (p1 : Int) (p2 : Int) : Option (List Int) :=
  Option.bind (room 1 (([] : List Int).length + p0.length)) fun _ =>
  Option.bind (loop (fun (s : ((List Int) × Int)) => pack_high_uint32_L1 p1 s.1 s.2) (([] ++ p0), (IntKind.i64.wrap (p2 - 1)))) (fun q122 => pack_high_uint32_J1 q122)

def pack_high_uint64_L1 (p1 : Int) (l72 : List Int) (x73 : Int) : Option (((List Int) × Int) ⊕ (List Int)) :=
  if (decide (x73 ≥ 0)) = true then
    Option.bind (gshr .u64 p1 (IntKind.i64.wrap (8 * x73))) fun z91 =>
    Option.bind (room 1 (l72.length + [(IntKind.u8.wrap (z91))].length)) fun _ =>
    some (.inl ((l72 ++ [(IntKind.u8.wrap (z91))]), (IntKind.i64.wrap (x73 - 1))))
  else
    some (.inr l72)

def pack_high_uint64_J1 (l104 : List Int) : Option (List Int) :=
  some l104

def pack_high_uint64_M (p0 : List Int) (p1 : Int) (p2 : Int) : Option (List Int) :=
  Option.bind (room 1 (([] : List Int).length + p0.length)) fun _ =>
  Option.bind (loop (fun (s : ((List Int) × Int)) => pack_high_uint64_L1 p1 s.1 s.2) (([] ++ p0), (IntKind.i64.wrap (p2 - 1)))) (fun q122 => pack_high_uint64_J1 q122)

def pack_Put32_M (p0 : List Int) (p1 : Int) : Option (List Int) :=
  Option.bind (pack_high_uint32_M p0 p1 4) fun v1 =>
  some v1

def pack_Put64_M (p0 : List Int) (p1 : Int) : Option (List Int) :=
  Option.bind (pack_high_uint64_M p0 p1 8) fun v1 =>
  some v1

def pack_PutNum_M (p0 : List Int) (p1 : Int) : Option (List Int) :=
  Option.bind (pack_Put64_M p0 (IntKind.u64.wrap ((if 0 > p1 then 0 else p1)))) fun v1 =>
  some v1

def pack_Put_M (p0 : List Int) (p1 : List Int) : Option (List Int) :=
  Option.bind (pack_Put32_M p0 (IntKind.u32.wrap ((p1.length : Int)))) fun v1 =>
  Option.bind (room 1 (v1.length + p1.length)) fun _ =>
  some (v1 ++ p1)

def pack_low_uint32_L1 (p1 : Int) (p2 : Int) (l68 : List Int) (x72 : Int) : Option (((List Int) × Int) ⊕ (List Int)) :=
  if (decide (x72 < p2)) = true then
    Option.bind (gshr .u32 p1 (IntKind.i64.wrap (8 * x72))) fun z85 =>
    Option.bind (room 1 (l68.length + [(IntKind.u8.wrap (z85))].length)) fun _ =>
    some (.inl ((l68 ++ [(IntKind.u8.wrap (z85))]), (IntKind.i64.wrap (x72 + 1))))
  else
    some (.inr l68)

def pack_low_uint32_J1 (l98 : List Int) : Option (List Int) :=
  some l98

def pack_low_uint32_M (p0 : List Int) (p1 : Int) (p2 : Int) : Option (List Int) :=
  Option.bind (room 1 (([] : List Int).length + p0.length)) fun _ =>
  Option.bind (loop (fun (s : ((List Int) × Int)) => pack_low_uint32_L1 p1 p2 s.1 s.2) (([] ++ p0), 0)) (fun q115 => pack_low_uint32_J1 q115)

def pack_low_uint64_L1 (p1 : Int) (p2 : Int) (l68 : List Int) (x72 : Int) : Option (((List Int) × Int) ⊕ (List Int)) :=
  if (decide (x72 < p2)) = true then
    Option.bind (gshr .u64 p1 (IntKind.i64.wrap (8 * x72))) fun z85 =>
    Option.bind (room 1 (l68.length + [(IntKind.u8.wrap (z85))].length)) fun _ =>
    some (.inl ((l68 ++ [(IntKind.u8.wrap (z85))]), (IntKind.i64.wrap (x72 + 1))))
  else
    some (.inr l68)

def pack_low_uint64_J1 (l98 : List Int) : Option (List Int) :=
  some l98

def pack_low_uint64_M (p0 : List Int) (p1 : Int) (p2 : Int) : Option (List Int) :=
  Option.bind (room 1 (([] : List Int).length + p0.length)) fun _ =>
  Option.bind (loop (fun (s : ((List Int) × Int)) => pack_low_uint64_L1 p1 p2 s.1 s.2) (([] ++ p0), 0)) (fun q115 => pack_low_uint64_J1 q115)

def pack_PutLe32_M (p0 : List Int) (p1 : Int) : Option (List Int) :=
  Option.bind (pack_low_uint32_M p0 p1 4) fun v1 =>
  some v1

def pack_PutLe64_M (p0 : List Int) (p1 : Int) : Option (List Int) :=
  Option.bind (pack_low_uint64_M p0 p1 8) fun v1 =>
  some v1

def pack_take_J1 (p0 : List Int) (p1 : Int) (x59 : Int) (x61 : Int) (x100 : Bool) : Option ((Int × Int) ⊕ Int) :=
  if x100 = true then
    Option.bind (ix p0 (IntKind.i64.wrap (p1 + x61))) fun y102 =>
    Option.bind (gshl .u64 (IntKind.u64.wrap (y102)) (IntKind.i64.wrap (8 * x61))) fun z107 =>
    some (.inl ((bor .u64 x59 z107), (IntKind.i64.wrap (x61 + 1))))
  else
    some (.inl (x59, (IntKind.i64.wrap (x61 + 1))))

def pack_take_L1 (p0 : List Int) (p1 : Int) (p2 : Int) (x59 : Int) (x61 : Int) : Option ((Int × Int) ⊕ Int) :=
  if (decide (x61 < p2)) = true then
    if (decide (p1 ≥ 0)) = true then
      pack_take_J1 p0 p1 x59 x61 (decide (p1 < (IntKind.i64.wrap ((p0.length : Int) - x61))))
    else
      pack_take_J1 p0 p1 x59 x61 false
  else
    some (.inr x59)

def pack_take_J2 (x113 : Int) : Option (Int) :=
  some x113

def pack_take_M (p0 : List Int) (p1 : Int) (p2 : Int) : Option (Int) :=
  Option.bind (loop (fun (s : (Int × Int)) => pack_take_L1 p0 p1 p2 s.1 s.2) (0, 0)) (fun q142 => pack_take_J2 q142)

def pack_Le32_M (p0 : List Int) (p1 : Int) : Option (Int) :=
  Option.bind (pack_take_M p0 p1 4) fun v1 =>
  some (IntKind.u32.wrap (v1))

def pack_Le64_M (p0 : List Int) (p1 : Int) : Option (Int) :=
  Option.bind (pack_take_M p0 p1 8) fun v1 =>
  some v1

def pack_Join_L1 (p0 : List (List Int)) (l58 : List Int) (x60 : Int) : Option (((List Int) × Int) ⊕ (List Int)) :=
  if (decide (x60 < (p0.length : Int))) = true then
    Option.bind (ix p0 x60) fun y69 =>
    Option.bind (room 1 (l58.length + y69.length)) fun _ =>
    some (.inl ((l58 ++ y69), (IntKind.i64.wrap (x60 + 1))))
  else
    some (.inr l58)

def pack_Join_J1 (l84 : List Int) : Option (List Int) :=
  some l84

def pack_Join_M (p0 : List (List Int)) : Option (List Int) :=
  Option.bind (loop (fun (s : ((List Int) × Int)) => pack_Join_L1 p0 s.1 s.2) ([], 0)) (fun q96 => pack_Join_J1 q96)

end Go.Proofs.Ytknkonhdbmeolaa
