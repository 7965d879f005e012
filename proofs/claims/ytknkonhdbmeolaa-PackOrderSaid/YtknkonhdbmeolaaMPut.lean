/- Plain models of Go functions (Put). -/
import Derived.Test.YtknkonhdbmeolaaExt
namespace Go.Proofs.Ytknkonhdbmeolaa
open Go Go.Lift
set_option maxRecDepth 100000
set_option maxHeartbeats 4000000
set_option linter.unusedVariables false

def pack_high_uint32_L1 (p1 : Int) (l33 : List Int) (x34 : Int) : Option (((List Int) × Int) ⊕ (List Int)) :=
  if (decide (x34 ≥ 0)) = true then
    Option.bind (gshr .u32 p1 (IntKind.i64.wrap (8 * x34))) fun z37 =>
    Option.bind (room 1 (l33.length + [(IntKind.u8.wrap (z37))].length)) fun _ =>
    some (.inl ((l33 ++ [(IntKind.u8.wrap (z37))]), (IntKind.i64.wrap (x34 - 1))))
  else
    some (.inr l33)

def pack_high_uint32_J1 (l46 : List Int) : Option (List Int) :=
  some l46

def pack_high_uint32_M (p0 : List Int) (p1 : Int) (p2 : Int) : Option (List Int) :=
  Option.bind (room 1 (([] : List Int).length + p0.length)) fun _ =>
  Option.bind (loop (fun (s : ((List Int) × Int)) => pack_high_uint32_L1 p1 s.1 s.2) (([] ++ p0), (IntKind.i64.wrap (p2 - 1)))) (fun q48 => pack_high_uint32_J1 q48)

def pack_high_uint64_L1 (p1 : Int) (l33 : List Int) (x34 : Int) : Option (((List Int) × Int) ⊕ (List Int)) :=
  if (decide (x34 ≥ 0)) = true then
    Option.bind (gshr .u64 p1 (IntKind.i64.wrap (8 * x34))) fun z37 =>
    Option.bind (room 1 (l33.length + [(IntKind.u8.wrap (z37))].length)) fun _ =>
    some (.inl ((l33 ++ [(IntKind.u8.wrap (z37))]), (IntKind.i64.wrap (x34 - 1))))
  else
    some (.inr l33)

def pack_high_uint64_J1 (l46 : List Int) : Option (List Int) :=
  some l46

def pack_high_uint64_M (p0 : List Int) (p1 : Int) (p2 : Int) : Option (List Int) :=
  Option.bind (room 1 (([] : List Int).length + p0.length)) fun _ =>
  Option.bind (loop (fun (s : ((List Int) × Int)) => pack_high_uint64_L1 p1 s.1 s.2) (([] ++ p0), (IntKind.i64.wrap (p2 - 1)))) (fun q48 => pack_high_uint64_J1 q48)

def pack_Put32_M (p0 : List Int) (p1 : Int) : Option (List Int) :=
  Option.bind (pack_high_uint32_M p0 p1 4) fun v1 =>
  some v1

def pack_Put64_M (p0 : List Int) (p1 : Int) : Option (List Int) :=
  Option.bind (pack_high_uint64_M p0 p1 8) fun v1 =>
  some v1

def pack_PutNum_M (p0 : List Int) (p1 : Int) : Option (List Int) :=
  Option.bind (pack_Put64_M p0 (IntKind.u64.wrap ((if 0 > p1 then 0 else p1)))) fun v1 =>
  some v1

def pack_Put_M (p0 : List Int) (p1 : List Int) : Option (List Int) :=
  Option.bind (pack_Put32_M p0 (IntKind.u32.wrap ((p1.length : Int)))) fun v1 =>
  Option.bind (room 1 (v1.length + p1.length)) fun _ =>
  some (v1 ++ p1)

def pack_low_uint32_L1 (p1 : Int) (p2 : Int) (l33 : List Int) (x34 : Int) : Option (((List Int) × Int) ⊕ (List Int)) :=
  if (decide (x34 < p2)) = true then
    Option.bind (gshr .u32 p1 (IntKind.i64.wrap (8 * x34))) fun z37 =>
    Option.bind (room 1 (l33.length + [(IntKind.u8.wrap (z37))].length)) fun _ =>
    some (.inl ((l33 ++ [(IntKind.u8.wrap (z37))]), (IntKind.i64.wrap (x34 + 1))))
  else
    some (.inr l33)

def pack_low_uint32_J1 (l46 : List Int) : Option (List Int) :=
  some l46

def pack_low_uint32_M (p0 : List Int) (p1 : Int) (p2 : Int) : Option (List Int) :=
  Option.bind (room 1 (([] : List Int).length + p0.length)) fun _ =>
  Option.bind (loop (fun (s : ((List Int) × Int)) => pack_low_uint32_L1 p1 p2 s.1 s.2) (([] ++ p0), 0)) (fun q48 => pack_low_uint32_J1 q48)

def pack_low_uint64_L1 (p1 : Int) (p2 : Int) (l33 : List Int) (x34 : Int) : Option (((List Int) × Int) ⊕ (List Int)) :=
  if (decide (x34 < p2)) = true then
    Option.bind (gshr .u64 p1 (IntKind.i64.wrap (8 * x34))) fun z37 =>
    Option.bind (room 1 (l33.length + [(IntKind.u8.wrap (z37))].length)) fun _ =>
    some (.inl ((l33 ++ [(IntKind.u8.wrap (z37))]), (IntKind.i64.wrap (x34 + 1))))
  else
    some (.inr l33)

def pack_low_uint64_J1 (l46 : List Int) : Option (List Int) :=
  some l46

def pack_low_uint64_M (p0 : List Int) (p1 : Int) (p2 : Int) : Option (List Int) :=
  Option.bind (room 1 (([] : List Int).length + p0.length)) fun _ =>
  Option.bind (loop (fun (s : ((List Int) × Int)) => pack_low_uint64_L1 p1 p2 s.1 s.2) (([] ++ p0), 0)) (fun q48 => pack_low_uint64_J1 q48)

def pack_PutLe32_M (p0 : List Int) (p1 : Int) : Option (List Int) :=
  Option.bind (pack_low_uint32_M p0 p1 4) fun v1 =>
  some v1

def pack_PutLe64_M (p0 : List Int) (p1 : Int) : Option (List Int) :=
  Option.bind (pack_low_uint64_M p0 p1 8) fun v1 =>
  some v1

def pack_take_J1 (p0 : List Int) (p1 : Int) (x20 : Int) (x21 : Int) (x25 : Bool) : Option ((Int × Int) ⊕ Int) :=
  if x25 = true then
    Option.bind (ix p0 (IntKind.i64.wrap (p1 + x21))) fun y28 =>
    Option.bind (gshl .u64 (IntKind.u64.wrap (y28)) (IntKind.i64.wrap (8 * x21))) fun z33 =>
    some (.inl ((bor .u64 x20 z33), (IntKind.i64.wrap (x21 + 1))))
  else
    some (.inl (x20, (IntKind.i64.wrap (x21 + 1))))

def pack_take_L1 (p0 : List Int) (p1 : Int) (p2 : Int) (x20 : Int) (x21 : Int) : Option ((Int × Int) ⊕ Int) :=
  if (decide (x21 < p2)) = true then
    if (decide (p1 ≥ 0)) = true then
      pack_take_J1 p0 p1 x20 x21 (decide (p1 < (IntKind.i64.wrap ((p0.length : Int) - x21))))
    else
      pack_take_J1 p0 p1 x20 x21 false
  else
    some (.inr x20)

def pack_take_J2 (x35 : Int) : Option (Int) :=
  some x35

def pack_take_M (p0 : List Int) (p1 : Int) (p2 : Int) : Option (Int) :=
  Option.bind (loop (fun (s : (Int × Int)) => pack_take_L1 p0 p1 p2 s.1 s.2) (0, 0)) (fun q37 => pack_take_J2 q37)

def pack_Le32_M (p0 : List Int) (p1 : Int) : Option (Int) :=
  Option.bind (pack_take_M p0 p1 4) fun v1 =>
  some (IntKind.u32.wrap (v1))

def pack_Le64_M (p0 : List Int) (p1 : Int) : Option (Int) :=
  Option.bind (pack_take_M p0 p1 8) fun v1 =>
  some v1

def pack_Join_L1 (p0 : List (List Int)) (l38 : List Int) (x39 : Int) : Option (((List Int) × Int) ⊕ (List Int)) :=
  if (decide (x39 < (p0.length : Int))) = true then
    Option.bind (ix p0 x39) fun y42 =>
    Option.bind (room 1 (l38.length + y42.length)) fun _ =>
    some (.inl ((l38 ++ y42), (IntKind.i64.wrap (x39 + 1))))
  else
    some (.inr l38)

def pack_Join_J1 (l55 : List Int) : Option (List Int) :=
  some l55

def pack_Join_M (p0 : List (List Int)) : Option (List Int) :=
  Option.bind (loop (fun (s : ((List Int) × Int)) => pack_Join_L1 p0 s.1 s.2) ([], 0)) (fun q57 => pack_Join_J1 q57)

end Go.Proofs.Ytknkonhdbmeolaa
