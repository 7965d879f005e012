/- Plain models of Go functions (Put). -/
import Derived.Test.YtcpddgjmopdlbaaExt
namespace Go.Proofs.Ytcpddgjmopdlbaa
open Go Go.Lift
set_option maxRecDepth 100000
set_option maxHeartbeats 4000000
set_option linter.unusedVariables false

def pack_high_uint64_L1 (p1 : Int) (l33 : List Int) (x34 : Int) : Option (((List Int) × Int) ⊕ (List Int)) :=
  if (decide (x34 ≥ 0)) = true then
    Option.bind (gshr .u64 p1 (IntKind.i64.wrap (8 * x34))) fun z37 =>
    Option.bind (room 1 (l33.length + [(IntKind.u8.wrap (z37))].length)) fun _ =>
    some (.inl ((l33 ++ [(IntKind.u8.wrap (z37))]), (IntKind.i64.wrap (x34 - 1))))
  else
    some (.inr l33)

def pack_high_uint64_J1 (l46 : List Int) : Option (List Int) :=
  some l46

def pack_high_uint64_M (p0 : List Int) (p1 : Int) (p2 : Int) : Option (List Int) :=
  Option.bind (room 1 (([] : List Int).length + p0.length)) fun _ =>
  Option.bind (loop (fun (s : ((List Int) × Int)) => pack_high_uint64_L1 p1 s.1 s.2) (([] ++ p0), (IntKind.i64.wrap (p2 - 1)))) (fun q48 => pack_high_uint64_J1 q48)

def pack_Put64_M (p0 : List Int) (p1 : Int) : Option (List Int) :=
  Option.bind (pack_high_uint64_M p0 p1 8) fun v1 =>
  some v1

def pack_PutNum_M (p0 : List Int) (p1 : Int) : Option (List Int) :=
  Option.bind (pack_Put64_M p0 (IntKind.u64.wrap ((if 0 > p1 then 0 else p1)))) fun v1 =>
  some v1

end Go.Proofs.Ytcpddgjmopdlbaa
