/- Plain models of Go functions (Ref). -/
import Derived.Test.YtcpddgjmopdlbaaExt
namespace Go.Proofs.Ytcpddgjmopdlbaa
open Go Go.Lift
set_option maxRecDepth 100000
set_option maxHeartbeats 4000000
set_option linter.unusedVariables false

def intaglioref01_Both_M (p0 : List Int) (p1 : List Int) : Option (List Int) :=
  Option.bind (room 1 (([] : List Int).length + p0.length)) fun _ =>
  Option.bind (room 1 (([] ++ p0).length + p1.length)) fun _ =>
  some (([] ++ p0) ++ p1)

def intaglioref01_High_L1 (p1 : Int) (x30 : Int) (l33 : List Int) (x34 : Int) : Option ((Int × (List Int) × Int) ⊕ (List Int)) :=
  if (decide (x34 < p1)) = true then
    Option.bind (ix l33 (IntKind.i64.wrap ((IntKind.i64.wrap (p1 - 1)) - x34))) fun y37 =>
    some (.inl ((IntKind.u64.wrap (Int.tdiv x30 256)), (l33.set (Int.toNat (IntKind.i64.wrap ((IntKind.i64.wrap (p1 - 1)) - x34))) (IntKind.u8.wrap ((Int.tmod x30 256)))), (IntKind.i64.wrap (x34 + 1))))
  else
    some (.inr l33)

def intaglioref01_High_J1 (l44 : List Int) : Option (List Int) :=
  some l44

def intaglioref01_High_M (p0 : Int) (p1 : Int) : Option (List Int) :=
  Option.bind (mk 1 p1) fun m1 =>
  Option.bind (loop (fun (s : (Int × (List Int) × Int)) => intaglioref01_High_L1 p1 s.1 s.2.1 s.2.2) (p0, (List.replicate m1 (0 : Int)), 0)) (fun q46 => intaglioref01_High_J1 q46)

def intaglioref01_Put64_M (p0 : List Int) (p1 : Int) : Option (List Int) :=
  Option.bind (intaglioref01_High_M p1 8) fun v1 =>
  Option.bind (intaglioref01_Both_M p0 v1) fun v5 =>
  some v5

def intaglioref01_PutNum_M (p0 : List Int) (p1 : Int) : Option (List Int) :=
  if (decide (p1 < 0)) = true then
    Option.bind (intaglioref01_Put64_M p0 (IntKind.u64.wrap (0))) fun v2 =>
    some v2
  else
    Option.bind (intaglioref01_Put64_M p0 (IntKind.u64.wrap (p1))) fun v6 =>
    some v6

end Go.Proofs.Ytcpddgjmopdlbaa
