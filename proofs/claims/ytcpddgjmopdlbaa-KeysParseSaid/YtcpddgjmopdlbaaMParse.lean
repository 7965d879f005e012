/- Plain models of Go functions (Parse). -/
import Derived.Test.YtcpddgjmopdlbaaExt
import Derived.Test.YtcpddgjmopdlbaaMKeys
import Derived.Test.YtcpddgjmopdlbaaMReader
namespace Go.Proofs.Ytcpddgjmopdlbaa
open Go Go.Lift
set_option maxRecDepth 100000
set_option maxHeartbeats 4000000
set_option linter.unusedVariables false

def keys_Parse_L1 (l53 : List Int) (x54 : Int) (x55 : Bool) (x56 : Int) (x57 : Int) (x58 : Int) (x59 : Int) (x60 : Int) (x61 : Int) (x62 : Int) : Option (((List Int) × Int × Bool × Int × Int × Int × Int × Int × Int × Int) ⊕ ((List Int) × Int × Bool × Int × Int × Int × Int × Int × Int)) :=
  if (decide (x62 < 6)) = true then
    Option.bind (pack_Reader_Num_M l53 x54 x55 1099511627776) fun (v65, v66, v69, v70) =>
    Option.bind (ix [x56, x57, x58, x59, x60, x61] x62) fun y72 =>
    some (.inl (v66, v69, v70, (if (Int.toNat x62) = 0 then v65 else x56), (if (Int.toNat x62) = 1 then v65 else x57), (if (Int.toNat x62) = 2 then v65 else x58), (if (Int.toNat x62) = 3 then v65 else x59), (if (Int.toNat x62) = 4 then v65 else x60), (if (Int.toNat x62) = 5 then v65 else x61), (IntKind.i64.wrap (x62 + 1))))
  else
    some (.inr (l53, x54, x55, x56, x57, x58, x59, x60, x61))

def keys_Parse_J1 (l77 : List Int) (x78 : Int) (x79 : Bool) (x80 : Int) (x81 : Int) (x82 : Int) (x83 : Int) (x84 : Int) (x85 : Int) : Option ((Int × Int × Int × Int × Int × Int × Bool)) :=
  Option.bind (pack_Reader_End_M l77 x78 x79) fun v88 =>
  if (v88 != 0) = true then
    some (0, 0, 0, 0, 0, 0, false)
  else
    Option.bind (keys_Valid_M x80 x81 x82 x83 x84 x85) fun v91 =>
    if (!v91) = true then
      some (0, 0, 0, 0, 0, 0, false)
    else
      some (x80, x81, x82, x83, x84, x85, true)

def keys_Parse_M (p0 : List Int) : Option ((Int × Int × Int × Int × Int × Int × Bool)) :=
  Option.bind (pack_Read_M p0) fun (v3, v6, v7) =>
  Option.bind (loop (fun (s : ((List Int) × Int × Bool × Int × Int × Int × Int × Int × Int × Int)) => keys_Parse_L1 s.1 s.2.1 s.2.2.1 s.2.2.2.1 s.2.2.2.2.1 s.2.2.2.2.2.1 s.2.2.2.2.2.2.1 s.2.2.2.2.2.2.2.1 s.2.2.2.2.2.2.2.2.1 s.2.2.2.2.2.2.2.2.2) (v3, v6, v7, 0, 0, 0, 0, 0, 0, 0)) (fun (q94, q95, q96, q97, q98, q99, q100, q101, q102) => keys_Parse_J1 q94 q95 q96 q97 q98 q99 q100 q101 q102)

end Go.Proofs.Ytcpddgjmopdlbaa
