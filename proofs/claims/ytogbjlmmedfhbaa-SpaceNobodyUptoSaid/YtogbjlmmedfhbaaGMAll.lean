/- Plain models of Go functions. -/
import Derived.Test.YtogbjlmmedfhbaaEd
namespace Go.Proofs.Ytogbjlmmedfhbaa
open Go Go.Lift
set_option maxRecDepth 100000
set_option maxHeartbeats 4000000
set_option linter.unusedVariables false
noncomputable section
theorem fuel_ex : ∃ n : Nat, n = 1000000 := ⟨_, rfl⟩
noncomputable def fuel : Nat := Classical.choose fuel_ex
theorem fuel_is : fuel = 1000000 := Classical.choose_spec fuel_ex
def GL : Globs := []

def intaglioref15_Texts_L1_T : Tm := ⟨[(1, false, [.ptr 0 0]), (3, false, [.row 1]), (4, false, [.hole (.int .i64)])], 52, [.box [.hole (.int .i64), .hole .str, .hole (.slc (.pair .str (.pair .str .unit))), .hole (.slc .str), .hole (.slc (.pair .str (.pair (.int .i64) .unit)))], .row .str]⟩
def intaglioref15_Texts_L1_O : List (Ex × Tm) := [(.exit 0, ⟨[(1, false, [.ptr 0 0]), (3, false, [.row 1])], 52, [.box [.hole (.int .i64), .hole .str, .hole (.slc (.pair .str (.pair .str .unit))), .hole (.slc .str), .hole (.slc (.pair .str (.pair (.int .i64) .unit)))], .row .str]⟩)]
def intaglioref15_Texts_L1 (s4 : Int) (m0_0 : Int) (m0_1 : List UInt8) (m0_2 : List ((List UInt8) × (List UInt8) × Unit)) (m0_3 : List (List UInt8)) (m0_4 : List ((List UInt8) × Int × Unit)) (r1 : List (List UInt8)) : Option ((Int × Int × (List UInt8) × (List ((List UInt8) × (List UInt8) × Unit)) × (List (List UInt8)) × (List ((List UInt8) × Int × Unit)) × (List (List UInt8))) ⊕ ((Int × (List UInt8) × (List ((List UInt8) × (List UInt8) × Unit)) × (List (List UInt8)) × (List ((List UInt8) × Int × Unit)) × (List (List UInt8))))) :=
  if decide (s4 < (((List.length m0_2) : Nat) : Int)) = true then
    Option.bind (ix m0_2 s4) fun (v0 : ((List UInt8) × ((List UInt8) × Unit))) =>
    Option.bind (ix m0_2 s4) fun (v1 : ((List UInt8) × ((List UInt8) × Unit))) =>
    Option.bind (room (16 : Nat) (List.length r1 + List.length [v0.fst, v1.snd.fst])) fun _ =>
    some (.inl (IntKind.wrap IntKind.i64 (s4 + (1 : Int)), m0_0, m0_1, m0_2, m0_3, m0_4, r1 ++ [v0.fst, v1.snd.fst]))
  else
  some (.inr (m0_0, m0_1, m0_2, m0_3, m0_4, r1))
def intaglioref15_Texts_L1_P : Int × Int × (List UInt8) × (List ((List UInt8) × (List UInt8) × Unit)) × (List (List UInt8)) × (List ((List UInt8) × Int × Unit)) × (List (List UInt8)) → Option ((Int × Int × (List UInt8) × (List ((List UInt8) × (List UInt8) × Unit)) × (List (List UInt8)) × (List ((List UInt8) × Int × Unit)) × (List (List UInt8))) ⊕ ((Int × (List UInt8) × (List ((List UInt8) × (List UInt8) × Unit)) × (List (List UInt8)) × (List ((List UInt8) × Int × Unit)) × (List (List UInt8))))) := fun p => intaglioref15_Texts_L1 p.1 p.2.1 p.2.2.1 p.2.2.2.1 p.2.2.2.2.1 p.2.2.2.2.2.1 p.2.2.2.2.2.2
def intaglioref15_Texts_L1_MM : HL [(.int .i64), (.int .i64), .str, (.slc (.pair .str (.pair .str .unit))), (.slc .str), (.slc (.pair .str (.pair (.int .i64) .unit))), (.slc .str)] → Option (HL [(.int .i64), (.int .i64), .str, (.slc (.pair .str (.pair .str .unit))), (.slc .str), (.slc (.pair .str (.pair (.int .i64) .unit))), (.slc .str)] ⊕ SumL [[(.int .i64), .str, (.slc (.pair .str (.pair .str .unit))), (.slc .str), (.slc (.pair .str (.pair (.int .i64) .unit))), (.slc .str)]]) := fun p => intaglioref15_Texts_L1 p.1 p.2.1 p.2.2.1 p.2.2.2.1 p.2.2.2.2.1 p.2.2.2.2.2.1 p.2.2.2.2.2.2
def intaglioref15_Texts_L1_C : Con := ⟨1, intaglioref15_Texts_L1_T, intaglioref15_Texts_L1_O, stdCn [(.int .i64), (.int .i64), .str, (.slc (.pair .str (.pair .str .unit))), (.slc .str), (.slc (.pair .str (.pair (.int .i64) .unit))), (.slc .str)] [[(.int .i64), .str, (.slc (.pair .str (.pair .str .unit))), (.slc .str), (.slc (.pair .str (.pair (.int .i64) .unit))), (.slc .str)]] (loop intaglioref15_Texts_L1_MM), []⟩
def intaglioref15_Texts_L2_T : Tm := ⟨[(1, false, [.ptr 0 0]), (3, false, [.row 1]), (5, false, [.hole (.int .i64)])], 52, [.box [.hole (.int .i64), .hole .str, .hole (.slc (.pair .str (.pair .str .unit))), .hole (.slc .str), .hole (.slc (.pair .str (.pair (.int .i64) .unit)))], .row .str]⟩
def intaglioref15_Texts_L2_O : List (Ex × Tm) := [(.exit 2, ⟨[(3, false, [.row 1])], 52, [.box [.hole (.int .i64), .hole .str, .hole (.slc (.pair .str (.pair .str .unit))), .hole (.slc .str), .hole (.slc (.pair .str (.pair (.int .i64) .unit)))], .row .str]⟩)]
def intaglioref15_Texts_L2 (s5 : Int) (m0_0 : Int) (m0_1 : List UInt8) (m0_2 : List ((List UInt8) × (List UInt8) × Unit)) (m0_3 : List (List UInt8)) (m0_4 : List ((List UInt8) × Int × Unit)) (r1 : List (List UInt8)) : Option ((Int × Int × (List UInt8) × (List ((List UInt8) × (List UInt8) × Unit)) × (List (List UInt8)) × (List ((List UInt8) × Int × Unit)) × (List (List UInt8))) ⊕ ((Int × (List UInt8) × (List ((List UInt8) × (List UInt8) × Unit)) × (List (List UInt8)) × (List ((List UInt8) × Int × Unit)) × (List (List UInt8))))) :=
  if decide (s5 < (((List.length m0_4) : Nat) : Int)) = true then
    Option.bind (ix m0_4 s5) fun (v0 : ((List UInt8) × (Int × Unit))) =>
    Option.bind (room (16 : Nat) (List.length r1 + List.length [v0.fst])) fun _ =>
    some (.inl (IntKind.wrap IntKind.i64 (s5 + (1 : Int)), m0_0, m0_1, m0_2, m0_3, m0_4, r1 ++ [v0.fst]))
  else
  some (.inr (m0_0, m0_1, m0_2, m0_3, m0_4, r1))
def intaglioref15_Texts_L2_P : Int × Int × (List UInt8) × (List ((List UInt8) × (List UInt8) × Unit)) × (List (List UInt8)) × (List ((List UInt8) × Int × Unit)) × (List (List UInt8)) → Option ((Int × Int × (List UInt8) × (List ((List UInt8) × (List UInt8) × Unit)) × (List (List UInt8)) × (List ((List UInt8) × Int × Unit)) × (List (List UInt8))) ⊕ ((Int × (List UInt8) × (List ((List UInt8) × (List UInt8) × Unit)) × (List (List UInt8)) × (List ((List UInt8) × Int × Unit)) × (List (List UInt8))))) := fun p => intaglioref15_Texts_L2 p.1 p.2.1 p.2.2.1 p.2.2.2.1 p.2.2.2.2.1 p.2.2.2.2.2.1 p.2.2.2.2.2.2
def intaglioref15_Texts_L2_MM : HL [(.int .i64), (.int .i64), .str, (.slc (.pair .str (.pair .str .unit))), (.slc .str), (.slc (.pair .str (.pair (.int .i64) .unit))), (.slc .str)] → Option (HL [(.int .i64), (.int .i64), .str, (.slc (.pair .str (.pair .str .unit))), (.slc .str), (.slc (.pair .str (.pair (.int .i64) .unit))), (.slc .str)] ⊕ SumL [[(.int .i64), .str, (.slc (.pair .str (.pair .str .unit))), (.slc .str), (.slc (.pair .str (.pair (.int .i64) .unit))), (.slc .str)]]) := fun p => intaglioref15_Texts_L2 p.1 p.2.1 p.2.2.1 p.2.2.2.1 p.2.2.2.2.1 p.2.2.2.2.2.1 p.2.2.2.2.2.2
def intaglioref15_Texts_L2_C : Con := ⟨1, intaglioref15_Texts_L2_T, intaglioref15_Texts_L2_O, stdCn [(.int .i64), (.int .i64), .str, (.slc (.pair .str (.pair .str .unit))), (.slc .str), (.slc (.pair .str (.pair (.int .i64) .unit))), (.slc .str)] [[(.int .i64), .str, (.slc (.pair .str (.pair .str .unit))), (.slc .str), (.slc (.pair .str (.pair (.int .i64) .unit))), (.slc .str)]] (loop intaglioref15_Texts_L2_MM), []⟩
def intaglioref15_Texts_T : Tm := ⟨[(0, true, [.hole (.int .i64), .hole .str, .hole (.slc (.pair .str (.pair .str .unit))), .hole (.slc .str), .hole (.slc (.pair .str (.pair (.int .i64) .unit)))])], 1, []⟩
def intaglioref15_Texts_O : List (Ex × Tm) := [(.ret, ⟨[(0, false, [.row 0])], 1, [.row .str]⟩)]
def intaglioref15_Texts_M (s0_0 : Int) (s0_1 : List UInt8) (s0_2 : List ((List UInt8) × (List UInt8) × Unit)) (s0_3 : List (List UInt8)) (s0_4 : List ((List UInt8) × Int × Unit)) : Option ((List (List UInt8))) :=
  Option.bind (loop intaglioref15_Texts_L1_P ((0 : Int), s0_0, s0_1, s0_2, s0_3, s0_4, [s0_1])) fun (v0 : (Int × ((List UInt8) × ((List ((List UInt8) × ((List UInt8) × Unit))) × ((List (List UInt8)) × ((List ((List UInt8) × (Int × Unit))) × (List (List UInt8)))))))) =>
  Option.bind (room (16 : Nat) (List.length v0.snd.snd.snd.snd.snd + List.length v0.snd.snd.snd.fst)) fun _ =>
  Option.bind (loop intaglioref15_Texts_L2_P ((0 : Int), v0.fst, v0.snd.fst, v0.snd.snd.fst, v0.snd.snd.snd.fst, v0.snd.snd.snd.snd.fst, v0.snd.snd.snd.snd.snd ++ v0.snd.snd.snd.fst)) fun (v2 : (Int × ((List UInt8) × ((List ((List UInt8) × ((List UInt8) × Unit))) × ((List (List UInt8)) × ((List ((List UInt8) × (Int × Unit))) × (List (List UInt8)))))))) =>
  some (v2.snd.snd.snd.snd.snd)
def intaglioref15_Texts_P : Int × (List UInt8) × (List ((List UInt8) × (List UInt8) × Unit)) × (List (List UInt8)) × (List ((List UInt8) × Int × Unit)) → Option ((List (List UInt8))) := fun p => intaglioref15_Texts_M p.1 p.2.1 p.2.2.1 p.2.2.2.1 p.2.2.2.2
def intaglioref15_Texts_MM : HL [(.int .i64), .str, (.slc (.pair .str (.pair .str .unit))), (.slc .str), (.slc (.pair .str (.pair (.int .i64) .unit)))] → Option (SumL [[(.slc .str)]]) := fun p => intaglioref15_Texts_M p.1 p.2.1 p.2.2.1 p.2.2.2.1 p.2.2.2.2
def intaglioref15_Texts_C : Con := ⟨0, intaglioref15_Texts_T, intaglioref15_Texts_O, stdCn [(.int .i64), .str, (.slc (.pair .str (.pair .str .unit))), (.slc .str), (.slc (.pair .str (.pair (.int .i64) .unit)))] [[(.slc .str)]] intaglioref15_Texts_MM, []⟩

def intaglioref15_count_T : Tm := ⟨[(0, true, [.hole (.int .i64), .hole .str, .hole (.slc (.pair .str (.pair .str .unit))), .hole (.slc .str), .hole (.slc (.pair .str (.pair (.int .i64) .unit)))])], 1, []⟩
def intaglioref15_count_O : List (Ex × Tm) := [(.ret, ⟨[(0, false, [.hole (.int .i64)])], 1, []⟩)]
def intaglioref15_count_M (s0_0 : Int) (s0_1 : List UInt8) (s0_2 : List ((List UInt8) × (List UInt8) × Unit)) (s0_3 : List (List UInt8)) (s0_4 : List ((List UInt8) × Int × Unit)) : Option (Int) :=
  some (IntKind.wrap IntKind.i64 (IntKind.wrap IntKind.i64 ((((List.length s0_2) : Nat) : Int) + (((List.length s0_3) : Nat) : Int)) + (((List.length s0_4) : Nat) : Int)))
def intaglioref15_count_P : Int × (List UInt8) × (List ((List UInt8) × (List UInt8) × Unit)) × (List (List UInt8)) × (List ((List UInt8) × Int × Unit)) → Option (Int) := fun p => intaglioref15_count_M p.1 p.2.1 p.2.2.1 p.2.2.2.1 p.2.2.2.2
def intaglioref15_count_MM : HL [(.int .i64), .str, (.slc (.pair .str (.pair .str .unit))), (.slc .str), (.slc (.pair .str (.pair (.int .i64) .unit)))] → Option (SumL [[(.int .i64)]]) := fun p => intaglioref15_count_M p.1 p.2.1 p.2.2.1 p.2.2.2.1 p.2.2.2.2
def intaglioref15_count_C : Con := ⟨0, intaglioref15_count_T, intaglioref15_count_O, stdCn [(.int .i64), .str, (.slc (.pair .str (.pair .str .unit))), (.slc .str), (.slc (.pair .str (.pair (.int .i64) .unit)))] [[(.int .i64)]] intaglioref15_count_MM, []⟩

def intaglioref15_Light_L1_T : Tm := ⟨[(3, false, [.row 0]), (4, false, [.hole (.int .i64)]), (5, false, [.hole (.int .i64)])], 27, [.row .str]⟩
def intaglioref15_Light_L1_O : List (Ex × Tm) := [(.exit 0, ⟨[(4, false, [.hole (.int .i64)])], 27, []⟩)]
def intaglioref15_Light_L1 (s4 : Int) (s5 : Int) (r0 : List (List UInt8)) : Option ((Int × Int × (List (List UInt8))) ⊕ ((Int))) :=
  if decide (s5 < (((List.length r0) : Nat) : Int)) = true then
    Option.bind (inb (List.length r0) s5) fun _ =>
    some (.inl (IntKind.wrap IntKind.i64 (s4 + if (5000 : Int) < (((List.length (List.getD r0 (Int.toNat s5) [])) : Nat) : Int) then (5000 : Int) else (((List.length (List.getD r0 (Int.toNat s5) [])) : Nat) : Int)), IntKind.wrap IntKind.i64 (s5 + (1 : Int)), r0))
  else
  some (.inr (s4))
def intaglioref15_Light_L1_P : Int × Int × (List (List UInt8)) → Option ((Int × Int × (List (List UInt8))) ⊕ ((Int))) := fun p => intaglioref15_Light_L1 p.1 p.2.1 p.2.2
def intaglioref15_Light_L1_MM : HL [(.int .i64), (.int .i64), (.slc .str)] → Option (HL [(.int .i64), (.int .i64), (.slc .str)] ⊕ SumL [[(.int .i64)]]) := fun p => intaglioref15_Light_L1 p.1 p.2.1 p.2.2
def intaglioref15_Light_L1_C : Con := ⟨0, intaglioref15_Light_L1_T, intaglioref15_Light_L1_O, stdCn [(.int .i64), (.int .i64), (.slc .str)] [[(.int .i64)]] (loop intaglioref15_Light_L1_MM), []⟩
def intaglioref15_Light_T : Tm := ⟨[(0, true, [.hole (.int .i64), .hole .str, .hole (.slc (.pair .str (.pair .str .unit))), .hole (.slc .str), .hole (.slc (.pair .str (.pair (.int .i64) .unit)))])], 1, []⟩
def intaglioref15_Light_O : List (Ex × Tm) := [(.ret, ⟨[(0, false, [.hole .bool])], 1, []⟩)]
def intaglioref15_Light_M (s0_0 : Int) (s0_1 : List UInt8) (s0_2 : List ((List UInt8) × (List UInt8) × Unit)) (s0_3 : List (List UInt8)) (s0_4 : List ((List UInt8) × Int × Unit)) : Option (Bool) :=
  Option.bind (intaglioref15_count_P (s0_0, s0_1, s0_2, s0_3, s0_4)) fun (v0 : Int) =>
  if decide (v0 > (220 : Int)) = true then
    some (false)
  else
  Option.bind (intaglioref15_Texts_P (s0_0, s0_1, s0_2, s0_3, s0_4)) fun (v1 : (List (List UInt8))) =>
  Option.bind (loop intaglioref15_Light_L1_P ((0 : Int), (0 : Int), v1)) fun (v2 : Int) =>
  some (decide (v2 ≤ (5000 : Int)))
def intaglioref15_Light_P : Int × (List UInt8) × (List ((List UInt8) × (List UInt8) × Unit)) × (List (List UInt8)) × (List ((List UInt8) × Int × Unit)) → Option (Bool) := fun p => intaglioref15_Light_M p.1 p.2.1 p.2.2.1 p.2.2.2.1 p.2.2.2.2
def intaglioref15_Light_MM : HL [(.int .i64), .str, (.slc (.pair .str (.pair .str .unit))), (.slc .str), (.slc (.pair .str (.pair (.int .i64) .unit)))] → Option (SumL [[.bool]]) := fun p => intaglioref15_Light_M p.1 p.2.1 p.2.2.1 p.2.2.2.1 p.2.2.2.2
def intaglioref15_Light_C : Con := ⟨0, intaglioref15_Light_T, intaglioref15_Light_O, stdCn [(.int .i64), .str, (.slc (.pair .str (.pair .str .unit))), (.slc .str), (.slc (.pair .str (.pair (.int .i64) .unit)))] [[.bool]] intaglioref15_Light_MM, []⟩

def intagliolaw16_few_L1_T : Tm := ⟨[(0, false, [.hole (.slc (.pair (.int .u8) (.pair .str (.pair (.pair (.int .i64) (.pair .str (.pair (.slc (.pair .str (.pair .str .unit))) (.pair (.slc .str) (.pair (.slc (.pair .str (.pair (.int .i64) .unit))) .unit))))) (.pair (.int .i64) .unit)))))]), (3, false, [.hole (.int .i64)])], 39, []⟩
def intagliolaw16_few_L1_O : List (Ex × Tm) := [(.exit 0, ⟨[], 39, []⟩), (.ret, ⟨[(2, false, [.hole .bool])], 39, []⟩)]
def intagliolaw16_few_L1 (s0 : List (Int × (List UInt8) × (Int × (List UInt8) × (List ((List UInt8) × (List UInt8) × Unit)) × (List (List UInt8)) × (List ((List UInt8) × Int × Unit)) × Unit) × Int × Unit)) (s3 : Int) : Option (((List (Int × (List UInt8) × (Int × (List UInt8) × (List ((List UInt8) × (List UInt8) × Unit)) × (List (List UInt8)) × (List ((List UInt8) × Int × Unit)) × Unit) × Int × Unit)) × Int) ⊕ ((Unit) ⊕ (Bool))) :=
  if decide (s3 < (((List.length s0) : Nat) : Int)) = true then
    Option.bind (ix s0 s3) fun (v0 : (Int × ((List UInt8) × ((Int × ((List UInt8) × ((List ((List UInt8) × ((List UInt8) × Unit))) × ((List (List UInt8)) × ((List ((List UInt8) × (Int × Unit))) × Unit))))) × (Int × Unit))))) =>
    if decide ((((List.length v0.snd.fst) : Nat) : Int) > (100 : Int)) = true then
      some (.inr (.inr (false)))
    else
    Option.bind (ix s0 s3) fun (v1 : (Int × ((List UInt8) × ((Int × ((List UInt8) × ((List ((List UInt8) × ((List UInt8) × Unit))) × ((List (List UInt8)) × ((List ((List UInt8) × (Int × Unit))) × Unit))))) × (Int × Unit))))) =>
    Option.bind (intaglioref15_Texts_P (v1.snd.snd.fst.fst, v1.snd.snd.fst.snd.fst, v1.snd.snd.fst.snd.snd.fst, v1.snd.snd.fst.snd.snd.snd.fst, v1.snd.snd.fst.snd.snd.snd.snd.fst)) fun (v2 : (List (List UInt8))) =>
    if decide ((((List.length v2) : Nat) : Int) > (40 : Int)) = true then
      some (.inr (.inr (false)))
    else
    Option.bind (ix s0 s3) fun (v3 : (Int × ((List UInt8) × ((Int × ((List UInt8) × ((List ((List UInt8) × ((List UInt8) × Unit))) × ((List (List UInt8)) × ((List ((List UInt8) × (Int × Unit))) × Unit))))) × (Int × Unit))))) =>
    Option.bind (intaglioref15_Light_P (v3.snd.snd.fst.fst, v3.snd.snd.fst.snd.fst, v3.snd.snd.fst.snd.snd.fst, v3.snd.snd.fst.snd.snd.snd.fst, v3.snd.snd.fst.snd.snd.snd.snd.fst)) fun (v4 : Bool) =>
    if (!v4) = true then
      some (.inr (.inr (false)))
    else
    some (.inl (s0, IntKind.wrap IntKind.i64 (s3 + (1 : Int))))
  else
  some (.inr (.inl (())))
def intagliolaw16_few_L1_P : (List (Int × (List UInt8) × (Int × (List UInt8) × (List ((List UInt8) × (List UInt8) × Unit)) × (List (List UInt8)) × (List ((List UInt8) × Int × Unit)) × Unit) × Int × Unit)) × Int → Option (((List (Int × (List UInt8) × (Int × (List UInt8) × (List ((List UInt8) × (List UInt8) × Unit)) × (List (List UInt8)) × (List ((List UInt8) × Int × Unit)) × Unit) × Int × Unit)) × Int) ⊕ ((Unit) ⊕ (Bool))) := fun p => intagliolaw16_few_L1 p.1 p.2
def intagliolaw16_few_L1_MM : HL [(.slc (.pair (.int .u8) (.pair .str (.pair (.pair (.int .i64) (.pair .str (.pair (.slc (.pair .str (.pair .str .unit))) (.pair (.slc .str) (.pair (.slc (.pair .str (.pair (.int .i64) .unit))) .unit))))) (.pair (.int .i64) .unit))))), (.int .i64)] → Option (HL [(.slc (.pair (.int .u8) (.pair .str (.pair (.pair (.int .i64) (.pair .str (.pair (.slc (.pair .str (.pair .str .unit))) (.pair (.slc .str) (.pair (.slc (.pair .str (.pair (.int .i64) .unit))) .unit))))) (.pair (.int .i64) .unit))))), (.int .i64)] ⊕ SumL [[], [.bool]]) := fun p => intagliolaw16_few_L1 p.1 p.2
def intagliolaw16_few_L1_C : Con := ⟨0, intagliolaw16_few_L1_T, intagliolaw16_few_L1_O, stdCn [(.slc (.pair (.int .u8) (.pair .str (.pair (.pair (.int .i64) (.pair .str (.pair (.slc (.pair .str (.pair .str .unit))) (.pair (.slc .str) (.pair (.slc (.pair .str (.pair (.int .i64) .unit))) .unit))))) (.pair (.int .i64) .unit))))), (.int .i64)] [[], [.bool]] (loop intagliolaw16_few_L1_MM), []⟩
def intagliolaw16_few_T : Tm := ⟨[(0, false, [.hole (.slc (.pair (.int .u8) (.pair .str (.pair (.pair (.int .i64) (.pair .str (.pair (.slc (.pair .str (.pair .str .unit))) (.pair (.slc .str) (.pair (.slc (.pair .str (.pair (.int .i64) .unit))) .unit))))) (.pair (.int .i64) .unit)))))])], 1, []⟩
def intagliolaw16_few_O : List (Ex × Tm) := [(.ret, ⟨[(0, false, [.hole .bool])], 1, []⟩)]
def intagliolaw16_few_M (s0 : List (Int × (List UInt8) × (Int × (List UInt8) × (List ((List UInt8) × (List UInt8) × Unit)) × (List (List UInt8)) × (List ((List UInt8) × Int × Unit)) × Unit) × Int × Unit)) : Option (Bool) :=
  if decide ((((List.length s0) : Nat) : Int) > (40 : Int)) = true then
    some (false)
  else
  Option.bind (loop intagliolaw16_few_L1_P (s0, (0 : Int))) fun (v0 : (Unit ⊕ Bool)) =>
  Sum.elim (fun _ =>
      some (true)
    ) (fun (v2 : Bool) =>
    some (v2)
  ) (v0)
def intagliolaw16_few_P : (List (Int × (List UInt8) × (Int × (List UInt8) × (List ((List UInt8) × (List UInt8) × Unit)) × (List (List UInt8)) × (List ((List UInt8) × Int × Unit)) × Unit) × Int × Unit)) → Option (Bool) := fun p => intagliolaw16_few_M p
def intagliolaw16_few_MM : HL [(.slc (.pair (.int .u8) (.pair .str (.pair (.pair (.int .i64) (.pair .str (.pair (.slc (.pair .str (.pair .str .unit))) (.pair (.slc .str) (.pair (.slc (.pair .str (.pair (.int .i64) .unit))) .unit))))) (.pair (.int .i64) .unit)))))] → Option (SumL [[.bool]]) := fun p => intagliolaw16_few_M p
def intagliolaw16_few_C : Con := ⟨0, intagliolaw16_few_T, intagliolaw16_few_O, stdCn [(.slc (.pair (.int .u8) (.pair .str (.pair (.pair (.int .i64) (.pair .str (.pair (.slc (.pair .str (.pair .str .unit))) (.pair (.slc .str) (.pair (.slc (.pair .str (.pair (.int .i64) .unit))) .unit))))) (.pair (.int .i64) .unit)))))] [[.bool]] intagliolaw16_few_MM, []⟩

def slices_Clone_string_string_T : Tm := ⟨[(0, false, [.hole (.slc .str)])], 1, []⟩
def slices_Clone_string_string_O : List (Ex × Tm) := [(.ret, ⟨[(0, false, [.row 0])], 1, [.row .str]⟩)]
def slices_Clone_string_string_M (s0 : List (List UInt8)) : Option ((List (List UInt8))) :=
  if List.isEmpty s0 = true then
    agree (
      some ([])
    ) (
      Option.bind (room (16 : Nat) ((0 : Nat) + List.length s0)) fun _ =>
      some ([] ++ s0)
    )
  else
  Option.bind (room (16 : Nat) ((0 : Nat) + List.length s0)) fun _ =>
  some ([] ++ s0)
def slices_Clone_string_string_P : (List (List UInt8)) → Option ((List (List UInt8))) := fun p => slices_Clone_string_string_M p
def slices_Clone_string_string_MM : HL [(.slc .str)] → Option (SumL [[(.slc .str)]]) := fun p => slices_Clone_string_string_M p
def slices_Clone_string_string_C : Con := ⟨0, slices_Clone_string_string_T, slices_Clone_string_string_O, stdCn [(.slc .str)] [[(.slc .str)]] slices_Clone_string_string_MM, []⟩

def zset_Set_made_T : Tm := ⟨[(0, false, [.hole (.pt (.pair .nd (.pair .any .unit)))])], 1, []⟩
def zset_Set_made_O : List (Ex × Tm) := [(.ret, ⟨[(0, false, [.hole .bool])], 1, []⟩)]
def zset_Set_made_M (s0 : Option ((Option Nat) × Unit × Unit)) : Option (Bool) :=
  if (!Option.isNone s0) = true then
    Option.bind (s0) fun (v0 : ((Option Nat) × (Unit × Unit))) =>
    some (!Option.isNone v0.fst)
  else
  some (false)
def zset_Set_made_P : (Option ((Option Nat) × Unit × Unit)) → Option (Bool) := fun p => zset_Set_made_M p
def zset_Set_made_MM : HL [(.pt (.pair .nd (.pair .any .unit)))] → Option (SumL [[.bool]]) := fun p => zset_Set_made_M p
def zset_Set_made_C : Con := ⟨0, zset_Set_made_T, zset_Set_made_O, stdCn [(.pt (.pair .nd (.pair .any .unit)))] [[.bool]] zset_Set_made_MM, []⟩

def zset_Set_Clone_T : Tm := ⟨[(0, false, [.hole (.pt (.pair .nd (.pair .any .unit)))])], 1, []⟩
def zset_Set_Clone_O : List (Ex × Tm) := [(.ret, ⟨[(0, false, [.nilp])], 1, []⟩)]
def zset_Set_Clone_M (s0 : Option ((Option Nat) × Unit × Unit)) : Option (Unit) :=
  Option.bind (zset_Set_made_P s0) fun (v0 : Bool) =>
  if (!v0) = true then
    some (())
  else
  none -- STUCK after t8 call [R0 R1 R2 R3 F25]
def zset_Set_Clone_P : (Option ((Option Nat) × Unit × Unit)) → Option (Unit) := fun p => zset_Set_Clone_M p
def zset_Set_Clone_MM : HL [(.pt (.pair .nd (.pair .any .unit)))] → Option (SumL [[]]) := fun p => zset_Set_Clone_M p
def zset_Set_Clone_C : Con := ⟨0, zset_Set_Clone_T, zset_Set_Clone_O, stdCn [(.pt (.pair .nd (.pair .any .unit)))] [[]] zset_Set_Clone_MM, []⟩

def slices_Clone_struct_struct_T : Tm := ⟨[(0, false, [.hole (.slc .unit)])], 1, []⟩
def slices_Clone_struct_struct_O : List (Ex × Tm) := [(.ret, ⟨[(0, false, [.row 0])], 1, [.row .unit]⟩)]
def slices_Clone_struct_struct_M (s0 : List Unit) : Option ((List Unit)) :=
  if List.isEmpty s0 = true then
    agree (
      some ([])
    ) (
      Option.bind (room (0 : Nat) ((0 : Nat) + List.length s0)) fun _ =>
      some ([] ++ s0)
    )
  else
  Option.bind (room (0 : Nat) ((0 : Nat) + List.length s0)) fun _ =>
  some ([] ++ s0)
def slices_Clone_struct_struct_P : (List Unit) → Option ((List Unit)) := fun p => slices_Clone_struct_struct_M p
def slices_Clone_struct_struct_MM : HL [(.slc .unit)] → Option (SumL [[(.slc .unit)]]) := fun p => slices_Clone_struct_struct_M p
def slices_Clone_struct_struct_C : Con := ⟨0, slices_Clone_struct_struct_T, slices_Clone_struct_struct_O, stdCn [(.slc .unit)] [[(.slc .unit)]] slices_Clone_struct_struct_MM, []⟩

def value_Value_Clone_T : Tm := ⟨[(0, false, [.hole (.pt (.pair (.int .i64) (.pair .str (.pair (.pair (.slc .str) (.pair (.slc .str) .unit)) (.pair (.slc .str) (.pair (.pair (.slc .str) (.pair (.slc .unit) .unit)) (.pair (.pt (.pair .nd (.pair .any .unit))) .unit)))))))])], 1, []⟩
def value_Value_Clone_O : List (Ex × Tm) := [(.ret, ⟨[(0, false, [.hole (.pt (.pair (.int .i64) (.pair .str (.pair (.pair (.slc .str) (.pair (.slc .str) .unit)) (.pair (.slc .str) (.pair (.pair (.slc .str) (.pair (.slc .unit) .unit)) (.pair (.pt (.pair .nd (.pair .any .unit))) .unit)))))))])], 1, []⟩)]
def value_Value_Clone_M (s0 : Option (Int × (List UInt8) × ((List (List UInt8)) × (List (List UInt8)) × Unit) × (List (List UInt8)) × ((List (List UInt8)) × (List Unit) × Unit) × (Option ((Option Nat) × Unit × Unit)) × Unit)) : Option ((Option (Int × (List UInt8) × ((List (List UInt8)) × (List (List UInt8)) × Unit) × (List (List UInt8)) × ((List (List UInt8)) × (List Unit) × Unit) × (Option ((Option Nat) × Unit × Unit)) × Unit))) :=
  if Option.isNone s0 = true then
    some (none)
  else
  Option.bind (s0) fun (v0 : (Int × ((List UInt8) × (((List (List UInt8)) × ((List (List UInt8)) × Unit)) × ((List (List UInt8)) × (((List (List UInt8)) × ((List Unit) × Unit)) × ((Option ((Option Nat) × (Unit × Unit))) × Unit))))))) =>
  Option.bind (s0) fun (v1 : (Int × ((List UInt8) × (((List (List UInt8)) × ((List (List UInt8)) × Unit)) × ((List (List UInt8)) × (((List (List UInt8)) × ((List Unit) × Unit)) × ((Option ((Option Nat) × (Unit × Unit))) × Unit))))))) =>
  Option.bind (s0) fun (v2 : (Int × ((List UInt8) × (((List (List UInt8)) × ((List (List UInt8)) × Unit)) × ((List (List UInt8)) × (((List (List UInt8)) × ((List Unit) × Unit)) × ((Option ((Option Nat) × (Unit × Unit))) × Unit))))))) =>
  Option.bind (s0) fun (v3 : (Int × ((List UInt8) × (((List (List UInt8)) × ((List (List UInt8)) × Unit)) × ((List (List UInt8)) × (((List (List UInt8)) × ((List Unit) × Unit)) × ((Option ((Option Nat) × (Unit × Unit))) × Unit))))))) =>
  Option.bind (slices_Clone_string_string_P v2.snd.snd.snd.fst) fun (v4 : (List (List UInt8))) =>
  Option.bind (zset_Set_Clone_P v3.snd.snd.snd.snd.snd.fst) fun _ =>
  Option.bind (s0) fun (v6 : (Int × ((List UInt8) × (((List (List UInt8)) × ((List (List UInt8)) × Unit)) × ((List (List UInt8)) × (((List (List UInt8)) × ((List Unit) × Unit)) × ((Option ((Option Nat) × (Unit × Unit))) × Unit))))))) =>
  Option.bind (s0) fun (v7 : (Int × ((List UInt8) × (((List (List UInt8)) × ((List (List UInt8)) × Unit)) × ((List (List UInt8)) × (((List (List UInt8)) × ((List Unit) × Unit)) × ((Option ((Option Nat) × (Unit × Unit))) × Unit))))))) =>
  Option.bind (slices_Clone_string_string_P v6.snd.snd.fst.fst) fun (v8 : (List (List UInt8))) =>
  Option.bind (slices_Clone_string_string_P v7.snd.snd.fst.snd.fst) fun (v9 : (List (List UInt8))) =>
  Option.bind (s0) fun (v10 : (Int × ((List UInt8) × (((List (List UInt8)) × ((List (List UInt8)) × Unit)) × ((List (List UInt8)) × (((List (List UInt8)) × ((List Unit) × Unit)) × ((Option ((Option Nat) × (Unit × Unit))) × Unit))))))) =>
  Option.bind (s0) fun (v11 : (Int × ((List UInt8) × (((List (List UInt8)) × ((List (List UInt8)) × Unit)) × ((List (List UInt8)) × (((List (List UInt8)) × ((List Unit) × Unit)) × ((Option ((Option Nat) × (Unit × Unit))) × Unit))))))) =>
  Option.bind (slices_Clone_string_string_P v10.snd.snd.snd.snd.fst.fst) fun (v12 : (List (List UInt8))) =>
  Option.bind (slices_Clone_struct_struct_P v11.snd.snd.snd.snd.fst.snd.fst) fun (v13 : (List Unit)) =>
  some (some (v0.fst, v1.snd.fst, (v8, v9, ()), v4, (v12, v13, ()), none, ()))
def value_Value_Clone_P : (Option (Int × (List UInt8) × ((List (List UInt8)) × (List (List UInt8)) × Unit) × (List (List UInt8)) × ((List (List UInt8)) × (List Unit) × Unit) × (Option ((Option Nat) × Unit × Unit)) × Unit)) → Option ((Option (Int × (List UInt8) × ((List (List UInt8)) × (List (List UInt8)) × Unit) × (List (List UInt8)) × ((List (List UInt8)) × (List Unit) × Unit) × (Option ((Option Nat) × Unit × Unit)) × Unit))) := fun p => value_Value_Clone_M p
def value_Value_Clone_MM : HL [(.pt (.pair (.int .i64) (.pair .str (.pair (.pair (.slc .str) (.pair (.slc .str) .unit)) (.pair (.slc .str) (.pair (.pair (.slc .str) (.pair (.slc .unit) .unit)) (.pair (.pt (.pair .nd (.pair .any .unit))) .unit)))))))] → Option (SumL [[(.pt (.pair (.int .i64) (.pair .str (.pair (.pair (.slc .str) (.pair (.slc .str) .unit)) (.pair (.slc .str) (.pair (.pair (.slc .str) (.pair (.slc .unit) .unit)) (.pair (.pt (.pair .nd (.pair .any .unit))) .unit)))))))]]) := fun p => value_Value_Clone_M p
def value_Value_Clone_C : Con := ⟨0, value_Value_Clone_T, value_Value_Clone_O, stdCn [(.pt (.pair (.int .i64) (.pair .str (.pair (.pair (.slc .str) (.pair (.slc .str) .unit)) (.pair (.slc .str) (.pair (.pair (.slc .str) (.pair (.slc .unit) .unit)) (.pair (.pt (.pair .nd (.pair .any .unit))) .unit)))))))] [[(.pt (.pair (.int .i64) (.pair .str (.pair (.pair (.slc .str) (.pair (.slc .str) .unit)) (.pair (.slc .str) (.pair (.pair (.slc .str) (.pair (.slc .unit) .unit)) (.pair (.pt (.pair .nd (.pair .any .unit))) .unit)))))))]] value_Value_Clone_MM, []⟩

def value_Value_Kind_T : Tm := ⟨[(0, false, [.hole (.pt (.pair (.int .i64) (.pair .str (.pair (.pair (.slc .str) (.pair (.slc .str) .unit)) (.pair (.slc .str) (.pair (.pair (.slc .str) (.pair (.slc .unit) .unit)) (.pair (.pt (.pair .nd (.pair .any .unit))) .unit)))))))])], 1, []⟩
def value_Value_Kind_O : List (Ex × Tm) := [(.ret, ⟨[(0, false, [.hole (.int .i64)])], 1, []⟩)]
def value_Value_Kind_M (s0 : Option (Int × (List UInt8) × ((List (List UInt8)) × (List (List UInt8)) × Unit) × (List (List UInt8)) × ((List (List UInt8)) × (List Unit) × Unit) × (Option ((Option Nat) × Unit × Unit)) × Unit)) : Option (Int) :=
  if Option.isNone s0 = true then
    some ((0 : Int))
  else
  Option.bind (s0) fun (v0 : (Int × ((List UInt8) × (((List (List UInt8)) × ((List (List UInt8)) × Unit)) × ((List (List UInt8)) × (((List (List UInt8)) × ((List Unit) × Unit)) × ((Option ((Option Nat) × (Unit × Unit))) × Unit))))))) =>
  some (v0.fst)
def value_Value_Kind_P : (Option (Int × (List UInt8) × ((List (List UInt8)) × (List (List UInt8)) × Unit) × (List (List UInt8)) × ((List (List UInt8)) × (List Unit) × Unit) × (Option ((Option Nat) × Unit × Unit)) × Unit)) → Option (Int) := fun p => value_Value_Kind_M p
def value_Value_Kind_MM : HL [(.pt (.pair (.int .i64) (.pair .str (.pair (.pair (.slc .str) (.pair (.slc .str) .unit)) (.pair (.slc .str) (.pair (.pair (.slc .str) (.pair (.slc .unit) .unit)) (.pair (.pt (.pair .nd (.pair .any .unit))) .unit)))))))] → Option (SumL [[(.int .i64)]]) := fun p => value_Value_Kind_M p
def value_Value_Kind_C : Con := ⟨0, value_Value_Kind_T, value_Value_Kind_O, stdCn [(.pt (.pair (.int .i64) (.pair .str (.pair (.pair (.slc .str) (.pair (.slc .str) .unit)) (.pair (.slc .str) (.pair (.pair (.slc .str) (.pair (.slc .unit) .unit)) (.pair (.pt (.pair .nd (.pair .any .unit))) .unit)))))))] [[(.int .i64)]] value_Value_Kind_MM, []⟩

def value_Value_Items_T : Tm := ⟨[(0, false, [.hole (.pt (.pair (.int .i64) (.pair .str (.pair (.pair (.slc .str) (.pair (.slc .str) .unit)) (.pair (.slc .str) (.pair (.pair (.slc .str) (.pair (.slc .unit) .unit)) (.pair (.pt (.pair .nd (.pair .any .unit))) .unit)))))))])], 1, []⟩
def value_Value_Items_O : List (Ex × Tm) := [(.ret, ⟨[(0, false, [.row 0])], 1, [.row .str]⟩)]
def value_Value_Items_M (s0 : Option (Int × (List UInt8) × ((List (List UInt8)) × (List (List UInt8)) × Unit) × (List (List UInt8)) × ((List (List UInt8)) × (List Unit) × Unit) × (Option ((Option Nat) × Unit × Unit)) × Unit)) : Option ((List (List UInt8))) :=
  Option.bind (value_Value_Kind_P s0) fun (v0 : Int) =>
  if (v0 == (3 : Int)) = true then
    Option.bind (s0) fun (v1 : (Int × ((List UInt8) × (((List (List UInt8)) × ((List (List UInt8)) × Unit)) × ((List (List UInt8)) × (((List (List UInt8)) × ((List Unit) × Unit)) × ((Option ((Option Nat) × (Unit × Unit))) × Unit))))))) =>
    Option.bind (slices_Clone_string_string_P v1.snd.snd.snd.fst) fun (v2 : (List (List UInt8))) =>
    some (v2)
  else
  if (v0 == (4 : Int)) = true then
    Option.bind (s0) fun (v3 : (Int × ((List UInt8) × (((List (List UInt8)) × ((List (List UInt8)) × Unit)) × ((List (List UInt8)) × (((List (List UInt8)) × ((List Unit) × Unit)) × ((Option ((Option Nat) × (Unit × Unit))) × Unit))))))) =>
    Option.bind (slices_Clone_string_string_P v3.snd.snd.snd.snd.fst.fst) fun (v4 : (List (List UInt8))) =>
    some (v4)
  else
  some ([])
def value_Value_Items_P : (Option (Int × (List UInt8) × ((List (List UInt8)) × (List (List UInt8)) × Unit) × (List (List UInt8)) × ((List (List UInt8)) × (List Unit) × Unit) × (Option ((Option Nat) × Unit × Unit)) × Unit)) → Option ((List (List UInt8))) := fun p => value_Value_Items_M p
def value_Value_Items_MM : HL [(.pt (.pair (.int .i64) (.pair .str (.pair (.pair (.slc .str) (.pair (.slc .str) .unit)) (.pair (.slc .str) (.pair (.pair (.slc .str) (.pair (.slc .unit) .unit)) (.pair (.pt (.pair .nd (.pair .any .unit))) .unit)))))))] → Option (SumL [[(.slc .str)]]) := fun p => value_Value_Items_M p
def value_Value_Items_C : Con := ⟨0, value_Value_Items_T, value_Value_Items_O, stdCn [(.pt (.pair (.int .i64) (.pair .str (.pair (.pair (.slc .str) (.pair (.slc .str) .unit)) (.pair (.slc .str) (.pair (.pair (.slc .str) (.pair (.slc .unit) .unit)) (.pair (.pt (.pair .nd (.pair .any .unit))) .unit)))))))] [[(.slc .str)]] value_Value_Items_MM, []⟩

def value_Value_Sorted_T : Tm := ⟨[(0, false, [.hole (.pt (.pair (.int .i64) (.pair .str (.pair (.pair (.slc .str) (.pair (.slc .str) .unit)) (.pair (.slc .str) (.pair (.pair (.slc .str) (.pair (.slc .unit) .unit)) (.pair (.pt (.pair .nd (.pair .any .unit))) .unit)))))))])], 1, []⟩
def value_Value_Sorted_O : List (Ex × Tm) := [(.ret, ⟨[(0, false, [.hole (.pt (.pair .nd (.pair .any .unit)))])], 1, []⟩)]
def value_Value_Sorted_M (s0 : Option (Int × (List UInt8) × ((List (List UInt8)) × (List (List UInt8)) × Unit) × (List (List UInt8)) × ((List (List UInt8)) × (List Unit) × Unit) × (Option ((Option Nat) × Unit × Unit)) × Unit)) : Option ((Option ((Option Nat) × Unit × Unit))) :=
  if Option.isNone s0 = true then
    some (none)
  else
  Option.bind (s0) fun (v0 : (Int × ((List UInt8) × (((List (List UInt8)) × ((List (List UInt8)) × Unit)) × ((List (List UInt8)) × (((List (List UInt8)) × ((List Unit) × Unit)) × ((Option ((Option Nat) × (Unit × Unit))) × Unit))))))) =>
  some (v0.snd.snd.snd.snd.snd.fst)
def value_Value_Sorted_P : (Option (Int × (List UInt8) × ((List (List UInt8)) × (List (List UInt8)) × Unit) × (List (List UInt8)) × ((List (List UInt8)) × (List Unit) × Unit) × (Option ((Option Nat) × Unit × Unit)) × Unit)) → Option ((Option ((Option Nat) × Unit × Unit))) := fun p => value_Value_Sorted_M p
def value_Value_Sorted_MM : HL [(.pt (.pair (.int .i64) (.pair .str (.pair (.pair (.slc .str) (.pair (.slc .str) .unit)) (.pair (.slc .str) (.pair (.pair (.slc .str) (.pair (.slc .unit) .unit)) (.pair (.pt (.pair .nd (.pair .any .unit))) .unit)))))))] → Option (SumL [[(.pt (.pair .nd (.pair .any .unit)))]]) := fun p => value_Value_Sorted_M p
def value_Value_Sorted_C : Con := ⟨0, value_Value_Sorted_T, value_Value_Sorted_O, stdCn [(.pt (.pair (.int .i64) (.pair .str (.pair (.pair (.slc .str) (.pair (.slc .str) .unit)) (.pair (.slc .str) (.pair (.pair (.slc .str) (.pair (.slc .unit) .unit)) (.pair (.pt (.pair .nd (.pair .any .unit))) .unit)))))))] [[(.pt (.pair .nd (.pair .any .unit)))]] value_Value_Sorted_MM, []⟩

def zset_Set_Len_T : Tm := ⟨[(0, false, [.hole (.pt (.pair .nd (.pair .any .unit)))])], 1, []⟩
def zset_Set_Len_O : List (Ex × Tm) := [(.ret, ⟨[(0, false, [.hole (.int .i64)])], 1, []⟩)]
def zset_Set_Len_M (s0 : Option ((Option Nat) × Unit × Unit)) : Option (Int) :=
  Option.bind (zset_Set_made_P s0) fun (v0 : Bool) =>
  if (!v0) = true then
    some ((0 : Int))
  else
  Option.bind (s0) fun (v1 : ((Option Nat) × (Unit × Unit))) =>
  none -- STUCK after t10 call [R0 R1 R2 R3]
def zset_Set_Len_P : (Option ((Option Nat) × Unit × Unit)) → Option (Int) := fun p => zset_Set_Len_M p
def zset_Set_Len_MM : HL [(.pt (.pair .nd (.pair .any .unit)))] → Option (SumL [[(.int .i64)]]) := fun p => zset_Set_Len_M p
def zset_Set_Len_C : Con := ⟨0, zset_Set_Len_T, zset_Set_Len_O, stdCn [(.pt (.pair .nd (.pair .any .unit)))] [[(.int .i64)]] zset_Set_Len_MM, []⟩

def zset_Set_Range_T : Tm := ⟨[(0, false, [.hole (.pt (.pair .nd (.pair .any .unit)))]), (1, false, [.hole (.int .i64)]), (2, false, [.hole (.int .i64)])], 3, []⟩
def zset_Set_Range_O : List (Ex × Tm) := [(.ret, ⟨[(0, false, [.nils])], 1, []⟩)]
def zset_Set_Range_M (s0 : Option ((Option Nat) × Unit × Unit)) (s1 : Int) (s2 : Int) : Option (Unit) :=
  Option.bind (zset_Set_Len_P s0) fun (v0 : Int) =>
  if decide ((if (0 : Int) > s1 then (0 : Int) else s1) < (0 : Int)) = true then
    some (())
  else
  Option.bind (zset_Set_Len_P s0) fun (v1 : Int) =>
  if decide ((if (0 : Int) > s1 then (0 : Int) else s1) ≥ v1) = true then
    some (())
  else
  Option.bind (s0) fun (v2 : ((Option Nat) × (Unit × Unit))) =>
  Option.bind (v2.fst) fun (v3 : Nat) =>
  none -- STUCK after t29 load [R0 R1 R2 R4 R7 R2 R4 R7 R3 R4 R5 R7]
def zset_Set_Range_P : (Option ((Option Nat) × Unit × Unit)) × Int × Int → Option (Unit) := fun p => zset_Set_Range_M p.1 p.2.1 p.2.2
def zset_Set_Range_MM : HL [(.pt (.pair .nd (.pair .any .unit))), (.int .i64), (.int .i64)] → Option (SumL [[]]) := fun p => zset_Set_Range_M p.1 p.2.1 p.2.2
def zset_Set_Range_C : Con := ⟨0, zset_Set_Range_T, zset_Set_Range_O, stdCn [(.pt (.pair .nd (.pair .any .unit))), (.int .i64), (.int .i64)] [[]] zset_Set_Range_MM, []⟩

def value_Value_Len_T : Tm := ⟨[(0, false, [.hole (.pt (.pair (.int .i64) (.pair .str (.pair (.pair (.slc .str) (.pair (.slc .str) .unit)) (.pair (.slc .str) (.pair (.pair (.slc .str) (.pair (.slc .unit) .unit)) (.pair (.pt (.pair .nd (.pair .any .unit))) .unit)))))))])], 1, []⟩
def value_Value_Len_O : List (Ex × Tm) := [(.ret, ⟨[(0, false, [.hole (.int .i64)])], 1, []⟩)]
def value_Value_Len_M (s0 : Option (Int × (List UInt8) × ((List (List UInt8)) × (List (List UInt8)) × Unit) × (List (List UInt8)) × ((List (List UInt8)) × (List Unit) × Unit) × (Option ((Option Nat) × Unit × Unit)) × Unit)) : Option (Int) :=
  Option.bind (value_Value_Kind_P s0) fun (v0 : Int) =>
  if (v0 == (1 : Int)) = true then
    Option.bind (s0) fun (v1 : (Int × ((List UInt8) × (((List (List UInt8)) × ((List (List UInt8)) × Unit)) × ((List (List UInt8)) × (((List (List UInt8)) × ((List Unit) × Unit)) × ((Option ((Option Nat) × (Unit × Unit))) × Unit))))))) =>
    some ((((List.length v1.snd.fst) : Nat) : Int))
  else
  if (v0 == (2 : Int)) = true then
    Option.bind (s0) fun (v2 : (Int × ((List UInt8) × (((List (List UInt8)) × ((List (List UInt8)) × Unit)) × ((List (List UInt8)) × (((List (List UInt8)) × ((List Unit) × Unit)) × ((Option ((Option Nat) × (Unit × Unit))) × Unit))))))) =>
    some ((((List.length v2.snd.snd.fst.fst) : Nat) : Int))
  else
  if (v0 == (3 : Int)) = true then
    Option.bind (s0) fun (v3 : (Int × ((List UInt8) × (((List (List UInt8)) × ((List (List UInt8)) × Unit)) × ((List (List UInt8)) × (((List (List UInt8)) × ((List Unit) × Unit)) × ((Option ((Option Nat) × (Unit × Unit))) × Unit))))))) =>
    some ((((List.length v3.snd.snd.snd.fst) : Nat) : Int))
  else
  if (v0 == (4 : Int)) = true then
    Option.bind (s0) fun (v4 : (Int × ((List UInt8) × (((List (List UInt8)) × ((List (List UInt8)) × Unit)) × ((List (List UInt8)) × (((List (List UInt8)) × ((List Unit) × Unit)) × ((Option ((Option Nat) × (Unit × Unit))) × Unit))))))) =>
    some ((((List.length v4.snd.snd.snd.snd.fst.fst) : Nat) : Int))
  else
  Option.bind (value_Value_Sorted_P s0) fun (v5 : (Option ((Option Nat) × (Unit × Unit)))) =>
  Option.bind (zset_Set_Len_P v5) fun (v6 : Int) =>
  some (v6)
def value_Value_Len_P : (Option (Int × (List UInt8) × ((List (List UInt8)) × (List (List UInt8)) × Unit) × (List (List UInt8)) × ((List (List UInt8)) × (List Unit) × Unit) × (Option ((Option Nat) × Unit × Unit)) × Unit)) → Option (Int) := fun p => value_Value_Len_M p
def value_Value_Len_MM : HL [(.pt (.pair (.int .i64) (.pair .str (.pair (.pair (.slc .str) (.pair (.slc .str) .unit)) (.pair (.slc .str) (.pair (.pair (.slc .str) (.pair (.slc .unit) .unit)) (.pair (.pt (.pair .nd (.pair .any .unit))) .unit)))))))] → Option (SumL [[(.int .i64)]]) := fun p => value_Value_Len_M p
def value_Value_Len_C : Con := ⟨0, value_Value_Len_T, value_Value_Len_O, stdCn [(.pt (.pair (.int .i64) (.pair .str (.pair (.pair (.slc .str) (.pair (.slc .str) .unit)) (.pair (.slc .str) (.pair (.pair (.slc .str) (.pair (.slc .unit) .unit)) (.pair (.pt (.pair .nd (.pair .any .unit))) .unit)))))))] [[(.int .i64)]] value_Value_Len_MM, []⟩

def value_Value_Plain_R1_T : Tm := ⟨[(0, false, [.hole (.pt (.pair (.int .i64) (.pair .str (.pair (.pair (.slc .str) (.pair (.slc .str) .unit)) (.pair (.slc .str) (.pair (.pair (.slc .str) (.pair (.slc .unit) .unit)) (.pair (.pt (.pair .nd (.pair .any .unit))) .unit)))))))]), (2, false, [.ptr 0 0])], 53, [.box [.hole (.int .i64), .hole .str, .nils, .nils, .nils]]⟩
def value_Value_Plain_R1_O : List (Ex × Tm) := [(.normal, ⟨[(0, false, [.hole (.pt (.pair (.int .i64) (.pair .str (.pair (.pair (.slc .str) (.pair (.slc .str) .unit)) (.pair (.slc .str) (.pair (.pair (.slc .str) (.pair (.slc .unit) .unit)) (.pair (.pt (.pair .nd (.pair .any .unit))) .unit)))))))]), (2, false, [.ptr 0 0]), (3, false, [.ptr 1 0])], 53, [.box [.hole (.int .i64), .hole .str, .nils, .nils, .nils], .box [.hole (.int .i64), .hole .str, .nils, .row 2, .nils], .row .str]⟩)]
def value_Value_Plain_R1_X (s0 : Option (Int × (List UInt8) × ((List (List UInt8)) × (List (List UInt8)) × Unit) × (List (List UInt8)) × ((List (List UInt8)) × (List Unit) × Unit) × (Option ((Option Nat) × Unit × Unit)) × Unit)) (m0_0 : Int) (m0_1 : List UInt8) : Option ((Option (Int × (List UInt8) × ((List (List UInt8)) × (List (List UInt8)) × Unit) × (List (List UInt8)) × ((List (List UInt8)) × (List Unit) × Unit) × (Option ((Option Nat) × Unit × Unit)) × Unit)) × Int × (List UInt8) × Int × (List UInt8) × (List (List UInt8))) :=
  Option.bind (s0) fun (v0 : (Int × ((List UInt8) × (((List (List UInt8)) × ((List (List UInt8)) × Unit)) × ((List (List UInt8)) × (((List (List UInt8)) × ((List Unit) × Unit)) × ((Option ((Option Nat) × (Unit × Unit))) × Unit))))))) =>
  Option.bind (s0) fun (v1 : (Int × ((List UInt8) × (((List (List UInt8)) × ((List (List UInt8)) × Unit)) × ((List (List UInt8)) × (((List (List UInt8)) × ((List Unit) × Unit)) × ((Option ((Option Nat) × (Unit × Unit))) × Unit))))))) =>
  agree (
    Option.bind (value_Value_Items_P s0) fun (v2 : (List (List UInt8))) =>
    agree (
      Option.bind (value_Value_Sorted_P s0) fun (v3 : (Option ((Option Nat) × (Unit × Unit)))) =>
      agree (
        Option.bind (value_Value_Len_P s0) fun (v4 : Int) =>
        agree (
          Option.bind (zset_Set_Range_P (v3, (0 : Int), v4)) fun _ =>
          some (s0, m0_0, m0_1, v0.fst, v1.snd.fst, v2)
        ) (
          Option.bind (zset_Set_Range_P (v3, (0 : Int), v4)) fun _ =>
          some (s0, m0_0, m0_1, v0.fst, v1.snd.fst, v2)
        )
      ) (
        Option.bind (value_Value_Len_P s0) fun (v7 : Int) =>
        Option.bind (zset_Set_Range_P (v3, (0 : Int), v7)) fun _ =>
        some (s0, m0_0, m0_1, v0.fst, v1.snd.fst, v2)
      )
    ) (
      Option.bind (value_Value_Sorted_P s0) fun (v9 : (Option ((Option Nat) × (Unit × Unit)))) =>
      Option.bind (value_Value_Len_P s0) fun (v10 : Int) =>
      Option.bind (zset_Set_Range_P (v9, (0 : Int), v10)) fun _ =>
      some (s0, m0_0, m0_1, v0.fst, v1.snd.fst, v2)
    )
  ) (
    Option.bind (value_Value_Items_P s0) fun (v12 : (List (List UInt8))) =>
    Option.bind (value_Value_Sorted_P s0) fun (v13 : (Option ((Option Nat) × (Unit × Unit)))) =>
    Option.bind (value_Value_Len_P s0) fun (v14 : Int) =>
    Option.bind (zset_Set_Range_P (v13, (0 : Int), v14)) fun _ =>
    some (s0, m0_0, m0_1, v0.fst, v1.snd.fst, v12)
  )
def value_Value_Plain_R1 (s0 : Option (Int × (List UInt8) × ((List (List UInt8)) × (List (List UInt8)) × Unit) × (List (List UInt8)) × ((List (List UInt8)) × (List Unit) × Unit) × (Option ((Option Nat) × Unit × Unit)) × Unit)) (m0_0 : Int) (m0_1 : List UInt8) : Option ((Option (Int × (List UInt8) × ((List (List UInt8)) × (List (List UInt8)) × Unit) × (List (List UInt8)) × ((List (List UInt8)) × (List Unit) × Unit) × (Option ((Option Nat) × Unit × Unit)) × Unit)) × Int × (List UInt8) × Int × (List UInt8) × (List (List UInt8))) :=
  Option.bind (s0) fun (v0 : (Int × ((List UInt8) × (((List (List UInt8)) × ((List (List UInt8)) × Unit)) × ((List (List UInt8)) × (((List (List UInt8)) × ((List Unit) × Unit)) × ((Option ((Option Nat) × (Unit × Unit))) × Unit))))))) =>
  Option.bind (s0) fun (v1 : (Int × ((List UInt8) × (((List (List UInt8)) × ((List (List UInt8)) × Unit)) × ((List (List UInt8)) × (((List (List UInt8)) × ((List Unit) × Unit)) × ((Option ((Option Nat) × (Unit × Unit))) × Unit))))))) =>
    Option.bind (value_Value_Items_P s0) fun (v2 : (List (List UInt8))) =>
      Option.bind (value_Value_Sorted_P s0) fun (v3 : (Option ((Option Nat) × (Unit × Unit)))) =>
        Option.bind (value_Value_Len_P s0) fun (v4 : Int) =>
          Option.bind (zset_Set_Range_P (v3, (0 : Int), v4)) fun _ =>
          some (s0, m0_0, m0_1, v0.fst, v1.snd.fst, v2)
theorem value_Value_Plain_R1_eq (s0 : Option (Int × (List UInt8) × ((List (List UInt8)) × (List (List UInt8)) × Unit) × (List (List UInt8)) × ((List (List UInt8)) × (List Unit) × Unit) × (Option ((Option Nat) × Unit × Unit)) × Unit)) (m0_0 : Int) (m0_1 : List UInt8) : value_Value_Plain_R1_X s0 m0_0 m0_1 = value_Value_Plain_R1 s0 m0_0 m0_1 := by unfold value_Value_Plain_R1_X; simp only [agree_self]; rfl
def value_Value_Plain_R1_P : (Option (Int × (List UInt8) × ((List (List UInt8)) × (List (List UInt8)) × Unit) × (List (List UInt8)) × ((List (List UInt8)) × (List Unit) × Unit) × (Option ((Option Nat) × Unit × Unit)) × Unit)) × Int × (List UInt8) → Option ((Option (Int × (List UInt8) × ((List (List UInt8)) × (List (List UInt8)) × Unit) × (List (List UInt8)) × ((List (List UInt8)) × (List Unit) × Unit) × (Option ((Option Nat) × Unit × Unit)) × Unit)) × Int × (List UInt8) × Int × (List UInt8) × (List (List UInt8))) := fun p => value_Value_Plain_R1 p.1 p.2.1 p.2.2
def value_Value_Plain_R1_MM : HL [(.pt (.pair (.int .i64) (.pair .str (.pair (.pair (.slc .str) (.pair (.slc .str) .unit)) (.pair (.slc .str) (.pair (.pair (.slc .str) (.pair (.slc .unit) .unit)) (.pair (.pt (.pair .nd (.pair .any .unit))) .unit))))))), (.int .i64), .str] → Option (SumL [[(.pt (.pair (.int .i64) (.pair .str (.pair (.pair (.slc .str) (.pair (.slc .str) .unit)) (.pair (.slc .str) (.pair (.pair (.slc .str) (.pair (.slc .unit) .unit)) (.pair (.pt (.pair .nd (.pair .any .unit))) .unit))))))), (.int .i64), .str, (.int .i64), .str, (.slc .str)]]) := fun p => value_Value_Plain_R1 p.1 p.2.1 p.2.2
def value_Value_Plain_R1_C : Con := ⟨1, value_Value_Plain_R1_T, value_Value_Plain_R1_O, stdCn [(.pt (.pair (.int .i64) (.pair .str (.pair (.pair (.slc .str) (.pair (.slc .str) .unit)) (.pair (.slc .str) (.pair (.pair (.slc .str) (.pair (.slc .unit) .unit)) (.pair (.pt (.pair .nd (.pair .any .unit))) .unit))))))), (.int .i64), .str] [[(.pt (.pair (.int .i64) (.pair .str (.pair (.pair (.slc .str) (.pair (.slc .str) .unit)) (.pair (.slc .str) (.pair (.pair (.slc .str) (.pair (.slc .unit) .unit)) (.pair (.pt (.pair .nd (.pair .any .unit))) .unit))))))), (.int .i64), .str, (.int .i64), .str, (.slc .str)]] value_Value_Plain_R1_MM, []⟩
def value_Value_Plain_L2_T : Tm := ⟨[(0, false, [.hole (.pt (.pair (.int .i64) (.pair .str (.pair (.pair (.slc .str) (.pair (.slc .str) .unit)) (.pair (.slc .str) (.pair (.pair (.slc .str) (.pair (.slc .unit) .unit)) (.pair (.pt (.pair .nd (.pair .any .unit))) .unit)))))))]), (2, false, [.ptr 0 0]), (3, false, [.ptr 1 0]), (29, false, [.hole (.slc .str)]), (30, false, [.hole (.int .i64)]), (31, false, [.hole (.int .i64)])], 53, [.box [.hole (.int .i64), .hole .str, .nils, .nils, .nils], .box [.hole (.int .i64), .hole .str, .row 2, .row 3, .nils], .row (.pair .str (.pair .str .unit)), .row .str]⟩
def value_Value_Plain_L2_O : List (Ex × Tm) := [(.exit 0, ⟨[(2, false, [.ptr 0 0]), (3, false, [.ptr 1 0])], 53, [.box [.hole (.int .i64), .hole .str, .nils, .nils, .nils], .box [.hole (.int .i64), .hole .str, .row 2, .row 3, .nils], .row (.pair .str (.pair .str .unit)), .row .str]⟩)]
def value_Value_Plain_L2 (s0 : Option (Int × (List UInt8) × ((List (List UInt8)) × (List (List UInt8)) × Unit) × (List (List UInt8)) × ((List (List UInt8)) × (List Unit) × Unit) × (Option ((Option Nat) × Unit × Unit)) × Unit)) (s29 : List (List UInt8)) (s30 : Int) (s31 : Int) (m0_0 : Int) (m0_1 : List UInt8) (m1_0 : Int) (m1_1 : List UInt8) (r2 : List ((List UInt8) × (List UInt8) × Unit)) (r3 : List (List UInt8)) : Option (((Option (Int × (List UInt8) × ((List (List UInt8)) × (List (List UInt8)) × Unit) × (List (List UInt8)) × ((List (List UInt8)) × (List Unit) × Unit) × (Option ((Option Nat) × Unit × Unit)) × Unit)) × (List (List UInt8)) × Int × Int × Int × (List UInt8) × Int × (List UInt8) × (List ((List UInt8) × (List UInt8) × Unit)) × (List (List UInt8))) ⊕ ((Int × (List UInt8) × Int × (List UInt8) × (List ((List UInt8) × (List UInt8) × Unit)) × (List (List UInt8))))) :=
  if decide (s31 < s30) = true then
    Option.bind (ix s29 s31) fun (v0 : (List UInt8)) =>
    Option.bind (s0) fun (v1 : (Int × ((List UInt8) × (((List (List UInt8)) × ((List (List UInt8)) × Unit)) × ((List (List UInt8)) × (((List (List UInt8)) × ((List Unit) × Unit)) × ((Option ((Option Nat) × (Unit × Unit))) × Unit))))))) =>
    Option.bind (ix v1.snd.snd.fst.snd.fst s31) fun (v2 : (List UInt8)) =>
    Option.bind (room (32 : Nat) (List.length r2 + List.length [(v0, v2, ())])) fun _ =>
    some (.inl (s0, s29, s30, IntKind.wrap IntKind.i64 (s31 + (1 : Int)), m0_0, m0_1, m1_0, m1_1, r2 ++ [(v0, v2, ())], r3))
  else
  some (.inr (m0_0, m0_1, m1_0, m1_1, r2, r3))
def value_Value_Plain_L2_P : (Option (Int × (List UInt8) × ((List (List UInt8)) × (List (List UInt8)) × Unit) × (List (List UInt8)) × ((List (List UInt8)) × (List Unit) × Unit) × (Option ((Option Nat) × Unit × Unit)) × Unit)) × (List (List UInt8)) × Int × Int × Int × (List UInt8) × Int × (List UInt8) × (List ((List UInt8) × (List UInt8) × Unit)) × (List (List UInt8)) → Option (((Option (Int × (List UInt8) × ((List (List UInt8)) × (List (List UInt8)) × Unit) × (List (List UInt8)) × ((List (List UInt8)) × (List Unit) × Unit) × (Option ((Option Nat) × Unit × Unit)) × Unit)) × (List (List UInt8)) × Int × Int × Int × (List UInt8) × Int × (List UInt8) × (List ((List UInt8) × (List UInt8) × Unit)) × (List (List UInt8))) ⊕ ((Int × (List UInt8) × Int × (List UInt8) × (List ((List UInt8) × (List UInt8) × Unit)) × (List (List UInt8))))) := fun p => value_Value_Plain_L2 p.1 p.2.1 p.2.2.1 p.2.2.2.1 p.2.2.2.2.1 p.2.2.2.2.2.1 p.2.2.2.2.2.2.1 p.2.2.2.2.2.2.2.1 p.2.2.2.2.2.2.2.2.1 p.2.2.2.2.2.2.2.2.2
def value_Value_Plain_L2_MM : HL [(.pt (.pair (.int .i64) (.pair .str (.pair (.pair (.slc .str) (.pair (.slc .str) .unit)) (.pair (.slc .str) (.pair (.pair (.slc .str) (.pair (.slc .unit) .unit)) (.pair (.pt (.pair .nd (.pair .any .unit))) .unit))))))), (.slc .str), (.int .i64), (.int .i64), (.int .i64), .str, (.int .i64), .str, (.slc (.pair .str (.pair .str .unit))), (.slc .str)] → Option (HL [(.pt (.pair (.int .i64) (.pair .str (.pair (.pair (.slc .str) (.pair (.slc .str) .unit)) (.pair (.slc .str) (.pair (.pair (.slc .str) (.pair (.slc .unit) .unit)) (.pair (.pt (.pair .nd (.pair .any .unit))) .unit))))))), (.slc .str), (.int .i64), (.int .i64), (.int .i64), .str, (.int .i64), .str, (.slc (.pair .str (.pair .str .unit))), (.slc .str)] ⊕ SumL [[(.int .i64), .str, (.int .i64), .str, (.slc (.pair .str (.pair .str .unit))), (.slc .str)]]) := fun p => value_Value_Plain_L2 p.1 p.2.1 p.2.2.1 p.2.2.2.1 p.2.2.2.2.1 p.2.2.2.2.2.1 p.2.2.2.2.2.2.1 p.2.2.2.2.2.2.2.1 p.2.2.2.2.2.2.2.2.1 p.2.2.2.2.2.2.2.2.2
def value_Value_Plain_L2_C : Con := ⟨2, value_Value_Plain_L2_T, value_Value_Plain_L2_O, stdCn [(.pt (.pair (.int .i64) (.pair .str (.pair (.pair (.slc .str) (.pair (.slc .str) .unit)) (.pair (.slc .str) (.pair (.pair (.slc .str) (.pair (.slc .unit) .unit)) (.pair (.pt (.pair .nd (.pair .any .unit))) .unit))))))), (.slc .str), (.int .i64), (.int .i64), (.int .i64), .str, (.int .i64), .str, (.slc (.pair .str (.pair .str .unit))), (.slc .str)] [[(.int .i64), .str, (.int .i64), .str, (.slc (.pair .str (.pair .str .unit))), (.slc .str)]] (loop value_Value_Plain_L2_MM), []⟩
def value_Value_Plain_T : Tm := ⟨[(0, false, [.hole (.pt (.pair (.int .i64) (.pair .str (.pair (.pair (.slc .str) (.pair (.slc .str) .unit)) (.pair (.slc .str) (.pair (.pair (.slc .str) (.pair (.slc .unit) .unit)) (.pair (.pt (.pair .nd (.pair .any .unit))) .unit)))))))])], 1, []⟩
def value_Value_Plain_O : List (Ex × Tm) := [(.ret, ⟨[(0, true, [.hole (.int .i64), .hole .str, .hole (.slc (.pair .str (.pair .str .unit))), .hole (.slc .str), .nils])], 1, []⟩)]
def value_Value_Plain_M (s0 : Option (Int × (List UInt8) × ((List (List UInt8)) × (List (List UInt8)) × Unit) × (List (List UInt8)) × ((List (List UInt8)) × (List Unit) × Unit) × (Option ((Option Nat) × Unit × Unit)) × Unit)) : Option (Int × (List UInt8) × (List ((List UInt8) × (List UInt8) × Unit)) × (List (List UInt8))) :=
  if Option.isNone s0 = true then
    some ((0 : Int), [], [], [])
  else
  Option.bind (value_Value_Plain_R1_P (s0, (0 : Int), [])) fun (v0 : ((Option (Int × ((List UInt8) × (((List (List UInt8)) × ((List (List UInt8)) × Unit)) × ((List (List UInt8)) × (((List (List UInt8)) × ((List Unit) × Unit)) × ((Option ((Option Nat) × (Unit × Unit))) × Unit))))))) × (Int × ((List UInt8) × (Int × ((List UInt8) × (List (List UInt8)))))))) =>
  Option.bind (v0.fst) fun (v1 : (Int × ((List UInt8) × (((List (List UInt8)) × ((List (List UInt8)) × Unit)) × ((List (List UInt8)) × (((List (List UInt8)) × ((List Unit) × Unit)) × ((Option ((Option Nat) × (Unit × Unit))) × Unit))))))) =>
  Option.bind (loop value_Value_Plain_L2_P (v0.fst, v1.snd.snd.fst.fst, (((List.length v1.snd.snd.fst.fst) : Nat) : Int), (0 : Int), v0.snd.fst, v0.snd.snd.fst, v0.snd.snd.snd.fst, v0.snd.snd.snd.snd.fst, [], v0.snd.snd.snd.snd.snd)) fun (v2 : (Int × ((List UInt8) × (Int × ((List UInt8) × ((List ((List UInt8) × ((List UInt8) × Unit))) × (List (List UInt8)))))))) =>
  some (v2.snd.snd.fst, v2.snd.snd.snd.fst, v2.snd.snd.snd.snd.fst, v2.snd.snd.snd.snd.snd)
def value_Value_Plain_P : (Option (Int × (List UInt8) × ((List (List UInt8)) × (List (List UInt8)) × Unit) × (List (List UInt8)) × ((List (List UInt8)) × (List Unit) × Unit) × (Option ((Option Nat) × Unit × Unit)) × Unit)) → Option (Int × (List UInt8) × (List ((List UInt8) × (List UInt8) × Unit)) × (List (List UInt8))) := fun p => value_Value_Plain_M p
def value_Value_Plain_MM : HL [(.pt (.pair (.int .i64) (.pair .str (.pair (.pair (.slc .str) (.pair (.slc .str) .unit)) (.pair (.slc .str) (.pair (.pair (.slc .str) (.pair (.slc .unit) .unit)) (.pair (.pt (.pair .nd (.pair .any .unit))) .unit)))))))] → Option (SumL [[(.int .i64), .str, (.slc (.pair .str (.pair .str .unit))), (.slc .str)]]) := fun p => value_Value_Plain_M p
def value_Value_Plain_C : Con := ⟨0, value_Value_Plain_T, value_Value_Plain_O, stdCn [(.pt (.pair (.int .i64) (.pair .str (.pair (.pair (.slc .str) (.pair (.slc .str) .unit)) (.pair (.slc .str) (.pair (.pair (.slc .str) (.pair (.slc .unit) .unit)) (.pair (.pt (.pair .nd (.pair .any .unit))) .unit)))))))] [[(.int .i64), .str, (.slc (.pair .str (.pair .str .unit))), (.slc .str)]] value_Value_Plain_MM, []⟩

def value_count_T : Tm := ⟨[(0, true, [.hole (.int .i64), .hole .str, .hole (.slc (.pair .str (.pair .str .unit))), .hole (.slc .str), .hole (.slc (.pair .str (.pair (.int .i64) .unit)))])], 1, []⟩
def value_count_O : List (Ex × Tm) := [(.ret, ⟨[(0, false, [.hole (.int .i64)])], 1, []⟩)]
def value_count_M (s0_0 : Int) (s0_1 : List UInt8) (s0_2 : List ((List UInt8) × (List UInt8) × Unit)) (s0_3 : List (List UInt8)) (s0_4 : List ((List UInt8) × Int × Unit)) : Option (Int) :=
  some (IntKind.wrap IntKind.i64 (IntKind.wrap IntKind.i64 ((((List.length s0_2) : Nat) : Int) + (((List.length s0_3) : Nat) : Int)) + (((List.length s0_4) : Nat) : Int)))
def value_count_P : Int × (List UInt8) × (List ((List UInt8) × (List UInt8) × Unit)) × (List (List UInt8)) × (List ((List UInt8) × Int × Unit)) → Option (Int) := fun p => value_count_M p.1 p.2.1 p.2.2.1 p.2.2.2.1 p.2.2.2.2
def value_count_MM : HL [(.int .i64), .str, (.slc (.pair .str (.pair .str .unit))), (.slc .str), (.slc (.pair .str (.pair (.int .i64) .unit)))] → Option (SumL [[(.int .i64)]]) := fun p => value_count_M p.1 p.2.1 p.2.2.1 p.2.2.2.1 p.2.2.2.2
def value_count_C : Con := ⟨0, value_count_T, value_count_O, stdCn [(.int .i64), .str, (.slc (.pair .str (.pair .str .unit))), (.slc .str), (.slc (.pair .str (.pair (.int .i64) .unit)))] [[(.int .i64)]] value_count_MM, []⟩

def value_clean_T : Tm := ⟨[(0, true, [.hole (.int .i64), .hole .str, .hole (.slc (.pair .str (.pair .str .unit))), .hole (.slc .str), .hole (.slc (.pair .str (.pair (.int .i64) .unit)))])], 1, []⟩
def value_clean_O : List (Ex × Tm) := [(.ret, ⟨[(0, false, [.hole .bool])], 1, []⟩)]
def value_clean_M (s0_0 : Int) (s0_1 : List UInt8) (s0_2 : List ((List UInt8) × (List UInt8) × Unit)) (s0_3 : List (List UInt8)) (s0_4 : List ((List UInt8) × Int × Unit)) : Option (Bool) :=
  if (s0_0 == (1 : Int)) = true then
    Option.bind (value_count_P (s0_0, s0_1, s0_2, s0_3, s0_4)) fun (v0 : Int) =>
    some (v0 == (0 : Int))
  else
  if (s0_0 == (2 : Int)) = true then
    if (s0_1 == []) = true then
      Option.bind (value_count_P (s0_0, s0_1, s0_2, s0_3, s0_4)) fun (v1 : Int) =>
      some ((((List.length s0_2) : Nat) : Int) == v1)
    else
    some (false)
  else
  if (s0_0 == (3 : Int)) = true then
    if (s0_1 == []) = true then
      Option.bind (value_count_P (s0_0, s0_1, s0_2, s0_3, s0_4)) fun (v2 : Int) =>
      some ((((List.length s0_3) : Nat) : Int) == v2)
    else
    some (false)
  else
  if (s0_0 == (4 : Int)) = true then
    if (s0_1 == []) = true then
      Option.bind (value_count_P (s0_0, s0_1, s0_2, s0_3, s0_4)) fun (v3 : Int) =>
      some ((((List.length s0_3) : Nat) : Int) == v3)
    else
    some (false)
  else
  if (s0_1 == []) = true then
    Option.bind (value_count_P (s0_0, s0_1, s0_2, s0_3, s0_4)) fun (v4 : Int) =>
    some ((((List.length s0_4) : Nat) : Int) == v4)
  else
  some (false)
def value_clean_P : Int × (List UInt8) × (List ((List UInt8) × (List UInt8) × Unit)) × (List (List UInt8)) × (List ((List UInt8) × Int × Unit)) → Option (Bool) := fun p => value_clean_M p.1 p.2.1 p.2.2.1 p.2.2.2.1 p.2.2.2.2
def value_clean_MM : HL [(.int .i64), .str, (.slc (.pair .str (.pair .str .unit))), (.slc .str), (.slc (.pair .str (.pair (.int .i64) .unit)))] → Option (SumL [[.bool]]) := fun p => value_clean_M p.1 p.2.1 p.2.2.1 p.2.2.2.1 p.2.2.2.2
def value_clean_C : Con := ⟨0, value_clean_T, value_clean_O, stdCn [(.int .i64), .str, (.slc (.pair .str (.pair .str .unit))), (.slc .str), (.slc (.pair .str (.pair (.int .i64) .unit)))] [[.bool]] value_clean_MM, []⟩

def value_long_1_1_T : Tm := ⟨[(0, false, [.hole .str])], 1, []⟩
def value_long_1_1_O : List (Ex × Tm) := [(.ret, ⟨[(0, false, [.hole .bool])], 1, []⟩)]
def value_long_1_1_M (s0 : List UInt8) : Option (Bool) :=
  some (decide ((((List.length s0) : Nat) : Int) > (512 : Int)))
def value_long_1_1_P : (List UInt8) → Option (Bool) := fun p => value_long_1_1_M p
def value_long_1_1_MM : HL [.str] → Option (SumL [[.bool]]) := fun p => value_long_1_1_M p
def value_long_1_1_C : Con := ⟨0, value_long_1_1_T, value_long_1_1_O, stdCn [.str] [[.bool]] value_long_1_1_MM, []⟩

def slices_IndexFunc_string_string_a_L1_T : Tm := ⟨[(0, false, [.hole (.slc .str)]), (1, false, [.fn 79]), (7, false, [.hole (.int .i64)]), (8, false, [.hole (.int .i64)])], 19, []⟩
def slices_IndexFunc_string_string_a_L1_O : List (Ex × Tm) := [(.exit 0, ⟨[], 19, []⟩), (.ret, ⟨[(4, false, [.hole (.int .i64)])], 19, []⟩)]
def slices_IndexFunc_string_string_a_L1 (s0 : List (List UInt8)) (s7 : Int) (s8 : Int) : Option (((List (List UInt8)) × Int × Int) ⊕ ((Unit) ⊕ (Int))) :=
  if decide (s8 < s7) = true then
    Option.bind (ix s0 s8) fun (v0 : (List UInt8)) =>
    Option.bind (value_long_1_1_P v0) fun (v1 : Bool) =>
    if v1 = true then
      some (.inr (.inr (s8)))
    else
    some (.inl (s0, s7, IntKind.wrap IntKind.i64 (s8 + (1 : Int))))
  else
  some (.inr (.inl (())))
def slices_IndexFunc_string_string_a_L1_P : (List (List UInt8)) × Int × Int → Option (((List (List UInt8)) × Int × Int) ⊕ ((Unit) ⊕ (Int))) := fun p => slices_IndexFunc_string_string_a_L1 p.1 p.2.1 p.2.2
def slices_IndexFunc_string_string_a_L1_MM : HL [(.slc .str), (.int .i64), (.int .i64)] → Option (HL [(.slc .str), (.int .i64), (.int .i64)] ⊕ SumL [[], [(.int .i64)]]) := fun p => slices_IndexFunc_string_string_a_L1 p.1 p.2.1 p.2.2
def slices_IndexFunc_string_string_a_L1_C : Con := ⟨0, slices_IndexFunc_string_string_a_L1_T, slices_IndexFunc_string_string_a_L1_O, stdCn [(.slc .str), (.int .i64), (.int .i64)] [[], [(.int .i64)]] (loop slices_IndexFunc_string_string_a_L1_MM), []⟩
def slices_IndexFunc_string_string_a_T : Tm := ⟨[(0, false, [.hole (.slc .str)]), (1, false, [.fn 79])], 2, []⟩
def slices_IndexFunc_string_string_a_O : List (Ex × Tm) := [(.ret, ⟨[(0, false, [.hole (.int .i64)])], 1, []⟩)]
def slices_IndexFunc_string_string_a_M (s0 : List (List UInt8)) : Option (Int) :=
  Option.bind (loop slices_IndexFunc_string_string_a_L1_P (s0, (((List.length s0) : Nat) : Int), (0 : Int))) fun (v0 : (Unit ⊕ Int)) =>
  Sum.elim (fun _ =>
      some ((-1 : Int))
    ) (fun (v2 : Int) =>
    some (v2)
  ) (v0)
def slices_IndexFunc_string_string_a_P : (List (List UInt8)) → Option (Int) := fun p => slices_IndexFunc_string_string_a_M p
def slices_IndexFunc_string_string_a_MM : HL [(.slc .str)] → Option (SumL [[(.int .i64)]]) := fun p => slices_IndexFunc_string_string_a_M p
def slices_IndexFunc_string_string_a_C : Con := ⟨0, slices_IndexFunc_string_string_a_T, slices_IndexFunc_string_string_a_O, stdCn [(.slc .str)] [[(.int .i64)]] slices_IndexFunc_string_string_a_MM, []⟩

def slices_ContainsFunc_string_string_a_T : Tm := ⟨[(0, false, [.hole (.slc .str)]), (1, false, [.fn 79])], 2, []⟩
def slices_ContainsFunc_string_string_a_O : List (Ex × Tm) := [(.ret, ⟨[(0, false, [.hole .bool])], 1, []⟩)]
def slices_ContainsFunc_string_string_a_M (s0 : List (List UInt8)) : Option (Bool) :=
  Option.bind (slices_IndexFunc_string_string_a_P s0) fun (v0 : Int) =>
  some (decide (v0 ≥ (0 : Int)))
def slices_ContainsFunc_string_string_a_P : (List (List UInt8)) → Option (Bool) := fun p => slices_ContainsFunc_string_string_a_M p
def slices_ContainsFunc_string_string_a_MM : HL [(.slc .str)] → Option (SumL [[.bool]]) := fun p => slices_ContainsFunc_string_string_a_M p
def slices_ContainsFunc_string_string_a_C : Con := ⟨0, slices_ContainsFunc_string_string_a_T, slices_ContainsFunc_string_string_a_O, stdCn [(.slc .str)] [[.bool]] slices_ContainsFunc_string_string_a_MM, []⟩

def value_long_1_T : Tm := ⟨[(0, false, [.hole (.slc .str)]), (1, false, [.ptr 0 0])], 2, [.box [.hole .bool]]⟩
def value_long_1_O : List (Ex × Tm) := [(.ret, ⟨[], 0, [.box [.hole .bool]]⟩)]
def value_long_1_M (s0 : List (List UInt8)) (m0 : Bool) : Option (Bool) :=
  if m0 = true then
    some (true)
  else
  Option.bind (slices_ContainsFunc_string_string_a_P s0) fun (v0 : Bool) =>
  some (v0)
def value_long_1_P : (List (List UInt8)) × Bool → Option (Bool) := fun p => value_long_1_M p.1 p.2
def value_long_1_MM : HL [(.slc .str), .bool] → Option (SumL [[.bool]]) := fun p => value_long_1_M p.1 p.2
def value_long_1_C : Con := ⟨1, value_long_1_T, value_long_1_O, stdCn [(.slc .str), .bool] [[.bool]] value_long_1_MM, []⟩

def value_texts_a_L1_T : Tm := ⟨[(1, false, [.clo 77 [(0, 0)]]), (2, false, [.ptr 1 0]), (14, false, [.hole (.slc (.pair .str (.pair .str .unit)))]), (15, false, [.hole (.int .i64)]), (16, false, [.hole (.int .i64)])], 45, [.box [.hole .bool], .box [.hole (.int .i64), .hole .str, .hole (.slc (.pair .str (.pair .str .unit))), .hole (.slc .str), .hole (.slc (.pair .str (.pair (.int .i64) .unit)))]]⟩
def value_texts_a_L1_O : List (Ex × Tm) := [(.exit 0, ⟨[(1, false, [.clo 77 [(0, 0)]]), (2, false, [.ptr 1 0])], 45, [.box [.hole .bool], .box [.hole (.int .i64), .hole .str, .hole (.slc (.pair .str (.pair .str .unit))), .hole (.slc .str), .hole (.slc (.pair .str (.pair (.int .i64) .unit)))]]⟩)]
def value_texts_a_L1 (s14 : List ((List UInt8) × (List UInt8) × Unit)) (s15 : Int) (s16 : Int) (m0 : Bool) (m1_0 : Int) (m1_1 : List UInt8) (m1_2 : List ((List UInt8) × (List UInt8) × Unit)) (m1_3 : List (List UInt8)) (m1_4 : List ((List UInt8) × Int × Unit)) : Option (((List ((List UInt8) × (List UInt8) × Unit)) × Int × Int × Bool × Int × (List UInt8) × (List ((List UInt8) × (List UInt8) × Unit)) × (List (List UInt8)) × (List ((List UInt8) × Int × Unit))) ⊕ ((Bool × Int × (List UInt8) × (List ((List UInt8) × (List UInt8) × Unit)) × (List (List UInt8)) × (List ((List UInt8) × Int × Unit))))) :=
  if decide (s16 < s15) = true then
    Option.bind (ix s14 s16) fun (v0 : ((List UInt8) × ((List UInt8) × Unit))) =>
    Option.bind (value_long_1_P ([v0.fst, v0.snd.fst], m0)) fun (v1 : Bool) =>
    some (.inl (s14, s15, IntKind.wrap IntKind.i64 (s16 + (1 : Int)), v1, m1_0, m1_1, m1_2, m1_3, m1_4))
  else
  some (.inr (m0, m1_0, m1_1, m1_2, m1_3, m1_4))
def value_texts_a_L1_P : (List ((List UInt8) × (List UInt8) × Unit)) × Int × Int × Bool × Int × (List UInt8) × (List ((List UInt8) × (List UInt8) × Unit)) × (List (List UInt8)) × (List ((List UInt8) × Int × Unit)) → Option (((List ((List UInt8) × (List UInt8) × Unit)) × Int × Int × Bool × Int × (List UInt8) × (List ((List UInt8) × (List UInt8) × Unit)) × (List (List UInt8)) × (List ((List UInt8) × Int × Unit))) ⊕ ((Bool × Int × (List UInt8) × (List ((List UInt8) × (List UInt8) × Unit)) × (List (List UInt8)) × (List ((List UInt8) × Int × Unit))))) := fun p => value_texts_a_L1 p.1 p.2.1 p.2.2.1 p.2.2.2.1 p.2.2.2.2.1 p.2.2.2.2.2.1 p.2.2.2.2.2.2.1 p.2.2.2.2.2.2.2.1 p.2.2.2.2.2.2.2.2
def value_texts_a_L1_MM : HL [(.slc (.pair .str (.pair .str .unit))), (.int .i64), (.int .i64), .bool, (.int .i64), .str, (.slc (.pair .str (.pair .str .unit))), (.slc .str), (.slc (.pair .str (.pair (.int .i64) .unit)))] → Option (HL [(.slc (.pair .str (.pair .str .unit))), (.int .i64), (.int .i64), .bool, (.int .i64), .str, (.slc (.pair .str (.pair .str .unit))), (.slc .str), (.slc (.pair .str (.pair (.int .i64) .unit)))] ⊕ SumL [[.bool, (.int .i64), .str, (.slc (.pair .str (.pair .str .unit))), (.slc .str), (.slc (.pair .str (.pair (.int .i64) .unit)))]]) := fun p => value_texts_a_L1 p.1 p.2.1 p.2.2.1 p.2.2.2.1 p.2.2.2.2.1 p.2.2.2.2.2.1 p.2.2.2.2.2.2.1 p.2.2.2.2.2.2.2.1 p.2.2.2.2.2.2.2.2
def value_texts_a_L1_C : Con := ⟨2, value_texts_a_L1_T, value_texts_a_L1_O, stdCn [(.slc (.pair .str (.pair .str .unit))), (.int .i64), (.int .i64), .bool, (.int .i64), .str, (.slc (.pair .str (.pair .str .unit))), (.slc .str), (.slc (.pair .str (.pair (.int .i64) .unit)))] [[.bool, (.int .i64), .str, (.slc (.pair .str (.pair .str .unit))), (.slc .str), (.slc (.pair .str (.pair (.int .i64) .unit)))]] (loop value_texts_a_L1_MM), []⟩
def value_texts_a_L2_T : Tm := ⟨[(1, false, [.clo 77 [(0, 0)]]), (33, false, [.hole (.slc (.pair .str (.pair (.int .i64) .unit)))]), (34, false, [.hole (.int .i64)]), (35, false, [.hole (.int .i64)])], 45, [.box [.hole .bool]]⟩
def value_texts_a_L2_O : List (Ex × Tm) := [(.exit 2, ⟨[], 45, [.box [.hole .bool]]⟩)]
def value_texts_a_L2 (s33 : List ((List UInt8) × Int × Unit)) (s34 : Int) (s35 : Int) (m0 : Bool) : Option (((List ((List UInt8) × Int × Unit)) × Int × Int × Bool) ⊕ ((Bool))) :=
  if decide (s35 < s34) = true then
    Option.bind (ix s33 s35) fun (v0 : ((List UInt8) × (Int × Unit))) =>
    Option.bind (value_long_1_P ([v0.fst], m0)) fun (v1 : Bool) =>
    some (.inl (s33, s34, IntKind.wrap IntKind.i64 (s35 + (1 : Int)), v1))
  else
  some (.inr (m0))
def value_texts_a_L2_P : (List ((List UInt8) × Int × Unit)) × Int × Int × Bool → Option (((List ((List UInt8) × Int × Unit)) × Int × Int × Bool) ⊕ ((Bool))) := fun p => value_texts_a_L2 p.1 p.2.1 p.2.2.1 p.2.2.2
def value_texts_a_L2_MM : HL [(.slc (.pair .str (.pair (.int .i64) .unit))), (.int .i64), (.int .i64), .bool] → Option (HL [(.slc (.pair .str (.pair (.int .i64) .unit))), (.int .i64), (.int .i64), .bool] ⊕ SumL [[.bool]]) := fun p => value_texts_a_L2 p.1 p.2.1 p.2.2.1 p.2.2.2
def value_texts_a_L2_C : Con := ⟨1, value_texts_a_L2_T, value_texts_a_L2_O, stdCn [(.slc (.pair .str (.pair (.int .i64) .unit))), (.int .i64), (.int .i64), .bool] [[.bool]] (loop value_texts_a_L2_MM), []⟩
def value_texts_a_T : Tm := ⟨[(0, true, [.hole (.int .i64), .hole .str, .hole (.slc (.pair .str (.pair .str .unit))), .hole (.slc .str), .hole (.slc (.pair .str (.pair (.int .i64) .unit)))]), (1, false, [.clo 77 [(0, 0)]])], 2, [.box [.hole .bool]]⟩
def value_texts_a_O : List (Ex × Tm) := [(.ret, ⟨[], 0, [.box [.hole .bool]]⟩)]
def value_texts_a_M (s0_0 : Int) (s0_1 : List UInt8) (s0_2 : List ((List UInt8) × (List UInt8) × Unit)) (s0_3 : List (List UInt8)) (s0_4 : List ((List UInt8) × Int × Unit)) (m0 : Bool) : Option (Bool) :=
  Option.bind (value_long_1_P ([s0_1], m0)) fun (v0 : Bool) =>
  Option.bind (loop value_texts_a_L1_P (s0_2, (((List.length s0_2) : Nat) : Int), (0 : Int), v0, s0_0, s0_1, s0_2, s0_3, s0_4)) fun (v1 : (Bool × (Int × ((List UInt8) × ((List ((List UInt8) × ((List UInt8) × Unit))) × ((List (List UInt8)) × (List ((List UInt8) × (Int × Unit))))))))) =>
  Option.bind (value_long_1_P (v1.snd.snd.snd.snd.fst, v1.fst)) fun (v2 : Bool) =>
  Option.bind (loop value_texts_a_L2_P (v1.snd.snd.snd.snd.snd, (((List.length v1.snd.snd.snd.snd.snd) : Nat) : Int), (0 : Int), v2)) fun (v3 : Bool) =>
  some (v3)
def value_texts_a_P : Int × (List UInt8) × (List ((List UInt8) × (List UInt8) × Unit)) × (List (List UInt8)) × (List ((List UInt8) × Int × Unit)) × Bool → Option (Bool) := fun p => value_texts_a_M p.1 p.2.1 p.2.2.1 p.2.2.2.1 p.2.2.2.2.1 p.2.2.2.2.2
def value_texts_a_MM : HL [(.int .i64), .str, (.slc (.pair .str (.pair .str .unit))), (.slc .str), (.slc (.pair .str (.pair (.int .i64) .unit))), .bool] → Option (SumL [[.bool]]) := fun p => value_texts_a_M p.1 p.2.1 p.2.2.1 p.2.2.2.1 p.2.2.2.2.1 p.2.2.2.2.2
def value_texts_a_C : Con := ⟨1, value_texts_a_T, value_texts_a_O, stdCn [(.int .i64), .str, (.slc (.pair .str (.pair .str .unit))), (.slc .str), (.slc (.pair .str (.pair (.int .i64) .unit))), .bool] [[.bool]] value_texts_a_MM, []⟩

def value_Size_1_L1_T : Tm := ⟨[(1, false, [.ptr 0 0]), (5, false, [.hole (.slc .str)]), (6, false, [.hole (.int .i64)]), (7, false, [.hole (.int .i64)])], 16, [.box [.hole (.int .i64)]]⟩
def value_Size_1_L1_O : List (Ex × Tm) := [(.exit 0, ⟨[], 16, [.box [.hole (.int .i64)]]⟩)]
def value_Size_1_L1 (s5 : List (List UInt8)) (s6 : Int) (s7 : Int) (m0 : Int) : Option (((List (List UInt8)) × Int × Int × Int) ⊕ ((Int))) :=
  if decide (s7 < s6) = true then
    Option.bind (ix s5 s7) fun (v0 : (List UInt8)) =>
    some (.inl (s5, s6, IntKind.wrap IntKind.i64 (s7 + (1 : Int)), IntKind.wrap IntKind.i64 (m0 + (((List.length v0) : Nat) : Int))))
  else
  some (.inr (m0))
def value_Size_1_L1_P : (List (List UInt8)) × Int × Int × Int → Option (((List (List UInt8)) × Int × Int × Int) ⊕ ((Int))) := fun p => value_Size_1_L1 p.1 p.2.1 p.2.2.1 p.2.2.2
def value_Size_1_L1_MM : HL [(.slc .str), (.int .i64), (.int .i64), (.int .i64)] → Option (HL [(.slc .str), (.int .i64), (.int .i64), (.int .i64)] ⊕ SumL [[(.int .i64)]]) := fun p => value_Size_1_L1 p.1 p.2.1 p.2.2.1 p.2.2.2
def value_Size_1_L1_C : Con := ⟨1, value_Size_1_L1_T, value_Size_1_L1_O, stdCn [(.slc .str), (.int .i64), (.int .i64), (.int .i64)] [[(.int .i64)]] (loop value_Size_1_L1_MM), []⟩
def value_Size_1_T : Tm := ⟨[(0, false, [.hole (.slc .str)]), (1, false, [.ptr 0 0])], 2, [.box [.hole (.int .i64)]]⟩
def value_Size_1_O : List (Ex × Tm) := [(.ret, ⟨[], 0, [.box [.hole (.int .i64)]]⟩)]
def value_Size_1_M (s0 : List (List UInt8)) (m0 : Int) : Option (Int) :=
  Option.bind (loop value_Size_1_L1_P (s0, (((List.length s0) : Nat) : Int), (0 : Int), m0)) fun (v0 : Int) =>
  some (v0)
def value_Size_1_P : (List (List UInt8)) × Int → Option (Int) := fun p => value_Size_1_M p.1 p.2
def value_Size_1_MM : HL [(.slc .str), (.int .i64)] → Option (SumL [[(.int .i64)]]) := fun p => value_Size_1_M p.1 p.2
def value_Size_1_C : Con := ⟨1, value_Size_1_T, value_Size_1_O, stdCn [(.slc .str), (.int .i64)] [[(.int .i64)]] value_Size_1_MM, []⟩

def value_texts_b_L1_T : Tm := ⟨[(1, false, [.clo 62 [(0, 0)]]), (2, false, [.ptr 1 0]), (14, false, [.hole (.slc (.pair .str (.pair .str .unit)))]), (15, false, [.hole (.int .i64)]), (16, false, [.hole (.int .i64)])], 45, [.box [.hole (.int .i64)], .box [.hole (.int .i64), .hole .str, .hole (.slc (.pair .str (.pair .str .unit))), .hole (.slc .str), .hole (.slc (.pair .str (.pair (.int .i64) .unit)))]]⟩
def value_texts_b_L1_O : List (Ex × Tm) := [(.exit 0, ⟨[(1, false, [.clo 62 [(0, 0)]]), (2, false, [.ptr 1 0])], 45, [.box [.hole (.int .i64)], .box [.hole (.int .i64), .hole .str, .hole (.slc (.pair .str (.pair .str .unit))), .hole (.slc .str), .hole (.slc (.pair .str (.pair (.int .i64) .unit)))]]⟩)]
def value_texts_b_L1 (s14 : List ((List UInt8) × (List UInt8) × Unit)) (s15 : Int) (s16 : Int) (m0 : Int) (m1_0 : Int) (m1_1 : List UInt8) (m1_2 : List ((List UInt8) × (List UInt8) × Unit)) (m1_3 : List (List UInt8)) (m1_4 : List ((List UInt8) × Int × Unit)) : Option (((List ((List UInt8) × (List UInt8) × Unit)) × Int × Int × Int × Int × (List UInt8) × (List ((List UInt8) × (List UInt8) × Unit)) × (List (List UInt8)) × (List ((List UInt8) × Int × Unit))) ⊕ ((Int × Int × (List UInt8) × (List ((List UInt8) × (List UInt8) × Unit)) × (List (List UInt8)) × (List ((List UInt8) × Int × Unit))))) :=
  if decide (s16 < s15) = true then
    Option.bind (ix s14 s16) fun (v0 : ((List UInt8) × ((List UInt8) × Unit))) =>
    Option.bind (value_Size_1_P ([v0.fst, v0.snd.fst], m0)) fun (v1 : Int) =>
    some (.inl (s14, s15, IntKind.wrap IntKind.i64 (s16 + (1 : Int)), v1, m1_0, m1_1, m1_2, m1_3, m1_4))
  else
  some (.inr (m0, m1_0, m1_1, m1_2, m1_3, m1_4))
def value_texts_b_L1_P : (List ((List UInt8) × (List UInt8) × Unit)) × Int × Int × Int × Int × (List UInt8) × (List ((List UInt8) × (List UInt8) × Unit)) × (List (List UInt8)) × (List ((List UInt8) × Int × Unit)) → Option (((List ((List UInt8) × (List UInt8) × Unit)) × Int × Int × Int × Int × (List UInt8) × (List ((List UInt8) × (List UInt8) × Unit)) × (List (List UInt8)) × (List ((List UInt8) × Int × Unit))) ⊕ ((Int × Int × (List UInt8) × (List ((List UInt8) × (List UInt8) × Unit)) × (List (List UInt8)) × (List ((List UInt8) × Int × Unit))))) := fun p => value_texts_b_L1 p.1 p.2.1 p.2.2.1 p.2.2.2.1 p.2.2.2.2.1 p.2.2.2.2.2.1 p.2.2.2.2.2.2.1 p.2.2.2.2.2.2.2.1 p.2.2.2.2.2.2.2.2
def value_texts_b_L1_MM : HL [(.slc (.pair .str (.pair .str .unit))), (.int .i64), (.int .i64), (.int .i64), (.int .i64), .str, (.slc (.pair .str (.pair .str .unit))), (.slc .str), (.slc (.pair .str (.pair (.int .i64) .unit)))] → Option (HL [(.slc (.pair .str (.pair .str .unit))), (.int .i64), (.int .i64), (.int .i64), (.int .i64), .str, (.slc (.pair .str (.pair .str .unit))), (.slc .str), (.slc (.pair .str (.pair (.int .i64) .unit)))] ⊕ SumL [[(.int .i64), (.int .i64), .str, (.slc (.pair .str (.pair .str .unit))), (.slc .str), (.slc (.pair .str (.pair (.int .i64) .unit)))]]) := fun p => value_texts_b_L1 p.1 p.2.1 p.2.2.1 p.2.2.2.1 p.2.2.2.2.1 p.2.2.2.2.2.1 p.2.2.2.2.2.2.1 p.2.2.2.2.2.2.2.1 p.2.2.2.2.2.2.2.2
def value_texts_b_L1_C : Con := ⟨2, value_texts_b_L1_T, value_texts_b_L1_O, stdCn [(.slc (.pair .str (.pair .str .unit))), (.int .i64), (.int .i64), (.int .i64), (.int .i64), .str, (.slc (.pair .str (.pair .str .unit))), (.slc .str), (.slc (.pair .str (.pair (.int .i64) .unit)))] [[(.int .i64), (.int .i64), .str, (.slc (.pair .str (.pair .str .unit))), (.slc .str), (.slc (.pair .str (.pair (.int .i64) .unit)))]] (loop value_texts_b_L1_MM), []⟩
def value_texts_b_L2_T : Tm := ⟨[(1, false, [.clo 62 [(0, 0)]]), (33, false, [.hole (.slc (.pair .str (.pair (.int .i64) .unit)))]), (34, false, [.hole (.int .i64)]), (35, false, [.hole (.int .i64)])], 45, [.box [.hole (.int .i64)]]⟩
def value_texts_b_L2_O : List (Ex × Tm) := [(.exit 2, ⟨[], 45, [.box [.hole (.int .i64)]]⟩)]
def value_texts_b_L2 (s33 : List ((List UInt8) × Int × Unit)) (s34 : Int) (s35 : Int) (m0 : Int) : Option (((List ((List UInt8) × Int × Unit)) × Int × Int × Int) ⊕ ((Int))) :=
  if decide (s35 < s34) = true then
    Option.bind (ix s33 s35) fun (v0 : ((List UInt8) × (Int × Unit))) =>
    Option.bind (value_Size_1_P ([v0.fst], m0)) fun (v1 : Int) =>
    some (.inl (s33, s34, IntKind.wrap IntKind.i64 (s35 + (1 : Int)), v1))
  else
  some (.inr (m0))
def value_texts_b_L2_P : (List ((List UInt8) × Int × Unit)) × Int × Int × Int → Option (((List ((List UInt8) × Int × Unit)) × Int × Int × Int) ⊕ ((Int))) := fun p => value_texts_b_L2 p.1 p.2.1 p.2.2.1 p.2.2.2
def value_texts_b_L2_MM : HL [(.slc (.pair .str (.pair (.int .i64) .unit))), (.int .i64), (.int .i64), (.int .i64)] → Option (HL [(.slc (.pair .str (.pair (.int .i64) .unit))), (.int .i64), (.int .i64), (.int .i64)] ⊕ SumL [[(.int .i64)]]) := fun p => value_texts_b_L2 p.1 p.2.1 p.2.2.1 p.2.2.2
def value_texts_b_L2_C : Con := ⟨1, value_texts_b_L2_T, value_texts_b_L2_O, stdCn [(.slc (.pair .str (.pair (.int .i64) .unit))), (.int .i64), (.int .i64), (.int .i64)] [[(.int .i64)]] (loop value_texts_b_L2_MM), []⟩
def value_texts_b_T : Tm := ⟨[(0, true, [.hole (.int .i64), .hole .str, .hole (.slc (.pair .str (.pair .str .unit))), .hole (.slc .str), .hole (.slc (.pair .str (.pair (.int .i64) .unit)))]), (1, false, [.clo 62 [(0, 0)]])], 2, [.box [.hole (.int .i64)]]⟩
def value_texts_b_O : List (Ex × Tm) := [(.ret, ⟨[], 0, [.box [.hole (.int .i64)]]⟩)]
def value_texts_b_M (s0_0 : Int) (s0_1 : List UInt8) (s0_2 : List ((List UInt8) × (List UInt8) × Unit)) (s0_3 : List (List UInt8)) (s0_4 : List ((List UInt8) × Int × Unit)) (m0 : Int) : Option (Int) :=
  Option.bind (value_Size_1_P ([s0_1], m0)) fun (v0 : Int) =>
  Option.bind (loop value_texts_b_L1_P (s0_2, (((List.length s0_2) : Nat) : Int), (0 : Int), v0, s0_0, s0_1, s0_2, s0_3, s0_4)) fun (v1 : (Int × (Int × ((List UInt8) × ((List ((List UInt8) × ((List UInt8) × Unit))) × ((List (List UInt8)) × (List ((List UInt8) × (Int × Unit))))))))) =>
  Option.bind (value_Size_1_P (v1.snd.snd.snd.snd.fst, v1.fst)) fun (v2 : Int) =>
  Option.bind (loop value_texts_b_L2_P (v1.snd.snd.snd.snd.snd, (((List.length v1.snd.snd.snd.snd.snd) : Nat) : Int), (0 : Int), v2)) fun (v3 : Int) =>
  some (v3)
def value_texts_b_P : Int × (List UInt8) × (List ((List UInt8) × (List UInt8) × Unit)) × (List (List UInt8)) × (List ((List UInt8) × Int × Unit)) × Int → Option (Int) := fun p => value_texts_b_M p.1 p.2.1 p.2.2.1 p.2.2.2.1 p.2.2.2.2.1 p.2.2.2.2.2
def value_texts_b_MM : HL [(.int .i64), .str, (.slc (.pair .str (.pair .str .unit))), (.slc .str), (.slc (.pair .str (.pair (.int .i64) .unit))), (.int .i64)] → Option (SumL [[(.int .i64)]]) := fun p => value_texts_b_M p.1 p.2.1 p.2.2.1 p.2.2.2.1 p.2.2.2.2.1 p.2.2.2.2.2
def value_texts_b_C : Con := ⟨1, value_texts_b_T, value_texts_b_O, stdCn [(.int .i64), .str, (.slc (.pair .str (.pair .str .unit))), (.slc .str), (.slc (.pair .str (.pair (.int .i64) .unit))), (.int .i64)] [[(.int .i64)]] value_texts_b_MM, []⟩

def value_long_T : Tm := ⟨[(0, true, [.hole (.int .i64), .hole .str, .hole (.slc (.pair .str (.pair .str .unit))), .hole (.slc .str), .hole (.slc (.pair .str (.pair (.int .i64) .unit)))])], 1, []⟩
def value_long_O : List (Ex × Tm) := [(.ret, ⟨[(0, false, [.hole .bool])], 1, []⟩)]
def value_long_M (s0_0 : Int) (s0_1 : List UInt8) (s0_2 : List ((List UInt8) × (List UInt8) × Unit)) (s0_3 : List (List UInt8)) (s0_4 : List ((List UInt8) × Int × Unit)) : Option (Bool) :=
  Option.bind (value_texts_a_P (s0_0, s0_1, s0_2, s0_3, s0_4, false)) fun (v0 : Bool) =>
  some (v0)
def value_long_P : Int × (List UInt8) × (List ((List UInt8) × (List UInt8) × Unit)) × (List (List UInt8)) × (List ((List UInt8) × Int × Unit)) → Option (Bool) := fun p => value_long_M p.1 p.2.1 p.2.2.1 p.2.2.2.1 p.2.2.2.2
def value_long_MM : HL [(.int .i64), .str, (.slc (.pair .str (.pair .str .unit))), (.slc .str), (.slc (.pair .str (.pair (.int .i64) .unit)))] → Option (SumL [[.bool]]) := fun p => value_long_M p.1 p.2.1 p.2.2.1 p.2.2.2.1 p.2.2.2.2
def value_long_C : Con := ⟨0, value_long_T, value_long_O, stdCn [(.int .i64), .str, (.slc (.pair .str (.pair .str .unit))), (.slc .str), (.slc (.pair .str (.pair (.int .i64) .unit)))] [[.bool]] value_long_MM, []⟩

def zset_Less_T : Tm := ⟨[(0, true, [.hole .str, .hole (.int .i64)]), (1, true, [.hole .str, .hole (.int .i64)])], 2, []⟩
def zset_Less_O : List (Ex × Tm) := [(.ret, ⟨[(0, false, [.hole .bool])], 1, []⟩)]
def zset_Less_M (s0_0 : List UInt8) (s0_1 : Int) (s1_0 : List UInt8) (s1_1 : Int) : Option (Bool) :=
  if (s0_1 != s1_1) = true then
    some (decide (s0_1 < s1_1))
  else
  some (Op.bytesLess s0_0 s1_0)
def zset_Less_P : (List UInt8) × Int × (List UInt8) × Int → Option (Bool) := fun p => zset_Less_M p.1 p.2.1 p.2.2.1 p.2.2.2
def zset_Less_MM : HL [.str, (.int .i64), .str, (.int .i64)] → Option (SumL [[.bool]]) := fun p => zset_Less_M p.1 p.2.1 p.2.2.1 p.2.2.2
def zset_Less_C : Con := ⟨0, zset_Less_T, zset_Less_O, stdCn [.str, (.int .i64), .str, (.int .i64)] [[.bool]] zset_Less_MM, []⟩

def value_rises_L1_T : Tm := ⟨[(1, false, [.ptr 0 0]), (3, false, [.hole (.int .i64)])], 88, [.box [.hole (.int .i64), .hole .str, .hole (.slc (.pair .str (.pair .str .unit))), .hole (.slc .str), .hole (.slc (.pair .str (.pair (.int .i64) .unit)))]]⟩
def value_rises_L1_O : List (Ex × Tm) := [(.exit 0, ⟨[(1, false, [.ptr 0 0])], 88, [.box [.hole (.int .i64), .hole .str, .hole (.slc (.pair .str (.pair .str .unit))), .hole (.slc .str), .hole (.slc (.pair .str (.pair (.int .i64) .unit)))]]⟩), (.ret, ⟨[(2, false, [.hole .bool])], 88, [.box [.hole (.int .i64), .hole .str, .hole (.slc (.pair .str (.pair .str .unit))), .hole (.slc .str), .hole (.slc (.pair .str (.pair (.int .i64) .unit)))]]⟩)]
def value_rises_L1 (s3 : Int) (m0_0 : Int) (m0_1 : List UInt8) (m0_2 : List ((List UInt8) × (List UInt8) × Unit)) (m0_3 : List (List UInt8)) (m0_4 : List ((List UInt8) × Int × Unit)) : Option ((Int × Int × (List UInt8) × (List ((List UInt8) × (List UInt8) × Unit)) × (List (List UInt8)) × (List ((List UInt8) × Int × Unit))) ⊕ ((Int × (List UInt8) × (List ((List UInt8) × (List UInt8) × Unit)) × (List (List UInt8)) × (List ((List UInt8) × Int × Unit))) ⊕ (Bool × Int × (List UInt8) × (List ((List UInt8) × (List UInt8) × Unit)) × (List (List UInt8)) × (List ((List UInt8) × Int × Unit))))) :=
  if decide (s3 < (((List.length m0_2) : Nat) : Int)) = true then
    Option.bind (ix m0_2 (IntKind.wrap IntKind.i64 (s3 - (1 : Int)))) fun (v0 : ((List UInt8) × ((List UInt8) × Unit))) =>
    Option.bind (ix m0_2 s3) fun (v1 : ((List UInt8) × ((List UInt8) × Unit))) =>
    if (!Op.bytesLess v0.fst v1.fst) = true then
      some (.inr (.inr (false, m0_0, m0_1, m0_2, m0_3, m0_4)))
    else
    some (.inl (IntKind.wrap IntKind.i64 (s3 + (1 : Int)), m0_0, m0_1, m0_2, m0_3, m0_4))
  else
  some (.inr (.inl (m0_0, m0_1, m0_2, m0_3, m0_4)))
def value_rises_L1_P : Int × Int × (List UInt8) × (List ((List UInt8) × (List UInt8) × Unit)) × (List (List UInt8)) × (List ((List UInt8) × Int × Unit)) → Option ((Int × Int × (List UInt8) × (List ((List UInt8) × (List UInt8) × Unit)) × (List (List UInt8)) × (List ((List UInt8) × Int × Unit))) ⊕ ((Int × (List UInt8) × (List ((List UInt8) × (List UInt8) × Unit)) × (List (List UInt8)) × (List ((List UInt8) × Int × Unit))) ⊕ (Bool × Int × (List UInt8) × (List ((List UInt8) × (List UInt8) × Unit)) × (List (List UInt8)) × (List ((List UInt8) × Int × Unit))))) := fun p => value_rises_L1 p.1 p.2.1 p.2.2.1 p.2.2.2.1 p.2.2.2.2.1 p.2.2.2.2.2
def value_rises_L1_MM : HL [(.int .i64), (.int .i64), .str, (.slc (.pair .str (.pair .str .unit))), (.slc .str), (.slc (.pair .str (.pair (.int .i64) .unit)))] → Option (HL [(.int .i64), (.int .i64), .str, (.slc (.pair .str (.pair .str .unit))), (.slc .str), (.slc (.pair .str (.pair (.int .i64) .unit)))] ⊕ SumL [[(.int .i64), .str, (.slc (.pair .str (.pair .str .unit))), (.slc .str), (.slc (.pair .str (.pair (.int .i64) .unit)))], [.bool, (.int .i64), .str, (.slc (.pair .str (.pair .str .unit))), (.slc .str), (.slc (.pair .str (.pair (.int .i64) .unit)))]]) := fun p => value_rises_L1 p.1 p.2.1 p.2.2.1 p.2.2.2.1 p.2.2.2.2.1 p.2.2.2.2.2
def value_rises_L1_C : Con := ⟨1, value_rises_L1_T, value_rises_L1_O, stdCn [(.int .i64), (.int .i64), .str, (.slc (.pair .str (.pair .str .unit))), (.slc .str), (.slc (.pair .str (.pair (.int .i64) .unit)))] [[(.int .i64), .str, (.slc (.pair .str (.pair .str .unit))), (.slc .str), (.slc (.pair .str (.pair (.int .i64) .unit)))], [.bool, (.int .i64), .str, (.slc (.pair .str (.pair .str .unit))), (.slc .str), (.slc (.pair .str (.pair (.int .i64) .unit)))]] (loop value_rises_L1_MM), []⟩
def value_rises_L2_T : Tm := ⟨[(1, false, [.ptr 0 0]), (4, false, [.hole (.int .i64)])], 88, [.box [.hole (.int .i64), .hole .str, .hole (.slc (.pair .str (.pair .str .unit))), .hole (.slc .str), .hole (.slc (.pair .str (.pair (.int .i64) .unit)))]]⟩
def value_rises_L2_O : List (Ex × Tm) := [(.exit 2, ⟨[(1, false, [.ptr 0 0])], 88, [.box [.hole (.int .i64), .hole .str, .hole (.slc (.pair .str (.pair .str .unit))), .hole (.slc .str), .hole (.slc (.pair .str (.pair (.int .i64) .unit)))]]⟩), (.ret, ⟨[(2, false, [.hole .bool])], 88, [.box [.hole (.int .i64), .hole .str, .hole (.slc (.pair .str (.pair .str .unit))), .hole (.slc .str), .hole (.slc (.pair .str (.pair (.int .i64) .unit)))]]⟩)]
def value_rises_L2 (s4 : Int) (m0_0 : Int) (m0_1 : List UInt8) (m0_2 : List ((List UInt8) × (List UInt8) × Unit)) (m0_3 : List (List UInt8)) (m0_4 : List ((List UInt8) × Int × Unit)) : Option ((Int × Int × (List UInt8) × (List ((List UInt8) × (List UInt8) × Unit)) × (List (List UInt8)) × (List ((List UInt8) × Int × Unit))) ⊕ ((Int × (List UInt8) × (List ((List UInt8) × (List UInt8) × Unit)) × (List (List UInt8)) × (List ((List UInt8) × Int × Unit))) ⊕ (Bool × Int × (List UInt8) × (List ((List UInt8) × (List UInt8) × Unit)) × (List (List UInt8)) × (List ((List UInt8) × Int × Unit))))) :=
  if decide (s4 < (((List.length m0_3) : Nat) : Int)) = true then
    if (m0_0 == (4 : Int)) = true then
      Option.bind (ix m0_3 (IntKind.wrap IntKind.i64 (s4 - (1 : Int)))) fun (v0 : (List UInt8)) =>
      Option.bind (ix m0_3 s4) fun (v1 : (List UInt8)) =>
      if (!Op.bytesLess v0 v1) = true then
        some (.inr (.inr (false, m0_0, m0_1, m0_2, m0_3, m0_4)))
      else
      some (.inl (IntKind.wrap IntKind.i64 (s4 + (1 : Int)), m0_0, m0_1, m0_2, m0_3, m0_4))
    else
    some (.inr (.inl (m0_0, m0_1, m0_2, m0_3, m0_4)))
  else
  some (.inr (.inl (m0_0, m0_1, m0_2, m0_3, m0_4)))
def value_rises_L2_P : Int × Int × (List UInt8) × (List ((List UInt8) × (List UInt8) × Unit)) × (List (List UInt8)) × (List ((List UInt8) × Int × Unit)) → Option ((Int × Int × (List UInt8) × (List ((List UInt8) × (List UInt8) × Unit)) × (List (List UInt8)) × (List ((List UInt8) × Int × Unit))) ⊕ ((Int × (List UInt8) × (List ((List UInt8) × (List UInt8) × Unit)) × (List (List UInt8)) × (List ((List UInt8) × Int × Unit))) ⊕ (Bool × Int × (List UInt8) × (List ((List UInt8) × (List UInt8) × Unit)) × (List (List UInt8)) × (List ((List UInt8) × Int × Unit))))) := fun p => value_rises_L2 p.1 p.2.1 p.2.2.1 p.2.2.2.1 p.2.2.2.2.1 p.2.2.2.2.2
def value_rises_L2_MM : HL [(.int .i64), (.int .i64), .str, (.slc (.pair .str (.pair .str .unit))), (.slc .str), (.slc (.pair .str (.pair (.int .i64) .unit)))] → Option (HL [(.int .i64), (.int .i64), .str, (.slc (.pair .str (.pair .str .unit))), (.slc .str), (.slc (.pair .str (.pair (.int .i64) .unit)))] ⊕ SumL [[(.int .i64), .str, (.slc (.pair .str (.pair .str .unit))), (.slc .str), (.slc (.pair .str (.pair (.int .i64) .unit)))], [.bool, (.int .i64), .str, (.slc (.pair .str (.pair .str .unit))), (.slc .str), (.slc (.pair .str (.pair (.int .i64) .unit)))]]) := fun p => value_rises_L2 p.1 p.2.1 p.2.2.1 p.2.2.2.1 p.2.2.2.2.1 p.2.2.2.2.2
def value_rises_L2_C : Con := ⟨1, value_rises_L2_T, value_rises_L2_O, stdCn [(.int .i64), (.int .i64), .str, (.slc (.pair .str (.pair .str .unit))), (.slc .str), (.slc (.pair .str (.pair (.int .i64) .unit)))] [[(.int .i64), .str, (.slc (.pair .str (.pair .str .unit))), (.slc .str), (.slc (.pair .str (.pair (.int .i64) .unit)))], [.bool, (.int .i64), .str, (.slc (.pair .str (.pair .str .unit))), (.slc .str), (.slc (.pair .str (.pair (.int .i64) .unit)))]] (loop value_rises_L2_MM), []⟩
def value_rises_L3_T : Tm := ⟨[(1, false, [.ptr 0 0]), (5, false, [.mpl 1]), (55, false, [.hole (.slc (.pair .str (.pair (.int .i64) .unit)))]), (56, false, [.hole (.int .i64)]), (57, false, [.hole (.int .i64)])], 88, [.box [.hole (.int .i64), .hole .str, .hole (.slc (.pair .str (.pair .str .unit))), .hole (.slc .str), .hole (.slc (.pair .str (.pair (.int .i64) .unit)))], .mp .str (.int .i64)]⟩
def value_rises_L3_O : List (Ex × Tm) := [(.exit 4, ⟨[], 88, [.box [.hole (.int .i64), .hole .str, .hole (.slc (.pair .str (.pair .str .unit))), .hole (.slc .str), .hole (.slc (.pair .str (.pair (.int .i64) .unit)))], .mp .str (.int .i64)]⟩), (.ret, ⟨[(2, false, [.hole .bool])], 88, [.box [.hole (.int .i64), .hole .str, .hole (.slc (.pair .str (.pair .str .unit))), .hole (.slc .str), .hole (.slc (.pair .str (.pair (.int .i64) .unit)))], .mp .str (.int .i64)]⟩)]
def value_rises_L3 (s55 : List ((List UInt8) × Int × Unit)) (s56 : Int) (s57 : Int) (m0_0 : Int) (m0_1 : List UInt8) (m0_2 : List ((List UInt8) × (List UInt8) × Unit)) (m0_3 : List (List UInt8)) (m0_4 : List ((List UInt8) × Int × Unit)) (d1 : List ((List UInt8) × Int)) : Option (((List ((List UInt8) × Int × Unit)) × Int × Int × Int × (List UInt8) × (List ((List UInt8) × (List UInt8) × Unit)) × (List (List UInt8)) × (List ((List UInt8) × Int × Unit)) × (List ((List UInt8) × Int))) ⊕ ((Int × (List UInt8) × (List ((List UInt8) × (List UInt8) × Unit)) × (List (List UInt8)) × (List ((List UInt8) × Int × Unit)) × (List ((List UInt8) × Int))) ⊕ (Bool × Int × (List UInt8) × (List ((List UInt8) × (List UInt8) × Unit)) × (List (List UInt8)) × (List ((List UInt8) × Int × Unit)) × (List ((List UInt8) × Int))))) :=
  if decide (s57 < s56) = true then
    Option.bind (ix s55 s57) fun (v0 : ((List UInt8) × (Int × Unit))) =>
    if decide (Option.getD (mget (mput d1 v0.fst (IntKind.wrap IntKind.i64 (Option.getD (mget d1 v0.fst) (0 : Int) + (1 : Int)))) v0.fst) (0 : Int) > (1 : Int)) = true then
      some (.inr (.inr (false, m0_0, m0_1, m0_2, m0_3, m0_4, mput d1 v0.fst (IntKind.wrap IntKind.i64 (Option.getD (mget d1 v0.fst) (0 : Int) + (1 : Int))))))
    else
    if decide (s57 > (0 : Int)) = true then
      Option.bind (ix m0_4 (IntKind.wrap IntKind.i64 (s57 - (1 : Int)))) fun (v1 : ((List UInt8) × (Int × Unit))) =>
      Option.bind (zset_Less_P (v1.fst, v1.snd.fst, v0.fst, v0.snd.fst)) fun (v2 : Bool) =>
      if (!v2) = true then
        some (.inr (.inr (false, m0_0, m0_1, m0_2, m0_3, m0_4, mput d1 v0.fst (IntKind.wrap IntKind.i64 (Option.getD (mget d1 v0.fst) (0 : Int) + (1 : Int))))))
      else
      some (.inl (s55, s56, IntKind.wrap IntKind.i64 (s57 + (1 : Int)), m0_0, m0_1, m0_2, m0_3, m0_4, mput d1 v0.fst (IntKind.wrap IntKind.i64 (Option.getD (mget d1 v0.fst) (0 : Int) + (1 : Int)))))
    else
    some (.inl (s55, s56, IntKind.wrap IntKind.i64 (s57 + (1 : Int)), m0_0, m0_1, m0_2, m0_3, m0_4, mput d1 v0.fst (IntKind.wrap IntKind.i64 (Option.getD (mget d1 v0.fst) (0 : Int) + (1 : Int)))))
  else
  some (.inr (.inl (m0_0, m0_1, m0_2, m0_3, m0_4, d1)))
def value_rises_L3_P : (List ((List UInt8) × Int × Unit)) × Int × Int × Int × (List UInt8) × (List ((List UInt8) × (List UInt8) × Unit)) × (List (List UInt8)) × (List ((List UInt8) × Int × Unit)) × (List ((List UInt8) × Int)) → Option (((List ((List UInt8) × Int × Unit)) × Int × Int × Int × (List UInt8) × (List ((List UInt8) × (List UInt8) × Unit)) × (List (List UInt8)) × (List ((List UInt8) × Int × Unit)) × (List ((List UInt8) × Int))) ⊕ ((Int × (List UInt8) × (List ((List UInt8) × (List UInt8) × Unit)) × (List (List UInt8)) × (List ((List UInt8) × Int × Unit)) × (List ((List UInt8) × Int))) ⊕ (Bool × Int × (List UInt8) × (List ((List UInt8) × (List UInt8) × Unit)) × (List (List UInt8)) × (List ((List UInt8) × Int × Unit)) × (List ((List UInt8) × Int))))) := fun p => value_rises_L3 p.1 p.2.1 p.2.2.1 p.2.2.2.1 p.2.2.2.2.1 p.2.2.2.2.2.1 p.2.2.2.2.2.2.1 p.2.2.2.2.2.2.2.1 p.2.2.2.2.2.2.2.2
def value_rises_L3_MM : HL [(.slc (.pair .str (.pair (.int .i64) .unit))), (.int .i64), (.int .i64), (.int .i64), .str, (.slc (.pair .str (.pair .str .unit))), (.slc .str), (.slc (.pair .str (.pair (.int .i64) .unit))), (.slc (.pair .str (.int .i64)))] → Option (HL [(.slc (.pair .str (.pair (.int .i64) .unit))), (.int .i64), (.int .i64), (.int .i64), .str, (.slc (.pair .str (.pair .str .unit))), (.slc .str), (.slc (.pair .str (.pair (.int .i64) .unit))), (.slc (.pair .str (.int .i64)))] ⊕ SumL [[(.int .i64), .str, (.slc (.pair .str (.pair .str .unit))), (.slc .str), (.slc (.pair .str (.pair (.int .i64) .unit))), (.slc (.pair .str (.int .i64)))], [.bool, (.int .i64), .str, (.slc (.pair .str (.pair .str .unit))), (.slc .str), (.slc (.pair .str (.pair (.int .i64) .unit))), (.slc (.pair .str (.int .i64)))]]) := fun p => value_rises_L3 p.1 p.2.1 p.2.2.1 p.2.2.2.1 p.2.2.2.2.1 p.2.2.2.2.2.1 p.2.2.2.2.2.2.1 p.2.2.2.2.2.2.2.1 p.2.2.2.2.2.2.2.2
def value_rises_L3_C : Con := ⟨2, value_rises_L3_T, value_rises_L3_O, stdCn [(.slc (.pair .str (.pair (.int .i64) .unit))), (.int .i64), (.int .i64), (.int .i64), .str, (.slc (.pair .str (.pair .str .unit))), (.slc .str), (.slc (.pair .str (.pair (.int .i64) .unit))), (.slc (.pair .str (.int .i64)))] [[(.int .i64), .str, (.slc (.pair .str (.pair .str .unit))), (.slc .str), (.slc (.pair .str (.pair (.int .i64) .unit))), (.slc (.pair .str (.int .i64)))], [.bool, (.int .i64), .str, (.slc (.pair .str (.pair .str .unit))), (.slc .str), (.slc (.pair .str (.pair (.int .i64) .unit))), (.slc (.pair .str (.int .i64)))]] (loop value_rises_L3_MM), []⟩
def value_rises_T : Tm := ⟨[(0, true, [.hole (.int .i64), .hole .str, .hole (.slc (.pair .str (.pair .str .unit))), .hole (.slc .str), .hole (.slc (.pair .str (.pair (.int .i64) .unit)))])], 1, []⟩
def value_rises_O : List (Ex × Tm) := [(.ret, ⟨[(0, false, [.hole .bool])], 1, []⟩)]
def value_rises_M (s0_0 : Int) (s0_1 : List UInt8) (s0_2 : List ((List UInt8) × (List UInt8) × Unit)) (s0_3 : List (List UInt8)) (s0_4 : List ((List UInt8) × Int × Unit)) : Option (Bool) :=
  Option.bind (loop value_rises_L1_P ((1 : Int), s0_0, s0_1, s0_2, s0_3, s0_4)) fun (v0 : ((Int × ((List UInt8) × ((List ((List UInt8) × ((List UInt8) × Unit))) × ((List (List UInt8)) × (List ((List UInt8) × (Int × Unit))))))) ⊕ (Bool × (Int × ((List UInt8) × ((List ((List UInt8) × ((List UInt8) × Unit))) × ((List (List UInt8)) × (List ((List UInt8) × (Int × Unit)))))))))) =>
  Sum.elim (fun (v1 : (Int × ((List UInt8) × ((List ((List UInt8) × ((List UInt8) × Unit))) × ((List (List UInt8)) × (List ((List UInt8) × (Int × Unit)))))))) =>
      Option.bind (loop value_rises_L2_P ((1 : Int), v1.fst, v1.snd.fst, v1.snd.snd.fst, v1.snd.snd.snd.fst, v1.snd.snd.snd.snd)) fun (v3 : ((Int × ((List UInt8) × ((List ((List UInt8) × ((List UInt8) × Unit))) × ((List (List UInt8)) × (List ((List UInt8) × (Int × Unit))))))) ⊕ (Bool × (Int × ((List UInt8) × ((List ((List UInt8) × ((List UInt8) × Unit))) × ((List (List UInt8)) × (List ((List UInt8) × (Int × Unit)))))))))) =>
      Sum.elim (fun (v4 : (Int × ((List UInt8) × ((List ((List UInt8) × ((List UInt8) × Unit))) × ((List (List UInt8)) × (List ((List UInt8) × (Int × Unit)))))))) =>
          Option.bind (loop value_rises_L3_P (v4.snd.snd.snd.snd, (((List.length v4.snd.snd.snd.snd) : Nat) : Int), (0 : Int), v4.fst, v4.snd.fst, v4.snd.snd.fst, v4.snd.snd.snd.fst, v4.snd.snd.snd.snd, [])) fun (v6 : ((Int × ((List UInt8) × ((List ((List UInt8) × ((List UInt8) × Unit))) × ((List (List UInt8)) × ((List ((List UInt8) × (Int × Unit))) × (List ((List UInt8) × Int))))))) ⊕ (Bool × (Int × ((List UInt8) × ((List ((List UInt8) × ((List UInt8) × Unit))) × ((List (List UInt8)) × ((List ((List UInt8) × (Int × Unit))) × (List ((List UInt8) × Int)))))))))) =>
          Sum.elim (fun (v7 : (Int × ((List UInt8) × ((List ((List UInt8) × ((List UInt8) × Unit))) × ((List (List UInt8)) × ((List ((List UInt8) × (Int × Unit))) × (List ((List UInt8) × Int)))))))) =>
              some (true)
            ) (fun (v8 : (Bool × (Int × ((List UInt8) × ((List ((List UInt8) × ((List UInt8) × Unit))) × ((List (List UInt8)) × ((List ((List UInt8) × (Int × Unit))) × (List ((List UInt8) × Int))))))))) =>
            some (v8.fst)
          ) (v6)
        ) (fun (v5 : (Bool × (Int × ((List UInt8) × ((List ((List UInt8) × ((List UInt8) × Unit))) × ((List (List UInt8)) × (List ((List UInt8) × (Int × Unit))))))))) =>
        some (v5.fst)
      ) (v3)
    ) (fun (v2 : (Bool × (Int × ((List UInt8) × ((List ((List UInt8) × ((List UInt8) × Unit))) × ((List (List UInt8)) × (List ((List UInt8) × (Int × Unit))))))))) =>
    some (v2.fst)
  ) (v0)
def value_rises_P : Int × (List UInt8) × (List ((List UInt8) × (List UInt8) × Unit)) × (List (List UInt8)) × (List ((List UInt8) × Int × Unit)) → Option (Bool) := fun p => value_rises_M p.1 p.2.1 p.2.2.1 p.2.2.2.1 p.2.2.2.2
def value_rises_MM : HL [(.int .i64), .str, (.slc (.pair .str (.pair .str .unit))), (.slc .str), (.slc (.pair .str (.pair (.int .i64) .unit)))] → Option (SumL [[.bool]]) := fun p => value_rises_M p.1 p.2.1 p.2.2.1 p.2.2.2.1 p.2.2.2.2
def value_rises_C : Con := ⟨0, value_rises_T, value_rises_O, stdCn [(.int .i64), .str, (.slc (.pair .str (.pair .str .unit))), (.slc .str), (.slc (.pair .str (.pair (.int .i64) .unit)))] [[.bool]] value_rises_MM, []⟩

def value_Check_T : Tm := ⟨[(0, true, [.hole (.int .i64), .hole .str, .hole (.slc (.pair .str (.pair .str .unit))), .hole (.slc .str), .hole (.slc (.pair .str (.pair (.int .i64) .unit)))])], 1, []⟩
def value_Check_O : List (Ex × Tm) := [(.ret, ⟨[(0, false, [.hole (.int .i64)])], 1, []⟩)]
def value_Check_M (s0_0 : Int) (s0_1 : List UInt8) (s0_2 : List ((List UInt8) × (List UInt8) × Unit)) (s0_3 : List (List UInt8)) (s0_4 : List ((List UInt8) × Int × Unit)) : Option (Int) :=
  if decide (s0_0 < (1 : Int)) = true then
    some ((1 : Int))
  else
  if decide (s0_0 > (5 : Int)) = true then
    some ((1 : Int))
  else
  Option.bind (value_clean_P (s0_0, s0_1, s0_2, s0_3, s0_4)) fun (v0 : Bool) =>
  if (!v0) = true then
    some ((1 : Int))
  else
  if (s0_0 != (1 : Int)) = true then
    Option.bind (value_count_P (s0_0, s0_1, s0_2, s0_3, s0_4)) fun (v1 : Int) =>
    if (v1 == (0 : Int)) = true then
      some ((1 : Int))
    else
    Option.bind (value_count_P (s0_0, s0_1, s0_2, s0_3, s0_4)) fun (v2 : Int) =>
    if decide (v2 > (200 : Int)) = true then
      some ((10 : Int))
    else
    Option.bind (value_long_P (s0_0, s0_1, s0_2, s0_3, s0_4)) fun (v3 : Bool) =>
    if v3 = true then
      some ((5 : Int))
    else
    Option.bind (value_rises_P (s0_0, s0_1, s0_2, s0_3, s0_4)) fun (v4 : Bool) =>
    if (!v4) = true then
      some ((13 : Int))
    else
    some ((0 : Int))
  else
  Option.bind (value_count_P (s0_0, s0_1, s0_2, s0_3, s0_4)) fun (v5 : Int) =>
  if decide (v5 > (200 : Int)) = true then
    some ((10 : Int))
  else
  Option.bind (value_long_P (s0_0, s0_1, s0_2, s0_3, s0_4)) fun (v6 : Bool) =>
  if v6 = true then
    some ((5 : Int))
  else
  Option.bind (value_rises_P (s0_0, s0_1, s0_2, s0_3, s0_4)) fun (v7 : Bool) =>
  if (!v7) = true then
    some ((13 : Int))
  else
  some ((0 : Int))
def value_Check_P : Int × (List UInt8) × (List ((List UInt8) × (List UInt8) × Unit)) × (List (List UInt8)) × (List ((List UInt8) × Int × Unit)) → Option (Int) := fun p => value_Check_M p.1 p.2.1 p.2.2.1 p.2.2.2.1 p.2.2.2.2
def value_Check_MM : HL [(.int .i64), .str, (.slc (.pair .str (.pair .str .unit))), (.slc .str), (.slc (.pair .str (.pair (.int .i64) .unit)))] → Option (SumL [[(.int .i64)]]) := fun p => value_Check_M p.1 p.2.1 p.2.2.1 p.2.2.2.1 p.2.2.2.2
def value_Check_C : Con := ⟨0, value_Check_T, value_Check_O, stdCn [(.int .i64), .str, (.slc (.pair .str (.pair .str .unit))), (.slc .str), (.slc (.pair .str (.pair (.int .i64) .unit)))] [[(.int .i64)]] value_Check_MM, []⟩

def value_Size_R1_T : Tm := ⟨[(1, false, [.ptr 0 0])], 17, [.box [.hole (.int .i64), .hole .str, .hole (.slc (.pair .str (.pair .str .unit))), .hole (.slc .str), .hole (.slc (.pair .str (.pair (.int .i64) .unit)))]]⟩
def value_Size_R1_O : List (Ex × Tm) := [(.normal, ⟨[(1, false, [.ptr 0 0]), (3, false, [.ptr 1 0])], 17, [.box [.hole (.int .i64), .hole .str, .hole (.slc (.pair .str (.pair .str .unit))), .hole (.slc .str), .hole (.slc (.pair .str (.pair (.int .i64) .unit)))], .box [.hole (.int .i64)]]⟩)]
def value_Size_R1_X (m0_0 : Int) (m0_1 : List UInt8) (m0_2 : List ((List UInt8) × (List UInt8) × Unit)) (m0_3 : List (List UInt8)) (m0_4 : List ((List UInt8) × Int × Unit)) : Option (Int × (List UInt8) × (List ((List UInt8) × (List UInt8) × Unit)) × (List (List UInt8)) × (List ((List UInt8) × Int × Unit)) × Int) :=
  agree (
    Option.bind (value_count_P (m0_0, m0_1, m0_2, m0_3, m0_4)) fun (v0 : Int) =>
    some (m0_0, m0_1, m0_2, m0_3, m0_4, IntKind.wrap IntKind.i64 (IntKind.wrap IntKind.i64 ((16 : Int) + IntKind.wrap IntKind.i64 ((8 : Int) * v0)) + IntKind.wrap IntKind.i64 ((8 : Int) * (((List.length m0_4) : Nat) : Int))))
  ) (
    Option.bind (value_count_P (m0_0, m0_1, m0_2, m0_3, m0_4)) fun (v1 : Int) =>
    some (m0_0, m0_1, m0_2, m0_3, m0_4, IntKind.wrap IntKind.i64 (IntKind.wrap IntKind.i64 ((16 : Int) + IntKind.wrap IntKind.i64 ((8 : Int) * v1)) + IntKind.wrap IntKind.i64 ((8 : Int) * (((List.length m0_4) : Nat) : Int))))
  )
def value_Size_R1 (m0_0 : Int) (m0_1 : List UInt8) (m0_2 : List ((List UInt8) × (List UInt8) × Unit)) (m0_3 : List (List UInt8)) (m0_4 : List ((List UInt8) × Int × Unit)) : Option (Int × (List UInt8) × (List ((List UInt8) × (List UInt8) × Unit)) × (List (List UInt8)) × (List ((List UInt8) × Int × Unit)) × Int) :=
    Option.bind (value_count_P (m0_0, m0_1, m0_2, m0_3, m0_4)) fun (v0 : Int) =>
    some (m0_0, m0_1, m0_2, m0_3, m0_4, IntKind.wrap IntKind.i64 (IntKind.wrap IntKind.i64 ((16 : Int) + IntKind.wrap IntKind.i64 ((8 : Int) * v0)) + IntKind.wrap IntKind.i64 ((8 : Int) * (((List.length m0_4) : Nat) : Int))))
theorem value_Size_R1_eq (m0_0 : Int) (m0_1 : List UInt8) (m0_2 : List ((List UInt8) × (List UInt8) × Unit)) (m0_3 : List (List UInt8)) (m0_4 : List ((List UInt8) × Int × Unit)) : value_Size_R1_X m0_0 m0_1 m0_2 m0_3 m0_4 = value_Size_R1 m0_0 m0_1 m0_2 m0_3 m0_4 := by unfold value_Size_R1_X; simp only [agree_self]; rfl
def value_Size_R1_P : Int × (List UInt8) × (List ((List UInt8) × (List UInt8) × Unit)) × (List (List UInt8)) × (List ((List UInt8) × Int × Unit)) → Option (Int × (List UInt8) × (List ((List UInt8) × (List UInt8) × Unit)) × (List (List UInt8)) × (List ((List UInt8) × Int × Unit)) × Int) := fun p => value_Size_R1 p.1 p.2.1 p.2.2.1 p.2.2.2.1 p.2.2.2.2
def value_Size_R1_MM : HL [(.int .i64), .str, (.slc (.pair .str (.pair .str .unit))), (.slc .str), (.slc (.pair .str (.pair (.int .i64) .unit)))] → Option (SumL [[(.int .i64), .str, (.slc (.pair .str (.pair .str .unit))), (.slc .str), (.slc (.pair .str (.pair (.int .i64) .unit))), (.int .i64)]]) := fun p => value_Size_R1 p.1 p.2.1 p.2.2.1 p.2.2.2.1 p.2.2.2.2
def value_Size_R1_C : Con := ⟨1, value_Size_R1_T, value_Size_R1_O, stdCn [(.int .i64), .str, (.slc (.pair .str (.pair .str .unit))), (.slc .str), (.slc (.pair .str (.pair (.int .i64) .unit)))] [[(.int .i64), .str, (.slc (.pair .str (.pair .str .unit))), (.slc .str), (.slc (.pair .str (.pair (.int .i64) .unit))), (.int .i64)]] value_Size_R1_MM, []⟩
def value_Size_T : Tm := ⟨[(0, true, [.hole (.int .i64), .hole .str, .hole (.slc (.pair .str (.pair .str .unit))), .hole (.slc .str), .hole (.slc (.pair .str (.pair (.int .i64) .unit)))])], 1, []⟩
def value_Size_O : List (Ex × Tm) := [(.ret, ⟨[(0, false, [.hole (.int .i64)])], 1, []⟩)]
def value_Size_M (s0_0 : Int) (s0_1 : List UInt8) (s0_2 : List ((List UInt8) × (List UInt8) × Unit)) (s0_3 : List (List UInt8)) (s0_4 : List ((List UInt8) × Int × Unit)) : Option (Int) :=
  Option.bind (value_Size_R1_P (s0_0, s0_1, s0_2, s0_3, s0_4)) fun (v0 : (Int × ((List UInt8) × ((List ((List UInt8) × ((List UInt8) × Unit))) × ((List (List UInt8)) × ((List ((List UInt8) × (Int × Unit))) × Int)))))) =>
  Option.bind (value_texts_b_P (v0.fst, v0.snd.fst, v0.snd.snd.fst, v0.snd.snd.snd.fst, v0.snd.snd.snd.snd.fst, v0.snd.snd.snd.snd.snd)) fun (v1 : Int) =>
  some (v1)
def value_Size_P : Int × (List UInt8) × (List ((List UInt8) × (List UInt8) × Unit)) × (List (List UInt8)) × (List ((List UInt8) × Int × Unit)) → Option (Int) := fun p => value_Size_M p.1 p.2.1 p.2.2.1 p.2.2.2.1 p.2.2.2.2
def value_Size_MM : HL [(.int .i64), .str, (.slc (.pair .str (.pair .str .unit))), (.slc .str), (.slc (.pair .str (.pair (.int .i64) .unit)))] → Option (SumL [[(.int .i64)]]) := fun p => value_Size_M p.1 p.2.1 p.2.2.1 p.2.2.2.1 p.2.2.2.2
def value_Size_C : Con := ⟨0, value_Size_T, value_Size_O, stdCn [(.int .i64), .str, (.slc (.pair .str (.pair .str .unit))), (.slc .str), (.slc (.pair .str (.pair (.int .i64) .unit)))] [[(.int .i64)]] value_Size_MM, []⟩

def intagliolaw16_awake_T : Tm := ⟨[], 0, []⟩
def intagliolaw16_awake_O : List (Ex × Tm) := [(.ret, ⟨[(0, false, [.hole .bool])], 1, []⟩)]
def intagliolaw16_awake_M  : Option (Bool) :=
  Option.bind (value_Check_P ((1 : Int), [(120 : UInt8)], [], [], [])) fun (v0 : Int) =>
  if (v0 != (0 : Int)) = true then
    Option.bind (ix [(0 : UInt8), (1 : UInt8), (2 : UInt8), (2 : UInt8), (3 : UInt8), (3 : UInt8), (3 : UInt8), (3 : UInt8), (4 : UInt8), (4 : UInt8), (4 : UInt8), (4 : UInt8), (4 : UInt8), (4 : UInt8), (4 : UInt8), (4 : UInt8), (5 : UInt8), (5 : UInt8), (5 : UInt8), (5 : UInt8), (5 : UInt8), (5 : UInt8), (5 : UInt8), (5 : UInt8), (5 : UInt8), (5 : UInt8), (5 : UInt8), (5 : UInt8), (5 : UInt8), (5 : UInt8), (5 : UInt8), (5 : UInt8), (6 : UInt8), (6 : UInt8), (6 : UInt8), (6 : UInt8), (6 : UInt8), (6 : UInt8), (6 : UInt8), (6 : UInt8), (6 : UInt8), (6 : UInt8), (6 : UInt8), (6 : UInt8), (6 : UInt8), (6 : UInt8), (6 : UInt8), (6 : UInt8), (6 : UInt8), (6 : UInt8), (6 : UInt8), (6 : UInt8), (6 : UInt8), (6 : UInt8), (6 : UInt8), (6 : UInt8), (6 : UInt8), (6 : UInt8), (6 : UInt8), (6 : UInt8), (6 : UInt8), (6 : UInt8), (6 : UInt8), (6 : UInt8), (7 : UInt8), (7 : UInt8), (7 : UInt8), (7 : UInt8), (7 : UInt8), (7 : UInt8), (7 : UInt8), (7 : UInt8), (7 : UInt8), (7 : UInt8), (7 : UInt8), (7 : UInt8), (7 : UInt8), (7 : UInt8), (7 : UInt8), (7 : UInt8), (7 : UInt8), (7 : UInt8), (7 : UInt8), (7 : UInt8), (7 : UInt8), (7 : UInt8), (7 : UInt8), (7 : UInt8), (7 : UInt8), (7 : UInt8), (7 : UInt8), (7 : UInt8), (7 : UInt8), (7 : UInt8), (7 : UInt8), (7 : UInt8), (7 : UInt8), (7 : UInt8), (7 : UInt8), (7 : UInt8), (7 : UInt8), (7 : UInt8), (7 : UInt8), (7 : UInt8), (7 : UInt8), (7 : UInt8), (7 : UInt8), (7 : UInt8), (7 : UInt8), (7 : UInt8), (7 : UInt8), (7 : UInt8), (7 : UInt8), (7 : UInt8), (7 : UInt8), (7 : UInt8), (7 : UInt8), (7 : UInt8), (7 : UInt8), (7 : UInt8), (7 : UInt8), (7 : UInt8), (7 : UInt8), (7 : UInt8), (7 : UInt8), (7 : UInt8), (7 : UInt8), (7 : UInt8), (8 : UInt8), (8 : UInt8), (8 : UInt8), (8 : UInt8), (8 : UInt8), (8 : UInt8), (8 : UInt8), (8 : UInt8), (8 : UInt8), (8 : UInt8), (8 : UInt8), (8 : UInt8), (8 : UInt8), (8 : UInt8), (8 : UInt8), (8 : UInt8), (8 : UInt8), (8 : UInt8), (8 : UInt8), (8 : UInt8), (8 : UInt8), (8 : UInt8), (8 : UInt8), (8 : UInt8), (8 : UInt8), (8 : UInt8), (8 : UInt8), (8 : UInt8), (8 : UInt8), (8 : UInt8), (8 : UInt8), (8 : UInt8), (8 : UInt8), (8 : UInt8), (8 : UInt8), (8 : UInt8), (8 : UInt8), (8 : UInt8), (8 : UInt8), (8 : UInt8), (8 : UInt8), (8 : UInt8), (8 : UInt8), (8 : UInt8), (8 : UInt8), (8 : UInt8), (8 : UInt8), (8 : UInt8), (8 : UInt8), (8 : UInt8), (8 : UInt8), (8 : UInt8), (8 : UInt8), (8 : UInt8), (8 : UInt8), (8 : UInt8), (8 : UInt8), (8 : UInt8), (8 : UInt8), (8 : UInt8), (8 : UInt8), (8 : UInt8), (8 : UInt8), (8 : UInt8), (8 : UInt8), (8 : UInt8), (8 : UInt8), (8 : UInt8), (8 : UInt8), (8 : UInt8), (8 : UInt8), (8 : UInt8), (8 : UInt8), (8 : UInt8), (8 : UInt8), (8 : UInt8), (8 : UInt8), (8 : UInt8), (8 : UInt8), (8 : UInt8), (8 : UInt8), (8 : UInt8), (8 : UInt8), (8 : UInt8), (8 : UInt8), (8 : UInt8), (8 : UInt8), (8 : UInt8), (8 : UInt8), (8 : UInt8), (8 : UInt8), (8 : UInt8), (8 : UInt8), (8 : UInt8), (8 : UInt8), (8 : UInt8), (8 : UInt8), (8 : UInt8), (8 : UInt8), (8 : UInt8), (8 : UInt8), (8 : UInt8), (8 : UInt8), (8 : UInt8), (8 : UInt8), (8 : UInt8), (8 : UInt8), (8 : UInt8), (8 : UInt8), (8 : UInt8), (8 : UInt8), (8 : UInt8), (8 : UInt8), (8 : UInt8), (8 : UInt8), (8 : UInt8), (8 : UInt8), (8 : UInt8), (8 : UInt8), (8 : UInt8), (8 : UInt8), (8 : UInt8), (8 : UInt8), (8 : UInt8), (8 : UInt8), (8 : UInt8), (8 : UInt8), (8 : UInt8)] (0 : Int)) fun (v1 : UInt8) =>
    some (false)
  else
  Option.bind (value_Value_Clone_P (some ((1 : Int), [(120 : UInt8)], ([], [], ()), [], ([], [], ()), none, ()))) fun (v2 : (Option (Int × ((List UInt8) × (((List (List UInt8)) × ((List (List UInt8)) × Unit)) × ((List (List UInt8)) × (((List (List UInt8)) × ((List Unit) × Unit)) × ((Option ((Option Nat) × (Unit × Unit))) × Unit)))))))) =>
  Option.bind (value_Value_Plain_P (some ((1 : Int), [(120 : UInt8)], ([], [], ()), [], ([], [], ()), none, ()))) fun (v3 : (Int × ((List UInt8) × ((List ((List UInt8) × ((List UInt8) × Unit))) × (List (List UInt8)))))) =>
  Option.bind (value_Size_P (v3.fst, v3.snd.fst, v3.snd.snd.fst, v3.snd.snd.snd, [])) fun (v4 : Int) =>
  if (!Option.isSome (mget (mput [] [(107 : UInt8)] (v2, (0 : Int), ())) [(107 : UInt8)])) = true then
    Option.bind (ix [(0 : UInt8), (1 : UInt8), (2 : UInt8), (2 : UInt8), (3 : UInt8), (3 : UInt8), (3 : UInt8), (3 : UInt8), (4 : UInt8), (4 : UInt8), (4 : UInt8), (4 : UInt8), (4 : UInt8), (4 : UInt8), (4 : UInt8), (4 : UInt8), (5 : UInt8), (5 : UInt8), (5 : UInt8), (5 : UInt8), (5 : UInt8), (5 : UInt8), (5 : UInt8), (5 : UInt8), (5 : UInt8), (5 : UInt8), (5 : UInt8), (5 : UInt8), (5 : UInt8), (5 : UInt8), (5 : UInt8), (5 : UInt8), (6 : UInt8), (6 : UInt8), (6 : UInt8), (6 : UInt8), (6 : UInt8), (6 : UInt8), (6 : UInt8), (6 : UInt8), (6 : UInt8), (6 : UInt8), (6 : UInt8), (6 : UInt8), (6 : UInt8), (6 : UInt8), (6 : UInt8), (6 : UInt8), (6 : UInt8), (6 : UInt8), (6 : UInt8), (6 : UInt8), (6 : UInt8), (6 : UInt8), (6 : UInt8), (6 : UInt8), (6 : UInt8), (6 : UInt8), (6 : UInt8), (6 : UInt8), (6 : UInt8), (6 : UInt8), (6 : UInt8), (6 : UInt8), (7 : UInt8), (7 : UInt8), (7 : UInt8), (7 : UInt8), (7 : UInt8), (7 : UInt8), (7 : UInt8), (7 : UInt8), (7 : UInt8), (7 : UInt8), (7 : UInt8), (7 : UInt8), (7 : UInt8), (7 : UInt8), (7 : UInt8), (7 : UInt8), (7 : UInt8), (7 : UInt8), (7 : UInt8), (7 : UInt8), (7 : UInt8), (7 : UInt8), (7 : UInt8), (7 : UInt8), (7 : UInt8), (7 : UInt8), (7 : UInt8), (7 : UInt8), (7 : UInt8), (7 : UInt8), (7 : UInt8), (7 : UInt8), (7 : UInt8), (7 : UInt8), (7 : UInt8), (7 : UInt8), (7 : UInt8), (7 : UInt8), (7 : UInt8), (7 : UInt8), (7 : UInt8), (7 : UInt8), (7 : UInt8), (7 : UInt8), (7 : UInt8), (7 : UInt8), (7 : UInt8), (7 : UInt8), (7 : UInt8), (7 : UInt8), (7 : UInt8), (7 : UInt8), (7 : UInt8), (7 : UInt8), (7 : UInt8), (7 : UInt8), (7 : UInt8), (7 : UInt8), (7 : UInt8), (7 : UInt8), (7 : UInt8), (7 : UInt8), (7 : UInt8), (7 : UInt8), (8 : UInt8), (8 : UInt8), (8 : UInt8), (8 : UInt8), (8 : UInt8), (8 : UInt8), (8 : UInt8), (8 : UInt8), (8 : UInt8), (8 : UInt8), (8 : UInt8), (8 : UInt8), (8 : UInt8), (8 : UInt8), (8 : UInt8), (8 : UInt8), (8 : UInt8), (8 : UInt8), (8 : UInt8), (8 : UInt8), (8 : UInt8), (8 : UInt8), (8 : UInt8), (8 : UInt8), (8 : UInt8), (8 : UInt8), (8 : UInt8), (8 : UInt8), (8 : UInt8), (8 : UInt8), (8 : UInt8), (8 : UInt8), (8 : UInt8), (8 : UInt8), (8 : UInt8), (8 : UInt8), (8 : UInt8), (8 : UInt8), (8 : UInt8), (8 : UInt8), (8 : UInt8), (8 : UInt8), (8 : UInt8), (8 : UInt8), (8 : UInt8), (8 : UInt8), (8 : UInt8), (8 : UInt8), (8 : UInt8), (8 : UInt8), (8 : UInt8), (8 : UInt8), (8 : UInt8), (8 : UInt8), (8 : UInt8), (8 : UInt8), (8 : UInt8), (8 : UInt8), (8 : UInt8), (8 : UInt8), (8 : UInt8), (8 : UInt8), (8 : UInt8), (8 : UInt8), (8 : UInt8), (8 : UInt8), (8 : UInt8), (8 : UInt8), (8 : UInt8), (8 : UInt8), (8 : UInt8), (8 : UInt8), (8 : UInt8), (8 : UInt8), (8 : UInt8), (8 : UInt8), (8 : UInt8), (8 : UInt8), (8 : UInt8), (8 : UInt8), (8 : UInt8), (8 : UInt8), (8 : UInt8), (8 : UInt8), (8 : UInt8), (8 : UInt8), (8 : UInt8), (8 : UInt8), (8 : UInt8), (8 : UInt8), (8 : UInt8), (8 : UInt8), (8 : UInt8), (8 : UInt8), (8 : UInt8), (8 : UInt8), (8 : UInt8), (8 : UInt8), (8 : UInt8), (8 : UInt8), (8 : UInt8), (8 : UInt8), (8 : UInt8), (8 : UInt8), (8 : UInt8), (8 : UInt8), (8 : UInt8), (8 : UInt8), (8 : UInt8), (8 : UInt8), (8 : UInt8), (8 : UInt8), (8 : UInt8), (8 : UInt8), (8 : UInt8), (8 : UInt8), (8 : UInt8), (8 : UInt8), (8 : UInt8), (8 : UInt8), (8 : UInt8), (8 : UInt8), (8 : UInt8), (8 : UInt8), (8 : UInt8), (8 : UInt8), (8 : UInt8), (8 : UInt8)] (0 : Int)) fun (v5 : UInt8) =>
    some (false)
  else
  Option.bind (room (24 : Nat) (1 : Nat)) fun _ =>
  Option.bind (inb (1 : Nat) (0 : Int)) fun _ =>
  Option.bind (ix [(0 : UInt8), (1 : UInt8), (2 : UInt8), (2 : UInt8), (3 : UInt8), (3 : UInt8), (3 : UInt8), (3 : UInt8), (4 : UInt8), (4 : UInt8), (4 : UInt8), (4 : UInt8), (4 : UInt8), (4 : UInt8), (4 : UInt8), (4 : UInt8), (5 : UInt8), (5 : UInt8), (5 : UInt8), (5 : UInt8), (5 : UInt8), (5 : UInt8), (5 : UInt8), (5 : UInt8), (5 : UInt8), (5 : UInt8), (5 : UInt8), (5 : UInt8), (5 : UInt8), (5 : UInt8), (5 : UInt8), (5 : UInt8), (6 : UInt8), (6 : UInt8), (6 : UInt8), (6 : UInt8), (6 : UInt8), (6 : UInt8), (6 : UInt8), (6 : UInt8), (6 : UInt8), (6 : UInt8), (6 : UInt8), (6 : UInt8), (6 : UInt8), (6 : UInt8), (6 : UInt8), (6 : UInt8), (6 : UInt8), (6 : UInt8), (6 : UInt8), (6 : UInt8), (6 : UInt8), (6 : UInt8), (6 : UInt8), (6 : UInt8), (6 : UInt8), (6 : UInt8), (6 : UInt8), (6 : UInt8), (6 : UInt8), (6 : UInt8), (6 : UInt8), (6 : UInt8), (7 : UInt8), (7 : UInt8), (7 : UInt8), (7 : UInt8), (7 : UInt8), (7 : UInt8), (7 : UInt8), (7 : UInt8), (7 : UInt8), (7 : UInt8), (7 : UInt8), (7 : UInt8), (7 : UInt8), (7 : UInt8), (7 : UInt8), (7 : UInt8), (7 : UInt8), (7 : UInt8), (7 : UInt8), (7 : UInt8), (7 : UInt8), (7 : UInt8), (7 : UInt8), (7 : UInt8), (7 : UInt8), (7 : UInt8), (7 : UInt8), (7 : UInt8), (7 : UInt8), (7 : UInt8), (7 : UInt8), (7 : UInt8), (7 : UInt8), (7 : UInt8), (7 : UInt8), (7 : UInt8), (7 : UInt8), (7 : UInt8), (7 : UInt8), (7 : UInt8), (7 : UInt8), (7 : UInt8), (7 : UInt8), (7 : UInt8), (7 : UInt8), (7 : UInt8), (7 : UInt8), (7 : UInt8), (7 : UInt8), (7 : UInt8), (7 : UInt8), (7 : UInt8), (7 : UInt8), (7 : UInt8), (7 : UInt8), (7 : UInt8), (7 : UInt8), (7 : UInt8), (7 : UInt8), (7 : UInt8), (7 : UInt8), (7 : UInt8), (7 : UInt8), (7 : UInt8), (8 : UInt8), (8 : UInt8), (8 : UInt8), (8 : UInt8), (8 : UInt8), (8 : UInt8), (8 : UInt8), (8 : UInt8), (8 : UInt8), (8 : UInt8), (8 : UInt8), (8 : UInt8), (8 : UInt8), (8 : UInt8), (8 : UInt8), (8 : UInt8), (8 : UInt8), (8 : UInt8), (8 : UInt8), (8 : UInt8), (8 : UInt8), (8 : UInt8), (8 : UInt8), (8 : UInt8), (8 : UInt8), (8 : UInt8), (8 : UInt8), (8 : UInt8), (8 : UInt8), (8 : UInt8), (8 : UInt8), (8 : UInt8), (8 : UInt8), (8 : UInt8), (8 : UInt8), (8 : UInt8), (8 : UInt8), (8 : UInt8), (8 : UInt8), (8 : UInt8), (8 : UInt8), (8 : UInt8), (8 : UInt8), (8 : UInt8), (8 : UInt8), (8 : UInt8), (8 : UInt8), (8 : UInt8), (8 : UInt8), (8 : UInt8), (8 : UInt8), (8 : UInt8), (8 : UInt8), (8 : UInt8), (8 : UInt8), (8 : UInt8), (8 : UInt8), (8 : UInt8), (8 : UInt8), (8 : UInt8), (8 : UInt8), (8 : UInt8), (8 : UInt8), (8 : UInt8), (8 : UInt8), (8 : UInt8), (8 : UInt8), (8 : UInt8), (8 : UInt8), (8 : UInt8), (8 : UInt8), (8 : UInt8), (8 : UInt8), (8 : UInt8), (8 : UInt8), (8 : UInt8), (8 : UInt8), (8 : UInt8), (8 : UInt8), (8 : UInt8), (8 : UInt8), (8 : UInt8), (8 : UInt8), (8 : UInt8), (8 : UInt8), (8 : UInt8), (8 : UInt8), (8 : UInt8), (8 : UInt8), (8 : UInt8), (8 : UInt8), (8 : UInt8), (8 : UInt8), (8 : UInt8), (8 : UInt8), (8 : UInt8), (8 : UInt8), (8 : UInt8), (8 : UInt8), (8 : UInt8), (8 : UInt8), (8 : UInt8), (8 : UInt8), (8 : UInt8), (8 : UInt8), (8 : UInt8), (8 : UInt8), (8 : UInt8), (8 : UInt8), (8 : UInt8), (8 : UInt8), (8 : UInt8), (8 : UInt8), (8 : UInt8), (8 : UInt8), (8 : UInt8), (8 : UInt8), (8 : UInt8), (8 : UInt8), (8 : UInt8), (8 : UInt8), (8 : UInt8), (8 : UInt8), (8 : UInt8), (8 : UInt8), (8 : UInt8), (8 : UInt8), (8 : UInt8)] (0 : Int)) fun (v8 : UInt8) =>
  Option.bind (inb (1 : Nat) (0 : Int)) fun _ =>
  Option.bind (inb (1 : Nat) (0 : Int)) fun _ =>
  Option.bind (inb (1 : Nat) (0 : Int)) fun _ =>
  Option.bind (inb (1 : Nat) (0 : Int)) fun _ =>
  Option.bind (subn (1 : Nat) (0 : Int) (0 : Int)) fun _ =>
  if Option.isSome (mget (mput (mput [] [(107 : UInt8)] (v2, (0 : Int), ())) [(107 : UInt8)] ((Option.getD (mget (mput [] [(107 : UInt8)] (v2, (0 : Int), ())) [(107 : UInt8)]) (none, (0 : Int), ())).fst, (5 : Int), ())) (List.getD [((5 : Int), [(107 : UInt8)], ())] (nat_lit 0) ((0 : Int), [], ())).snd.fst) = true then
    if ((Option.getD (mget (mput (mput [] [(107 : UInt8)] (v2, (0 : Int), ())) [(107 : UInt8)] ((Option.getD (mget (mput [] [(107 : UInt8)] (v2, (0 : Int), ())) [(107 : UInt8)]) (none, (0 : Int), ())).fst, (5 : Int), ())) (List.getD [((5 : Int), [(107 : UInt8)], ())] (nat_lit 0) ((0 : Int), [], ())).snd.fst) (none, (0 : Int), ())).snd.fst == (5 : Int)) = true then
      if Option.isSome (mget (mput (mput [] [(107 : UInt8)] (v2, (0 : Int), ())) [(107 : UInt8)] ((Option.getD (mget (mput [] [(107 : UInt8)] (v2, (0 : Int), ())) [(107 : UInt8)]) (none, (0 : Int), ())).fst, (5 : Int), ())) (List.getD [((5 : Int), [(107 : UInt8)], ())] (nat_lit 0) ((0 : Int), [], ())).snd.fst) = true then
        Option.bind (value_Value_Plain_P (Option.getD (mget (mput (mput [] [(107 : UInt8)] (v2, (0 : Int), ())) [(107 : UInt8)] ((Option.getD (mget (mput [] [(107 : UInt8)] (v2, (0 : Int), ())) [(107 : UInt8)]) (none, (0 : Int), ())).fst, (5 : Int), ())) (List.getD [((5 : Int), [(107 : UInt8)], ())] (nat_lit 0) ((0 : Int), [], ())).snd.fst) (none, (0 : Int), ())).fst) fun (v14 : (Int × ((List UInt8) × ((List ((List UInt8) × ((List UInt8) × Unit))) × (List (List UInt8)))))) =>
        Option.bind (value_Size_P (v14.fst, v14.snd.fst, v14.snd.snd.fst, v14.snd.snd.snd, [])) fun (v15 : Int) =>
        Option.bind (room (16 : Nat) (1 : Nat)) fun _ =>
        Option.bind (ix [(0 : UInt8), (1 : UInt8), (2 : UInt8), (2 : UInt8), (3 : UInt8), (3 : UInt8), (3 : UInt8), (3 : UInt8), (4 : UInt8), (4 : UInt8), (4 : UInt8), (4 : UInt8), (4 : UInt8), (4 : UInt8), (4 : UInt8), (4 : UInt8), (5 : UInt8), (5 : UInt8), (5 : UInt8), (5 : UInt8), (5 : UInt8), (5 : UInt8), (5 : UInt8), (5 : UInt8), (5 : UInt8), (5 : UInt8), (5 : UInt8), (5 : UInt8), (5 : UInt8), (5 : UInt8), (5 : UInt8), (5 : UInt8), (6 : UInt8), (6 : UInt8), (6 : UInt8), (6 : UInt8), (6 : UInt8), (6 : UInt8), (6 : UInt8), (6 : UInt8), (6 : UInt8), (6 : UInt8), (6 : UInt8), (6 : UInt8), (6 : UInt8), (6 : UInt8), (6 : UInt8), (6 : UInt8), (6 : UInt8), (6 : UInt8), (6 : UInt8), (6 : UInt8), (6 : UInt8), (6 : UInt8), (6 : UInt8), (6 : UInt8), (6 : UInt8), (6 : UInt8), (6 : UInt8), (6 : UInt8), (6 : UInt8), (6 : UInt8), (6 : UInt8), (6 : UInt8), (7 : UInt8), (7 : UInt8), (7 : UInt8), (7 : UInt8), (7 : UInt8), (7 : UInt8), (7 : UInt8), (7 : UInt8), (7 : UInt8), (7 : UInt8), (7 : UInt8), (7 : UInt8), (7 : UInt8), (7 : UInt8), (7 : UInt8), (7 : UInt8), (7 : UInt8), (7 : UInt8), (7 : UInt8), (7 : UInt8), (7 : UInt8), (7 : UInt8), (7 : UInt8), (7 : UInt8), (7 : UInt8), (7 : UInt8), (7 : UInt8), (7 : UInt8), (7 : UInt8), (7 : UInt8), (7 : UInt8), (7 : UInt8), (7 : UInt8), (7 : UInt8), (7 : UInt8), (7 : UInt8), (7 : UInt8), (7 : UInt8), (7 : UInt8), (7 : UInt8), (7 : UInt8), (7 : UInt8), (7 : UInt8), (7 : UInt8), (7 : UInt8), (7 : UInt8), (7 : UInt8), (7 : UInt8), (7 : UInt8), (7 : UInt8), (7 : UInt8), (7 : UInt8), (7 : UInt8), (7 : UInt8), (7 : UInt8), (7 : UInt8), (7 : UInt8), (7 : UInt8), (7 : UInt8), (7 : UInt8), (7 : UInt8), (7 : UInt8), (7 : UInt8), (7 : UInt8), (8 : UInt8), (8 : UInt8), (8 : UInt8), (8 : UInt8), (8 : UInt8), (8 : UInt8), (8 : UInt8), (8 : UInt8), (8 : UInt8), (8 : UInt8), (8 : UInt8), (8 : UInt8), (8 : UInt8), (8 : UInt8), (8 : UInt8), (8 : UInt8), (8 : UInt8), (8 : UInt8), (8 : UInt8), (8 : UInt8), (8 : UInt8), (8 : UInt8), (8 : UInt8), (8 : UInt8), (8 : UInt8), (8 : UInt8), (8 : UInt8), (8 : UInt8), (8 : UInt8), (8 : UInt8), (8 : UInt8), (8 : UInt8), (8 : UInt8), (8 : UInt8), (8 : UInt8), (8 : UInt8), (8 : UInt8), (8 : UInt8), (8 : UInt8), (8 : UInt8), (8 : UInt8), (8 : UInt8), (8 : UInt8), (8 : UInt8), (8 : UInt8), (8 : UInt8), (8 : UInt8), (8 : UInt8), (8 : UInt8), (8 : UInt8), (8 : UInt8), (8 : UInt8), (8 : UInt8), (8 : UInt8), (8 : UInt8), (8 : UInt8), (8 : UInt8), (8 : UInt8), (8 : UInt8), (8 : UInt8), (8 : UInt8), (8 : UInt8), (8 : UInt8), (8 : UInt8), (8 : UInt8), (8 : UInt8), (8 : UInt8), (8 : UInt8), (8 : UInt8), (8 : UInt8), (8 : UInt8), (8 : UInt8), (8 : UInt8), (8 : UInt8), (8 : UInt8), (8 : UInt8), (8 : UInt8), (8 : UInt8), (8 : UInt8), (8 : UInt8), (8 : UInt8), (8 : UInt8), (8 : UInt8), (8 : UInt8), (8 : UInt8), (8 : UInt8), (8 : UInt8), (8 : UInt8), (8 : UInt8), (8 : UInt8), (8 : UInt8), (8 : UInt8), (8 : UInt8), (8 : UInt8), (8 : UInt8), (8 : UInt8), (8 : UInt8), (8 : UInt8), (8 : UInt8), (8 : UInt8), (8 : UInt8), (8 : UInt8), (8 : UInt8), (8 : UInt8), (8 : UInt8), (8 : UInt8), (8 : UInt8), (8 : UInt8), (8 : UInt8), (8 : UInt8), (8 : UInt8), (8 : UInt8), (8 : UInt8), (8 : UInt8), (8 : UInt8), (8 : UInt8), (8 : UInt8), (8 : UInt8), (8 : UInt8), (8 : UInt8), (8 : UInt8), (8 : UInt8), (8 : UInt8), (8 : UInt8), (8 : UInt8), (8 : UInt8), (8 : UInt8), (8 : UInt8)] (1 : Int)) fun (v17 : UInt8) =>
        if (IntKind.wrap IntKind.i64 ((0 : Int) + IntKind.wrap IntKind.i64 ((33 : Int) + v4)) == (50 : Int)) = true then
          Option.bind (inb (1 : Nat) (0 : Int)) fun _ =>
          some ((((List.length (mdel (mput (mput [] [(107 : UInt8)] (v2, (0 : Int), ())) [(107 : UInt8)] ((Option.getD (mget (mput [] [(107 : UInt8)] (v2, (0 : Int), ())) [(107 : UInt8)]) (none, (0 : Int), ())).fst, (5 : Int), ())) (List.getD [((5 : Int), [(107 : UInt8)], ())] (nat_lit 0) ((0 : Int), [], ())).snd.fst)) : Nat) : Int) == (0 : Int))
        else
        some (false)
      else
      Option.bind (room (16 : Nat) (1 : Nat)) fun _ =>
      Option.bind (ix [(0 : UInt8), (1 : UInt8), (2 : UInt8), (2 : UInt8), (3 : UInt8), (3 : UInt8), (3 : UInt8), (3 : UInt8), (4 : UInt8), (4 : UInt8), (4 : UInt8), (4 : UInt8), (4 : UInt8), (4 : UInt8), (4 : UInt8), (4 : UInt8), (5 : UInt8), (5 : UInt8), (5 : UInt8), (5 : UInt8), (5 : UInt8), (5 : UInt8), (5 : UInt8), (5 : UInt8), (5 : UInt8), (5 : UInt8), (5 : UInt8), (5 : UInt8), (5 : UInt8), (5 : UInt8), (5 : UInt8), (5 : UInt8), (6 : UInt8), (6 : UInt8), (6 : UInt8), (6 : UInt8), (6 : UInt8), (6 : UInt8), (6 : UInt8), (6 : UInt8), (6 : UInt8), (6 : UInt8), (6 : UInt8), (6 : UInt8), (6 : UInt8), (6 : UInt8), (6 : UInt8), (6 : UInt8), (6 : UInt8), (6 : UInt8), (6 : UInt8), (6 : UInt8), (6 : UInt8), (6 : UInt8), (6 : UInt8), (6 : UInt8), (6 : UInt8), (6 : UInt8), (6 : UInt8), (6 : UInt8), (6 : UInt8), (6 : UInt8), (6 : UInt8), (6 : UInt8), (7 : UInt8), (7 : UInt8), (7 : UInt8), (7 : UInt8), (7 : UInt8), (7 : UInt8), (7 : UInt8), (7 : UInt8), (7 : UInt8), (7 : UInt8), (7 : UInt8), (7 : UInt8), (7 : UInt8), (7 : UInt8), (7 : UInt8), (7 : UInt8), (7 : UInt8), (7 : UInt8), (7 : UInt8), (7 : UInt8), (7 : UInt8), (7 : UInt8), (7 : UInt8), (7 : UInt8), (7 : UInt8), (7 : UInt8), (7 : UInt8), (7 : UInt8), (7 : UInt8), (7 : UInt8), (7 : UInt8), (7 : UInt8), (7 : UInt8), (7 : UInt8), (7 : UInt8), (7 : UInt8), (7 : UInt8), (7 : UInt8), (7 : UInt8), (7 : UInt8), (7 : UInt8), (7 : UInt8), (7 : UInt8), (7 : UInt8), (7 : UInt8), (7 : UInt8), (7 : UInt8), (7 : UInt8), (7 : UInt8), (7 : UInt8), (7 : UInt8), (7 : UInt8), (7 : UInt8), (7 : UInt8), (7 : UInt8), (7 : UInt8), (7 : UInt8), (7 : UInt8), (7 : UInt8), (7 : UInt8), (7 : UInt8), (7 : UInt8), (7 : UInt8), (7 : UInt8), (8 : UInt8), (8 : UInt8), (8 : UInt8), (8 : UInt8), (8 : UInt8), (8 : UInt8), (8 : UInt8), (8 : UInt8), (8 : UInt8), (8 : UInt8), (8 : UInt8), (8 : UInt8), (8 : UInt8), (8 : UInt8), (8 : UInt8), (8 : UInt8), (8 : UInt8), (8 : UInt8), (8 : UInt8), (8 : UInt8), (8 : UInt8), (8 : UInt8), (8 : UInt8), (8 : UInt8), (8 : UInt8), (8 : UInt8), (8 : UInt8), (8 : UInt8), (8 : UInt8), (8 : UInt8), (8 : UInt8), (8 : UInt8), (8 : UInt8), (8 : UInt8), (8 : UInt8), (8 : UInt8), (8 : UInt8), (8 : UInt8), (8 : UInt8), (8 : UInt8), (8 : UInt8), (8 : UInt8), (8 : UInt8), (8 : UInt8), (8 : UInt8), (8 : UInt8), (8 : UInt8), (8 : UInt8), (8 : UInt8), (8 : UInt8), (8 : UInt8), (8 : UInt8), (8 : UInt8), (8 : UInt8), (8 : UInt8), (8 : UInt8), (8 : UInt8), (8 : UInt8), (8 : UInt8), (8 : UInt8), (8 : UInt8), (8 : UInt8), (8 : UInt8), (8 : UInt8), (8 : UInt8), (8 : UInt8), (8 : UInt8), (8 : UInt8), (8 : UInt8), (8 : UInt8), (8 : UInt8), (8 : UInt8), (8 : UInt8), (8 : UInt8), (8 : UInt8), (8 : UInt8), (8 : UInt8), (8 : UInt8), (8 : UInt8), (8 : UInt8), (8 : UInt8), (8 : UInt8), (8 : UInt8), (8 : UInt8), (8 : UInt8), (8 : UInt8), (8 : UInt8), (8 : UInt8), (8 : UInt8), (8 : UInt8), (8 : UInt8), (8 : UInt8), (8 : UInt8), (8 : UInt8), (8 : UInt8), (8 : UInt8), (8 : UInt8), (8 : UInt8), (8 : UInt8), (8 : UInt8), (8 : UInt8), (8 : UInt8), (8 : UInt8), (8 : UInt8), (8 : UInt8), (8 : UInt8), (8 : UInt8), (8 : UInt8), (8 : UInt8), (8 : UInt8), (8 : UInt8), (8 : UInt8), (8 : UInt8), (8 : UInt8), (8 : UInt8), (8 : UInt8), (8 : UInt8), (8 : UInt8), (8 : UInt8), (8 : UInt8), (8 : UInt8), (8 : UInt8), (8 : UInt8), (8 : UInt8), (8 : UInt8), (8 : UInt8), (8 : UInt8), (8 : UInt8)] (1 : Int)) fun (v20 : UInt8) =>
      if (IntKind.wrap IntKind.i64 ((0 : Int) + IntKind.wrap IntKind.i64 ((33 : Int) + v4)) == (50 : Int)) = true then
        Option.bind (inb (1 : Nat) (0 : Int)) fun _ =>
        some ((((List.length (mput (mput [] [(107 : UInt8)] (v2, (0 : Int), ())) [(107 : UInt8)] ((Option.getD (mget (mput [] [(107 : UInt8)] (v2, (0 : Int), ())) [(107 : UInt8)]) (none, (0 : Int), ())).fst, (5 : Int), ()))) : Nat) : Int) == (0 : Int))
      else
      some (false)
    else
    Option.bind (ix [(0 : UInt8), (1 : UInt8), (2 : UInt8), (2 : UInt8), (3 : UInt8), (3 : UInt8), (3 : UInt8), (3 : UInt8), (4 : UInt8), (4 : UInt8), (4 : UInt8), (4 : UInt8), (4 : UInt8), (4 : UInt8), (4 : UInt8), (4 : UInt8), (5 : UInt8), (5 : UInt8), (5 : UInt8), (5 : UInt8), (5 : UInt8), (5 : UInt8), (5 : UInt8), (5 : UInt8), (5 : UInt8), (5 : UInt8), (5 : UInt8), (5 : UInt8), (5 : UInt8), (5 : UInt8), (5 : UInt8), (5 : UInt8), (6 : UInt8), (6 : UInt8), (6 : UInt8), (6 : UInt8), (6 : UInt8), (6 : UInt8), (6 : UInt8), (6 : UInt8), (6 : UInt8), (6 : UInt8), (6 : UInt8), (6 : UInt8), (6 : UInt8), (6 : UInt8), (6 : UInt8), (6 : UInt8), (6 : UInt8), (6 : UInt8), (6 : UInt8), (6 : UInt8), (6 : UInt8), (6 : UInt8), (6 : UInt8), (6 : UInt8), (6 : UInt8), (6 : UInt8), (6 : UInt8), (6 : UInt8), (6 : UInt8), (6 : UInt8), (6 : UInt8), (6 : UInt8), (7 : UInt8), (7 : UInt8), (7 : UInt8), (7 : UInt8), (7 : UInt8), (7 : UInt8), (7 : UInt8), (7 : UInt8), (7 : UInt8), (7 : UInt8), (7 : UInt8), (7 : UInt8), (7 : UInt8), (7 : UInt8), (7 : UInt8), (7 : UInt8), (7 : UInt8), (7 : UInt8), (7 : UInt8), (7 : UInt8), (7 : UInt8), (7 : UInt8), (7 : UInt8), (7 : UInt8), (7 : UInt8), (7 : UInt8), (7 : UInt8), (7 : UInt8), (7 : UInt8), (7 : UInt8), (7 : UInt8), (7 : UInt8), (7 : UInt8), (7 : UInt8), (7 : UInt8), (7 : UInt8), (7 : UInt8), (7 : UInt8), (7 : UInt8), (7 : UInt8), (7 : UInt8), (7 : UInt8), (7 : UInt8), (7 : UInt8), (7 : UInt8), (7 : UInt8), (7 : UInt8), (7 : UInt8), (7 : UInt8), (7 : UInt8), (7 : UInt8), (7 : UInt8), (7 : UInt8), (7 : UInt8), (7 : UInt8), (7 : UInt8), (7 : UInt8), (7 : UInt8), (7 : UInt8), (7 : UInt8), (7 : UInt8), (7 : UInt8), (7 : UInt8), (7 : UInt8), (8 : UInt8), (8 : UInt8), (8 : UInt8), (8 : UInt8), (8 : UInt8), (8 : UInt8), (8 : UInt8), (8 : UInt8), (8 : UInt8), (8 : UInt8), (8 : UInt8), (8 : UInt8), (8 : UInt8), (8 : UInt8), (8 : UInt8), (8 : UInt8), (8 : UInt8), (8 : UInt8), (8 : UInt8), (8 : UInt8), (8 : UInt8), (8 : UInt8), (8 : UInt8), (8 : UInt8), (8 : UInt8), (8 : UInt8), (8 : UInt8), (8 : UInt8), (8 : UInt8), (8 : UInt8), (8 : UInt8), (8 : UInt8), (8 : UInt8), (8 : UInt8), (8 : UInt8), (8 : UInt8), (8 : UInt8), (8 : UInt8), (8 : UInt8), (8 : UInt8), (8 : UInt8), (8 : UInt8), (8 : UInt8), (8 : UInt8), (8 : UInt8), (8 : UInt8), (8 : UInt8), (8 : UInt8), (8 : UInt8), (8 : UInt8), (8 : UInt8), (8 : UInt8), (8 : UInt8), (8 : UInt8), (8 : UInt8), (8 : UInt8), (8 : UInt8), (8 : UInt8), (8 : UInt8), (8 : UInt8), (8 : UInt8), (8 : UInt8), (8 : UInt8), (8 : UInt8), (8 : UInt8), (8 : UInt8), (8 : UInt8), (8 : UInt8), (8 : UInt8), (8 : UInt8), (8 : UInt8), (8 : UInt8), (8 : UInt8), (8 : UInt8), (8 : UInt8), (8 : UInt8), (8 : UInt8), (8 : UInt8), (8 : UInt8), (8 : UInt8), (8 : UInt8), (8 : UInt8), (8 : UInt8), (8 : UInt8), (8 : UInt8), (8 : UInt8), (8 : UInt8), (8 : UInt8), (8 : UInt8), (8 : UInt8), (8 : UInt8), (8 : UInt8), (8 : UInt8), (8 : UInt8), (8 : UInt8), (8 : UInt8), (8 : UInt8), (8 : UInt8), (8 : UInt8), (8 : UInt8), (8 : UInt8), (8 : UInt8), (8 : UInt8), (8 : UInt8), (8 : UInt8), (8 : UInt8), (8 : UInt8), (8 : UInt8), (8 : UInt8), (8 : UInt8), (8 : UInt8), (8 : UInt8), (8 : UInt8), (8 : UInt8), (8 : UInt8), (8 : UInt8), (8 : UInt8), (8 : UInt8), (8 : UInt8), (8 : UInt8), (8 : UInt8), (8 : UInt8), (8 : UInt8), (8 : UInt8), (8 : UInt8), (8 : UInt8), (8 : UInt8), (8 : UInt8)] (0 : Int)) fun (v22 : UInt8) =>
    if (IntKind.wrap IntKind.i64 ((0 : Int) + IntKind.wrap IntKind.i64 ((33 : Int) + v4)) == (50 : Int)) = true then
      some (false)
    else
    some (false)
  else
  Option.bind (ix [(0 : UInt8), (1 : UInt8), (2 : UInt8), (2 : UInt8), (3 : UInt8), (3 : UInt8), (3 : UInt8), (3 : UInt8), (4 : UInt8), (4 : UInt8), (4 : UInt8), (4 : UInt8), (4 : UInt8), (4 : UInt8), (4 : UInt8), (4 : UInt8), (5 : UInt8), (5 : UInt8), (5 : UInt8), (5 : UInt8), (5 : UInt8), (5 : UInt8), (5 : UInt8), (5 : UInt8), (5 : UInt8), (5 : UInt8), (5 : UInt8), (5 : UInt8), (5 : UInt8), (5 : UInt8), (5 : UInt8), (5 : UInt8), (6 : UInt8), (6 : UInt8), (6 : UInt8), (6 : UInt8), (6 : UInt8), (6 : UInt8), (6 : UInt8), (6 : UInt8), (6 : UInt8), (6 : UInt8), (6 : UInt8), (6 : UInt8), (6 : UInt8), (6 : UInt8), (6 : UInt8), (6 : UInt8), (6 : UInt8), (6 : UInt8), (6 : UInt8), (6 : UInt8), (6 : UInt8), (6 : UInt8), (6 : UInt8), (6 : UInt8), (6 : UInt8), (6 : UInt8), (6 : UInt8), (6 : UInt8), (6 : UInt8), (6 : UInt8), (6 : UInt8), (6 : UInt8), (7 : UInt8), (7 : UInt8), (7 : UInt8), (7 : UInt8), (7 : UInt8), (7 : UInt8), (7 : UInt8), (7 : UInt8), (7 : UInt8), (7 : UInt8), (7 : UInt8), (7 : UInt8), (7 : UInt8), (7 : UInt8), (7 : UInt8), (7 : UInt8), (7 : UInt8), (7 : UInt8), (7 : UInt8), (7 : UInt8), (7 : UInt8), (7 : UInt8), (7 : UInt8), (7 : UInt8), (7 : UInt8), (7 : UInt8), (7 : UInt8), (7 : UInt8), (7 : UInt8), (7 : UInt8), (7 : UInt8), (7 : UInt8), (7 : UInt8), (7 : UInt8), (7 : UInt8), (7 : UInt8), (7 : UInt8), (7 : UInt8), (7 : UInt8), (7 : UInt8), (7 : UInt8), (7 : UInt8), (7 : UInt8), (7 : UInt8), (7 : UInt8), (7 : UInt8), (7 : UInt8), (7 : UInt8), (7 : UInt8), (7 : UInt8), (7 : UInt8), (7 : UInt8), (7 : UInt8), (7 : UInt8), (7 : UInt8), (7 : UInt8), (7 : UInt8), (7 : UInt8), (7 : UInt8), (7 : UInt8), (7 : UInt8), (7 : UInt8), (7 : UInt8), (7 : UInt8), (8 : UInt8), (8 : UInt8), (8 : UInt8), (8 : UInt8), (8 : UInt8), (8 : UInt8), (8 : UInt8), (8 : UInt8), (8 : UInt8), (8 : UInt8), (8 : UInt8), (8 : UInt8), (8 : UInt8), (8 : UInt8), (8 : UInt8), (8 : UInt8), (8 : UInt8), (8 : UInt8), (8 : UInt8), (8 : UInt8), (8 : UInt8), (8 : UInt8), (8 : UInt8), (8 : UInt8), (8 : UInt8), (8 : UInt8), (8 : UInt8), (8 : UInt8), (8 : UInt8), (8 : UInt8), (8 : UInt8), (8 : UInt8), (8 : UInt8), (8 : UInt8), (8 : UInt8), (8 : UInt8), (8 : UInt8), (8 : UInt8), (8 : UInt8), (8 : UInt8), (8 : UInt8), (8 : UInt8), (8 : UInt8), (8 : UInt8), (8 : UInt8), (8 : UInt8), (8 : UInt8), (8 : UInt8), (8 : UInt8), (8 : UInt8), (8 : UInt8), (8 : UInt8), (8 : UInt8), (8 : UInt8), (8 : UInt8), (8 : UInt8), (8 : UInt8), (8 : UInt8), (8 : UInt8), (8 : UInt8), (8 : UInt8), (8 : UInt8), (8 : UInt8), (8 : UInt8), (8 : UInt8), (8 : UInt8), (8 : UInt8), (8 : UInt8), (8 : UInt8), (8 : UInt8), (8 : UInt8), (8 : UInt8), (8 : UInt8), (8 : UInt8), (8 : UInt8), (8 : UInt8), (8 : UInt8), (8 : UInt8), (8 : UInt8), (8 : UInt8), (8 : UInt8), (8 : UInt8), (8 : UInt8), (8 : UInt8), (8 : UInt8), (8 : UInt8), (8 : UInt8), (8 : UInt8), (8 : UInt8), (8 : UInt8), (8 : UInt8), (8 : UInt8), (8 : UInt8), (8 : UInt8), (8 : UInt8), (8 : UInt8), (8 : UInt8), (8 : UInt8), (8 : UInt8), (8 : UInt8), (8 : UInt8), (8 : UInt8), (8 : UInt8), (8 : UInt8), (8 : UInt8), (8 : UInt8), (8 : UInt8), (8 : UInt8), (8 : UInt8), (8 : UInt8), (8 : UInt8), (8 : UInt8), (8 : UInt8), (8 : UInt8), (8 : UInt8), (8 : UInt8), (8 : UInt8), (8 : UInt8), (8 : UInt8), (8 : UInt8), (8 : UInt8), (8 : UInt8), (8 : UInt8), (8 : UInt8), (8 : UInt8), (8 : UInt8), (8 : UInt8), (8 : UInt8)] (0 : Int)) fun (v23 : UInt8) =>
  if (IntKind.wrap IntKind.i64 ((0 : Int) + IntKind.wrap IntKind.i64 ((33 : Int) + v4)) == (50 : Int)) = true then
    some (false)
  else
  some (false)
def intagliolaw16_awake_P : Unit → Option (Bool) := fun p => intagliolaw16_awake_M 
def intagliolaw16_awake_MM : HL [] → Option (SumL [[.bool]]) := fun p => intagliolaw16_awake_M 
def intagliolaw16_awake_C : Con := ⟨0, intagliolaw16_awake_T, intagliolaw16_awake_O, stdCn [] [[.bool]] intagliolaw16_awake_MM, []⟩

def intagliolaw16_SpaceNobody_T : Tm := ⟨[(0, true, [.hole (.int .u8), .hole .str, .hole (.int .i64), .hole .str, .hole (.slc (.pair .str (.pair .str .unit))), .hole (.slc .str), .hole (.slc (.pair .str (.pair (.int .i64) .unit))), .hole (.int .i64)])], 1, []⟩
def intagliolaw16_SpaceNobody_O : List (Ex × Tm) := [(.ret, ⟨[(0, false, [.hole .bool])], 1, []⟩)]
def intagliolaw16_SpaceNobody_M (s0_0 : Int) (s0_1 : List UInt8) (s0_2 : Int) (s0_3 : List UInt8) (s0_4 : List ((List UInt8) × (List UInt8) × Unit)) (s0_5 : List (List UInt8)) (s0_6 : List ((List UInt8) × Int × Unit)) (s0_7 : Int) : Option (Bool) :=
  Option.bind (intagliolaw16_few_P [(s0_0, s0_1, (s0_2, s0_3, s0_4, s0_5, s0_6, ()), s0_7, ())]) fun (v0 : Bool) =>
  if (!v0) = true then
    Option.bind (intagliolaw16_awake_P ()) fun (v1 : Bool) =>
    some (v1)
  else
  Option.bind (inb (nat_lit 2) (0 : Int)) fun _ =>
  Option.bind (inb (nat_lit 2) (1 : Int)) fun _ =>
  Option.bind (intagliolaw16_awake_P ()) fun (v4 : Bool) =>
  some (v4)
def intagliolaw16_SpaceNobody_P : Int × (List UInt8) × Int × (List UInt8) × (List ((List UInt8) × (List UInt8) × Unit)) × (List (List UInt8)) × (List ((List UInt8) × Int × Unit)) × Int → Option (Bool) := fun p => intagliolaw16_SpaceNobody_M p.1 p.2.1 p.2.2.1 p.2.2.2.1 p.2.2.2.2.1 p.2.2.2.2.2.1 p.2.2.2.2.2.2.1 p.2.2.2.2.2.2.2
def intagliolaw16_SpaceNobody_MM : HL [(.int .u8), .str, (.int .i64), .str, (.slc (.pair .str (.pair .str .unit))), (.slc .str), (.slc (.pair .str (.pair (.int .i64) .unit))), (.int .i64)] → Option (SumL [[.bool]]) := fun p => intagliolaw16_SpaceNobody_M p.1 p.2.1 p.2.2.1 p.2.2.2.1 p.2.2.2.2.1 p.2.2.2.2.2.1 p.2.2.2.2.2.2.1 p.2.2.2.2.2.2.2
def intagliolaw16_SpaceNobody_C : Con := ⟨0, intagliolaw16_SpaceNobody_T, intagliolaw16_SpaceNobody_O, stdCn [(.int .u8), .str, (.int .i64), .str, (.slc (.pair .str (.pair .str .unit))), (.slc .str), (.slc (.pair .str (.pair (.int .i64) .unit))), (.int .i64)] [[.bool]] intagliolaw16_SpaceNobody_MM, []⟩
end
end Go.Proofs.Ytogbjlmmedfhbaa
