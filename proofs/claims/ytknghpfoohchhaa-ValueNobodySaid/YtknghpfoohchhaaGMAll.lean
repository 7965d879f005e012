/- Plain models of Go functions. -/
import Derived.Test.YtknghpfoohchhaaEd
namespace Go.Proofs.Ytknghpfoohchhaa
open Go Go.Lift
set_option maxRecDepth 100000
set_option maxHeartbeats 4000000
set_option linter.unusedVariables false
noncomputable section
theorem fuel_ex : ∃ n : Nat, n = 1000000 := ⟨_, rfl⟩
noncomputable def fuel : Nat := Classical.choose fuel_ex
theorem fuel_is : fuel = 1000000 := Classical.choose_spec fuel_ex
def GL : Globs := []

def value_count_T : Tm := ⟨[(0, true, [.hole (.int .i64), .hole .str, .hole (.slc (.pair .str (.pair .str .unit))), .hole (.slc .str), .hole (.slc (.pair .str (.pair (.int .i64) .unit)))])], 1, []⟩
def value_count_O : List (Ex × Tm) := [(.ret, ⟨[(0, false, [.hole (.int .i64)])], 1, []⟩)]
def value_count_M (s0_0 : Int) (s0_1 : List UInt8) (s0_2 : List ((List UInt8) × (List UInt8) × Unit)) (s0_3 : List (List UInt8)) (s0_4 : List ((List UInt8) × Int × Unit)) : Option (Int) :=
  some (IntKind.wrap IntKind.i64 (IntKind.wrap IntKind.i64 ((((List.length s0_2) : Nat) : Int) + (((List.length s0_3) : Nat) : Int)) + (((List.length s0_4) : Nat) : Int)))
def value_count_P : Int × (List UInt8) × (List ((List UInt8) × (List UInt8) × Unit)) × (List (List UInt8)) × (List ((List UInt8) × Int × Unit)) → Option (Int) := fun p => value_count_M p.1 p.2.1 p.2.2.1 p.2.2.2.1 p.2.2.2.2
def value_count_MM : HL [(.int .i64), .str, (.slc (.pair .str (.pair .str .unit))), (.slc .str), (.slc (.pair .str (.pair (.int .i64) .unit)))] → Option (SumL [[(.int .i64)]]) := fun p => value_count_M p.1 p.2.1 p.2.2.1 p.2.2.2.1 p.2.2.2.2
def value_count_C : Con := ⟨0, value_count_T, value_count_O, stdCn [(.int .i64), .str, (.slc (.pair .str (.pair .str .unit))), (.slc .str), (.slc (.pair .str (.pair (.int .i64) .unit)))] [[(.int .i64)]] value_count_MM, []⟩

def value_clean_T : Tm := ⟨[(0, true, [.hole (.int .i64), .hole .str, .hole (.slc (.pair .str (.pair .str .unit))), .hole (.slc .str), .hole (.slc (.pair .str (.pair (.int .i64) .unit)))])], 1, []⟩
def value_clean_O : List (Ex × Tm) := [(.ret, ⟨[(0, false, [.hole .bool])], 1, []⟩)]
def value_clean_M (s0_0 : Int) (s0_1 : List UInt8) (s0_2 : List ((List UInt8) × (List UInt8) × Unit)) (s0_3 : List (List UInt8)) (s0_4 : List ((List UInt8) × Int × Unit)) : Option (Bool) :=
  if (s0_0 == (1 : Int)) = true then
    Option.bind (value_count_P (s0_0, s0_1, s0_2, s0_3, s0_4)) fun (v0 : Int) =>
    some (v0 == (0 : Int))
  else
  if (s0_0 == (2 : Int)) = true then
    if (s0_1 == []) = true then
      Option.bind (value_count_P (s0_0, s0_1, s0_2, s0_3, s0_4)) fun (v1 : Int) =>
      some ((((List.length s0_2) : Nat) : Int) == v1)
    else
    some (false)
  else
  if (s0_0 == (3 : Int)) = true then
    if (s0_1 == []) = true then
      Option.bind (value_count_P (s0_0, s0_1, s0_2, s0_3, s0_4)) fun (v2 : Int) =>
      some ((((List.length s0_3) : Nat) : Int) == v2)
    else
    some (false)
  else
  if (s0_0 == (4 : Int)) = true then
    if (s0_1 == []) = true then
      Option.bind (value_count_P (s0_0, s0_1, s0_2, s0_3, s0_4)) fun (v3 : Int) =>
      some ((((List.length s0_3) : Nat) : Int) == v3)
    else
    some (false)
  else
  if (s0_1 == []) = true then
    Option.bind (value_count_P (s0_0, s0_1, s0_2, s0_3, s0_4)) fun (v4 : Int) =>
    some ((((List.length s0_4) : Nat) : Int) == v4)
  else
  some (false)
def value_clean_P : Int × (List UInt8) × (List ((List UInt8) × (List UInt8) × Unit)) × (List (List UInt8)) × (List ((List UInt8) × Int × Unit)) → Option (Bool) := fun p => value_clean_M p.1 p.2.1 p.2.2.1 p.2.2.2.1 p.2.2.2.2
def value_clean_MM : HL [(.int .i64), .str, (.slc (.pair .str (.pair .str .unit))), (.slc .str), (.slc (.pair .str (.pair (.int .i64) .unit)))] → Option (SumL [[.bool]]) := fun p => value_clean_M p.1 p.2.1 p.2.2.1 p.2.2.2.1 p.2.2.2.2
def value_clean_C : Con := ⟨0, value_clean_T, value_clean_O, stdCn [(.int .i64), .str, (.slc (.pair .str (.pair .str .unit))), (.slc .str), (.slc (.pair .str (.pair (.int .i64) .unit)))] [[.bool]] value_clean_MM, []⟩

def value_long_1_1_T : Tm := ⟨[(0, false, [.hole .str])], 1, []⟩
def value_long_1_1_O : List (Ex × Tm) := [(.ret, ⟨[(0, false, [.hole .bool])], 1, []⟩)]
def value_long_1_1_M (s0 : List UInt8) : Option (Bool) :=
  some (decide ((((List.length s0) : Nat) : Int) > (512 : Int)))
def value_long_1_1_P : (List UInt8) → Option (Bool) := fun p => value_long_1_1_M p
def value_long_1_1_MM : HL [.str] → Option (SumL [[.bool]]) := fun p => value_long_1_1_M p
def value_long_1_1_C : Con := ⟨0, value_long_1_1_T, value_long_1_1_O, stdCn [.str] [[.bool]] value_long_1_1_MM, []⟩

def slices_IndexFunc_string_string_a_L1_T : Tm := ⟨[(0, false, [.hole (.slc .str)]), (1, false, [.fn 106]), (7, false, [.hole (.int .i64)]), (8, false, [.hole (.int .i64)])], 19, []⟩
def slices_IndexFunc_string_string_a_L1_O : List (Ex × Tm) := [(.exit 0, ⟨[], 19, []⟩), (.ret, ⟨[(4, false, [.hole (.int .i64)])], 19, []⟩)]
def slices_IndexFunc_string_string_a_L1 (s0 : List (List UInt8)) (s7 : Int) (s8 : Int) : Option (((List (List UInt8)) × Int × Int) ⊕ ((Unit) ⊕ (Int))) :=
  if decide (s8 < s7) = true then
    Option.bind (ix s0 s8) fun (v0 : (List UInt8)) =>
    Option.bind (value_long_1_1_P v0) fun (v1 : Bool) =>
    if v1 = true then
      some (.inr (.inr (s8)))
    else
    some (.inl (s0, s7, IntKind.wrap IntKind.i64 (s8 + (1 : Int))))
  else
  some (.inr (.inl (())))
def slices_IndexFunc_string_string_a_L1_P : (List (List UInt8)) × Int × Int → Option (((List (List UInt8)) × Int × Int) ⊕ ((Unit) ⊕ (Int))) := fun p => slices_IndexFunc_string_string_a_L1 p.1 p.2.1 p.2.2
def slices_IndexFunc_string_string_a_L1_MM : HL [(.slc .str), (.int .i64), (.int .i64)] → Option (HL [(.slc .str), (.int .i64), (.int .i64)] ⊕ SumL [[], [(.int .i64)]]) := fun p => slices_IndexFunc_string_string_a_L1 p.1 p.2.1 p.2.2
def slices_IndexFunc_string_string_a_L1_C : Con := ⟨0, slices_IndexFunc_string_string_a_L1_T, slices_IndexFunc_string_string_a_L1_O, stdCn [(.slc .str), (.int .i64), (.int .i64)] [[], [(.int .i64)]] (loop slices_IndexFunc_string_string_a_L1_MM), []⟩
def slices_IndexFunc_string_string_a_T : Tm := ⟨[(0, false, [.hole (.slc .str)]), (1, false, [.fn 106])], 2, []⟩
def slices_IndexFunc_string_string_a_O : List (Ex × Tm) := [(.ret, ⟨[(0, false, [.hole (.int .i64)])], 1, []⟩)]
def slices_IndexFunc_string_string_a_M (s0 : List (List UInt8)) : Option (Int) :=
  Option.bind (loop slices_IndexFunc_string_string_a_L1_P (s0, (((List.length s0) : Nat) : Int), (0 : Int))) fun (v0 : (Unit ⊕ Int)) =>
  Sum.elim (fun _ =>
      some ((-1 : Int))
    ) (fun (v2 : Int) =>
    some (v2)
  ) (v0)
def slices_IndexFunc_string_string_a_P : (List (List UInt8)) → Option (Int) := fun p => slices_IndexFunc_string_string_a_M p
def slices_IndexFunc_string_string_a_MM : HL [(.slc .str)] → Option (SumL [[(.int .i64)]]) := fun p => slices_IndexFunc_string_string_a_M p
def slices_IndexFunc_string_string_a_C : Con := ⟨0, slices_IndexFunc_string_string_a_T, slices_IndexFunc_string_string_a_O, stdCn [(.slc .str)] [[(.int .i64)]] slices_IndexFunc_string_string_a_MM, []⟩

def slices_ContainsFunc_string_string_a_T : Tm := ⟨[(0, false, [.hole (.slc .str)]), (1, false, [.fn 106])], 2, []⟩
def slices_ContainsFunc_string_string_a_O : List (Ex × Tm) := [(.ret, ⟨[(0, false, [.hole .bool])], 1, []⟩)]
def slices_ContainsFunc_string_string_a_M (s0 : List (List UInt8)) : Option (Bool) :=
  Option.bind (slices_IndexFunc_string_string_a_P s0) fun (v0 : Int) =>
  some (decide (v0 ≥ (0 : Int)))
def slices_ContainsFunc_string_string_a_P : (List (List UInt8)) → Option (Bool) := fun p => slices_ContainsFunc_string_string_a_M p
def slices_ContainsFunc_string_string_a_MM : HL [(.slc .str)] → Option (SumL [[.bool]]) := fun p => slices_ContainsFunc_string_string_a_M p
def slices_ContainsFunc_string_string_a_C : Con := ⟨0, slices_ContainsFunc_string_string_a_T, slices_ContainsFunc_string_string_a_O, stdCn [(.slc .str)] [[.bool]] slices_ContainsFunc_string_string_a_MM, []⟩

def value_long_1_T : Tm := ⟨[(0, false, [.hole (.slc .str)]), (1, false, [.ptr 0 0])], 2, [.box [.hole .bool]]⟩
def value_long_1_O : List (Ex × Tm) := [(.ret, ⟨[], 0, [.box [.hole .bool]]⟩)]
def value_long_1_M (s0 : List (List UInt8)) (m0 : Bool) : Option (Bool) :=
  if m0 = true then
    some (true)
  else
  Option.bind (slices_ContainsFunc_string_string_a_P s0) fun (v0 : Bool) =>
  some (v0)
def value_long_1_P : (List (List UInt8)) × Bool → Option (Bool) := fun p => value_long_1_M p.1 p.2
def value_long_1_MM : HL [(.slc .str), .bool] → Option (SumL [[.bool]]) := fun p => value_long_1_M p.1 p.2
def value_long_1_C : Con := ⟨1, value_long_1_T, value_long_1_O, stdCn [(.slc .str), .bool] [[.bool]] value_long_1_MM, []⟩

def value_texts_a_L1_T : Tm := ⟨[(1, false, [.clo 104 [(0, 0)]]), (2, false, [.ptr 1 0]), (14, false, [.hole (.slc (.pair .str (.pair .str .unit)))]), (15, false, [.hole (.int .i64)]), (16, false, [.hole (.int .i64)])], 45, [.box [.hole .bool], .box [.hole (.int .i64), .hole .str, .hole (.slc (.pair .str (.pair .str .unit))), .hole (.slc .str), .hole (.slc (.pair .str (.pair (.int .i64) .unit)))]]⟩
def value_texts_a_L1_O : List (Ex × Tm) := [(.exit 0, ⟨[(1, false, [.clo 104 [(0, 0)]]), (2, false, [.ptr 1 0])], 45, [.box [.hole .bool], .box [.hole (.int .i64), .hole .str, .hole (.slc (.pair .str (.pair .str .unit))), .hole (.slc .str), .hole (.slc (.pair .str (.pair (.int .i64) .unit)))]]⟩)]
def value_texts_a_L1 (s14 : List ((List UInt8) × (List UInt8) × Unit)) (s15 : Int) (s16 : Int) (m0 : Bool) (m1_0 : Int) (m1_1 : List UInt8) (m1_2 : List ((List UInt8) × (List UInt8) × Unit)) (m1_3 : List (List UInt8)) (m1_4 : List ((List UInt8) × Int × Unit)) : Option (((List ((List UInt8) × (List UInt8) × Unit)) × Int × Int × Bool × Int × (List UInt8) × (List ((List UInt8) × (List UInt8) × Unit)) × (List (List UInt8)) × (List ((List UInt8) × Int × Unit))) ⊕ ((Bool × Int × (List UInt8) × (List ((List UInt8) × (List UInt8) × Unit)) × (List (List UInt8)) × (List ((List UInt8) × Int × Unit))))) :=
  if decide (s16 < s15) = true then
    Option.bind (ix s14 s16) fun (v0 : ((List UInt8) × ((List UInt8) × Unit))) =>
    Option.bind (value_long_1_P ([v0.fst, v0.snd.fst], m0)) fun (v1 : Bool) =>
    some (.inl (s14, s15, IntKind.wrap IntKind.i64 (s16 + (1 : Int)), v1, m1_0, m1_1, m1_2, m1_3, m1_4))
  else
  some (.inr (m0, m1_0, m1_1, m1_2, m1_3, m1_4))
def value_texts_a_L1_P : (List ((List UInt8) × (List UInt8) × Unit)) × Int × Int × Bool × Int × (List UInt8) × (List ((List UInt8) × (List UInt8) × Unit)) × (List (List UInt8)) × (List ((List UInt8) × Int × Unit)) → Option (((List ((List UInt8) × (List UInt8) × Unit)) × Int × Int × Bool × Int × (List UInt8) × (List ((List UInt8) × (List UInt8) × Unit)) × (List (List UInt8)) × (List ((List UInt8) × Int × Unit))) ⊕ ((Bool × Int × (List UInt8) × (List ((List UInt8) × (List UInt8) × Unit)) × (List (List UInt8)) × (List ((List UInt8) × Int × Unit))))) := fun p => value_texts_a_L1 p.1 p.2.1 p.2.2.1 p.2.2.2.1 p.2.2.2.2.1 p.2.2.2.2.2.1 p.2.2.2.2.2.2.1 p.2.2.2.2.2.2.2.1 p.2.2.2.2.2.2.2.2
def value_texts_a_L1_MM : HL [(.slc (.pair .str (.pair .str .unit))), (.int .i64), (.int .i64), .bool, (.int .i64), .str, (.slc (.pair .str (.pair .str .unit))), (.slc .str), (.slc (.pair .str (.pair (.int .i64) .unit)))] → Option (HL [(.slc (.pair .str (.pair .str .unit))), (.int .i64), (.int .i64), .bool, (.int .i64), .str, (.slc (.pair .str (.pair .str .unit))), (.slc .str), (.slc (.pair .str (.pair (.int .i64) .unit)))] ⊕ SumL [[.bool, (.int .i64), .str, (.slc (.pair .str (.pair .str .unit))), (.slc .str), (.slc (.pair .str (.pair (.int .i64) .unit)))]]) := fun p => value_texts_a_L1 p.1 p.2.1 p.2.2.1 p.2.2.2.1 p.2.2.2.2.1 p.2.2.2.2.2.1 p.2.2.2.2.2.2.1 p.2.2.2.2.2.2.2.1 p.2.2.2.2.2.2.2.2
def value_texts_a_L1_C : Con := ⟨2, value_texts_a_L1_T, value_texts_a_L1_O, stdCn [(.slc (.pair .str (.pair .str .unit))), (.int .i64), (.int .i64), .bool, (.int .i64), .str, (.slc (.pair .str (.pair .str .unit))), (.slc .str), (.slc (.pair .str (.pair (.int .i64) .unit)))] [[.bool, (.int .i64), .str, (.slc (.pair .str (.pair .str .unit))), (.slc .str), (.slc (.pair .str (.pair (.int .i64) .unit)))]] (loop value_texts_a_L1_MM), []⟩
def value_texts_a_L2_T : Tm := ⟨[(1, false, [.clo 104 [(0, 0)]]), (33, false, [.hole (.slc (.pair .str (.pair (.int .i64) .unit)))]), (34, false, [.hole (.int .i64)]), (35, false, [.hole (.int .i64)])], 45, [.box [.hole .bool]]⟩
def value_texts_a_L2_O : List (Ex × Tm) := [(.exit 2, ⟨[], 45, [.box [.hole .bool]]⟩)]
def value_texts_a_L2 (s33 : List ((List UInt8) × Int × Unit)) (s34 : Int) (s35 : Int) (m0 : Bool) : Option (((List ((List UInt8) × Int × Unit)) × Int × Int × Bool) ⊕ ((Bool))) :=
  if decide (s35 < s34) = true then
    Option.bind (ix s33 s35) fun (v0 : ((List UInt8) × (Int × Unit))) =>
    Option.bind (value_long_1_P ([v0.fst], m0)) fun (v1 : Bool) =>
    some (.inl (s33, s34, IntKind.wrap IntKind.i64 (s35 + (1 : Int)), v1))
  else
  some (.inr (m0))
def value_texts_a_L2_P : (List ((List UInt8) × Int × Unit)) × Int × Int × Bool → Option (((List ((List UInt8) × Int × Unit)) × Int × Int × Bool) ⊕ ((Bool))) := fun p => value_texts_a_L2 p.1 p.2.1 p.2.2.1 p.2.2.2
def value_texts_a_L2_MM : HL [(.slc (.pair .str (.pair (.int .i64) .unit))), (.int .i64), (.int .i64), .bool] → Option (HL [(.slc (.pair .str (.pair (.int .i64) .unit))), (.int .i64), (.int .i64), .bool] ⊕ SumL [[.bool]]) := fun p => value_texts_a_L2 p.1 p.2.1 p.2.2.1 p.2.2.2
def value_texts_a_L2_C : Con := ⟨1, value_texts_a_L2_T, value_texts_a_L2_O, stdCn [(.slc (.pair .str (.pair (.int .i64) .unit))), (.int .i64), (.int .i64), .bool] [[.bool]] (loop value_texts_a_L2_MM), []⟩
def value_texts_a_T : Tm := ⟨[(0, true, [.hole (.int .i64), .hole .str, .hole (.slc (.pair .str (.pair .str .unit))), .hole (.slc .str), .hole (.slc (.pair .str (.pair (.int .i64) .unit)))]), (1, false, [.clo 104 [(0, 0)]])], 2, [.box [.hole .bool]]⟩
def value_texts_a_O : List (Ex × Tm) := [(.ret, ⟨[], 0, [.box [.hole .bool]]⟩)]
def value_texts_a_M (s0_0 : Int) (s0_1 : List UInt8) (s0_2 : List ((List UInt8) × (List UInt8) × Unit)) (s0_3 : List (List UInt8)) (s0_4 : List ((List UInt8) × Int × Unit)) (m0 : Bool) : Option (Bool) :=
  Option.bind (value_long_1_P ([s0_1], m0)) fun (v0 : Bool) =>
  Option.bind (loop value_texts_a_L1_P (s0_2, (((List.length s0_2) : Nat) : Int), (0 : Int), v0, s0_0, s0_1, s0_2, s0_3, s0_4)) fun (v1 : (Bool × (Int × ((List UInt8) × ((List ((List UInt8) × ((List UInt8) × Unit))) × ((List (List UInt8)) × (List ((List UInt8) × (Int × Unit))))))))) =>
  Option.bind (value_long_1_P (v1.snd.snd.snd.snd.fst, v1.fst)) fun (v2 : Bool) =>
  Option.bind (loop value_texts_a_L2_P (v1.snd.snd.snd.snd.snd, (((List.length v1.snd.snd.snd.snd.snd) : Nat) : Int), (0 : Int), v2)) fun (v3 : Bool) =>
  some (v3)
def value_texts_a_P : Int × (List UInt8) × (List ((List UInt8) × (List UInt8) × Unit)) × (List (List UInt8)) × (List ((List UInt8) × Int × Unit)) × Bool → Option (Bool) := fun p => value_texts_a_M p.1 p.2.1 p.2.2.1 p.2.2.2.1 p.2.2.2.2.1 p.2.2.2.2.2
def value_texts_a_MM : HL [(.int .i64), .str, (.slc (.pair .str (.pair .str .unit))), (.slc .str), (.slc (.pair .str (.pair (.int .i64) .unit))), .bool] → Option (SumL [[.bool]]) := fun p => value_texts_a_M p.1 p.2.1 p.2.2.1 p.2.2.2.1 p.2.2.2.2.1 p.2.2.2.2.2
def value_texts_a_C : Con := ⟨1, value_texts_a_T, value_texts_a_O, stdCn [(.int .i64), .str, (.slc (.pair .str (.pair .str .unit))), (.slc .str), (.slc (.pair .str (.pair (.int .i64) .unit))), .bool] [[.bool]] value_texts_a_MM, []⟩

def value_Size_1_L1_T : Tm := ⟨[(1, false, [.ptr 0 0]), (5, false, [.hole (.slc .str)]), (6, false, [.hole (.int .i64)]), (7, false, [.hole (.int .i64)])], 16, [.box [.hole (.int .i64)]]⟩
def value_Size_1_L1_O : List (Ex × Tm) := [(.exit 0, ⟨[], 16, [.box [.hole (.int .i64)]]⟩)]
def value_Size_1_L1 (s5 : List (List UInt8)) (s6 : Int) (s7 : Int) (m0 : Int) : Option (((List (List UInt8)) × Int × Int × Int) ⊕ ((Int))) :=
  if decide (s7 < s6) = true then
    Option.bind (ix s5 s7) fun (v0 : (List UInt8)) =>
    some (.inl (s5, s6, IntKind.wrap IntKind.i64 (s7 + (1 : Int)), IntKind.wrap IntKind.i64 (m0 + (((List.length v0) : Nat) : Int))))
  else
  some (.inr (m0))
def value_Size_1_L1_P : (List (List UInt8)) × Int × Int × Int → Option (((List (List UInt8)) × Int × Int × Int) ⊕ ((Int))) := fun p => value_Size_1_L1 p.1 p.2.1 p.2.2.1 p.2.2.2
def value_Size_1_L1_MM : HL [(.slc .str), (.int .i64), (.int .i64), (.int .i64)] → Option (HL [(.slc .str), (.int .i64), (.int .i64), (.int .i64)] ⊕ SumL [[(.int .i64)]]) := fun p => value_Size_1_L1 p.1 p.2.1 p.2.2.1 p.2.2.2
def value_Size_1_L1_C : Con := ⟨1, value_Size_1_L1_T, value_Size_1_L1_O, stdCn [(.slc .str), (.int .i64), (.int .i64), (.int .i64)] [[(.int .i64)]] (loop value_Size_1_L1_MM), []⟩
def value_Size_1_T : Tm := ⟨[(0, false, [.hole (.slc .str)]), (1, false, [.ptr 0 0])], 2, [.box [.hole (.int .i64)]]⟩
def value_Size_1_O : List (Ex × Tm) := [(.ret, ⟨[], 0, [.box [.hole (.int .i64)]]⟩)]
def value_Size_1_M (s0 : List (List UInt8)) (m0 : Int) : Option (Int) :=
  Option.bind (loop value_Size_1_L1_P (s0, (((List.length s0) : Nat) : Int), (0 : Int), m0)) fun (v0 : Int) =>
  some (v0)
def value_Size_1_P : (List (List UInt8)) × Int → Option (Int) := fun p => value_Size_1_M p.1 p.2
def value_Size_1_MM : HL [(.slc .str), (.int .i64)] → Option (SumL [[(.int .i64)]]) := fun p => value_Size_1_M p.1 p.2
def value_Size_1_C : Con := ⟨1, value_Size_1_T, value_Size_1_O, stdCn [(.slc .str), (.int .i64)] [[(.int .i64)]] value_Size_1_MM, []⟩

def value_texts_b_L1_T : Tm := ⟨[(1, false, [.clo 56 [(0, 0)]]), (2, false, [.ptr 1 0]), (14, false, [.hole (.slc (.pair .str (.pair .str .unit)))]), (15, false, [.hole (.int .i64)]), (16, false, [.hole (.int .i64)])], 45, [.box [.hole (.int .i64)], .box [.hole (.int .i64), .hole .str, .hole (.slc (.pair .str (.pair .str .unit))), .hole (.slc .str), .hole (.slc (.pair .str (.pair (.int .i64) .unit)))]]⟩
def value_texts_b_L1_O : List (Ex × Tm) := [(.exit 0, ⟨[(1, false, [.clo 56 [(0, 0)]]), (2, false, [.ptr 1 0])], 45, [.box [.hole (.int .i64)], .box [.hole (.int .i64), .hole .str, .hole (.slc (.pair .str (.pair .str .unit))), .hole (.slc .str), .hole (.slc (.pair .str (.pair (.int .i64) .unit)))]]⟩)]
def value_texts_b_L1 (s14 : List ((List UInt8) × (List UInt8) × Unit)) (s15 : Int) (s16 : Int) (m0 : Int) (m1_0 : Int) (m1_1 : List UInt8) (m1_2 : List ((List UInt8) × (List UInt8) × Unit)) (m1_3 : List (List UInt8)) (m1_4 : List ((List UInt8) × Int × Unit)) : Option (((List ((List UInt8) × (List UInt8) × Unit)) × Int × Int × Int × Int × (List UInt8) × (List ((List UInt8) × (List UInt8) × Unit)) × (List (List UInt8)) × (List ((List UInt8) × Int × Unit))) ⊕ ((Int × Int × (List UInt8) × (List ((List UInt8) × (List UInt8) × Unit)) × (List (List UInt8)) × (List ((List UInt8) × Int × Unit))))) :=
  if decide (s16 < s15) = true then
    Option.bind (ix s14 s16) fun (v0 : ((List UInt8) × ((List UInt8) × Unit))) =>
    Option.bind (value_Size_1_P ([v0.fst, v0.snd.fst], m0)) fun (v1 : Int) =>
    some (.inl (s14, s15, IntKind.wrap IntKind.i64 (s16 + (1 : Int)), v1, m1_0, m1_1, m1_2, m1_3, m1_4))
  else
  some (.inr (m0, m1_0, m1_1, m1_2, m1_3, m1_4))
def value_texts_b_L1_P : (List ((List UInt8) × (List UInt8) × Unit)) × Int × Int × Int × Int × (List UInt8) × (List ((List UInt8) × (List UInt8) × Unit)) × (List (List UInt8)) × (List ((List UInt8) × Int × Unit)) → Option (((List ((List UInt8) × (List UInt8) × Unit)) × Int × Int × Int × Int × (List UInt8) × (List ((List UInt8) × (List UInt8) × Unit)) × (List (List UInt8)) × (List ((List UInt8) × Int × Unit))) ⊕ ((Int × Int × (List UInt8) × (List ((List UInt8) × (List UInt8) × Unit)) × (List (List UInt8)) × (List ((List UInt8) × Int × Unit))))) := fun p => value_texts_b_L1 p.1 p.2.1 p.2.2.1 p.2.2.2.1 p.2.2.2.2.1 p.2.2.2.2.2.1 p.2.2.2.2.2.2.1 p.2.2.2.2.2.2.2.1 p.2.2.2.2.2.2.2.2
def value_texts_b_L1_MM : HL [(.slc (.pair .str (.pair .str .unit))), (.int .i64), (.int .i64), (.int .i64), (.int .i64), .str, (.slc (.pair .str (.pair .str .unit))), (.slc .str), (.slc (.pair .str (.pair (.int .i64) .unit)))] → Option (HL [(.slc (.pair .str (.pair .str .unit))), (.int .i64), (.int .i64), (.int .i64), (.int .i64), .str, (.slc (.pair .str (.pair .str .unit))), (.slc .str), (.slc (.pair .str (.pair (.int .i64) .unit)))] ⊕ SumL [[(.int .i64), (.int .i64), .str, (.slc (.pair .str (.pair .str .unit))), (.slc .str), (.slc (.pair .str (.pair (.int .i64) .unit)))]]) := fun p => value_texts_b_L1 p.1 p.2.1 p.2.2.1 p.2.2.2.1 p.2.2.2.2.1 p.2.2.2.2.2.1 p.2.2.2.2.2.2.1 p.2.2.2.2.2.2.2.1 p.2.2.2.2.2.2.2.2
def value_texts_b_L1_C : Con := ⟨2, value_texts_b_L1_T, value_texts_b_L1_O, stdCn [(.slc (.pair .str (.pair .str .unit))), (.int .i64), (.int .i64), (.int .i64), (.int .i64), .str, (.slc (.pair .str (.pair .str .unit))), (.slc .str), (.slc (.pair .str (.pair (.int .i64) .unit)))] [[(.int .i64), (.int .i64), .str, (.slc (.pair .str (.pair .str .unit))), (.slc .str), (.slc (.pair .str (.pair (.int .i64) .unit)))]] (loop value_texts_b_L1_MM), []⟩
def value_texts_b_L2_T : Tm := ⟨[(1, false, [.clo 56 [(0, 0)]]), (33, false, [.hole (.slc (.pair .str (.pair (.int .i64) .unit)))]), (34, false, [.hole (.int .i64)]), (35, false, [.hole (.int .i64)])], 45, [.box [.hole (.int .i64)]]⟩
def value_texts_b_L2_O : List (Ex × Tm) := [(.exit 2, ⟨[], 45, [.box [.hole (.int .i64)]]⟩)]
def value_texts_b_L2 (s33 : List ((List UInt8) × Int × Unit)) (s34 : Int) (s35 : Int) (m0 : Int) : Option (((List ((List UInt8) × Int × Unit)) × Int × Int × Int) ⊕ ((Int))) :=
  if decide (s35 < s34) = true then
    Option.bind (ix s33 s35) fun (v0 : ((List UInt8) × (Int × Unit))) =>
    Option.bind (value_Size_1_P ([v0.fst], m0)) fun (v1 : Int) =>
    some (.inl (s33, s34, IntKind.wrap IntKind.i64 (s35 + (1 : Int)), v1))
  else
  some (.inr (m0))
def value_texts_b_L2_P : (List ((List UInt8) × Int × Unit)) × Int × Int × Int → Option (((List ((List UInt8) × Int × Unit)) × Int × Int × Int) ⊕ ((Int))) := fun p => value_texts_b_L2 p.1 p.2.1 p.2.2.1 p.2.2.2
def value_texts_b_L2_MM : HL [(.slc (.pair .str (.pair (.int .i64) .unit))), (.int .i64), (.int .i64), (.int .i64)] → Option (HL [(.slc (.pair .str (.pair (.int .i64) .unit))), (.int .i64), (.int .i64), (.int .i64)] ⊕ SumL [[(.int .i64)]]) := fun p => value_texts_b_L2 p.1 p.2.1 p.2.2.1 p.2.2.2
def value_texts_b_L2_C : Con := ⟨1, value_texts_b_L2_T, value_texts_b_L2_O, stdCn [(.slc (.pair .str (.pair (.int .i64) .unit))), (.int .i64), (.int .i64), (.int .i64)] [[(.int .i64)]] (loop value_texts_b_L2_MM), []⟩
def value_texts_b_T : Tm := ⟨[(0, true, [.hole (.int .i64), .hole .str, .hole (.slc (.pair .str (.pair .str .unit))), .hole (.slc .str), .hole (.slc (.pair .str (.pair (.int .i64) .unit)))]), (1, false, [.clo 56 [(0, 0)]])], 2, [.box [.hole (.int .i64)]]⟩
def value_texts_b_O : List (Ex × Tm) := [(.ret, ⟨[], 0, [.box [.hole (.int .i64)]]⟩)]
def value_texts_b_M (s0_0 : Int) (s0_1 : List UInt8) (s0_2 : List ((List UInt8) × (List UInt8) × Unit)) (s0_3 : List (List UInt8)) (s0_4 : List ((List UInt8) × Int × Unit)) (m0 : Int) : Option (Int) :=
  Option.bind (value_Size_1_P ([s0_1], m0)) fun (v0 : Int) =>
  Option.bind (loop value_texts_b_L1_P (s0_2, (((List.length s0_2) : Nat) : Int), (0 : Int), v0, s0_0, s0_1, s0_2, s0_3, s0_4)) fun (v1 : (Int × (Int × ((List UInt8) × ((List ((List UInt8) × ((List UInt8) × Unit))) × ((List (List UInt8)) × (List ((List UInt8) × (Int × Unit))))))))) =>
  Option.bind (value_Size_1_P (v1.snd.snd.snd.snd.fst, v1.fst)) fun (v2 : Int) =>
  Option.bind (loop value_texts_b_L2_P (v1.snd.snd.snd.snd.snd, (((List.length v1.snd.snd.snd.snd.snd) : Nat) : Int), (0 : Int), v2)) fun (v3 : Int) =>
  some (v3)
def value_texts_b_P : Int × (List UInt8) × (List ((List UInt8) × (List UInt8) × Unit)) × (List (List UInt8)) × (List ((List UInt8) × Int × Unit)) × Int → Option (Int) := fun p => value_texts_b_M p.1 p.2.1 p.2.2.1 p.2.2.2.1 p.2.2.2.2.1 p.2.2.2.2.2
def value_texts_b_MM : HL [(.int .i64), .str, (.slc (.pair .str (.pair .str .unit))), (.slc .str), (.slc (.pair .str (.pair (.int .i64) .unit))), (.int .i64)] → Option (SumL [[(.int .i64)]]) := fun p => value_texts_b_M p.1 p.2.1 p.2.2.1 p.2.2.2.1 p.2.2.2.2.1 p.2.2.2.2.2
def value_texts_b_C : Con := ⟨1, value_texts_b_T, value_texts_b_O, stdCn [(.int .i64), .str, (.slc (.pair .str (.pair .str .unit))), (.slc .str), (.slc (.pair .str (.pair (.int .i64) .unit))), (.int .i64)] [[(.int .i64)]] value_texts_b_MM, []⟩

def value_long_T : Tm := ⟨[(0, true, [.hole (.int .i64), .hole .str, .hole (.slc (.pair .str (.pair .str .unit))), .hole (.slc .str), .hole (.slc (.pair .str (.pair (.int .i64) .unit)))])], 1, []⟩
def value_long_O : List (Ex × Tm) := [(.ret, ⟨[(0, false, [.hole .bool])], 1, []⟩)]
def value_long_M (s0_0 : Int) (s0_1 : List UInt8) (s0_2 : List ((List UInt8) × (List UInt8) × Unit)) (s0_3 : List (List UInt8)) (s0_4 : List ((List UInt8) × Int × Unit)) : Option (Bool) :=
  Option.bind (value_texts_a_P (s0_0, s0_1, s0_2, s0_3, s0_4, false)) fun (v0 : Bool) =>
  some (v0)
def value_long_P : Int × (List UInt8) × (List ((List UInt8) × (List UInt8) × Unit)) × (List (List UInt8)) × (List ((List UInt8) × Int × Unit)) → Option (Bool) := fun p => value_long_M p.1 p.2.1 p.2.2.1 p.2.2.2.1 p.2.2.2.2
def value_long_MM : HL [(.int .i64), .str, (.slc (.pair .str (.pair .str .unit))), (.slc .str), (.slc (.pair .str (.pair (.int .i64) .unit)))] → Option (SumL [[.bool]]) := fun p => value_long_M p.1 p.2.1 p.2.2.1 p.2.2.2.1 p.2.2.2.2
def value_long_C : Con := ⟨0, value_long_T, value_long_O, stdCn [(.int .i64), .str, (.slc (.pair .str (.pair .str .unit))), (.slc .str), (.slc (.pair .str (.pair (.int .i64) .unit)))] [[.bool]] value_long_MM, []⟩

def zset_Less_T : Tm := ⟨[(0, true, [.hole .str, .hole (.int .i64)]), (1, true, [.hole .str, .hole (.int .i64)])], 2, []⟩
def zset_Less_O : List (Ex × Tm) := [(.ret, ⟨[(0, false, [.hole .bool])], 1, []⟩)]
def zset_Less_M (s0_0 : List UInt8) (s0_1 : Int) (s1_0 : List UInt8) (s1_1 : Int) : Option (Bool) :=
  if (s0_1 != s1_1) = true then
    some (decide (s0_1 < s1_1))
  else
  some (Op.bytesLess s0_0 s1_0)
def zset_Less_P : (List UInt8) × Int × (List UInt8) × Int → Option (Bool) := fun p => zset_Less_M p.1 p.2.1 p.2.2.1 p.2.2.2
def zset_Less_MM : HL [.str, (.int .i64), .str, (.int .i64)] → Option (SumL [[.bool]]) := fun p => zset_Less_M p.1 p.2.1 p.2.2.1 p.2.2.2
def zset_Less_C : Con := ⟨0, zset_Less_T, zset_Less_O, stdCn [.str, (.int .i64), .str, (.int .i64)] [[.bool]] zset_Less_MM, []⟩

def value_rises_L1_T : Tm := ⟨[(1, false, [.ptr 0 0]), (3, false, [.hole (.int .i64)])], 88, [.box [.hole (.int .i64), .hole .str, .hole (.slc (.pair .str (.pair .str .unit))), .hole (.slc .str), .hole (.slc (.pair .str (.pair (.int .i64) .unit)))]]⟩
def value_rises_L1_O : List (Ex × Tm) := [(.exit 0, ⟨[(1, false, [.ptr 0 0])], 88, [.box [.hole (.int .i64), .hole .str, .hole (.slc (.pair .str (.pair .str .unit))), .hole (.slc .str), .hole (.slc (.pair .str (.pair (.int .i64) .unit)))]]⟩), (.ret, ⟨[(2, false, [.hole .bool])], 88, [.box [.hole (.int .i64), .hole .str, .hole (.slc (.pair .str (.pair .str .unit))), .hole (.slc .str), .hole (.slc (.pair .str (.pair (.int .i64) .unit)))]]⟩)]
def value_rises_L1 (s3 : Int) (m0_0 : Int) (m0_1 : List UInt8) (m0_2 : List ((List UInt8) × (List UInt8) × Unit)) (m0_3 : List (List UInt8)) (m0_4 : List ((List UInt8) × Int × Unit)) : Option ((Int × Int × (List UInt8) × (List ((List UInt8) × (List UInt8) × Unit)) × (List (List UInt8)) × (List ((List UInt8) × Int × Unit))) ⊕ ((Int × (List UInt8) × (List ((List UInt8) × (List UInt8) × Unit)) × (List (List UInt8)) × (List ((List UInt8) × Int × Unit))) ⊕ (Bool × Int × (List UInt8) × (List ((List UInt8) × (List UInt8) × Unit)) × (List (List UInt8)) × (List ((List UInt8) × Int × Unit))))) :=
  if decide (s3 < (((List.length m0_2) : Nat) : Int)) = true then
    Option.bind (ix m0_2 (IntKind.wrap IntKind.i64 (s3 - (1 : Int)))) fun (v0 : ((List UInt8) × ((List UInt8) × Unit))) =>
    Option.bind (ix m0_2 s3) fun (v1 : ((List UInt8) × ((List UInt8) × Unit))) =>
    if (!Op.bytesLess v0.fst v1.fst) = true then
      some (.inr (.inr (false, m0_0, m0_1, m0_2, m0_3, m0_4)))
    else
    some (.inl (IntKind.wrap IntKind.i64 (s3 + (1 : Int)), m0_0, m0_1, m0_2, m0_3, m0_4))
  else
  some (.inr (.inl (m0_0, m0_1, m0_2, m0_3, m0_4)))
def value_rises_L1_P : Int × Int × (List UInt8) × (List ((List UInt8) × (List UInt8) × Unit)) × (List (List UInt8)) × (List ((List UInt8) × Int × Unit)) → Option ((Int × Int × (List UInt8) × (List ((List UInt8) × (List UInt8) × Unit)) × (List (List UInt8)) × (List ((List UInt8) × Int × Unit))) ⊕ ((Int × (List UInt8) × (List ((List UInt8) × (List UInt8) × Unit)) × (List (List UInt8)) × (List ((List UInt8) × Int × Unit))) ⊕ (Bool × Int × (List UInt8) × (List ((List UInt8) × (List UInt8) × Unit)) × (List (List UInt8)) × (List ((List UInt8) × Int × Unit))))) := fun p => value_rises_L1 p.1 p.2.1 p.2.2.1 p.2.2.2.1 p.2.2.2.2.1 p.2.2.2.2.2
def value_rises_L1_MM : HL [(.int .i64), (.int .i64), .str, (.slc (.pair .str (.pair .str .unit))), (.slc .str), (.slc (.pair .str (.pair (.int .i64) .unit)))] → Option (HL [(.int .i64), (.int .i64), .str, (.slc (.pair .str (.pair .str .unit))), (.slc .str), (.slc (.pair .str (.pair (.int .i64) .unit)))] ⊕ SumL [[(.int .i64), .str, (.slc (.pair .str (.pair .str .unit))), (.slc .str), (.slc (.pair .str (.pair (.int .i64) .unit)))], [.bool, (.int .i64), .str, (.slc (.pair .str (.pair .str .unit))), (.slc .str), (.slc (.pair .str (.pair (.int .i64) .unit)))]]) := fun p => value_rises_L1 p.1 p.2.1 p.2.2.1 p.2.2.2.1 p.2.2.2.2.1 p.2.2.2.2.2
def value_rises_L1_C : Con := ⟨1, value_rises_L1_T, value_rises_L1_O, stdCn [(.int .i64), (.int .i64), .str, (.slc (.pair .str (.pair .str .unit))), (.slc .str), (.slc (.pair .str (.pair (.int .i64) .unit)))] [[(.int .i64), .str, (.slc (.pair .str (.pair .str .unit))), (.slc .str), (.slc (.pair .str (.pair (.int .i64) .unit)))], [.bool, (.int .i64), .str, (.slc (.pair .str (.pair .str .unit))), (.slc .str), (.slc (.pair .str (.pair (.int .i64) .unit)))]] (loop value_rises_L1_MM), []⟩
def value_rises_L2_T : Tm := ⟨[(1, false, [.ptr 0 0]), (4, false, [.hole (.int .i64)])], 88, [.box [.hole (.int .i64), .hole .str, .hole (.slc (.pair .str (.pair .str .unit))), .hole (.slc .str), .hole (.slc (.pair .str (.pair (.int .i64) .unit)))]]⟩
def value_rises_L2_O : List (Ex × Tm) := [(.exit 2, ⟨[(1, false, [.ptr 0 0])], 88, [.box [.hole (.int .i64), .hole .str, .hole (.slc (.pair .str (.pair .str .unit))), .hole (.slc .str), .hole (.slc (.pair .str (.pair (.int .i64) .unit)))]]⟩), (.ret, ⟨[(2, false, [.hole .bool])], 88, [.box [.hole (.int .i64), .hole .str, .hole (.slc (.pair .str (.pair .str .unit))), .hole (.slc .str), .hole (.slc (.pair .str (.pair (.int .i64) .unit)))]]⟩)]
def value_rises_L2 (s4 : Int) (m0_0 : Int) (m0_1 : List UInt8) (m0_2 : List ((List UInt8) × (List UInt8) × Unit)) (m0_3 : List (List UInt8)) (m0_4 : List ((List UInt8) × Int × Unit)) : Option ((Int × Int × (List UInt8) × (List ((List UInt8) × (List UInt8) × Unit)) × (List (List UInt8)) × (List ((List UInt8) × Int × Unit))) ⊕ ((Int × (List UInt8) × (List ((List UInt8) × (List UInt8) × Unit)) × (List (List UInt8)) × (List ((List UInt8) × Int × Unit))) ⊕ (Bool × Int × (List UInt8) × (List ((List UInt8) × (List UInt8) × Unit)) × (List (List UInt8)) × (List ((List UInt8) × Int × Unit))))) :=
  if decide (s4 < (((List.length m0_3) : Nat) : Int)) = true then
    if (m0_0 == (4 : Int)) = true then
      Option.bind (ix m0_3 (IntKind.wrap IntKind.i64 (s4 - (1 : Int)))) fun (v0 : (List UInt8)) =>
      Option.bind (ix m0_3 s4) fun (v1 : (List UInt8)) =>
      if (!Op.bytesLess v0 v1) = true then
        some (.inr (.inr (false, m0_0, m0_1, m0_2, m0_3, m0_4)))
      else
      some (.inl (IntKind.wrap IntKind.i64 (s4 + (1 : Int)), m0_0, m0_1, m0_2, m0_3, m0_4))
    else
    some (.inr (.inl (m0_0, m0_1, m0_2, m0_3, m0_4)))
  else
  some (.inr (.inl (m0_0, m0_1, m0_2, m0_3, m0_4)))
def value_rises_L2_P : Int × Int × (List UInt8) × (List ((List UInt8) × (List UInt8) × Unit)) × (List (List UInt8)) × (List ((List UInt8) × Int × Unit)) → Option ((Int × Int × (List UInt8) × (List ((List UInt8) × (List UInt8) × Unit)) × (List (List UInt8)) × (List ((List UInt8) × Int × Unit))) ⊕ ((Int × (List UInt8) × (List ((List UInt8) × (List UInt8) × Unit)) × (List (List UInt8)) × (List ((List UInt8) × Int × Unit))) ⊕ (Bool × Int × (List UInt8) × (List ((List UInt8) × (List UInt8) × Unit)) × (List (List UInt8)) × (List ((List UInt8) × Int × Unit))))) := fun p => value_rises_L2 p.1 p.2.1 p.2.2.1 p.2.2.2.1 p.2.2.2.2.1 p.2.2.2.2.2
def value_rises_L2_MM : HL [(.int .i64), (.int .i64), .str, (.slc (.pair .str (.pair .str .unit))), (.slc .str), (.slc (.pair .str (.pair (.int .i64) .unit)))] → Option (HL [(.int .i64), (.int .i64), .str, (.slc (.pair .str (.pair .str .unit))), (.slc .str), (.slc (.pair .str (.pair (.int .i64) .unit)))] ⊕ SumL [[(.int .i64), .str, (.slc (.pair .str (.pair .str .unit))), (.slc .str), (.slc (.pair .str (.pair (.int .i64) .unit)))], [.bool, (.int .i64), .str, (.slc (.pair .str (.pair .str .unit))), (.slc .str), (.slc (.pair .str (.pair (.int .i64) .unit)))]]) := fun p => value_rises_L2 p.1 p.2.1 p.2.2.1 p.2.2.2.1 p.2.2.2.2.1 p.2.2.2.2.2
def value_rises_L2_C : Con := ⟨1, value_rises_L2_T, value_rises_L2_O, stdCn [(.int .i64), (.int .i64), .str, (.slc (.pair .str (.pair .str .unit))), (.slc .str), (.slc (.pair .str (.pair (.int .i64) .unit)))] [[(.int .i64), .str, (.slc (.pair .str (.pair .str .unit))), (.slc .str), (.slc (.pair .str (.pair (.int .i64) .unit)))], [.bool, (.int .i64), .str, (.slc (.pair .str (.pair .str .unit))), (.slc .str), (.slc (.pair .str (.pair (.int .i64) .unit)))]] (loop value_rises_L2_MM), []⟩
def value_rises_L3_T : Tm := ⟨[(1, false, [.ptr 0 0]), (5, false, [.mpl 1]), (55, false, [.hole (.slc (.pair .str (.pair (.int .i64) .unit)))]), (56, false, [.hole (.int .i64)]), (57, false, [.hole (.int .i64)])], 88, [.box [.hole (.int .i64), .hole .str, .hole (.slc (.pair .str (.pair .str .unit))), .hole (.slc .str), .hole (.slc (.pair .str (.pair (.int .i64) .unit)))], .mp .str (.int .i64)]⟩
def value_rises_L3_O : List (Ex × Tm) := [(.exit 4, ⟨[], 88, [.box [.hole (.int .i64), .hole .str, .hole (.slc (.pair .str (.pair .str .unit))), .hole (.slc .str), .hole (.slc (.pair .str (.pair (.int .i64) .unit)))], .mp .str (.int .i64)]⟩), (.ret, ⟨[(2, false, [.hole .bool])], 88, [.box [.hole (.int .i64), .hole .str, .hole (.slc (.pair .str (.pair .str .unit))), .hole (.slc .str), .hole (.slc (.pair .str (.pair (.int .i64) .unit)))], .mp .str (.int .i64)]⟩)]
def value_rises_L3 (s55 : List ((List UInt8) × Int × Unit)) (s56 : Int) (s57 : Int) (m0_0 : Int) (m0_1 : List UInt8) (m0_2 : List ((List UInt8) × (List UInt8) × Unit)) (m0_3 : List (List UInt8)) (m0_4 : List ((List UInt8) × Int × Unit)) (d1 : List ((List UInt8) × Int)) : Option (((List ((List UInt8) × Int × Unit)) × Int × Int × Int × (List UInt8) × (List ((List UInt8) × (List UInt8) × Unit)) × (List (List UInt8)) × (List ((List UInt8) × Int × Unit)) × (List ((List UInt8) × Int))) ⊕ ((Int × (List UInt8) × (List ((List UInt8) × (List UInt8) × Unit)) × (List (List UInt8)) × (List ((List UInt8) × Int × Unit)) × (List ((List UInt8) × Int))) ⊕ (Bool × Int × (List UInt8) × (List ((List UInt8) × (List UInt8) × Unit)) × (List (List UInt8)) × (List ((List UInt8) × Int × Unit)) × (List ((List UInt8) × Int))))) :=
  if decide (s57 < s56) = true then
    Option.bind (ix s55 s57) fun (v0 : ((List UInt8) × (Int × Unit))) =>
    if decide (Option.getD (mget (mput d1 v0.fst (IntKind.wrap IntKind.i64 (Option.getD (mget d1 v0.fst) (0 : Int) + (1 : Int)))) v0.fst) (0 : Int) > (1 : Int)) = true then
      some (.inr (.inr (false, m0_0, m0_1, m0_2, m0_3, m0_4, mput d1 v0.fst (IntKind.wrap IntKind.i64 (Option.getD (mget d1 v0.fst) (0 : Int) + (1 : Int))))))
    else
    if decide (s57 > (0 : Int)) = true then
      Option.bind (ix m0_4 (IntKind.wrap IntKind.i64 (s57 - (1 : Int)))) fun (v1 : ((List UInt8) × (Int × Unit))) =>
      Option.bind (zset_Less_P (v1.fst, v1.snd.fst, v0.fst, v0.snd.fst)) fun (v2 : Bool) =>
      if (!v2) = true then
        some (.inr (.inr (false, m0_0, m0_1, m0_2, m0_3, m0_4, mput d1 v0.fst (IntKind.wrap IntKind.i64 (Option.getD (mget d1 v0.fst) (0 : Int) + (1 : Int))))))
      else
      some (.inl (s55, s56, IntKind.wrap IntKind.i64 (s57 + (1 : Int)), m0_0, m0_1, m0_2, m0_3, m0_4, mput d1 v0.fst (IntKind.wrap IntKind.i64 (Option.getD (mget d1 v0.fst) (0 : Int) + (1 : Int)))))
    else
    some (.inl (s55, s56, IntKind.wrap IntKind.i64 (s57 + (1 : Int)), m0_0, m0_1, m0_2, m0_3, m0_4, mput d1 v0.fst (IntKind.wrap IntKind.i64 (Option.getD (mget d1 v0.fst) (0 : Int) + (1 : Int)))))
  else
  some (.inr (.inl (m0_0, m0_1, m0_2, m0_3, m0_4, d1)))
def value_rises_L3_P : (List ((List UInt8) × Int × Unit)) × Int × Int × Int × (List UInt8) × (List ((List UInt8) × (List UInt8) × Unit)) × (List (List UInt8)) × (List ((List UInt8) × Int × Unit)) × (List ((List UInt8) × Int)) → Option (((List ((List UInt8) × Int × Unit)) × Int × Int × Int × (List UInt8) × (List ((List UInt8) × (List UInt8) × Unit)) × (List (List UInt8)) × (List ((List UInt8) × Int × Unit)) × (List ((List UInt8) × Int))) ⊕ ((Int × (List UInt8) × (List ((List UInt8) × (List UInt8) × Unit)) × (List (List UInt8)) × (List ((List UInt8) × Int × Unit)) × (List ((List UInt8) × Int))) ⊕ (Bool × Int × (List UInt8) × (List ((List UInt8) × (List UInt8) × Unit)) × (List (List UInt8)) × (List ((List UInt8) × Int × Unit)) × (List ((List UInt8) × Int))))) := fun p => value_rises_L3 p.1 p.2.1 p.2.2.1 p.2.2.2.1 p.2.2.2.2.1 p.2.2.2.2.2.1 p.2.2.2.2.2.2.1 p.2.2.2.2.2.2.2.1 p.2.2.2.2.2.2.2.2
def value_rises_L3_MM : HL [(.slc (.pair .str (.pair (.int .i64) .unit))), (.int .i64), (.int .i64), (.int .i64), .str, (.slc (.pair .str (.pair .str .unit))), (.slc .str), (.slc (.pair .str (.pair (.int .i64) .unit))), (.slc (.pair .str (.int .i64)))] → Option (HL [(.slc (.pair .str (.pair (.int .i64) .unit))), (.int .i64), (.int .i64), (.int .i64), .str, (.slc (.pair .str (.pair .str .unit))), (.slc .str), (.slc (.pair .str (.pair (.int .i64) .unit))), (.slc (.pair .str (.int .i64)))] ⊕ SumL [[(.int .i64), .str, (.slc (.pair .str (.pair .str .unit))), (.slc .str), (.slc (.pair .str (.pair (.int .i64) .unit))), (.slc (.pair .str (.int .i64)))], [.bool, (.int .i64), .str, (.slc (.pair .str (.pair .str .unit))), (.slc .str), (.slc (.pair .str (.pair (.int .i64) .unit))), (.slc (.pair .str (.int .i64)))]]) := fun p => value_rises_L3 p.1 p.2.1 p.2.2.1 p.2.2.2.1 p.2.2.2.2.1 p.2.2.2.2.2.1 p.2.2.2.2.2.2.1 p.2.2.2.2.2.2.2.1 p.2.2.2.2.2.2.2.2
def value_rises_L3_C : Con := ⟨2, value_rises_L3_T, value_rises_L3_O, stdCn [(.slc (.pair .str (.pair (.int .i64) .unit))), (.int .i64), (.int .i64), (.int .i64), .str, (.slc (.pair .str (.pair .str .unit))), (.slc .str), (.slc (.pair .str (.pair (.int .i64) .unit))), (.slc (.pair .str (.int .i64)))] [[(.int .i64), .str, (.slc (.pair .str (.pair .str .unit))), (.slc .str), (.slc (.pair .str (.pair (.int .i64) .unit))), (.slc (.pair .str (.int .i64)))], [.bool, (.int .i64), .str, (.slc (.pair .str (.pair .str .unit))), (.slc .str), (.slc (.pair .str (.pair (.int .i64) .unit))), (.slc (.pair .str (.int .i64)))]] (loop value_rises_L3_MM), []⟩
def value_rises_T : Tm := ⟨[(0, true, [.hole (.int .i64), .hole .str, .hole (.slc (.pair .str (.pair .str .unit))), .hole (.slc .str), .hole (.slc (.pair .str (.pair (.int .i64) .unit)))])], 1, []⟩
def value_rises_O : List (Ex × Tm) := [(.ret, ⟨[(0, false, [.hole .bool])], 1, []⟩)]
def value_rises_M (s0_0 : Int) (s0_1 : List UInt8) (s0_2 : List ((List UInt8) × (List UInt8) × Unit)) (s0_3 : List (List UInt8)) (s0_4 : List ((List UInt8) × Int × Unit)) : Option (Bool) :=
  Option.bind (loop value_rises_L1_P ((1 : Int), s0_0, s0_1, s0_2, s0_3, s0_4)) fun (v0 : ((Int × ((List UInt8) × ((List ((List UInt8) × ((List UInt8) × Unit))) × ((List (List UInt8)) × (List ((List UInt8) × (Int × Unit))))))) ⊕ (Bool × (Int × ((List UInt8) × ((List ((List UInt8) × ((List UInt8) × Unit))) × ((List (List UInt8)) × (List ((List UInt8) × (Int × Unit)))))))))) =>
  Sum.elim (fun (v1 : (Int × ((List UInt8) × ((List ((List UInt8) × ((List UInt8) × Unit))) × ((List (List UInt8)) × (List ((List UInt8) × (Int × Unit)))))))) =>
      Option.bind (loop value_rises_L2_P ((1 : Int), v1.fst, v1.snd.fst, v1.snd.snd.fst, v1.snd.snd.snd.fst, v1.snd.snd.snd.snd)) fun (v3 : ((Int × ((List UInt8) × ((List ((List UInt8) × ((List UInt8) × Unit))) × ((List (List UInt8)) × (List ((List UInt8) × (Int × Unit))))))) ⊕ (Bool × (Int × ((List UInt8) × ((List ((List UInt8) × ((List UInt8) × Unit))) × ((List (List UInt8)) × (List ((List UInt8) × (Int × Unit)))))))))) =>
      Sum.elim (fun (v4 : (Int × ((List UInt8) × ((List ((List UInt8) × ((List UInt8) × Unit))) × ((List (List UInt8)) × (List ((List UInt8) × (Int × Unit)))))))) =>
          Option.bind (loop value_rises_L3_P (v4.snd.snd.snd.snd, (((List.length v4.snd.snd.snd.snd) : Nat) : Int), (0 : Int), v4.fst, v4.snd.fst, v4.snd.snd.fst, v4.snd.snd.snd.fst, v4.snd.snd.snd.snd, [])) fun (v6 : ((Int × ((List UInt8) × ((List ((List UInt8) × ((List UInt8) × Unit))) × ((List (List UInt8)) × ((List ((List UInt8) × (Int × Unit))) × (List ((List UInt8) × Int))))))) ⊕ (Bool × (Int × ((List UInt8) × ((List ((List UInt8) × ((List UInt8) × Unit))) × ((List (List UInt8)) × ((List ((List UInt8) × (Int × Unit))) × (List ((List UInt8) × Int)))))))))) =>
          Sum.elim (fun (v7 : (Int × ((List UInt8) × ((List ((List UInt8) × ((List UInt8) × Unit))) × ((List (List UInt8)) × ((List ((List UInt8) × (Int × Unit))) × (List ((List UInt8) × Int)))))))) =>
              some (true)
            ) (fun (v8 : (Bool × (Int × ((List UInt8) × ((List ((List UInt8) × ((List UInt8) × Unit))) × ((List (List UInt8)) × ((List ((List UInt8) × (Int × Unit))) × (List ((List UInt8) × Int))))))))) =>
            some (v8.fst)
          ) (v6)
        ) (fun (v5 : (Bool × (Int × ((List UInt8) × ((List ((List UInt8) × ((List UInt8) × Unit))) × ((List (List UInt8)) × (List ((List UInt8) × (Int × Unit))))))))) =>
        some (v5.fst)
      ) (v3)
    ) (fun (v2 : (Bool × (Int × ((List UInt8) × ((List ((List UInt8) × ((List UInt8) × Unit))) × ((List (List UInt8)) × (List ((List UInt8) × (Int × Unit))))))))) =>
    some (v2.fst)
  ) (v0)
def value_rises_P : Int × (List UInt8) × (List ((List UInt8) × (List UInt8) × Unit)) × (List (List UInt8)) × (List ((List UInt8) × Int × Unit)) → Option (Bool) := fun p => value_rises_M p.1 p.2.1 p.2.2.1 p.2.2.2.1 p.2.2.2.2
def value_rises_MM : HL [(.int .i64), .str, (.slc (.pair .str (.pair .str .unit))), (.slc .str), (.slc (.pair .str (.pair (.int .i64) .unit)))] → Option (SumL [[.bool]]) := fun p => value_rises_M p.1 p.2.1 p.2.2.1 p.2.2.2.1 p.2.2.2.2
def value_rises_C : Con := ⟨0, value_rises_T, value_rises_O, stdCn [(.int .i64), .str, (.slc (.pair .str (.pair .str .unit))), (.slc .str), (.slc (.pair .str (.pair (.int .i64) .unit)))] [[.bool]] value_rises_MM, []⟩

def value_Check_T : Tm := ⟨[(0, true, [.hole (.int .i64), .hole .str, .hole (.slc (.pair .str (.pair .str .unit))), .hole (.slc .str), .hole (.slc (.pair .str (.pair (.int .i64) .unit)))])], 1, []⟩
def value_Check_O : List (Ex × Tm) := [(.ret, ⟨[(0, false, [.hole (.int .i64)])], 1, []⟩)]
def value_Check_M (s0_0 : Int) (s0_1 : List UInt8) (s0_2 : List ((List UInt8) × (List UInt8) × Unit)) (s0_3 : List (List UInt8)) (s0_4 : List ((List UInt8) × Int × Unit)) : Option (Int) :=
  if decide (s0_0 < (1 : Int)) = true then
    some ((1 : Int))
  else
  if decide (s0_0 > (5 : Int)) = true then
    some ((1 : Int))
  else
  Option.bind (value_clean_P (s0_0, s0_1, s0_2, s0_3, s0_4)) fun (v0 : Bool) =>
  if (!v0) = true then
    some ((1 : Int))
  else
  if (s0_0 != (1 : Int)) = true then
    Option.bind (value_count_P (s0_0, s0_1, s0_2, s0_3, s0_4)) fun (v1 : Int) =>
    if (v1 == (0 : Int)) = true then
      some ((1 : Int))
    else
    Option.bind (value_count_P (s0_0, s0_1, s0_2, s0_3, s0_4)) fun (v2 : Int) =>
    if decide (v2 > (200 : Int)) = true then
      some ((10 : Int))
    else
    Option.bind (value_long_P (s0_0, s0_1, s0_2, s0_3, s0_4)) fun (v3 : Bool) =>
    if v3 = true then
      some ((5 : Int))
    else
    Option.bind (value_rises_P (s0_0, s0_1, s0_2, s0_3, s0_4)) fun (v4 : Bool) =>
    if (!v4) = true then
      some ((13 : Int))
    else
    some ((0 : Int))
  else
  Option.bind (value_count_P (s0_0, s0_1, s0_2, s0_3, s0_4)) fun (v5 : Int) =>
  if decide (v5 > (200 : Int)) = true then
    some ((10 : Int))
  else
  Option.bind (value_long_P (s0_0, s0_1, s0_2, s0_3, s0_4)) fun (v6 : Bool) =>
  if v6 = true then
    some ((5 : Int))
  else
  Option.bind (value_rises_P (s0_0, s0_1, s0_2, s0_3, s0_4)) fun (v7 : Bool) =>
  if (!v7) = true then
    some ((13 : Int))
  else
  some ((0 : Int))
def value_Check_P : Int × (List UInt8) × (List ((List UInt8) × (List UInt8) × Unit)) × (List (List UInt8)) × (List ((List UInt8) × Int × Unit)) → Option (Int) := fun p => value_Check_M p.1 p.2.1 p.2.2.1 p.2.2.2.1 p.2.2.2.2
def value_Check_MM : HL [(.int .i64), .str, (.slc (.pair .str (.pair .str .unit))), (.slc .str), (.slc (.pair .str (.pair (.int .i64) .unit)))] → Option (SumL [[(.int .i64)]]) := fun p => value_Check_M p.1 p.2.1 p.2.2.1 p.2.2.2.1 p.2.2.2.2
def value_Check_C : Con := ⟨0, value_Check_T, value_Check_O, stdCn [(.int .i64), .str, (.slc (.pair .str (.pair .str .unit))), (.slc .str), (.slc (.pair .str (.pair (.int .i64) .unit)))] [[(.int .i64)]] value_Check_MM, []⟩

def value_Size_R1_T : Tm := ⟨[(1, false, [.ptr 0 0])], 17, [.box [.hole (.int .i64), .hole .str, .hole (.slc (.pair .str (.pair .str .unit))), .hole (.slc .str), .hole (.slc (.pair .str (.pair (.int .i64) .unit)))]]⟩
def value_Size_R1_O : List (Ex × Tm) := [(.normal, ⟨[(1, false, [.ptr 0 0]), (3, false, [.ptr 1 0])], 17, [.box [.hole (.int .i64), .hole .str, .hole (.slc (.pair .str (.pair .str .unit))), .hole (.slc .str), .hole (.slc (.pair .str (.pair (.int .i64) .unit)))], .box [.hole (.int .i64)]]⟩)]
def value_Size_R1_X (m0_0 : Int) (m0_1 : List UInt8) (m0_2 : List ((List UInt8) × (List UInt8) × Unit)) (m0_3 : List (List UInt8)) (m0_4 : List ((List UInt8) × Int × Unit)) : Option (Int × (List UInt8) × (List ((List UInt8) × (List UInt8) × Unit)) × (List (List UInt8)) × (List ((List UInt8) × Int × Unit)) × Int) :=
  agree (
    Option.bind (value_count_P (m0_0, m0_1, m0_2, m0_3, m0_4)) fun (v0 : Int) =>
    some (m0_0, m0_1, m0_2, m0_3, m0_4, IntKind.wrap IntKind.i64 (IntKind.wrap IntKind.i64 ((16 : Int) + IntKind.wrap IntKind.i64 ((8 : Int) * v0)) + IntKind.wrap IntKind.i64 ((8 : Int) * (((List.length m0_4) : Nat) : Int))))
  ) (
    Option.bind (value_count_P (m0_0, m0_1, m0_2, m0_3, m0_4)) fun (v1 : Int) =>
    some (m0_0, m0_1, m0_2, m0_3, m0_4, IntKind.wrap IntKind.i64 (IntKind.wrap IntKind.i64 ((16 : Int) + IntKind.wrap IntKind.i64 ((8 : Int) * v1)) + IntKind.wrap IntKind.i64 ((8 : Int) * (((List.length m0_4) : Nat) : Int))))
  )
def value_Size_R1 (m0_0 : Int) (m0_1 : List UInt8) (m0_2 : List ((List UInt8) × (List UInt8) × Unit)) (m0_3 : List (List UInt8)) (m0_4 : List ((List UInt8) × Int × Unit)) : Option (Int × (List UInt8) × (List ((List UInt8) × (List UInt8) × Unit)) × (List (List UInt8)) × (List ((List UInt8) × Int × Unit)) × Int) :=
    Option.bind (value_count_P (m0_0, m0_1, m0_2, m0_3, m0_4)) fun (v0 : Int) =>
    some (m0_0, m0_1, m0_2, m0_3, m0_4, IntKind.wrap IntKind.i64 (IntKind.wrap IntKind.i64 ((16 : Int) + IntKind.wrap IntKind.i64 ((8 : Int) * v0)) + IntKind.wrap IntKind.i64 ((8 : Int) * (((List.length m0_4) : Nat) : Int))))
theorem value_Size_R1_eq (m0_0 : Int) (m0_1 : List UInt8) (m0_2 : List ((List UInt8) × (List UInt8) × Unit)) (m0_3 : List (List UInt8)) (m0_4 : List ((List UInt8) × Int × Unit)) : value_Size_R1_X m0_0 m0_1 m0_2 m0_3 m0_4 = value_Size_R1 m0_0 m0_1 m0_2 m0_3 m0_4 := by unfold value_Size_R1_X; simp only [agree_self]; rfl
def value_Size_R1_P : Int × (List UInt8) × (List ((List UInt8) × (List UInt8) × Unit)) × (List (List UInt8)) × (List ((List UInt8) × Int × Unit)) → Option (Int × (List UInt8) × (List ((List UInt8) × (List UInt8) × Unit)) × (List (List UInt8)) × (List ((List UInt8) × Int × Unit)) × Int) := fun p => value_Size_R1 p.1 p.2.1 p.2.2.1 p.2.2.2.1 p.2.2.2.2
def value_Size_R1_MM : HL [(.int .i64), .str, (.slc (.pair .str (.pair .str .unit))), (.slc .str), (.slc (.pair .str (.pair (.int .i64) .unit)))] → Option (SumL [[(.int .i64), .str, (.slc (.pair .str (.pair .str .unit))), (.slc .str), (.slc (.pair .str (.pair (.int .i64) .unit))), (.int .i64)]]) := fun p => value_Size_R1 p.1 p.2.1 p.2.2.1 p.2.2.2.1 p.2.2.2.2
def value_Size_R1_C : Con := ⟨1, value_Size_R1_T, value_Size_R1_O, stdCn [(.int .i64), .str, (.slc (.pair .str (.pair .str .unit))), (.slc .str), (.slc (.pair .str (.pair (.int .i64) .unit)))] [[(.int .i64), .str, (.slc (.pair .str (.pair .str .unit))), (.slc .str), (.slc (.pair .str (.pair (.int .i64) .unit))), (.int .i64)]] value_Size_R1_MM, []⟩
def value_Size_T : Tm := ⟨[(0, true, [.hole (.int .i64), .hole .str, .hole (.slc (.pair .str (.pair .str .unit))), .hole (.slc .str), .hole (.slc (.pair .str (.pair (.int .i64) .unit)))])], 1, []⟩
def value_Size_O : List (Ex × Tm) := [(.ret, ⟨[(0, false, [.hole (.int .i64)])], 1, []⟩)]
def value_Size_M (s0_0 : Int) (s0_1 : List UInt8) (s0_2 : List ((List UInt8) × (List UInt8) × Unit)) (s0_3 : List (List UInt8)) (s0_4 : List ((List UInt8) × Int × Unit)) : Option (Int) :=
  Option.bind (value_Size_R1_P (s0_0, s0_1, s0_2, s0_3, s0_4)) fun (v0 : (Int × ((List UInt8) × ((List ((List UInt8) × ((List UInt8) × Unit))) × ((List (List UInt8)) × ((List ((List UInt8) × (Int × Unit))) × Int)))))) =>
  Option.bind (value_texts_b_P (v0.fst, v0.snd.fst, v0.snd.snd.fst, v0.snd.snd.snd.fst, v0.snd.snd.snd.snd.fst, v0.snd.snd.snd.snd.snd)) fun (v1 : Int) =>
  some (v1)
def value_Size_P : Int × (List UInt8) × (List ((List UInt8) × (List UInt8) × Unit)) × (List (List UInt8)) × (List ((List UInt8) × Int × Unit)) → Option (Int) := fun p => value_Size_M p.1 p.2.1 p.2.2.1 p.2.2.2.1 p.2.2.2.2
def value_Size_MM : HL [(.int .i64), .str, (.slc (.pair .str (.pair .str .unit))), (.slc .str), (.slc (.pair .str (.pair (.int .i64) .unit)))] → Option (SumL [[(.int .i64)]]) := fun p => value_Size_M p.1 p.2.1 p.2.2.1 p.2.2.2.1 p.2.2.2.2
def value_Size_C : Con := ⟨0, value_Size_T, value_Size_O, stdCn [(.int .i64), .str, (.slc (.pair .str (.pair .str .unit))), (.slc .str), (.slc (.pair .str (.pair (.int .i64) .unit)))] [[(.int .i64)]] value_Size_MM, []⟩

def intaglioref14_Same_L1_T : Tm := ⟨[(0, false, [.hole (.slc (.pair .str (.pair (.int .i64) .unit)))]), (1, false, [.hole (.slc (.pair .str (.pair (.int .i64) .unit)))]), (5, false, [.hole (.int .i64)])], 26, []⟩
def intaglioref14_Same_L1_O : List (Ex × Tm) := [(.exit 0, ⟨[], 26, []⟩), (.ret, ⟨[(4, false, [.hole .bool])], 26, []⟩)]
def intaglioref14_Same_L1 (s0 : List ((List UInt8) × Int × Unit)) (s1 : List ((List UInt8) × Int × Unit)) (s5 : Int) : Option (((List ((List UInt8) × Int × Unit)) × (List ((List UInt8) × Int × Unit)) × Int) ⊕ ((Unit) ⊕ (Bool))) :=
  if decide (s5 < (((List.length s0) : Nat) : Int)) = true then
    Option.bind (ix s0 s5) fun (v0 : ((List UInt8) × (Int × Unit))) =>
    Option.bind (ix s1 s5) fun (v1 : ((List UInt8) × (Int × Unit))) =>
    if (!(fun r => eqLs.strEq v0.fst v1.fst && r) ((fun r => eqLs.intEq v0.snd.fst v1.snd.fst && r) true)) = true then
      some (.inr (.inr (false)))
    else
    some (.inl (s0, s1, IntKind.wrap IntKind.i64 (s5 + (1 : Int))))
  else
  some (.inr (.inl (())))
def intaglioref14_Same_L1_P : (List ((List UInt8) × Int × Unit)) × (List ((List UInt8) × Int × Unit)) × Int → Option (((List ((List UInt8) × Int × Unit)) × (List ((List UInt8) × Int × Unit)) × Int) ⊕ ((Unit) ⊕ (Bool))) := fun p => intaglioref14_Same_L1 p.1 p.2.1 p.2.2
def intaglioref14_Same_L1_MM : HL [(.slc (.pair .str (.pair (.int .i64) .unit))), (.slc (.pair .str (.pair (.int .i64) .unit))), (.int .i64)] → Option (HL [(.slc (.pair .str (.pair (.int .i64) .unit))), (.slc (.pair .str (.pair (.int .i64) .unit))), (.int .i64)] ⊕ SumL [[], [.bool]]) := fun p => intaglioref14_Same_L1 p.1 p.2.1 p.2.2
def intaglioref14_Same_L1_C : Con := ⟨0, intaglioref14_Same_L1_T, intaglioref14_Same_L1_O, stdCn [(.slc (.pair .str (.pair (.int .i64) .unit))), (.slc (.pair .str (.pair (.int .i64) .unit))), (.int .i64)] [[], [.bool]] (loop intaglioref14_Same_L1_MM), []⟩
def intaglioref14_Same_T : Tm := ⟨[(0, false, [.hole (.slc (.pair .str (.pair (.int .i64) .unit)))]), (1, false, [.hole (.slc (.pair .str (.pair (.int .i64) .unit)))])], 2, []⟩
def intaglioref14_Same_O : List (Ex × Tm) := [(.ret, ⟨[(0, false, [.hole .bool])], 1, []⟩)]
def intaglioref14_Same_M (s0 : List ((List UInt8) × Int × Unit)) (s1 : List ((List UInt8) × Int × Unit)) : Option (Bool) :=
  if ((((List.length s0) : Nat) : Int) != (((List.length s1) : Nat) : Int)) = true then
    some (false)
  else
  Option.bind (loop intaglioref14_Same_L1_P (s0, s1, (0 : Int))) fun (v0 : (Unit ⊕ Bool)) =>
  Sum.elim (fun _ =>
      some (true)
    ) (fun (v2 : Bool) =>
    some (v2)
  ) (v0)
def intaglioref14_Same_P : (List ((List UInt8) × Int × Unit)) × (List ((List UInt8) × Int × Unit)) → Option (Bool) := fun p => intaglioref14_Same_M p.1 p.2
def intaglioref14_Same_MM : HL [(.slc (.pair .str (.pair (.int .i64) .unit))), (.slc (.pair .str (.pair (.int .i64) .unit)))] → Option (SumL [[.bool]]) := fun p => intaglioref14_Same_M p.1 p.2
def intaglioref14_Same_C : Con := ⟨0, intaglioref14_Same_T, intaglioref14_Same_O, stdCn [(.slc (.pair .str (.pair (.int .i64) .unit))), (.slc (.pair .str (.pair (.int .i64) .unit)))] [[.bool]] intaglioref14_Same_MM, []⟩

def intaglioref15_Same_L1_T : Tm := ⟨[(2, false, [.ptr 0 0]), (3, false, [.ptr 1 0]), (5, false, [.hole (.int .i64)])], 81, [.box [.hole (.int .i64), .hole .str, .hole (.slc (.pair .str (.pair .str .unit))), .hole (.slc .str), .hole (.slc (.pair .str (.pair (.int .i64) .unit)))], .box [.hole (.int .i64), .hole .str, .hole (.slc (.pair .str (.pair .str .unit))), .hole (.slc .str), .hole (.slc (.pair .str (.pair (.int .i64) .unit)))]]⟩
def intaglioref15_Same_L1_O : List (Ex × Tm) := [(.exit 0, ⟨[(2, false, [.ptr 0 0]), (3, false, [.ptr 1 0])], 81, [.box [.hole (.int .i64), .hole .str, .hole (.slc (.pair .str (.pair .str .unit))), .hole (.slc .str), .hole (.slc (.pair .str (.pair (.int .i64) .unit)))], .box [.hole (.int .i64), .hole .str, .hole (.slc (.pair .str (.pair .str .unit))), .hole (.slc .str), .hole (.slc (.pair .str (.pair (.int .i64) .unit)))]]⟩), (.ret, ⟨[(4, false, [.hole .bool])], 81, [.box [.hole (.int .i64), .hole .str, .hole (.slc (.pair .str (.pair .str .unit))), .hole (.slc .str), .hole (.slc (.pair .str (.pair (.int .i64) .unit)))], .box [.hole (.int .i64), .hole .str, .hole (.slc (.pair .str (.pair .str .unit))), .hole (.slc .str), .hole (.slc (.pair .str (.pair (.int .i64) .unit)))]]⟩)]
def intaglioref15_Same_L1 (s5 : Int) (m0_0 : Int) (m0_1 : List UInt8) (m0_2 : List ((List UInt8) × (List UInt8) × Unit)) (m0_3 : List (List UInt8)) (m0_4 : List ((List UInt8) × Int × Unit)) (m1_0 : Int) (m1_1 : List UInt8) (m1_2 : List ((List UInt8) × (List UInt8) × Unit)) (m1_3 : List (List UInt8)) (m1_4 : List ((List UInt8) × Int × Unit)) : Option ((Int × Int × (List UInt8) × (List ((List UInt8) × (List UInt8) × Unit)) × (List (List UInt8)) × (List ((List UInt8) × Int × Unit)) × Int × (List UInt8) × (List ((List UInt8) × (List UInt8) × Unit)) × (List (List UInt8)) × (List ((List UInt8) × Int × Unit))) ⊕ ((Int × (List UInt8) × (List ((List UInt8) × (List UInt8) × Unit)) × (List (List UInt8)) × (List ((List UInt8) × Int × Unit)) × Int × (List UInt8) × (List ((List UInt8) × (List UInt8) × Unit)) × (List (List UInt8)) × (List ((List UInt8) × Int × Unit))) ⊕ (Bool × Int × (List UInt8) × (List ((List UInt8) × (List UInt8) × Unit)) × (List (List UInt8)) × (List ((List UInt8) × Int × Unit)) × Int × (List UInt8) × (List ((List UInt8) × (List UInt8) × Unit)) × (List (List UInt8)) × (List ((List UInt8) × Int × Unit))))) :=
  if decide (s5 < (((List.length m0_2) : Nat) : Int)) = true then
    Option.bind (ix m0_2 s5) fun (v0 : ((List UInt8) × ((List UInt8) × Unit))) =>
    Option.bind (ix m1_2 s5) fun (v1 : ((List UInt8) × ((List UInt8) × Unit))) =>
    if (!(fun r => eqLs.strEq v0.fst v1.fst && r) ((fun r => eqLs.strEq v0.snd.fst v1.snd.fst && r) true)) = true then
      some (.inr (.inr (false, m0_0, m0_1, m0_2, m0_3, m0_4, m1_0, m1_1, m1_2, m1_3, m1_4)))
    else
    some (.inl (IntKind.wrap IntKind.i64 (s5 + (1 : Int)), m0_0, m0_1, m0_2, m0_3, m0_4, m1_0, m1_1, m1_2, m1_3, m1_4))
  else
  some (.inr (.inl (m0_0, m0_1, m0_2, m0_3, m0_4, m1_0, m1_1, m1_2, m1_3, m1_4)))
def intaglioref15_Same_L1_P : Int × Int × (List UInt8) × (List ((List UInt8) × (List UInt8) × Unit)) × (List (List UInt8)) × (List ((List UInt8) × Int × Unit)) × Int × (List UInt8) × (List ((List UInt8) × (List UInt8) × Unit)) × (List (List UInt8)) × (List ((List UInt8) × Int × Unit)) → Option ((Int × Int × (List UInt8) × (List ((List UInt8) × (List UInt8) × Unit)) × (List (List UInt8)) × (List ((List UInt8) × Int × Unit)) × Int × (List UInt8) × (List ((List UInt8) × (List UInt8) × Unit)) × (List (List UInt8)) × (List ((List UInt8) × Int × Unit))) ⊕ ((Int × (List UInt8) × (List ((List UInt8) × (List UInt8) × Unit)) × (List (List UInt8)) × (List ((List UInt8) × Int × Unit)) × Int × (List UInt8) × (List ((List UInt8) × (List UInt8) × Unit)) × (List (List UInt8)) × (List ((List UInt8) × Int × Unit))) ⊕ (Bool × Int × (List UInt8) × (List ((List UInt8) × (List UInt8) × Unit)) × (List (List UInt8)) × (List ((List UInt8) × Int × Unit)) × Int × (List UInt8) × (List ((List UInt8) × (List UInt8) × Unit)) × (List (List UInt8)) × (List ((List UInt8) × Int × Unit))))) := fun p => intaglioref15_Same_L1 p.1 p.2.1 p.2.2.1 p.2.2.2.1 p.2.2.2.2.1 p.2.2.2.2.2.1 p.2.2.2.2.2.2.1 p.2.2.2.2.2.2.2.1 p.2.2.2.2.2.2.2.2.1 p.2.2.2.2.2.2.2.2.2.1 p.2.2.2.2.2.2.2.2.2.2
def intaglioref15_Same_L1_MM : HL [(.int .i64), (.int .i64), .str, (.slc (.pair .str (.pair .str .unit))), (.slc .str), (.slc (.pair .str (.pair (.int .i64) .unit))), (.int .i64), .str, (.slc (.pair .str (.pair .str .unit))), (.slc .str), (.slc (.pair .str (.pair (.int .i64) .unit)))] → Option (HL [(.int .i64), (.int .i64), .str, (.slc (.pair .str (.pair .str .unit))), (.slc .str), (.slc (.pair .str (.pair (.int .i64) .unit))), (.int .i64), .str, (.slc (.pair .str (.pair .str .unit))), (.slc .str), (.slc (.pair .str (.pair (.int .i64) .unit)))] ⊕ SumL [[(.int .i64), .str, (.slc (.pair .str (.pair .str .unit))), (.slc .str), (.slc (.pair .str (.pair (.int .i64) .unit))), (.int .i64), .str, (.slc (.pair .str (.pair .str .unit))), (.slc .str), (.slc (.pair .str (.pair (.int .i64) .unit)))], [.bool, (.int .i64), .str, (.slc (.pair .str (.pair .str .unit))), (.slc .str), (.slc (.pair .str (.pair (.int .i64) .unit))), (.int .i64), .str, (.slc (.pair .str (.pair .str .unit))), (.slc .str), (.slc (.pair .str (.pair (.int .i64) .unit)))]]) := fun p => intaglioref15_Same_L1 p.1 p.2.1 p.2.2.1 p.2.2.2.1 p.2.2.2.2.1 p.2.2.2.2.2.1 p.2.2.2.2.2.2.1 p.2.2.2.2.2.2.2.1 p.2.2.2.2.2.2.2.2.1 p.2.2.2.2.2.2.2.2.2.1 p.2.2.2.2.2.2.2.2.2.2
def intaglioref15_Same_L1_C : Con := ⟨2, intaglioref15_Same_L1_T, intaglioref15_Same_L1_O, stdCn [(.int .i64), (.int .i64), .str, (.slc (.pair .str (.pair .str .unit))), (.slc .str), (.slc (.pair .str (.pair (.int .i64) .unit))), (.int .i64), .str, (.slc (.pair .str (.pair .str .unit))), (.slc .str), (.slc (.pair .str (.pair (.int .i64) .unit)))] [[(.int .i64), .str, (.slc (.pair .str (.pair .str .unit))), (.slc .str), (.slc (.pair .str (.pair (.int .i64) .unit))), (.int .i64), .str, (.slc (.pair .str (.pair .str .unit))), (.slc .str), (.slc (.pair .str (.pair (.int .i64) .unit)))], [.bool, (.int .i64), .str, (.slc (.pair .str (.pair .str .unit))), (.slc .str), (.slc (.pair .str (.pair (.int .i64) .unit))), (.int .i64), .str, (.slc (.pair .str (.pair .str .unit))), (.slc .str), (.slc (.pair .str (.pair (.int .i64) .unit)))]] (loop intaglioref15_Same_L1_MM), []⟩
def intaglioref15_Same_L2_T : Tm := ⟨[(2, false, [.ptr 0 0]), (3, false, [.ptr 1 0]), (6, false, [.hole (.int .i64)])], 81, [.box [.hole (.int .i64), .hole .str, .hole (.slc (.pair .str (.pair .str .unit))), .hole (.slc .str), .hole (.slc (.pair .str (.pair (.int .i64) .unit)))], .box [.hole (.int .i64), .hole .str, .hole (.slc (.pair .str (.pair .str .unit))), .hole (.slc .str), .hole (.slc (.pair .str (.pair (.int .i64) .unit)))]]⟩
def intaglioref15_Same_L2_O : List (Ex × Tm) := [(.exit 2, ⟨[], 81, [.box [.hole (.int .i64), .hole .str, .hole (.slc (.pair .str (.pair .str .unit))), .hole (.slc .str), .hole (.slc (.pair .str (.pair (.int .i64) .unit)))], .box [.hole (.int .i64), .hole .str, .hole (.slc (.pair .str (.pair .str .unit))), .hole (.slc .str), .hole (.slc (.pair .str (.pair (.int .i64) .unit)))]]⟩), (.ret, ⟨[(4, false, [.hole .bool])], 81, [.box [.hole (.int .i64), .hole .str, .hole (.slc (.pair .str (.pair .str .unit))), .hole (.slc .str), .hole (.slc (.pair .str (.pair (.int .i64) .unit)))], .box [.hole (.int .i64), .hole .str, .hole (.slc (.pair .str (.pair .str .unit))), .hole (.slc .str), .hole (.slc (.pair .str (.pair (.int .i64) .unit)))]]⟩)]
def intaglioref15_Same_L2 (s6 : Int) (m0_0 : Int) (m0_1 : List UInt8) (m0_2 : List ((List UInt8) × (List UInt8) × Unit)) (m0_3 : List (List UInt8)) (m0_4 : List ((List UInt8) × Int × Unit)) (m1_0 : Int) (m1_1 : List UInt8) (m1_2 : List ((List UInt8) × (List UInt8) × Unit)) (m1_3 : List (List UInt8)) (m1_4 : List ((List UInt8) × Int × Unit)) : Option ((Int × Int × (List UInt8) × (List ((List UInt8) × (List UInt8) × Unit)) × (List (List UInt8)) × (List ((List UInt8) × Int × Unit)) × Int × (List UInt8) × (List ((List UInt8) × (List UInt8) × Unit)) × (List (List UInt8)) × (List ((List UInt8) × Int × Unit))) ⊕ ((Int × (List UInt8) × (List ((List UInt8) × (List UInt8) × Unit)) × (List (List UInt8)) × (List ((List UInt8) × Int × Unit)) × Int × (List UInt8) × (List ((List UInt8) × (List UInt8) × Unit)) × (List (List UInt8)) × (List ((List UInt8) × Int × Unit))) ⊕ (Bool × Int × (List UInt8) × (List ((List UInt8) × (List UInt8) × Unit)) × (List (List UInt8)) × (List ((List UInt8) × Int × Unit)) × Int × (List UInt8) × (List ((List UInt8) × (List UInt8) × Unit)) × (List (List UInt8)) × (List ((List UInt8) × Int × Unit))))) :=
  if decide (s6 < (((List.length m0_3) : Nat) : Int)) = true then
    Option.bind (ix m0_3 s6) fun (v0 : (List UInt8)) =>
    Option.bind (ix m1_3 s6) fun (v1 : (List UInt8)) =>
    if (!v0 == v1) = true then
      some (.inr (.inr (false, m0_0, m0_1, m0_2, m0_3, m0_4, m1_0, m1_1, m1_2, m1_3, m1_4)))
    else
    some (.inl (IntKind.wrap IntKind.i64 (s6 + (1 : Int)), m0_0, m0_1, m0_2, m0_3, m0_4, m1_0, m1_1, m1_2, m1_3, m1_4))
  else
  some (.inr (.inl (m0_0, m0_1, m0_2, m0_3, m0_4, m1_0, m1_1, m1_2, m1_3, m1_4)))
def intaglioref15_Same_L2_P : Int × Int × (List UInt8) × (List ((List UInt8) × (List UInt8) × Unit)) × (List (List UInt8)) × (List ((List UInt8) × Int × Unit)) × Int × (List UInt8) × (List ((List UInt8) × (List UInt8) × Unit)) × (List (List UInt8)) × (List ((List UInt8) × Int × Unit)) → Option ((Int × Int × (List UInt8) × (List ((List UInt8) × (List UInt8) × Unit)) × (List (List UInt8)) × (List ((List UInt8) × Int × Unit)) × Int × (List UInt8) × (List ((List UInt8) × (List UInt8) × Unit)) × (List (List UInt8)) × (List ((List UInt8) × Int × Unit))) ⊕ ((Int × (List UInt8) × (List ((List UInt8) × (List UInt8) × Unit)) × (List (List UInt8)) × (List ((List UInt8) × Int × Unit)) × Int × (List UInt8) × (List ((List UInt8) × (List UInt8) × Unit)) × (List (List UInt8)) × (List ((List UInt8) × Int × Unit))) ⊕ (Bool × Int × (List UInt8) × (List ((List UInt8) × (List UInt8) × Unit)) × (List (List UInt8)) × (List ((List UInt8) × Int × Unit)) × Int × (List UInt8) × (List ((List UInt8) × (List UInt8) × Unit)) × (List (List UInt8)) × (List ((List UInt8) × Int × Unit))))) := fun p => intaglioref15_Same_L2 p.1 p.2.1 p.2.2.1 p.2.2.2.1 p.2.2.2.2.1 p.2.2.2.2.2.1 p.2.2.2.2.2.2.1 p.2.2.2.2.2.2.2.1 p.2.2.2.2.2.2.2.2.1 p.2.2.2.2.2.2.2.2.2.1 p.2.2.2.2.2.2.2.2.2.2
def intaglioref15_Same_L2_MM : HL [(.int .i64), (.int .i64), .str, (.slc (.pair .str (.pair .str .unit))), (.slc .str), (.slc (.pair .str (.pair (.int .i64) .unit))), (.int .i64), .str, (.slc (.pair .str (.pair .str .unit))), (.slc .str), (.slc (.pair .str (.pair (.int .i64) .unit)))] → Option (HL [(.int .i64), (.int .i64), .str, (.slc (.pair .str (.pair .str .unit))), (.slc .str), (.slc (.pair .str (.pair (.int .i64) .unit))), (.int .i64), .str, (.slc (.pair .str (.pair .str .unit))), (.slc .str), (.slc (.pair .str (.pair (.int .i64) .unit)))] ⊕ SumL [[(.int .i64), .str, (.slc (.pair .str (.pair .str .unit))), (.slc .str), (.slc (.pair .str (.pair (.int .i64) .unit))), (.int .i64), .str, (.slc (.pair .str (.pair .str .unit))), (.slc .str), (.slc (.pair .str (.pair (.int .i64) .unit)))], [.bool, (.int .i64), .str, (.slc (.pair .str (.pair .str .unit))), (.slc .str), (.slc (.pair .str (.pair (.int .i64) .unit))), (.int .i64), .str, (.slc (.pair .str (.pair .str .unit))), (.slc .str), (.slc (.pair .str (.pair (.int .i64) .unit)))]]) := fun p => intaglioref15_Same_L2 p.1 p.2.1 p.2.2.1 p.2.2.2.1 p.2.2.2.2.1 p.2.2.2.2.2.1 p.2.2.2.2.2.2.1 p.2.2.2.2.2.2.2.1 p.2.2.2.2.2.2.2.2.1 p.2.2.2.2.2.2.2.2.2.1 p.2.2.2.2.2.2.2.2.2.2
def intaglioref15_Same_L2_C : Con := ⟨2, intaglioref15_Same_L2_T, intaglioref15_Same_L2_O, stdCn [(.int .i64), (.int .i64), .str, (.slc (.pair .str (.pair .str .unit))), (.slc .str), (.slc (.pair .str (.pair (.int .i64) .unit))), (.int .i64), .str, (.slc (.pair .str (.pair .str .unit))), (.slc .str), (.slc (.pair .str (.pair (.int .i64) .unit)))] [[(.int .i64), .str, (.slc (.pair .str (.pair .str .unit))), (.slc .str), (.slc (.pair .str (.pair (.int .i64) .unit))), (.int .i64), .str, (.slc (.pair .str (.pair .str .unit))), (.slc .str), (.slc (.pair .str (.pair (.int .i64) .unit)))], [.bool, (.int .i64), .str, (.slc (.pair .str (.pair .str .unit))), (.slc .str), (.slc (.pair .str (.pair (.int .i64) .unit))), (.int .i64), .str, (.slc (.pair .str (.pair .str .unit))), (.slc .str), (.slc (.pair .str (.pair (.int .i64) .unit)))]] (loop intaglioref15_Same_L2_MM), []⟩
def intaglioref15_Same_T : Tm := ⟨[(0, true, [.hole (.int .i64), .hole .str, .hole (.slc (.pair .str (.pair .str .unit))), .hole (.slc .str), .hole (.slc (.pair .str (.pair (.int .i64) .unit)))]), (1, true, [.hole (.int .i64), .hole .str, .hole (.slc (.pair .str (.pair .str .unit))), .hole (.slc .str), .hole (.slc (.pair .str (.pair (.int .i64) .unit)))])], 2, []⟩
def intaglioref15_Same_O : List (Ex × Tm) := [(.ret, ⟨[(0, false, [.hole .bool])], 1, []⟩)]
def intaglioref15_Same_M (s0_0 : Int) (s0_1 : List UInt8) (s0_2 : List ((List UInt8) × (List UInt8) × Unit)) (s0_3 : List (List UInt8)) (s0_4 : List ((List UInt8) × Int × Unit)) (s1_0 : Int) (s1_1 : List UInt8) (s1_2 : List ((List UInt8) × (List UInt8) × Unit)) (s1_3 : List (List UInt8)) (s1_4 : List ((List UInt8) × Int × Unit)) : Option (Bool) :=
  if (s0_0 != s1_0) = true then
    some (false)
  else
  if (!s0_1 == s1_1) = true then
    some (false)
  else
  if ((((List.length s0_2) : Nat) : Int) != (((List.length s1_2) : Nat) : Int)) = true then
    some (false)
  else
  if ((((List.length s0_3) : Nat) : Int) != (((List.length s1_3) : Nat) : Int)) = true then
    some (false)
  else
  Option.bind (intaglioref14_Same_P (s0_4, s1_4)) fun (v0 : Bool) =>
  if (!v0) = true then
    some (false)
  else
  Option.bind (loop intaglioref15_Same_L1_P ((0 : Int), s0_0, s0_1, s0_2, s0_3, s0_4, s1_0, s1_1, s1_2, s1_3, s1_4)) fun (v1 : ((Int × ((List UInt8) × ((List ((List UInt8) × ((List UInt8) × Unit))) × ((List (List UInt8)) × ((List ((List UInt8) × (Int × Unit))) × (Int × ((List UInt8) × ((List ((List UInt8) × ((List UInt8) × Unit))) × ((List (List UInt8)) × (List ((List UInt8) × (Int × Unit)))))))))))) ⊕ (Bool × (Int × ((List UInt8) × ((List ((List UInt8) × ((List UInt8) × Unit))) × ((List (List UInt8)) × ((List ((List UInt8) × (Int × Unit))) × (Int × ((List UInt8) × ((List ((List UInt8) × ((List UInt8) × Unit))) × ((List (List UInt8)) × (List ((List UInt8) × (Int × Unit))))))))))))))) =>
  Sum.elim (fun (v2 : (Int × ((List UInt8) × ((List ((List UInt8) × ((List UInt8) × Unit))) × ((List (List UInt8)) × ((List ((List UInt8) × (Int × Unit))) × (Int × ((List UInt8) × ((List ((List UInt8) × ((List UInt8) × Unit))) × ((List (List UInt8)) × (List ((List UInt8) × (Int × Unit))))))))))))) =>
      Option.bind (loop intaglioref15_Same_L2_P ((0 : Int), v2.fst, v2.snd.fst, v2.snd.snd.fst, v2.snd.snd.snd.fst, v2.snd.snd.snd.snd.fst, v2.snd.snd.snd.snd.snd.fst, v2.snd.snd.snd.snd.snd.snd.fst, v2.snd.snd.snd.snd.snd.snd.snd.fst, v2.snd.snd.snd.snd.snd.snd.snd.snd.fst, v2.snd.snd.snd.snd.snd.snd.snd.snd.snd)) fun (v4 : ((Int × ((List UInt8) × ((List ((List UInt8) × ((List UInt8) × Unit))) × ((List (List UInt8)) × ((List ((List UInt8) × (Int × Unit))) × (Int × ((List UInt8) × ((List ((List UInt8) × ((List UInt8) × Unit))) × ((List (List UInt8)) × (List ((List UInt8) × (Int × Unit)))))))))))) ⊕ (Bool × (Int × ((List UInt8) × ((List ((List UInt8) × ((List UInt8) × Unit))) × ((List (List UInt8)) × ((List ((List UInt8) × (Int × Unit))) × (Int × ((List UInt8) × ((List ((List UInt8) × ((List UInt8) × Unit))) × ((List (List UInt8)) × (List ((List UInt8) × (Int × Unit))))))))))))))) =>
      Sum.elim (fun (v5 : (Int × ((List UInt8) × ((List ((List UInt8) × ((List UInt8) × Unit))) × ((List (List UInt8)) × ((List ((List UInt8) × (Int × Unit))) × (Int × ((List UInt8) × ((List ((List UInt8) × ((List UInt8) × Unit))) × ((List (List UInt8)) × (List ((List UInt8) × (Int × Unit))))))))))))) =>
          some (true)
        ) (fun (v6 : (Bool × (Int × ((List UInt8) × ((List ((List UInt8) × ((List UInt8) × Unit))) × ((List (List UInt8)) × ((List ((List UInt8) × (Int × Unit))) × (Int × ((List UInt8) × ((List ((List UInt8) × ((List UInt8) × Unit))) × ((List (List UInt8)) × (List ((List UInt8) × (Int × Unit)))))))))))))) =>
        some (v6.fst)
      ) (v4)
    ) (fun (v3 : (Bool × (Int × ((List UInt8) × ((List ((List UInt8) × ((List UInt8) × Unit))) × ((List (List UInt8)) × ((List ((List UInt8) × (Int × Unit))) × (Int × ((List UInt8) × ((List ((List UInt8) × ((List UInt8) × Unit))) × ((List (List UInt8)) × (List ((List UInt8) × (Int × Unit)))))))))))))) =>
    some (v3.fst)
  ) (v1)
def intaglioref15_Same_P : Int × (List UInt8) × (List ((List UInt8) × (List UInt8) × Unit)) × (List (List UInt8)) × (List ((List UInt8) × Int × Unit)) × Int × (List UInt8) × (List ((List UInt8) × (List UInt8) × Unit)) × (List (List UInt8)) × (List ((List UInt8) × Int × Unit)) → Option (Bool) := fun p => intaglioref15_Same_M p.1 p.2.1 p.2.2.1 p.2.2.2.1 p.2.2.2.2.1 p.2.2.2.2.2.1 p.2.2.2.2.2.2.1 p.2.2.2.2.2.2.2.1 p.2.2.2.2.2.2.2.2.1 p.2.2.2.2.2.2.2.2.2
def intaglioref15_Same_MM : HL [(.int .i64), .str, (.slc (.pair .str (.pair .str .unit))), (.slc .str), (.slc (.pair .str (.pair (.int .i64) .unit))), (.int .i64), .str, (.slc (.pair .str (.pair .str .unit))), (.slc .str), (.slc (.pair .str (.pair (.int .i64) .unit)))] → Option (SumL [[.bool]]) := fun p => intaglioref15_Same_M p.1 p.2.1 p.2.2.1 p.2.2.2.1 p.2.2.2.2.1 p.2.2.2.2.2.1 p.2.2.2.2.2.2.1 p.2.2.2.2.2.2.2.1 p.2.2.2.2.2.2.2.2.1 p.2.2.2.2.2.2.2.2.2
def intaglioref15_Same_C : Con := ⟨0, intaglioref15_Same_T, intaglioref15_Same_O, stdCn [(.int .i64), .str, (.slc (.pair .str (.pair .str .unit))), (.slc .str), (.slc (.pair .str (.pair (.int .i64) .unit))), (.int .i64), .str, (.slc (.pair .str (.pair .str .unit))), (.slc .str), (.slc (.pair .str (.pair (.int .i64) .unit)))] [[.bool]] intaglioref15_Same_MM, []⟩

def slices_Clone_string_string_T : Tm := ⟨[(0, false, [.hole (.slc .str)])], 1, []⟩
def slices_Clone_string_string_O : List (Ex × Tm) := [(.ret, ⟨[(0, false, [.row 0])], 1, [.row .str]⟩)]
def slices_Clone_string_string_M (s0 : List (List UInt8)) : Option ((List (List UInt8))) :=
  if List.isEmpty s0 = true then
    agree (
      some ([])
    ) (
      Option.bind (room (16 : Nat) ((0 : Nat) + List.length s0)) fun _ =>
      some ([] ++ s0)
    )
  else
  Option.bind (room (16 : Nat) ((0 : Nat) + List.length s0)) fun _ =>
  some ([] ++ s0)
def slices_Clone_string_string_P : (List (List UInt8)) → Option ((List (List UInt8))) := fun p => slices_Clone_string_string_M p
def slices_Clone_string_string_MM : HL [(.slc .str)] → Option (SumL [[(.slc .str)]]) := fun p => slices_Clone_string_string_M p
def slices_Clone_string_string_C : Con := ⟨0, slices_Clone_string_string_T, slices_Clone_string_string_O, stdCn [(.slc .str)] [[(.slc .str)]] slices_Clone_string_string_MM, []⟩

def value_Value_Plain_a_R1_T : Tm := ⟨[(0, false, [.ptr 0 0]), (2, false, [.ptr 1 0])], 53, [.box [.hole (.int .i64), .hole .str, .row 2, .row 3, .nils, .nils, .nils, .nilp], .box [.hole (.int .i64), .hole .str, .nils, .nils, .nils], .row .str, .row .str]⟩
def value_Value_Plain_a_R1_O : List (Ex × Tm) := [(.normal, ⟨[(0, false, [.ptr 0 0]), (2, false, [.ptr 1 0]), (3, false, [.ptr 4 0])], 53, [.box [.hole (.int .i64), .hole .str, .row 2, .row 3, .nils, .nils, .nils, .nilp], .box [.hole (.int .i64), .hole .str, .nils, .nils, .nils], .row .str, .row .str, .box [.hole (.int .i64), .hole .str, .nils, .row 5, .nils], .row .str]⟩)]
def value_Value_Plain_a_R1_X (m0_0 : Int) (m0_1 : List UInt8) (m1_0 : Int) (m1_1 : List UInt8) (r2 : List (List UInt8)) (r3 : List (List UInt8)) : Option (Int × (List UInt8) × Int × (List UInt8) × (List (List UInt8)) × (List (List UInt8)) × Int × (List UInt8) × (List (List UInt8))) :=
  agree (
    if (m0_0 == (3 : Int)) = true then
      Option.bind (slices_Clone_string_string_P []) fun (v0 : (List (List UInt8))) =>
      agree (
        agree (
          if (m0_0 == (1 : Int)) = true then
            agree (
              some (m0_0, m0_1, m1_0, m1_1, r2, r3, m0_0, m0_1, v0)
            ) (
              some (m0_0, m0_1, m1_0, m1_1, r2, r3, m0_0, m0_1, v0)
            )
          else
          if (m0_0 == (2 : Int)) = true then
            agree (
              some (m0_0, m0_1, m1_0, m1_1, r2, r3, m0_0, m0_1, v0)
            ) (
              some (m0_0, m0_1, m1_0, m1_1, r2, r3, m0_0, m0_1, v0)
            )
          else
          if (m0_0 == (3 : Int)) = true then
            agree (
              some (m0_0, m0_1, m1_0, m1_1, r2, r3, m0_0, m0_1, v0)
            ) (
              some (m0_0, m0_1, m1_0, m1_1, r2, r3, m0_0, m0_1, v0)
            )
          else
          if (m0_0 == (4 : Int)) = true then
            agree (
              some (m0_0, m0_1, m1_0, m1_1, r2, r3, m0_0, m0_1, v0)
            ) (
              some (m0_0, m0_1, m1_0, m1_1, r2, r3, m0_0, m0_1, v0)
            )
          else
          agree (
            some (m0_0, m0_1, m1_0, m1_1, r2, r3, m0_0, m0_1, v0)
          ) (
            some (m0_0, m0_1, m1_0, m1_1, r2, r3, m0_0, m0_1, v0)
          )
        ) (
          if (m0_0 == (1 : Int)) = true then
            some (m0_0, m0_1, m1_0, m1_1, r2, r3, m0_0, m0_1, v0)
          else
          if (m0_0 == (2 : Int)) = true then
            some (m0_0, m0_1, m1_0, m1_1, r2, r3, m0_0, m0_1, v0)
          else
          if (m0_0 == (3 : Int)) = true then
            some (m0_0, m0_1, m1_0, m1_1, r2, r3, m0_0, m0_1, v0)
          else
          if (m0_0 == (4 : Int)) = true then
            some (m0_0, m0_1, m1_0, m1_1, r2, r3, m0_0, m0_1, v0)
          else
          some (m0_0, m0_1, m1_0, m1_1, r2, r3, m0_0, m0_1, v0)
        )
      ) (
        if (m0_0 == (1 : Int)) = true then
          some (m0_0, m0_1, m1_0, m1_1, r2, r3, m0_0, m0_1, v0)
        else
        if (m0_0 == (2 : Int)) = true then
          some (m0_0, m0_1, m1_0, m1_1, r2, r3, m0_0, m0_1, v0)
        else
        if (m0_0 == (3 : Int)) = true then
          some (m0_0, m0_1, m1_0, m1_1, r2, r3, m0_0, m0_1, v0)
        else
        if (m0_0 == (4 : Int)) = true then
          some (m0_0, m0_1, m1_0, m1_1, r2, r3, m0_0, m0_1, v0)
        else
        some (m0_0, m0_1, m1_0, m1_1, r2, r3, m0_0, m0_1, v0)
      )
    else
    if (m0_0 == (4 : Int)) = true then
      Option.bind (slices_Clone_string_string_P []) fun (v1 : (List (List UInt8))) =>
      agree (
        agree (
          if (m0_0 == (1 : Int)) = true then
            agree (
              some (m0_0, m0_1, m1_0, m1_1, r2, r3, m0_0, m0_1, v1)
            ) (
              some (m0_0, m0_1, m1_0, m1_1, r2, r3, m0_0, m0_1, v1)
            )
          else
          if (m0_0 == (2 : Int)) = true then
            agree (
              some (m0_0, m0_1, m1_0, m1_1, r2, r3, m0_0, m0_1, v1)
            ) (
              some (m0_0, m0_1, m1_0, m1_1, r2, r3, m0_0, m0_1, v1)
            )
          else
          if (m0_0 == (3 : Int)) = true then
            agree (
              some (m0_0, m0_1, m1_0, m1_1, r2, r3, m0_0, m0_1, v1)
            ) (
              some (m0_0, m0_1, m1_0, m1_1, r2, r3, m0_0, m0_1, v1)
            )
          else
          if (m0_0 == (4 : Int)) = true then
            agree (
              some (m0_0, m0_1, m1_0, m1_1, r2, r3, m0_0, m0_1, v1)
            ) (
              some (m0_0, m0_1, m1_0, m1_1, r2, r3, m0_0, m0_1, v1)
            )
          else
          agree (
            some (m0_0, m0_1, m1_0, m1_1, r2, r3, m0_0, m0_1, v1)
          ) (
            some (m0_0, m0_1, m1_0, m1_1, r2, r3, m0_0, m0_1, v1)
          )
        ) (
          if (m0_0 == (1 : Int)) = true then
            some (m0_0, m0_1, m1_0, m1_1, r2, r3, m0_0, m0_1, v1)
          else
          if (m0_0 == (2 : Int)) = true then
            some (m0_0, m0_1, m1_0, m1_1, r2, r3, m0_0, m0_1, v1)
          else
          if (m0_0 == (3 : Int)) = true then
            some (m0_0, m0_1, m1_0, m1_1, r2, r3, m0_0, m0_1, v1)
          else
          if (m0_0 == (4 : Int)) = true then
            some (m0_0, m0_1, m1_0, m1_1, r2, r3, m0_0, m0_1, v1)
          else
          some (m0_0, m0_1, m1_0, m1_1, r2, r3, m0_0, m0_1, v1)
        )
      ) (
        if (m0_0 == (1 : Int)) = true then
          some (m0_0, m0_1, m1_0, m1_1, r2, r3, m0_0, m0_1, v1)
        else
        if (m0_0 == (2 : Int)) = true then
          some (m0_0, m0_1, m1_0, m1_1, r2, r3, m0_0, m0_1, v1)
        else
        if (m0_0 == (3 : Int)) = true then
          some (m0_0, m0_1, m1_0, m1_1, r2, r3, m0_0, m0_1, v1)
        else
        if (m0_0 == (4 : Int)) = true then
          some (m0_0, m0_1, m1_0, m1_1, r2, r3, m0_0, m0_1, v1)
        else
        some (m0_0, m0_1, m1_0, m1_1, r2, r3, m0_0, m0_1, v1)
      )
    else
    agree (
      agree (
        if (m0_0 == (1 : Int)) = true then
          agree (
            some (m0_0, m0_1, m1_0, m1_1, r2, r3, m0_0, m0_1, [])
          ) (
            some (m0_0, m0_1, m1_0, m1_1, r2, r3, m0_0, m0_1, [])
          )
        else
        if (m0_0 == (2 : Int)) = true then
          agree (
            some (m0_0, m0_1, m1_0, m1_1, r2, r3, m0_0, m0_1, [])
          ) (
            some (m0_0, m0_1, m1_0, m1_1, r2, r3, m0_0, m0_1, [])
          )
        else
        if (m0_0 == (3 : Int)) = true then
          agree (
            some (m0_0, m0_1, m1_0, m1_1, r2, r3, m0_0, m0_1, [])
          ) (
            some (m0_0, m0_1, m1_0, m1_1, r2, r3, m0_0, m0_1, [])
          )
        else
        if (m0_0 == (4 : Int)) = true then
          agree (
            some (m0_0, m0_1, m1_0, m1_1, r2, r3, m0_0, m0_1, [])
          ) (
            some (m0_0, m0_1, m1_0, m1_1, r2, r3, m0_0, m0_1, [])
          )
        else
        agree (
          some (m0_0, m0_1, m1_0, m1_1, r2, r3, m0_0, m0_1, [])
        ) (
          some (m0_0, m0_1, m1_0, m1_1, r2, r3, m0_0, m0_1, [])
        )
      ) (
        if (m0_0 == (1 : Int)) = true then
          some (m0_0, m0_1, m1_0, m1_1, r2, r3, m0_0, m0_1, [])
        else
        if (m0_0 == (2 : Int)) = true then
          some (m0_0, m0_1, m1_0, m1_1, r2, r3, m0_0, m0_1, [])
        else
        if (m0_0 == (3 : Int)) = true then
          some (m0_0, m0_1, m1_0, m1_1, r2, r3, m0_0, m0_1, [])
        else
        if (m0_0 == (4 : Int)) = true then
          some (m0_0, m0_1, m1_0, m1_1, r2, r3, m0_0, m0_1, [])
        else
        some (m0_0, m0_1, m1_0, m1_1, r2, r3, m0_0, m0_1, [])
      )
    ) (
      if (m0_0 == (1 : Int)) = true then
        some (m0_0, m0_1, m1_0, m1_1, r2, r3, m0_0, m0_1, [])
      else
      if (m0_0 == (2 : Int)) = true then
        some (m0_0, m0_1, m1_0, m1_1, r2, r3, m0_0, m0_1, [])
      else
      if (m0_0 == (3 : Int)) = true then
        some (m0_0, m0_1, m1_0, m1_1, r2, r3, m0_0, m0_1, [])
      else
      if (m0_0 == (4 : Int)) = true then
        some (m0_0, m0_1, m1_0, m1_1, r2, r3, m0_0, m0_1, [])
      else
      some (m0_0, m0_1, m1_0, m1_1, r2, r3, m0_0, m0_1, [])
    )
  ) (
    if (m0_0 == (3 : Int)) = true then
      Option.bind (slices_Clone_string_string_P []) fun (v2 : (List (List UInt8))) =>
      if (m0_0 == (1 : Int)) = true then
        some (m0_0, m0_1, m1_0, m1_1, r2, r3, m0_0, m0_1, v2)
      else
      if (m0_0 == (2 : Int)) = true then
        some (m0_0, m0_1, m1_0, m1_1, r2, r3, m0_0, m0_1, v2)
      else
      if (m0_0 == (3 : Int)) = true then
        some (m0_0, m0_1, m1_0, m1_1, r2, r3, m0_0, m0_1, v2)
      else
      if (m0_0 == (4 : Int)) = true then
        some (m0_0, m0_1, m1_0, m1_1, r2, r3, m0_0, m0_1, v2)
      else
      some (m0_0, m0_1, m1_0, m1_1, r2, r3, m0_0, m0_1, v2)
    else
    if (m0_0 == (4 : Int)) = true then
      Option.bind (slices_Clone_string_string_P []) fun (v3 : (List (List UInt8))) =>
      if (m0_0 == (1 : Int)) = true then
        some (m0_0, m0_1, m1_0, m1_1, r2, r3, m0_0, m0_1, v3)
      else
      if (m0_0 == (2 : Int)) = true then
        some (m0_0, m0_1, m1_0, m1_1, r2, r3, m0_0, m0_1, v3)
      else
      if (m0_0 == (3 : Int)) = true then
        some (m0_0, m0_1, m1_0, m1_1, r2, r3, m0_0, m0_1, v3)
      else
      if (m0_0 == (4 : Int)) = true then
        some (m0_0, m0_1, m1_0, m1_1, r2, r3, m0_0, m0_1, v3)
      else
      some (m0_0, m0_1, m1_0, m1_1, r2, r3, m0_0, m0_1, v3)
    else
    if (m0_0 == (1 : Int)) = true then
      some (m0_0, m0_1, m1_0, m1_1, r2, r3, m0_0, m0_1, [])
    else
    if (m0_0 == (2 : Int)) = true then
      some (m0_0, m0_1, m1_0, m1_1, r2, r3, m0_0, m0_1, [])
    else
    if (m0_0 == (3 : Int)) = true then
      some (m0_0, m0_1, m1_0, m1_1, r2, r3, m0_0, m0_1, [])
    else
    if (m0_0 == (4 : Int)) = true then
      some (m0_0, m0_1, m1_0, m1_1, r2, r3, m0_0, m0_1, [])
    else
    some (m0_0, m0_1, m1_0, m1_1, r2, r3, m0_0, m0_1, [])
  )
def value_Value_Plain_a_R1 (m0_0 : Int) (m0_1 : List UInt8) (m1_0 : Int) (m1_1 : List UInt8) (r2 : List (List UInt8)) (r3 : List (List UInt8)) : Option (Int × (List UInt8) × Int × (List UInt8) × (List (List UInt8)) × (List (List UInt8)) × Int × (List UInt8) × (List (List UInt8))) :=
    if (m0_0 == (3 : Int)) = true then
      Option.bind (slices_Clone_string_string_P []) fun (v0 : (List (List UInt8))) =>
          if (m0_0 == (1 : Int)) = true then
              some (m0_0, m0_1, m1_0, m1_1, r2, r3, m0_0, m0_1, v0)
          else
          if (m0_0 == (2 : Int)) = true then
              some (m0_0, m0_1, m1_0, m1_1, r2, r3, m0_0, m0_1, v0)
          else
          if (m0_0 == (3 : Int)) = true then
              some (m0_0, m0_1, m1_0, m1_1, r2, r3, m0_0, m0_1, v0)
          else
          if (m0_0 == (4 : Int)) = true then
              some (m0_0, m0_1, m1_0, m1_1, r2, r3, m0_0, m0_1, v0)
          else
            some (m0_0, m0_1, m1_0, m1_1, r2, r3, m0_0, m0_1, v0)
    else
    if (m0_0 == (4 : Int)) = true then
      Option.bind (slices_Clone_string_string_P []) fun (v1 : (List (List UInt8))) =>
          if (m0_0 == (1 : Int)) = true then
              some (m0_0, m0_1, m1_0, m1_1, r2, r3, m0_0, m0_1, v1)
          else
          if (m0_0 == (2 : Int)) = true then
              some (m0_0, m0_1, m1_0, m1_1, r2, r3, m0_0, m0_1, v1)
          else
          if (m0_0 == (3 : Int)) = true then
              some (m0_0, m0_1, m1_0, m1_1, r2, r3, m0_0, m0_1, v1)
          else
          if (m0_0 == (4 : Int)) = true then
              some (m0_0, m0_1, m1_0, m1_1, r2, r3, m0_0, m0_1, v1)
          else
            some (m0_0, m0_1, m1_0, m1_1, r2, r3, m0_0, m0_1, v1)
    else
        if (m0_0 == (1 : Int)) = true then
            some (m0_0, m0_1, m1_0, m1_1, r2, r3, m0_0, m0_1, [])
        else
        if (m0_0 == (2 : Int)) = true then
            some (m0_0, m0_1, m1_0, m1_1, r2, r3, m0_0, m0_1, [])
        else
        if (m0_0 == (3 : Int)) = true then
            some (m0_0, m0_1, m1_0, m1_1, r2, r3, m0_0, m0_1, [])
        else
        if (m0_0 == (4 : Int)) = true then
            some (m0_0, m0_1, m1_0, m1_1, r2, r3, m0_0, m0_1, [])
        else
          some (m0_0, m0_1, m1_0, m1_1, r2, r3, m0_0, m0_1, [])
theorem value_Value_Plain_a_R1_eq (m0_0 : Int) (m0_1 : List UInt8) (m1_0 : Int) (m1_1 : List UInt8) (r2 : List (List UInt8)) (r3 : List (List UInt8)) : value_Value_Plain_a_R1_X m0_0 m0_1 m1_0 m1_1 r2 r3 = value_Value_Plain_a_R1 m0_0 m0_1 m1_0 m1_1 r2 r3 := by unfold value_Value_Plain_a_R1_X; simp only [agree_self]; rfl
def value_Value_Plain_a_R1_P : Int × (List UInt8) × Int × (List UInt8) × (List (List UInt8)) × (List (List UInt8)) → Option (Int × (List UInt8) × Int × (List UInt8) × (List (List UInt8)) × (List (List UInt8)) × Int × (List UInt8) × (List (List UInt8))) := fun p => value_Value_Plain_a_R1 p.1 p.2.1 p.2.2.1 p.2.2.2.1 p.2.2.2.2.1 p.2.2.2.2.2
def value_Value_Plain_a_R1_MM : HL [(.int .i64), .str, (.int .i64), .str, (.slc .str), (.slc .str)] → Option (SumL [[(.int .i64), .str, (.int .i64), .str, (.slc .str), (.slc .str), (.int .i64), .str, (.slc .str)]]) := fun p => value_Value_Plain_a_R1 p.1 p.2.1 p.2.2.1 p.2.2.2.1 p.2.2.2.2.1 p.2.2.2.2.2
def value_Value_Plain_a_R1_C : Con := ⟨4, value_Value_Plain_a_R1_T, value_Value_Plain_a_R1_O, stdCn [(.int .i64), .str, (.int .i64), .str, (.slc .str), (.slc .str)] [[(.int .i64), .str, (.int .i64), .str, (.slc .str), (.slc .str), (.int .i64), .str, (.slc .str)]] value_Value_Plain_a_R1_MM, []⟩
def value_Value_Plain_a_L2_T : Tm := ⟨[(0, false, [.ptr 0 0]), (2, false, [.ptr 1 0]), (3, false, [.ptr 2 0]), (29, false, [.row 3]), (30, false, [.hole (.int .i64)]), (31, false, [.hole (.int .i64)])], 53, [.box [.hole (.int .i64), .hole .str, .row 3, .row 4, .nils, .nils, .nils, .nilp], .box [.hole (.int .i64), .hole .str, .nils, .nils, .nils], .box [.hole (.int .i64), .hole .str, .row 5, .row 6, .nils], .row .str, .row .str, .row (.pair .str (.pair .str .unit)), .row .str]⟩
def value_Value_Plain_a_L2_O : List (Ex × Tm) := [(.exit 0, ⟨[(2, false, [.ptr 1 0]), (3, false, [.ptr 2 0])], 53, [.box [.hole (.int .i64), .hole .str, .row 3, .row 4, .nils, .nils, .nils, .nilp], .box [.hole (.int .i64), .hole .str, .nils, .nils, .nils], .box [.hole (.int .i64), .hole .str, .row 5, .row 6, .nils], .row .str, .row .str, .row (.pair .str (.pair .str .unit)), .row .str]⟩)]
def value_Value_Plain_a_L2 (s30 : Int) (s31 : Int) (m0_0 : Int) (m0_1 : List UInt8) (m1_0 : Int) (m1_1 : List UInt8) (m2_0 : Int) (m2_1 : List UInt8) (r3 : List (List UInt8)) (r4 : List (List UInt8)) (r5 : List ((List UInt8) × (List UInt8) × Unit)) (r6 : List (List UInt8)) : Option ((Int × Int × Int × (List UInt8) × Int × (List UInt8) × Int × (List UInt8) × (List (List UInt8)) × (List (List UInt8)) × (List ((List UInt8) × (List UInt8) × Unit)) × (List (List UInt8))) ⊕ ((Int × (List UInt8) × Int × (List UInt8) × Int × (List UInt8) × (List (List UInt8)) × (List (List UInt8)) × (List ((List UInt8) × (List UInt8) × Unit)) × (List (List UInt8))))) :=
  if decide (s31 < s30) = true then
    Option.bind (inb (List.length r3) s31) fun _ =>
    Option.bind (inb (List.length r4) s31) fun _ =>
    Option.bind (room (32 : Nat) (List.length r5 + List.length [(List.getD r3 (Int.toNat s31) [], List.getD r4 (Int.toNat s31) [], ())])) fun _ =>
    some (.inl (s30, IntKind.wrap IntKind.i64 (s31 + (1 : Int)), m0_0, m0_1, m1_0, m1_1, m2_0, m2_1, r3, r4, r5 ++ [(List.getD r3 (Int.toNat s31) [], List.getD r4 (Int.toNat s31) [], ())], r6))
  else
  some (.inr (m0_0, m0_1, m1_0, m1_1, m2_0, m2_1, r3, r4, r5, r6))
def value_Value_Plain_a_L2_P : Int × Int × Int × (List UInt8) × Int × (List UInt8) × Int × (List UInt8) × (List (List UInt8)) × (List (List UInt8)) × (List ((List UInt8) × (List UInt8) × Unit)) × (List (List UInt8)) → Option ((Int × Int × Int × (List UInt8) × Int × (List UInt8) × Int × (List UInt8) × (List (List UInt8)) × (List (List UInt8)) × (List ((List UInt8) × (List UInt8) × Unit)) × (List (List UInt8))) ⊕ ((Int × (List UInt8) × Int × (List UInt8) × Int × (List UInt8) × (List (List UInt8)) × (List (List UInt8)) × (List ((List UInt8) × (List UInt8) × Unit)) × (List (List UInt8))))) := fun p => value_Value_Plain_a_L2 p.1 p.2.1 p.2.2.1 p.2.2.2.1 p.2.2.2.2.1 p.2.2.2.2.2.1 p.2.2.2.2.2.2.1 p.2.2.2.2.2.2.2.1 p.2.2.2.2.2.2.2.2.1 p.2.2.2.2.2.2.2.2.2.1 p.2.2.2.2.2.2.2.2.2.2.1 p.2.2.2.2.2.2.2.2.2.2.2
def value_Value_Plain_a_L2_MM : HL [(.int .i64), (.int .i64), (.int .i64), .str, (.int .i64), .str, (.int .i64), .str, (.slc .str), (.slc .str), (.slc (.pair .str (.pair .str .unit))), (.slc .str)] → Option (HL [(.int .i64), (.int .i64), (.int .i64), .str, (.int .i64), .str, (.int .i64), .str, (.slc .str), (.slc .str), (.slc (.pair .str (.pair .str .unit))), (.slc .str)] ⊕ SumL [[(.int .i64), .str, (.int .i64), .str, (.int .i64), .str, (.slc .str), (.slc .str), (.slc (.pair .str (.pair .str .unit))), (.slc .str)]]) := fun p => value_Value_Plain_a_L2 p.1 p.2.1 p.2.2.1 p.2.2.2.1 p.2.2.2.2.1 p.2.2.2.2.2.1 p.2.2.2.2.2.2.1 p.2.2.2.2.2.2.2.1 p.2.2.2.2.2.2.2.2.1 p.2.2.2.2.2.2.2.2.2.1 p.2.2.2.2.2.2.2.2.2.2.1 p.2.2.2.2.2.2.2.2.2.2.2
def value_Value_Plain_a_L2_C : Con := ⟨5, value_Value_Plain_a_L2_T, value_Value_Plain_a_L2_O, stdCn [(.int .i64), (.int .i64), (.int .i64), .str, (.int .i64), .str, (.int .i64), .str, (.slc .str), (.slc .str), (.slc (.pair .str (.pair .str .unit))), (.slc .str)] [[(.int .i64), .str, (.int .i64), .str, (.int .i64), .str, (.slc .str), (.slc .str), (.slc (.pair .str (.pair .str .unit))), (.slc .str)]] (loop value_Value_Plain_a_L2_MM), []⟩
def value_Value_Plain_a_T : Tm := ⟨[(0, false, [.ptr 0 0])], 1, [.box [.hole (.int .i64), .hole .str, .row 1, .row 2, .nils, .nils, .nils, .nilp], .row .str, .row .str]⟩
def value_Value_Plain_a_O : List (Ex × Tm) := [(.ret, ⟨[(0, true, [.hole (.int .i64), .hole .str, .hole (.slc (.pair .str (.pair .str .unit))), .hole (.slc .str), .nils])], 1, [.box [.hole (.int .i64), .hole .str, .row 1, .row 2, .nils, .nils, .nils, .nilp], .row .str, .row .str]⟩)]
def value_Value_Plain_a_M (m0_0 : Int) (m0_1 : List UInt8) (r1 : List (List UInt8)) (r2 : List (List UInt8)) : Option (Int × (List UInt8) × (List ((List UInt8) × (List UInt8) × Unit)) × (List (List UInt8)) × Int × (List UInt8) × (List (List UInt8)) × (List (List UInt8))) :=
  Option.bind (value_Value_Plain_a_R1_P (m0_0, m0_1, (0 : Int), [], r1, r2)) fun (v0 : (Int × ((List UInt8) × (Int × ((List UInt8) × ((List (List UInt8)) × ((List (List UInt8)) × (Int × ((List UInt8) × (List (List UInt8))))))))))) =>
  Option.bind (loop value_Value_Plain_a_L2_P ((((List.length v0.snd.snd.snd.snd.fst) : Nat) : Int), (0 : Int), v0.fst, v0.snd.fst, v0.snd.snd.fst, v0.snd.snd.snd.fst, v0.snd.snd.snd.snd.snd.snd.fst, v0.snd.snd.snd.snd.snd.snd.snd.fst, v0.snd.snd.snd.snd.fst, v0.snd.snd.snd.snd.snd.fst, [], v0.snd.snd.snd.snd.snd.snd.snd.snd)) fun (v1 : (Int × ((List UInt8) × (Int × ((List UInt8) × (Int × ((List UInt8) × ((List (List UInt8)) × ((List (List UInt8)) × ((List ((List UInt8) × ((List UInt8) × Unit))) × (List (List UInt8)))))))))))) =>
  some (v1.snd.snd.snd.snd.fst, v1.snd.snd.snd.snd.snd.fst, v1.snd.snd.snd.snd.snd.snd.snd.snd.fst, v1.snd.snd.snd.snd.snd.snd.snd.snd.snd, v1.fst, v1.snd.fst, v1.snd.snd.snd.snd.snd.snd.fst, v1.snd.snd.snd.snd.snd.snd.snd.fst)
def value_Value_Plain_a_P : Int × (List UInt8) × (List (List UInt8)) × (List (List UInt8)) → Option (Int × (List UInt8) × (List ((List UInt8) × (List UInt8) × Unit)) × (List (List UInt8)) × Int × (List UInt8) × (List (List UInt8)) × (List (List UInt8))) := fun p => value_Value_Plain_a_M p.1 p.2.1 p.2.2.1 p.2.2.2
def value_Value_Plain_a_MM : HL [(.int .i64), .str, (.slc .str), (.slc .str)] → Option (SumL [[(.int .i64), .str, (.slc (.pair .str (.pair .str .unit))), (.slc .str), (.int .i64), .str, (.slc .str), (.slc .str)]]) := fun p => value_Value_Plain_a_M p.1 p.2.1 p.2.2.1 p.2.2.2
def value_Value_Plain_a_C : Con := ⟨3, value_Value_Plain_a_T, value_Value_Plain_a_O, stdCn [(.int .i64), .str, (.slc .str), (.slc .str)] [[(.int .i64), .str, (.slc (.pair .str (.pair .str .unit))), (.slc .str), (.int .i64), .str, (.slc .str), (.slc .str)]] value_Value_Plain_a_MM, []⟩

def value_Value_Plain_z_R1_T : Tm := ⟨[(0, false, [.ptr 0 0]), (2, false, [.ptr 1 0])], 53, [.box [.hole (.int .i64), .hole .str, .nils, .nils, .nils, .nils, .nils, .nilp], .box [.hole (.int .i64), .hole .str, .nils, .nils, .nils]]⟩
def value_Value_Plain_z_R1_O : List (Ex × Tm) := [(.normal, ⟨[(0, false, [.ptr 0 0]), (2, false, [.ptr 1 0]), (3, false, [.ptr 2 0])], 53, [.box [.hole (.int .i64), .hole .str, .nils, .nils, .nils, .nils, .nils, .nilp], .box [.hole (.int .i64), .hole .str, .nils, .nils, .nils], .box [.hole (.int .i64), .hole .str, .nils, .row 3, .nils], .row .str]⟩)]
def value_Value_Plain_z_R1_X (m0_0 : Int) (m0_1 : List UInt8) (m1_0 : Int) (m1_1 : List UInt8) : Option (Int × (List UInt8) × Int × (List UInt8) × Int × (List UInt8) × (List (List UInt8))) :=
  agree (
    if (m0_0 == (3 : Int)) = true then
      Option.bind (slices_Clone_string_string_P []) fun (v0 : (List (List UInt8))) =>
      agree (
        agree (
          if (m0_0 == (1 : Int)) = true then
            agree (
              some (m0_0, m0_1, m1_0, m1_1, m0_0, m0_1, v0)
            ) (
              some (m0_0, m0_1, m1_0, m1_1, m0_0, m0_1, v0)
            )
          else
          if (m0_0 == (2 : Int)) = true then
            agree (
              some (m0_0, m0_1, m1_0, m1_1, m0_0, m0_1, v0)
            ) (
              some (m0_0, m0_1, m1_0, m1_1, m0_0, m0_1, v0)
            )
          else
          if (m0_0 == (3 : Int)) = true then
            agree (
              some (m0_0, m0_1, m1_0, m1_1, m0_0, m0_1, v0)
            ) (
              some (m0_0, m0_1, m1_0, m1_1, m0_0, m0_1, v0)
            )
          else
          if (m0_0 == (4 : Int)) = true then
            agree (
              some (m0_0, m0_1, m1_0, m1_1, m0_0, m0_1, v0)
            ) (
              some (m0_0, m0_1, m1_0, m1_1, m0_0, m0_1, v0)
            )
          else
          agree (
            some (m0_0, m0_1, m1_0, m1_1, m0_0, m0_1, v0)
          ) (
            some (m0_0, m0_1, m1_0, m1_1, m0_0, m0_1, v0)
          )
        ) (
          if (m0_0 == (1 : Int)) = true then
            some (m0_0, m0_1, m1_0, m1_1, m0_0, m0_1, v0)
          else
          if (m0_0 == (2 : Int)) = true then
            some (m0_0, m0_1, m1_0, m1_1, m0_0, m0_1, v0)
          else
          if (m0_0 == (3 : Int)) = true then
            some (m0_0, m0_1, m1_0, m1_1, m0_0, m0_1, v0)
          else
          if (m0_0 == (4 : Int)) = true then
            some (m0_0, m0_1, m1_0, m1_1, m0_0, m0_1, v0)
          else
          some (m0_0, m0_1, m1_0, m1_1, m0_0, m0_1, v0)
        )
      ) (
        if (m0_0 == (1 : Int)) = true then
          some (m0_0, m0_1, m1_0, m1_1, m0_0, m0_1, v0)
        else
        if (m0_0 == (2 : Int)) = true then
          some (m0_0, m0_1, m1_0, m1_1, m0_0, m0_1, v0)
        else
        if (m0_0 == (3 : Int)) = true then
          some (m0_0, m0_1, m1_0, m1_1, m0_0, m0_1, v0)
        else
        if (m0_0 == (4 : Int)) = true then
          some (m0_0, m0_1, m1_0, m1_1, m0_0, m0_1, v0)
        else
        some (m0_0, m0_1, m1_0, m1_1, m0_0, m0_1, v0)
      )
    else
    if (m0_0 == (4 : Int)) = true then
      Option.bind (slices_Clone_string_string_P []) fun (v1 : (List (List UInt8))) =>
      agree (
        agree (
          if (m0_0 == (1 : Int)) = true then
            agree (
              some (m0_0, m0_1, m1_0, m1_1, m0_0, m0_1, v1)
            ) (
              some (m0_0, m0_1, m1_0, m1_1, m0_0, m0_1, v1)
            )
          else
          if (m0_0 == (2 : Int)) = true then
            agree (
              some (m0_0, m0_1, m1_0, m1_1, m0_0, m0_1, v1)
            ) (
              some (m0_0, m0_1, m1_0, m1_1, m0_0, m0_1, v1)
            )
          else
          if (m0_0 == (3 : Int)) = true then
            agree (
              some (m0_0, m0_1, m1_0, m1_1, m0_0, m0_1, v1)
            ) (
              some (m0_0, m0_1, m1_0, m1_1, m0_0, m0_1, v1)
            )
          else
          if (m0_0 == (4 : Int)) = true then
            agree (
              some (m0_0, m0_1, m1_0, m1_1, m0_0, m0_1, v1)
            ) (
              some (m0_0, m0_1, m1_0, m1_1, m0_0, m0_1, v1)
            )
          else
          agree (
            some (m0_0, m0_1, m1_0, m1_1, m0_0, m0_1, v1)
          ) (
            some (m0_0, m0_1, m1_0, m1_1, m0_0, m0_1, v1)
          )
        ) (
          if (m0_0 == (1 : Int)) = true then
            some (m0_0, m0_1, m1_0, m1_1, m0_0, m0_1, v1)
          else
          if (m0_0 == (2 : Int)) = true then
            some (m0_0, m0_1, m1_0, m1_1, m0_0, m0_1, v1)
          else
          if (m0_0 == (3 : Int)) = true then
            some (m0_0, m0_1, m1_0, m1_1, m0_0, m0_1, v1)
          else
          if (m0_0 == (4 : Int)) = true then
            some (m0_0, m0_1, m1_0, m1_1, m0_0, m0_1, v1)
          else
          some (m0_0, m0_1, m1_0, m1_1, m0_0, m0_1, v1)
        )
      ) (
        if (m0_0 == (1 : Int)) = true then
          some (m0_0, m0_1, m1_0, m1_1, m0_0, m0_1, v1)
        else
        if (m0_0 == (2 : Int)) = true then
          some (m0_0, m0_1, m1_0, m1_1, m0_0, m0_1, v1)
        else
        if (m0_0 == (3 : Int)) = true then
          some (m0_0, m0_1, m1_0, m1_1, m0_0, m0_1, v1)
        else
        if (m0_0 == (4 : Int)) = true then
          some (m0_0, m0_1, m1_0, m1_1, m0_0, m0_1, v1)
        else
        some (m0_0, m0_1, m1_0, m1_1, m0_0, m0_1, v1)
      )
    else
    agree (
      agree (
        if (m0_0 == (1 : Int)) = true then
          agree (
            some (m0_0, m0_1, m1_0, m1_1, m0_0, m0_1, [])
          ) (
            some (m0_0, m0_1, m1_0, m1_1, m0_0, m0_1, [])
          )
        else
        if (m0_0 == (2 : Int)) = true then
          agree (
            some (m0_0, m0_1, m1_0, m1_1, m0_0, m0_1, [])
          ) (
            some (m0_0, m0_1, m1_0, m1_1, m0_0, m0_1, [])
          )
        else
        if (m0_0 == (3 : Int)) = true then
          agree (
            some (m0_0, m0_1, m1_0, m1_1, m0_0, m0_1, [])
          ) (
            some (m0_0, m0_1, m1_0, m1_1, m0_0, m0_1, [])
          )
        else
        if (m0_0 == (4 : Int)) = true then
          agree (
            some (m0_0, m0_1, m1_0, m1_1, m0_0, m0_1, [])
          ) (
            some (m0_0, m0_1, m1_0, m1_1, m0_0, m0_1, [])
          )
        else
        agree (
          some (m0_0, m0_1, m1_0, m1_1, m0_0, m0_1, [])
        ) (
          some (m0_0, m0_1, m1_0, m1_1, m0_0, m0_1, [])
        )
      ) (
        if (m0_0 == (1 : Int)) = true then
          some (m0_0, m0_1, m1_0, m1_1, m0_0, m0_1, [])
        else
        if (m0_0 == (2 : Int)) = true then
          some (m0_0, m0_1, m1_0, m1_1, m0_0, m0_1, [])
        else
        if (m0_0 == (3 : Int)) = true then
          some (m0_0, m0_1, m1_0, m1_1, m0_0, m0_1, [])
        else
        if (m0_0 == (4 : Int)) = true then
          some (m0_0, m0_1, m1_0, m1_1, m0_0, m0_1, [])
        else
        some (m0_0, m0_1, m1_0, m1_1, m0_0, m0_1, [])
      )
    ) (
      if (m0_0 == (1 : Int)) = true then
        some (m0_0, m0_1, m1_0, m1_1, m0_0, m0_1, [])
      else
      if (m0_0 == (2 : Int)) = true then
        some (m0_0, m0_1, m1_0, m1_1, m0_0, m0_1, [])
      else
      if (m0_0 == (3 : Int)) = true then
        some (m0_0, m0_1, m1_0, m1_1, m0_0, m0_1, [])
      else
      if (m0_0 == (4 : Int)) = true then
        some (m0_0, m0_1, m1_0, m1_1, m0_0, m0_1, [])
      else
      some (m0_0, m0_1, m1_0, m1_1, m0_0, m0_1, [])
    )
  ) (
    if (m0_0 == (3 : Int)) = true then
      Option.bind (slices_Clone_string_string_P []) fun (v2 : (List (List UInt8))) =>
      if (m0_0 == (1 : Int)) = true then
        some (m0_0, m0_1, m1_0, m1_1, m0_0, m0_1, v2)
      else
      if (m0_0 == (2 : Int)) = true then
        some (m0_0, m0_1, m1_0, m1_1, m0_0, m0_1, v2)
      else
      if (m0_0 == (3 : Int)) = true then
        some (m0_0, m0_1, m1_0, m1_1, m0_0, m0_1, v2)
      else
      if (m0_0 == (4 : Int)) = true then
        some (m0_0, m0_1, m1_0, m1_1, m0_0, m0_1, v2)
      else
      some (m0_0, m0_1, m1_0, m1_1, m0_0, m0_1, v2)
    else
    if (m0_0 == (4 : Int)) = true then
      Option.bind (slices_Clone_string_string_P []) fun (v3 : (List (List UInt8))) =>
      if (m0_0 == (1 : Int)) = true then
        some (m0_0, m0_1, m1_0, m1_1, m0_0, m0_1, v3)
      else
      if (m0_0 == (2 : Int)) = true then
        some (m0_0, m0_1, m1_0, m1_1, m0_0, m0_1, v3)
      else
      if (m0_0 == (3 : Int)) = true then
        some (m0_0, m0_1, m1_0, m1_1, m0_0, m0_1, v3)
      else
      if (m0_0 == (4 : Int)) = true then
        some (m0_0, m0_1, m1_0, m1_1, m0_0, m0_1, v3)
      else
      some (m0_0, m0_1, m1_0, m1_1, m0_0, m0_1, v3)
    else
    if (m0_0 == (1 : Int)) = true then
      some (m0_0, m0_1, m1_0, m1_1, m0_0, m0_1, [])
    else
    if (m0_0 == (2 : Int)) = true then
      some (m0_0, m0_1, m1_0, m1_1, m0_0, m0_1, [])
    else
    if (m0_0 == (3 : Int)) = true then
      some (m0_0, m0_1, m1_0, m1_1, m0_0, m0_1, [])
    else
    if (m0_0 == (4 : Int)) = true then
      some (m0_0, m0_1, m1_0, m1_1, m0_0, m0_1, [])
    else
    some (m0_0, m0_1, m1_0, m1_1, m0_0, m0_1, [])
  )
def value_Value_Plain_z_R1 (m0_0 : Int) (m0_1 : List UInt8) (m1_0 : Int) (m1_1 : List UInt8) : Option (Int × (List UInt8) × Int × (List UInt8) × Int × (List UInt8) × (List (List UInt8))) :=
    if (m0_0 == (3 : Int)) = true then
      Option.bind (slices_Clone_string_string_P []) fun (v0 : (List (List UInt8))) =>
          if (m0_0 == (1 : Int)) = true then
              some (m0_0, m0_1, m1_0, m1_1, m0_0, m0_1, v0)
          else
          if (m0_0 == (2 : Int)) = true then
              some (m0_0, m0_1, m1_0, m1_1, m0_0, m0_1, v0)
          else
          if (m0_0 == (3 : Int)) = true then
              some (m0_0, m0_1, m1_0, m1_1, m0_0, m0_1, v0)
          else
          if (m0_0 == (4 : Int)) = true then
              some (m0_0, m0_1, m1_0, m1_1, m0_0, m0_1, v0)
          else
            some (m0_0, m0_1, m1_0, m1_1, m0_0, m0_1, v0)
    else
    if (m0_0 == (4 : Int)) = true then
      Option.bind (slices_Clone_string_string_P []) fun (v1 : (List (List UInt8))) =>
          if (m0_0 == (1 : Int)) = true then
              some (m0_0, m0_1, m1_0, m1_1, m0_0, m0_1, v1)
          else
          if (m0_0 == (2 : Int)) = true then
              some (m0_0, m0_1, m1_0, m1_1, m0_0, m0_1, v1)
          else
          if (m0_0 == (3 : Int)) = true then
              some (m0_0, m0_1, m1_0, m1_1, m0_0, m0_1, v1)
          else
          if (m0_0 == (4 : Int)) = true then
              some (m0_0, m0_1, m1_0, m1_1, m0_0, m0_1, v1)
          else
            some (m0_0, m0_1, m1_0, m1_1, m0_0, m0_1, v1)
    else
        if (m0_0 == (1 : Int)) = true then
            some (m0_0, m0_1, m1_0, m1_1, m0_0, m0_1, [])
        else
        if (m0_0 == (2 : Int)) = true then
            some (m0_0, m0_1, m1_0, m1_1, m0_0, m0_1, [])
        else
        if (m0_0 == (3 : Int)) = true then
            some (m0_0, m0_1, m1_0, m1_1, m0_0, m0_1, [])
        else
        if (m0_0 == (4 : Int)) = true then
            some (m0_0, m0_1, m1_0, m1_1, m0_0, m0_1, [])
        else
          some (m0_0, m0_1, m1_0, m1_1, m0_0, m0_1, [])
theorem value_Value_Plain_z_R1_eq (m0_0 : Int) (m0_1 : List UInt8) (m1_0 : Int) (m1_1 : List UInt8) : value_Value_Plain_z_R1_X m0_0 m0_1 m1_0 m1_1 = value_Value_Plain_z_R1 m0_0 m0_1 m1_0 m1_1 := by unfold value_Value_Plain_z_R1_X; simp only [agree_self]; rfl
def value_Value_Plain_z_R1_P : Int × (List UInt8) × Int × (List UInt8) → Option (Int × (List UInt8) × Int × (List UInt8) × Int × (List UInt8) × (List (List UInt8))) := fun p => value_Value_Plain_z_R1 p.1 p.2.1 p.2.2.1 p.2.2.2
def value_Value_Plain_z_R1_MM : HL [(.int .i64), .str, (.int .i64), .str] → Option (SumL [[(.int .i64), .str, (.int .i64), .str, (.int .i64), .str, (.slc .str)]]) := fun p => value_Value_Plain_z_R1 p.1 p.2.1 p.2.2.1 p.2.2.2
def value_Value_Plain_z_R1_C : Con := ⟨2, value_Value_Plain_z_R1_T, value_Value_Plain_z_R1_O, stdCn [(.int .i64), .str, (.int .i64), .str] [[(.int .i64), .str, (.int .i64), .str, (.int .i64), .str, (.slc .str)]] value_Value_Plain_z_R1_MM, []⟩
def value_Value_Plain_z_L2_T : Tm := ⟨[(0, false, [.ptr 0 0]), (2, false, [.ptr 1 0]), (3, false, [.ptr 2 0]), (29, false, [.nils]), (30, false, [.hole (.int .i64)]), (31, false, [.hole (.int .i64)])], 53, [.box [.hole (.int .i64), .hole .str, .nils, .nils, .nils, .nils, .nils, .nilp], .box [.hole (.int .i64), .hole .str, .nils, .nils, .nils], .box [.hole (.int .i64), .hole .str, .nils, .row 3, .nils], .row .str]⟩
def value_Value_Plain_z_L2_O : List (Ex × Tm) := [(.exit 0, ⟨[(2, false, [.ptr 1 0]), (3, false, [.ptr 2 0])], 53, [.box [.hole (.int .i64), .hole .str, .nils, .nils, .nils, .nils, .nils, .nilp], .box [.hole (.int .i64), .hole .str, .nils, .nils, .nils], .box [.hole (.int .i64), .hole .str, .nils, .row 3, .nils], .row .str]⟩)]
def value_Value_Plain_z_L2 (s30 : Int) (s31 : Int) (m0_0 : Int) (m0_1 : List UInt8) (m1_0 : Int) (m1_1 : List UInt8) (m2_0 : Int) (m2_1 : List UInt8) (r3 : List (List UInt8)) : Option ((Int × Int × Int × (List UInt8) × Int × (List UInt8) × Int × (List UInt8) × (List (List UInt8))) ⊕ ((Int × (List UInt8) × Int × (List UInt8) × Int × (List UInt8) × (List (List UInt8))))) :=
  if decide (s31 < s30) = true then
    none -- STUCK after t34 indexAddr [R5 R6]
  else
  some (.inr (m0_0, m0_1, m1_0, m1_1, m2_0, m2_1, r3))
def value_Value_Plain_z_L2_P : Int × Int × Int × (List UInt8) × Int × (List UInt8) × Int × (List UInt8) × (List (List UInt8)) → Option ((Int × Int × Int × (List UInt8) × Int × (List UInt8) × Int × (List UInt8) × (List (List UInt8))) ⊕ ((Int × (List UInt8) × Int × (List UInt8) × Int × (List UInt8) × (List (List UInt8))))) := fun p => value_Value_Plain_z_L2 p.1 p.2.1 p.2.2.1 p.2.2.2.1 p.2.2.2.2.1 p.2.2.2.2.2.1 p.2.2.2.2.2.2.1 p.2.2.2.2.2.2.2.1 p.2.2.2.2.2.2.2.2
def value_Value_Plain_z_L2_MM : HL [(.int .i64), (.int .i64), (.int .i64), .str, (.int .i64), .str, (.int .i64), .str, (.slc .str)] → Option (HL [(.int .i64), (.int .i64), (.int .i64), .str, (.int .i64), .str, (.int .i64), .str, (.slc .str)] ⊕ SumL [[(.int .i64), .str, (.int .i64), .str, (.int .i64), .str, (.slc .str)]]) := fun p => value_Value_Plain_z_L2 p.1 p.2.1 p.2.2.1 p.2.2.2.1 p.2.2.2.2.1 p.2.2.2.2.2.1 p.2.2.2.2.2.2.1 p.2.2.2.2.2.2.2.1 p.2.2.2.2.2.2.2.2
def value_Value_Plain_z_L2_C : Con := ⟨3, value_Value_Plain_z_L2_T, value_Value_Plain_z_L2_O, stdCn [(.int .i64), (.int .i64), (.int .i64), .str, (.int .i64), .str, (.int .i64), .str, (.slc .str)] [[(.int .i64), .str, (.int .i64), .str, (.int .i64), .str, (.slc .str)]] (loop value_Value_Plain_z_L2_MM), []⟩
def value_Value_Plain_z_T : Tm := ⟨[(0, false, [.ptr 0 0])], 1, [.box [.hole (.int .i64), .hole .str, .nils, .nils, .nils, .nils, .nils, .nilp]]⟩
def value_Value_Plain_z_O : List (Ex × Tm) := [(.ret, ⟨[(0, true, [.hole (.int .i64), .hole .str, .nils, .hole (.slc .str), .nils])], 1, [.box [.hole (.int .i64), .hole .str, .nils, .nils, .nils, .nils, .nils, .nilp]]⟩)]
def value_Value_Plain_z_M (m0_0 : Int) (m0_1 : List UInt8) : Option (Int × (List UInt8) × (List (List UInt8)) × Int × (List UInt8)) :=
  Option.bind (value_Value_Plain_z_R1_P (m0_0, m0_1, (0 : Int), [])) fun (v0 : (Int × ((List UInt8) × (Int × ((List UInt8) × (Int × ((List UInt8) × (List (List UInt8))))))))) =>
  Option.bind (loop value_Value_Plain_z_L2_P ((0 : Int), (0 : Int), v0.fst, v0.snd.fst, v0.snd.snd.fst, v0.snd.snd.snd.fst, v0.snd.snd.snd.snd.fst, v0.snd.snd.snd.snd.snd.fst, v0.snd.snd.snd.snd.snd.snd)) fun (v1 : (Int × ((List UInt8) × (Int × ((List UInt8) × (Int × ((List UInt8) × (List (List UInt8))))))))) =>
  some (v1.snd.snd.snd.snd.fst, v1.snd.snd.snd.snd.snd.fst, v1.snd.snd.snd.snd.snd.snd, v1.fst, v1.snd.fst)
def value_Value_Plain_z_P : Int × (List UInt8) → Option (Int × (List UInt8) × (List (List UInt8)) × Int × (List UInt8)) := fun p => value_Value_Plain_z_M p.1 p.2
def value_Value_Plain_z_MM : HL [(.int .i64), .str] → Option (SumL [[(.int .i64), .str, (.slc .str), (.int .i64), .str]]) := fun p => value_Value_Plain_z_M p.1 p.2
def value_Value_Plain_z_C : Con := ⟨1, value_Value_Plain_z_T, value_Value_Plain_z_O, stdCn [(.int .i64), .str] [[(.int .i64), .str, (.slc .str), (.int .i64), .str]] value_Value_Plain_z_MM, []⟩

def value_Value_Plain_n_T : Tm := ⟨[(0, false, [.nilp])], 1, []⟩
def value_Value_Plain_n_O : List (Ex × Tm) := [(.ret, ⟨[(0, true, [.hole (.int .i64), .hole .str, .nils, .nils, .nils])], 1, []⟩)]
def value_Value_Plain_n_M  : Option (Int × (List UInt8)) :=
  some ((0 : Int), [])
def value_Value_Plain_n_P : Unit → Option (Int × (List UInt8)) := fun p => value_Value_Plain_n_M 
def value_Value_Plain_n_MM : HL [] → Option (SumL [[(.int .i64), .str]]) := fun p => value_Value_Plain_n_M 
def value_Value_Plain_n_C : Con := ⟨0, value_Value_Plain_n_T, value_Value_Plain_n_O, stdCn [] [[(.int .i64), .str]] value_Value_Plain_n_MM, []⟩

def cmp_isNaN_string_T : Tm := ⟨[(0, false, [.hole .str])], 1, []⟩
def cmp_isNaN_string_O : List (Ex × Tm) := [(.ret, ⟨[(0, false, [.hole .bool])], 1, []⟩)]
def cmp_isNaN_string_M (s0 : List UInt8) : Option (Bool) :=
  some (!s0 == s0)
def cmp_isNaN_string_P : (List UInt8) → Option (Bool) := fun p => cmp_isNaN_string_M p
def cmp_isNaN_string_MM : HL [.str] → Option (SumL [[.bool]]) := fun p => cmp_isNaN_string_M p
def cmp_isNaN_string_C : Con := ⟨0, cmp_isNaN_string_T, cmp_isNaN_string_O, stdCn [.str] [[.bool]] cmp_isNaN_string_MM, []⟩

def cmp_Less_string_T : Tm := ⟨[(0, false, [.hole .str]), (1, false, [.hole .str])], 2, []⟩
def cmp_Less_string_O : List (Ex × Tm) := [(.ret, ⟨[(0, false, [.hole .bool])], 1, []⟩)]
def cmp_Less_string_M (s0 : List UInt8) (s1 : List UInt8) : Option (Bool) :=
  Option.bind (cmp_isNaN_string_P s0) fun (v0 : Bool) =>
  if v0 = true then
    Option.bind (cmp_isNaN_string_P s1) fun (v1 : Bool) =>
    if (!v1) = true then
      some (true)
    else
    some (Op.bytesLess s0 s1)
  else
  some (Op.bytesLess s0 s1)
def cmp_Less_string_P : (List UInt8) × (List UInt8) → Option (Bool) := fun p => cmp_Less_string_M p.1 p.2
def cmp_Less_string_MM : HL [.str, .str] → Option (SumL [[.bool]]) := fun p => cmp_Less_string_M p.1 p.2
def cmp_Less_string_C : Con := ⟨0, cmp_Less_string_T, cmp_Less_string_O, stdCn [.str, .str] [[.bool]] cmp_Less_string_MM, []⟩

def slices_isNaN_string_T : Tm := ⟨[(0, false, [.hole .str])], 1, []⟩
def slices_isNaN_string_O : List (Ex × Tm) := [(.ret, ⟨[(0, false, [.hole .bool])], 1, []⟩)]
def slices_isNaN_string_M (s0 : List UInt8) : Option (Bool) :=
  some (!s0 == s0)
def slices_isNaN_string_P : (List UInt8) → Option (Bool) := fun p => slices_isNaN_string_M p
def slices_isNaN_string_MM : HL [.str] → Option (SumL [[.bool]]) := fun p => slices_isNaN_string_M p
def slices_isNaN_string_C : Con := ⟨0, slices_isNaN_string_T, slices_isNaN_string_O, stdCn [.str] [[.bool]] slices_isNaN_string_MM, []⟩

def slices_BinarySearch_string_string_L1_T : Tm := ⟨[(0, false, [.hole (.slc .str)]), (1, false, [.hole .str]), (6, false, [.hole (.int .i64)]), (7, false, [.hole (.int .i64)]), (8, false, [.hole (.int .i64)])], 54, []⟩
def slices_BinarySearch_string_string_L1_O : List (Ex × Tm) := [(.exit 0, ⟨[(0, false, [.hole (.slc .str)]), (1, false, [.hole .str]), (6, false, [.hole (.int .i64)]), (7, false, [.hole (.int .i64)])], 54, []⟩)]
def slices_BinarySearch_string_string_L1 (s0 : List (List UInt8)) (s1 : List UInt8) (s6 : Int) (s7 : Int) (s8 : Int) : Option (((List (List UInt8)) × (List UInt8) × Int × Int × Int) ⊕ (((List (List UInt8)) × (List UInt8) × Int × Int))) :=
  if decide (s7 < s8) = true then
    Option.bind (gshr IntKind.u64 (IntKind.wrap IntKind.u64 (IntKind.wrap IntKind.i64 (s7 + s8))) (1 : Int)) fun (v0 : Int) =>
    Option.bind (ix s0 (IntKind.wrap IntKind.i64 v0)) fun (v1 : (List UInt8)) =>
    Option.bind (cmp_Less_string_P (v1, s1)) fun (v2 : Bool) =>
    if v2 = true then
      some (.inl (s0, s1, s6, IntKind.wrap IntKind.i64 (IntKind.wrap IntKind.i64 v0 + (1 : Int)), s8))
    else
    some (.inl (s0, s1, s6, s7, IntKind.wrap IntKind.i64 v0))
  else
  some (.inr (s0, s1, s6, s7))
def slices_BinarySearch_string_string_L1_P : (List (List UInt8)) × (List UInt8) × Int × Int × Int → Option (((List (List UInt8)) × (List UInt8) × Int × Int × Int) ⊕ (((List (List UInt8)) × (List UInt8) × Int × Int))) := fun p => slices_BinarySearch_string_string_L1 p.1 p.2.1 p.2.2.1 p.2.2.2.1 p.2.2.2.2
def slices_BinarySearch_string_string_L1_MM : HL [(.slc .str), .str, (.int .i64), (.int .i64), (.int .i64)] → Option (HL [(.slc .str), .str, (.int .i64), (.int .i64), (.int .i64)] ⊕ SumL [[(.slc .str), .str, (.int .i64), (.int .i64)]]) := fun p => slices_BinarySearch_string_string_L1 p.1 p.2.1 p.2.2.1 p.2.2.2.1 p.2.2.2.2
def slices_BinarySearch_string_string_L1_C : Con := ⟨0, slices_BinarySearch_string_string_L1_T, slices_BinarySearch_string_string_L1_O, stdCn [(.slc .str), .str, (.int .i64), (.int .i64), (.int .i64)] [[(.slc .str), .str, (.int .i64), (.int .i64)]] (loop slices_BinarySearch_string_string_L1_MM), []⟩
def slices_BinarySearch_string_string_T : Tm := ⟨[(0, false, [.hole (.slc .str)]), (1, false, [.hole .str])], 2, []⟩
def slices_BinarySearch_string_string_O : List (Ex × Tm) := [(.ret, ⟨[(0, false, [.hole (.int .i64)]), (1, false, [.hole .bool])], 2, []⟩)]
def slices_BinarySearch_string_string_M (s0 : List (List UInt8)) (s1 : List UInt8) : Option (Int × Bool) :=
  Option.bind (loop slices_BinarySearch_string_string_L1_P (s0, s1, (((List.length s0) : Nat) : Int), (0 : Int), (((List.length s0) : Nat) : Int))) fun (v0 : ((List (List UInt8)) × ((List UInt8) × (Int × Int)))) =>
  if decide (v0.snd.snd.snd < v0.snd.snd.fst) = true then
    Option.bind (ix v0.fst v0.snd.snd.snd) fun (v1 : (List UInt8)) =>
    if (v1 == v0.snd.fst) = true then
      some (v0.snd.snd.snd, true)
    else
    Option.bind (ix v0.fst v0.snd.snd.snd) fun (v2 : (List UInt8)) =>
    Option.bind (slices_isNaN_string_P v2) fun (v3 : Bool) =>
    if v3 = true then
      Option.bind (slices_isNaN_string_P v0.snd.fst) fun (v4 : Bool) =>
      some (v0.snd.snd.snd, v4)
    else
    some (v0.snd.snd.snd, false)
  else
  some (v0.snd.snd.snd, false)
def slices_BinarySearch_string_string_P : (List (List UInt8)) × (List UInt8) → Option (Int × Bool) := fun p => slices_BinarySearch_string_string_M p.1 p.2
def slices_BinarySearch_string_string_MM : HL [(.slc .str), .str] → Option (SumL [[(.int .i64), .bool]]) := fun p => slices_BinarySearch_string_string_M p.1 p.2
def slices_BinarySearch_string_string_C : Con := ⟨0, slices_BinarySearch_string_string_T, slices_BinarySearch_string_string_O, stdCn [(.slc .str), .str] [[(.int .i64), .bool]] slices_BinarySearch_string_string_MM, []⟩

def slices_Insert_string_string_n_T : Tm := ⟨[(0, false, [.nils]), (1, false, [.hole (.int .i64)]), (2, false, [.hole (.slc .str)])], 3, []⟩
def slices_Insert_string_string_n_O : List (Ex × Tm) := [(.ret, ⟨[(0, false, [.row 0])], 1, [.row .str]⟩)]
def slices_Insert_string_string_n_M (s1 : Int) (s2 : List (List UInt8)) : Option ((List (List UInt8))) :=
  Option.bind (subn (0 : Nat) s1 (0 : Int)) fun _ =>
  if ((((List.length s2) : Nat) : Int) == (0 : Int)) = true then
    some ([])
  else
  if (s1 == (0 : Int)) = true then
    Option.bind (room (16 : Nat) ((0 : Nat) + List.length s2)) fun _ =>
    some (s2)
  else
  none -- STUCK after t30 call [R0 R1 R2 R3 R4 R5 R6 R7 R8]
def slices_Insert_string_string_n_P : Int × (List (List UInt8)) → Option ((List (List UInt8))) := fun p => slices_Insert_string_string_n_M p.1 p.2
def slices_Insert_string_string_n_MM : HL [(.int .i64), (.slc .str)] → Option (SumL [[(.slc .str)]]) := fun p => slices_Insert_string_string_n_M p.1 p.2
def slices_Insert_string_string_n_C : Con := ⟨0, slices_Insert_string_string_n_T, slices_Insert_string_string_n_O, stdCn [(.int .i64), (.slc .str)] [[(.slc .str)]] slices_Insert_string_string_n_MM, []⟩

def value_table_string_put_a_R1_T : Tm := ⟨[(0, false, [.ptr 0 2]), (1, false, [.hole .str]), (2, false, [.hole .str]), (7, false, [.hole (.int .i64)])], 48, [.box [.hole (.int .i64), .hole .str, .nils, .nils, .nils, .nils, .nils, .nilp]]⟩
def value_table_string_put_a_R1_O : List (Ex × Tm) := [(.normal, ⟨[], 48, [.box [.hole (.int .i64), .hole .str, .row 1, .row 2, .nils, .nils, .nils, .nilp], .row .str, .row .str]⟩)]
def value_table_string_put_a_R1_X (s1 : List UInt8) (s2 : List UInt8) (s7 : Int) (m0_0 : Int) (m0_1 : List UInt8) : Option (Int × (List UInt8) × (List (List UInt8)) × (List (List UInt8))) :=
  agree (
    agree (
      Option.bind (slices_Insert_string_string_n_P (s7, [s1])) fun (v0 : (List (List UInt8))) =>
      Option.bind (slices_Insert_string_string_n_P (s7, [s2])) fun (v1 : (List (List UInt8))) =>
      some (m0_0, m0_1, v0, v1)
    ) (
      Option.bind (slices_Insert_string_string_n_P (s7, [s1])) fun (v2 : (List (List UInt8))) =>
      Option.bind (slices_Insert_string_string_n_P (s7, [s2])) fun (v3 : (List (List UInt8))) =>
      some (m0_0, m0_1, v2, v3)
    )
  ) (
    Option.bind (slices_Insert_string_string_n_P (s7, [s1])) fun (v4 : (List (List UInt8))) =>
    Option.bind (slices_Insert_string_string_n_P (s7, [s2])) fun (v5 : (List (List UInt8))) =>
    some (m0_0, m0_1, v4, v5)
  )
def value_table_string_put_a_R1 (s1 : List UInt8) (s2 : List UInt8) (s7 : Int) (m0_0 : Int) (m0_1 : List UInt8) : Option (Int × (List UInt8) × (List (List UInt8)) × (List (List UInt8))) :=
      Option.bind (slices_Insert_string_string_n_P (s7, [s1])) fun (v0 : (List (List UInt8))) =>
      Option.bind (slices_Insert_string_string_n_P (s7, [s2])) fun (v1 : (List (List UInt8))) =>
      some (m0_0, m0_1, v0, v1)
theorem value_table_string_put_a_R1_eq (s1 : List UInt8) (s2 : List UInt8) (s7 : Int) (m0_0 : Int) (m0_1 : List UInt8) : value_table_string_put_a_R1_X s1 s2 s7 m0_0 m0_1 = value_table_string_put_a_R1 s1 s2 s7 m0_0 m0_1 := by unfold value_table_string_put_a_R1_X; simp only [agree_self]; rfl
def value_table_string_put_a_R1_P : (List UInt8) × (List UInt8) × Int × Int × (List UInt8) → Option (Int × (List UInt8) × (List (List UInt8)) × (List (List UInt8))) := fun p => value_table_string_put_a_R1 p.1 p.2.1 p.2.2.1 p.2.2.2.1 p.2.2.2.2
def value_table_string_put_a_R1_MM : HL [.str, .str, (.int .i64), (.int .i64), .str] → Option (SumL [[(.int .i64), .str, (.slc .str), (.slc .str)]]) := fun p => value_table_string_put_a_R1 p.1 p.2.1 p.2.2.1 p.2.2.2.1 p.2.2.2.2
def value_table_string_put_a_R1_C : Con := ⟨1, value_table_string_put_a_R1_T, value_table_string_put_a_R1_O, stdCn [.str, .str, (.int .i64), (.int .i64), .str] [[(.int .i64), .str, (.slc .str), (.slc .str)]] value_table_string_put_a_R1_MM, []⟩
def value_table_string_put_a_T : Tm := ⟨[(0, false, [.ptr 0 2]), (1, false, [.hole .str]), (2, false, [.hole .str])], 3, [.box [.hole (.int .i64), .hole .str, .nils, .nils, .nils, .nils, .nils, .nilp]]⟩
def value_table_string_put_a_O : List (Ex × Tm) := [(.ret, ⟨[(0, false, [.hole .bool])], 1, [.box [.hole (.int .i64), .hole .str, .row 1, .row 2, .nils, .nils, .nils, .nilp], .row .str, .row .str]⟩)]
def value_table_string_put_a_M (s1 : List UInt8) (s2 : List UInt8) (m0_0 : Int) (m0_1 : List UInt8) : Option (Bool × Int × (List UInt8) × (List (List UInt8)) × (List (List UInt8))) :=
  Option.bind (slices_BinarySearch_string_string_P ([], s1)) fun (v0 : (Int × Bool)) =>
  if v0.snd = true then
    none -- STUCK after t25 indexAddr [R0 R1 R2 R3]
  else
  Option.bind (value_table_string_put_a_R1_P (s1, s2, v0.fst, m0_0, m0_1)) fun (v1 : (Int × ((List UInt8) × ((List (List UInt8)) × (List (List UInt8)))))) =>
  some (true, v1.fst, v1.snd.fst, v1.snd.snd.fst, v1.snd.snd.snd)
def value_table_string_put_a_P : (List UInt8) × (List UInt8) × Int × (List UInt8) → Option (Bool × Int × (List UInt8) × (List (List UInt8)) × (List (List UInt8))) := fun p => value_table_string_put_a_M p.1 p.2.1 p.2.2.1 p.2.2.2
def value_table_string_put_a_MM : HL [.str, .str, (.int .i64), .str] → Option (SumL [[.bool, (.int .i64), .str, (.slc .str), (.slc .str)]]) := fun p => value_table_string_put_a_M p.1 p.2.1 p.2.2.1 p.2.2.2
def value_table_string_put_a_C : Con := ⟨1, value_table_string_put_a_T, value_table_string_put_a_O, stdCn [.str, .str, (.int .i64), .str] [[.bool, (.int .i64), .str, (.slc .str), (.slc .str)]] value_table_string_put_a_MM, []⟩

def intagliolaw15_awake_T : Tm := ⟨[], 0, []⟩
def intagliolaw15_awake_O : List (Ex × Tm) := [(.ret, ⟨[(0, false, [.hole .bool])], 1, []⟩)]
def intagliolaw15_awake_M  : Option (Bool) :=
  Option.bind (value_Check_P ((2 : Int), [], [([(97 : UInt8)], [(98 : UInt8), (99 : UInt8)], ())], [], [])) fun (v0 : Int) =>
  if (v0 != (0 : Int)) = true then
    Option.bind (value_Size_P ((2 : Int), [], [([(97 : UInt8)], [(98 : UInt8), (99 : UInt8)], ())], [], [])) fun (v1 : Int) =>
    if (v1 == (27 : Int)) = true then
      if (v0 == (0 : Int)) = true then
        some (false)
      else
      some (false)
    else
    some (false)
  else
  Option.bind (inb (1 : Nat) (0 : Int)) fun _ =>
  Option.bind (value_table_string_put_a_P ((List.getD [([(97 : UInt8)], [(98 : UInt8), (99 : UInt8)], ())] (nat_lit 0) ([], [], ())).fst, (List.getD [([(97 : UInt8)], [(98 : UInt8), (99 : UInt8)], ())] (nat_lit 0) ([], [], ())).snd.fst, (2 : Int), [])) fun (v3 : (Bool × (Int × ((List UInt8) × ((List (List UInt8)) × (List (List UInt8))))))) =>
  if (v3.snd.fst == (3 : Int)) = true then
    Option.bind (value_Size_P ((2 : Int), [], [([(97 : UInt8)], [(98 : UInt8), (99 : UInt8)], ())], [], [])) fun (v4 : Int) =>
    if (v4 == (27 : Int)) = true then
      if (v3.snd.fst == (1 : Int)) = true then
        if ((((List.length v3.snd.snd.fst) : Nat) : Int) == (1 : Int)) = true then
          Option.bind (value_Value_Plain_a_P (v3.snd.fst, v3.snd.snd.fst, v3.snd.snd.snd.fst, v3.snd.snd.snd.snd)) fun (v5 : (Int × ((List UInt8) × ((List ((List UInt8) × ((List UInt8) × Unit))) × ((List (List UInt8)) × (Int × ((List UInt8) × ((List (List UInt8)) × (List (List UInt8)))))))))) =>
          Option.bind (intaglioref15_Same_P (v5.fst, v5.snd.fst, v5.snd.snd.fst, v5.snd.snd.snd.fst, [], (2 : Int), [], [([(97 : UInt8)], [(98 : UInt8), (99 : UInt8)], ())], [], [])) fun (v6 : Bool) =>
          some (v6)
        else
        some (false)
      else
      if (v3.snd.fst == (2 : Int)) = true then
        if ((((List.length v3.snd.snd.snd.fst) : Nat) : Int) == (1 : Int)) = true then
          Option.bind (value_Value_Plain_a_P (v3.snd.fst, v3.snd.snd.fst, v3.snd.snd.snd.fst, v3.snd.snd.snd.snd)) fun (v7 : (Int × ((List UInt8) × ((List ((List UInt8) × ((List UInt8) × Unit))) × ((List (List UInt8)) × (Int × ((List UInt8) × ((List (List UInt8)) × (List (List UInt8)))))))))) =>
          Option.bind (intaglioref15_Same_P (v7.fst, v7.snd.fst, v7.snd.snd.fst, v7.snd.snd.snd.fst, [], (2 : Int), [], [([(97 : UInt8)], [(98 : UInt8), (99 : UInt8)], ())], [], [])) fun (v8 : Bool) =>
          some (v8)
        else
        some (false)
      else
      if (v3.snd.fst == (3 : Int)) = true then
        some (false)
      else
      if (v3.snd.fst == (4 : Int)) = true then
        some (false)
      else
      some (false)
    else
    some (false)
  else
  if (v3.snd.fst == (4 : Int)) = true then
    Option.bind (value_Size_P ((2 : Int), [], [([(97 : UInt8)], [(98 : UInt8), (99 : UInt8)], ())], [], [])) fun (v9 : Int) =>
    if (v9 == (27 : Int)) = true then
      if (v3.snd.fst == (1 : Int)) = true then
        if ((((List.length v3.snd.snd.fst) : Nat) : Int) == (1 : Int)) = true then
          Option.bind (value_Value_Plain_a_P (v3.snd.fst, v3.snd.snd.fst, v3.snd.snd.snd.fst, v3.snd.snd.snd.snd)) fun (v10 : (Int × ((List UInt8) × ((List ((List UInt8) × ((List UInt8) × Unit))) × ((List (List UInt8)) × (Int × ((List UInt8) × ((List (List UInt8)) × (List (List UInt8)))))))))) =>
          Option.bind (intaglioref15_Same_P (v10.fst, v10.snd.fst, v10.snd.snd.fst, v10.snd.snd.snd.fst, [], (2 : Int), [], [([(97 : UInt8)], [(98 : UInt8), (99 : UInt8)], ())], [], [])) fun (v11 : Bool) =>
          some (v11)
        else
        some (false)
      else
      if (v3.snd.fst == (2 : Int)) = true then
        if ((((List.length v3.snd.snd.snd.fst) : Nat) : Int) == (1 : Int)) = true then
          Option.bind (value_Value_Plain_a_P (v3.snd.fst, v3.snd.snd.fst, v3.snd.snd.snd.fst, v3.snd.snd.snd.snd)) fun (v12 : (Int × ((List UInt8) × ((List ((List UInt8) × ((List UInt8) × Unit))) × ((List (List UInt8)) × (Int × ((List UInt8) × ((List (List UInt8)) × (List (List UInt8)))))))))) =>
          Option.bind (intaglioref15_Same_P (v12.fst, v12.snd.fst, v12.snd.snd.fst, v12.snd.snd.snd.fst, [], (2 : Int), [], [([(97 : UInt8)], [(98 : UInt8), (99 : UInt8)], ())], [], [])) fun (v13 : Bool) =>
          some (v13)
        else
        some (false)
      else
      if (v3.snd.fst == (3 : Int)) = true then
        some (false)
      else
      if (v3.snd.fst == (4 : Int)) = true then
        some (false)
      else
      some (false)
    else
    some (false)
  else
  Option.bind (value_Size_P ((2 : Int), [], [([(97 : UInt8)], [(98 : UInt8), (99 : UInt8)], ())], [], [])) fun (v14 : Int) =>
  if (v14 == (27 : Int)) = true then
    if (v3.snd.fst == (1 : Int)) = true then
      if ((((List.length v3.snd.snd.fst) : Nat) : Int) == (1 : Int)) = true then
        Option.bind (value_Value_Plain_a_P (v3.snd.fst, v3.snd.snd.fst, v3.snd.snd.snd.fst, v3.snd.snd.snd.snd)) fun (v15 : (Int × ((List UInt8) × ((List ((List UInt8) × ((List UInt8) × Unit))) × ((List (List UInt8)) × (Int × ((List UInt8) × ((List (List UInt8)) × (List (List UInt8)))))))))) =>
        Option.bind (intaglioref15_Same_P (v15.fst, v15.snd.fst, v15.snd.snd.fst, v15.snd.snd.snd.fst, [], (2 : Int), [], [([(97 : UInt8)], [(98 : UInt8), (99 : UInt8)], ())], [], [])) fun (v16 : Bool) =>
        some (v16)
      else
      some (false)
    else
    if (v3.snd.fst == (2 : Int)) = true then
      if ((((List.length v3.snd.snd.snd.fst) : Nat) : Int) == (1 : Int)) = true then
        Option.bind (value_Value_Plain_a_P (v3.snd.fst, v3.snd.snd.fst, v3.snd.snd.snd.fst, v3.snd.snd.snd.snd)) fun (v17 : (Int × ((List UInt8) × ((List ((List UInt8) × ((List UInt8) × Unit))) × ((List (List UInt8)) × (Int × ((List UInt8) × ((List (List UInt8)) × (List (List UInt8)))))))))) =>
        Option.bind (intaglioref15_Same_P (v17.fst, v17.snd.fst, v17.snd.snd.fst, v17.snd.snd.snd.fst, [], (2 : Int), [], [([(97 : UInt8)], [(98 : UInt8), (99 : UInt8)], ())], [], [])) fun (v18 : Bool) =>
        some (v18)
      else
      some (false)
    else
    if (v3.snd.fst == (3 : Int)) = true then
      some (false)
    else
    if (v3.snd.fst == (4 : Int)) = true then
      some (false)
    else
    some (false)
  else
  some (false)
def intagliolaw15_awake_P : Unit → Option (Bool) := fun p => intagliolaw15_awake_M 
def intagliolaw15_awake_MM : HL [] → Option (SumL [[.bool]]) := fun p => intagliolaw15_awake_M 
def intagliolaw15_awake_C : Con := ⟨0, intagliolaw15_awake_T, intagliolaw15_awake_O, stdCn [] [[.bool]] intagliolaw15_awake_MM, []⟩

def intagliolaw15_few_L2_T : Tm := ⟨[(0, false, [.hole (.slc (.pair (.int .u8) (.pair .str (.pair .str (.pair (.int .i64) (.pair (.slc .str) .unit))))))]), (3, false, [.hole (.int .i64)]), (4, false, [.hole (.int .i64)])], 57, []⟩
def intagliolaw15_few_L2_O : List (Ex × Tm) := [(.exit 2, ⟨[(0, false, [.hole (.slc (.pair (.int .u8) (.pair .str (.pair .str (.pair (.int .i64) (.pair (.slc .str) .unit))))))]), (3, false, [.hole (.int .i64)])], 57, []⟩), (.ret, ⟨[(2, false, [.hole .bool])], 57, []⟩)]
def intagliolaw15_few_L2 (s0 : List (Int × (List UInt8) × (List UInt8) × Int × (List (List UInt8)) × Unit)) (s3 : Int) (s4 : Int) : Option (((List (Int × (List UInt8) × (List UInt8) × Int × (List (List UInt8)) × Unit)) × Int × Int) ⊕ (((List (Int × (List UInt8) × (List UInt8) × Int × (List (List UInt8)) × Unit)) × Int) ⊕ (Bool))) :=
  Option.bind (ix s0 s3) fun (v0 : (Int × ((List UInt8) × ((List UInt8) × (Int × ((List (List UInt8)) × Unit)))))) =>
  if decide (s4 < (((List.length v0.snd.snd.snd.snd.fst) : Nat) : Int)) = true then
    Option.bind (ix s0 s3) fun (v1 : (Int × ((List UInt8) × ((List UInt8) × (Int × ((List (List UInt8)) × Unit)))))) =>
    Option.bind (ix v1.snd.snd.snd.snd.fst s4) fun (v2 : (List UInt8)) =>
    if decide ((((List.length v2) : Nat) : Int) > (100 : Int)) = true then
      some (.inr (.inr (false)))
    else
    some (.inl (s0, s3, IntKind.wrap IntKind.i64 (s4 + (1 : Int))))
  else
  some (.inr (.inl (s0, s3)))
def intagliolaw15_few_L2_P : (List (Int × (List UInt8) × (List UInt8) × Int × (List (List UInt8)) × Unit)) × Int × Int → Option (((List (Int × (List UInt8) × (List UInt8) × Int × (List (List UInt8)) × Unit)) × Int × Int) ⊕ (((List (Int × (List UInt8) × (List UInt8) × Int × (List (List UInt8)) × Unit)) × Int) ⊕ (Bool))) := fun p => intagliolaw15_few_L2 p.1 p.2.1 p.2.2
def intagliolaw15_few_L2_MM : HL [(.slc (.pair (.int .u8) (.pair .str (.pair .str (.pair (.int .i64) (.pair (.slc .str) .unit)))))), (.int .i64), (.int .i64)] → Option (HL [(.slc (.pair (.int .u8) (.pair .str (.pair .str (.pair (.int .i64) (.pair (.slc .str) .unit)))))), (.int .i64), (.int .i64)] ⊕ SumL [[(.slc (.pair (.int .u8) (.pair .str (.pair .str (.pair (.int .i64) (.pair (.slc .str) .unit)))))), (.int .i64)], [.bool]]) := fun p => intagliolaw15_few_L2 p.1 p.2.1 p.2.2
def intagliolaw15_few_L2_C : Con := ⟨0, intagliolaw15_few_L2_T, intagliolaw15_few_L2_O, stdCn [(.slc (.pair (.int .u8) (.pair .str (.pair .str (.pair (.int .i64) (.pair (.slc .str) .unit)))))), (.int .i64), (.int .i64)] [[(.slc (.pair (.int .u8) (.pair .str (.pair .str (.pair (.int .i64) (.pair (.slc .str) .unit)))))), (.int .i64)], [.bool]] (loop intagliolaw15_few_L2_MM), []⟩
def intagliolaw15_few_L1_T : Tm := ⟨[(0, false, [.hole (.slc (.pair (.int .u8) (.pair .str (.pair .str (.pair (.int .i64) (.pair (.slc .str) .unit))))))]), (3, false, [.hole (.int .i64)])], 57, []⟩
def intagliolaw15_few_L1_O : List (Ex × Tm) := [(.exit 0, ⟨[], 57, []⟩), (.ret, ⟨[(2, false, [.hole .bool])], 57, []⟩)]
def intagliolaw15_few_L1 (s0 : List (Int × (List UInt8) × (List UInt8) × Int × (List (List UInt8)) × Unit)) (s3 : Int) : Option (((List (Int × (List UInt8) × (List UInt8) × Int × (List (List UInt8)) × Unit)) × Int) ⊕ ((Unit) ⊕ (Bool))) :=
  if decide (s3 < (((List.length s0) : Nat) : Int)) = true then
    Option.bind (ix s0 s3) fun (v0 : (Int × ((List UInt8) × ((List UInt8) × (Int × ((List (List UInt8)) × Unit)))))) =>
    Option.bind (ix s0 s3) fun (v1 : (Int × ((List UInt8) × ((List UInt8) × (Int × ((List (List UInt8)) × Unit)))))) =>
    if decide (IntKind.wrap IntKind.i64 ((((List.length v0.snd.fst) : Nat) : Int) + (((List.length v1.snd.snd.fst) : Nat) : Int)) > (200 : Int)) = true then
      some (.inr (.inr (false)))
    else
    Option.bind (ix s0 s3) fun (v2 : (Int × ((List UInt8) × ((List UInt8) × (Int × ((List (List UInt8)) × Unit)))))) =>
    if decide ((((List.length v2.snd.snd.snd.snd.fst) : Nat) : Int) > (20 : Int)) = true then
      some (.inr (.inr (false)))
    else
    Option.bind (loop intagliolaw15_few_L2_P (s0, s3, (0 : Int))) fun (v3 : (((List (Int × ((List UInt8) × ((List UInt8) × (Int × ((List (List UInt8)) × Unit)))))) × Int) ⊕ Bool)) =>
    Sum.elim (fun (v4 : ((List (Int × ((List UInt8) × ((List UInt8) × (Int × ((List (List UInt8)) × Unit)))))) × Int)) =>
        some (.inl (v4.fst, IntKind.wrap IntKind.i64 (v4.snd + (1 : Int))))
      ) (fun (v5 : Bool) =>
      some (.inr (.inr (v5)))
    ) (v3)
  else
  some (.inr (.inl (())))
def intagliolaw15_few_L1_P : (List (Int × (List UInt8) × (List UInt8) × Int × (List (List UInt8)) × Unit)) × Int → Option (((List (Int × (List UInt8) × (List UInt8) × Int × (List (List UInt8)) × Unit)) × Int) ⊕ ((Unit) ⊕ (Bool))) := fun p => intagliolaw15_few_L1 p.1 p.2
def intagliolaw15_few_L1_MM : HL [(.slc (.pair (.int .u8) (.pair .str (.pair .str (.pair (.int .i64) (.pair (.slc .str) .unit)))))), (.int .i64)] → Option (HL [(.slc (.pair (.int .u8) (.pair .str (.pair .str (.pair (.int .i64) (.pair (.slc .str) .unit)))))), (.int .i64)] ⊕ SumL [[], [.bool]]) := fun p => intagliolaw15_few_L1 p.1 p.2
def intagliolaw15_few_L1_C : Con := ⟨0, intagliolaw15_few_L1_T, intagliolaw15_few_L1_O, stdCn [(.slc (.pair (.int .u8) (.pair .str (.pair .str (.pair (.int .i64) (.pair (.slc .str) .unit)))))), (.int .i64)] [[], [.bool]] (loop intagliolaw15_few_L1_MM), []⟩
def intagliolaw15_few_T : Tm := ⟨[(0, false, [.hole (.slc (.pair (.int .u8) (.pair .str (.pair .str (.pair (.int .i64) (.pair (.slc .str) .unit))))))])], 1, []⟩
def intagliolaw15_few_O : List (Ex × Tm) := [(.ret, ⟨[(0, false, [.hole .bool])], 1, []⟩)]
def intagliolaw15_few_M (s0 : List (Int × (List UInt8) × (List UInt8) × Int × (List (List UInt8)) × Unit)) : Option (Bool) :=
  if decide ((((List.length s0) : Nat) : Int) > (40 : Int)) = true then
    some (false)
  else
  Option.bind (loop intagliolaw15_few_L1_P (s0, (0 : Int))) fun (v0 : (Unit ⊕ Bool)) =>
  Sum.elim (fun _ =>
      some (true)
    ) (fun (v2 : Bool) =>
    some (v2)
  ) (v0)
def intagliolaw15_few_P : (List (Int × (List UInt8) × (List UInt8) × Int × (List (List UInt8)) × Unit)) → Option (Bool) := fun p => intagliolaw15_few_M p
def intagliolaw15_few_MM : HL [(.slc (.pair (.int .u8) (.pair .str (.pair .str (.pair (.int .i64) (.pair (.slc .str) .unit))))))] → Option (SumL [[.bool]]) := fun p => intagliolaw15_few_M p
def intagliolaw15_few_C : Con := ⟨0, intagliolaw15_few_T, intagliolaw15_few_O, stdCn [(.slc (.pair (.int .u8) (.pair .str (.pair .str (.pair (.int .i64) (.pair (.slc .str) .unit))))))] [[.bool]] intagliolaw15_few_MM, []⟩

def intagliolaw15_ValueNobody_T : Tm := ⟨[(0, true, [.hole (.int .u8), .hole .str, .hole .str, .hole (.int .i64), .hole (.slc .str)])], 1, []⟩
def intagliolaw15_ValueNobody_O : List (Ex × Tm) := [(.ret, ⟨[(0, false, [.hole .bool])], 1, []⟩)]
def intagliolaw15_ValueNobody_M (s0_0 : Int) (s0_1 : List UInt8) (s0_2 : List UInt8) (s0_3 : Int) (s0_4 : List (List UInt8)) : Option (Bool) :=
  Option.bind (intagliolaw15_few_P [(s0_0, s0_1, s0_2, s0_3, s0_4, ())]) fun (v0 : Bool) =>
  if (!v0) = true then
    Option.bind (intagliolaw15_awake_P ()) fun (v1 : Bool) =>
    some (v1)
  else
  Option.bind (inb (nat_lit 2) (0 : Int)) fun _ =>
  Option.bind (value_Value_Plain_n_P ()) fun (v3 : (Int × (List UInt8))) =>
  Option.bind (intaglioref15_Same_P (v3.fst, v3.snd, [], [], [], (0 : Int), [], [], [], [])) fun (v4 : Bool) =>
  if (!v4) = true then
    some (false)
  else
  Option.bind (inb (nat_lit 2) (1 : Int)) fun _ =>
  Option.bind (inb (1 : Nat) (0 : Int)) fun _ =>
  Option.bind (inb (1 : Nat) (0 : Int)) fun _ =>
  Option.bind (inb (1 : Nat) (0 : Int)) fun _ =>
  Option.bind (inb (1 : Nat) (0 : Int)) fun _ =>
  Option.bind (inb (1 : Nat) (0 : Int)) fun _ =>
  Option.bind (inb (1 : Nat) (0 : Int)) fun _ =>
  Option.bind (inb (1 : Nat) (0 : Int)) fun _ =>
  Option.bind (value_Value_Plain_z_P ((0 : Int), [])) fun (v13 : (Int × ((List UInt8) × ((List (List UInt8)) × (Int × (List UInt8)))))) =>
  Option.bind (intaglioref15_Same_P (v13.fst, v13.snd.fst, [], v13.snd.snd.fst, [], (0 : Int), [], [], [], [])) fun (v14 : Bool) =>
  if (!v14) = true then
    some (false)
  else
  Option.bind (inb (nat_lit 2) (0 : Int)) fun _ =>
  Option.bind (intagliolaw15_awake_P ()) fun (v16 : Bool) =>
  some (v16)
def intagliolaw15_ValueNobody_P : Int × (List UInt8) × (List UInt8) × Int × (List (List UInt8)) → Option (Bool) := fun p => intagliolaw15_ValueNobody_M p.1 p.2.1 p.2.2.1 p.2.2.2.1 p.2.2.2.2
def intagliolaw15_ValueNobody_MM : HL [(.int .u8), .str, .str, (.int .i64), (.slc .str)] → Option (SumL [[.bool]]) := fun p => intagliolaw15_ValueNobody_M p.1 p.2.1 p.2.2.1 p.2.2.2.1 p.2.2.2.2
def intagliolaw15_ValueNobody_C : Con := ⟨0, intagliolaw15_ValueNobody_T, intagliolaw15_ValueNobody_O, stdCn [(.int .u8), .str, .str, (.int .i64), (.slc .str)] [[.bool]] intagliolaw15_ValueNobody_MM, []⟩
end
end Go.Proofs.Ytknghpfoohchhaa
