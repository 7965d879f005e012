/- Plain models of Go functions. -/
import Derived.Test.YtfhngejmfnahhaaEd
namespace Go.Proofs.Ytfhngejmfnahhaa
open Go Go.Lift
set_option maxRecDepth 100000
set_option maxHeartbeats 4000000
set_option linter.unusedVariables false
noncomputable section
theorem fuel_ex : ∃ n : Nat, n = 1000000 := ⟨_, rfl⟩
noncomputable def fuel : Nat := Classical.choose fuel_ex
theorem fuel_is : fuel = 1000000 := Classical.choose_spec fuel_ex
def GL : Globs := []

def intagliolaw14_few_L1_T : Tm := ⟨[(0, false, [.hole (.slc (.pair .bool (.pair .str (.pair (.int .i64) .unit))))]), (3, false, [.hole (.int .i64)])], 20, []⟩
def intagliolaw14_few_L1_O : List (Ex × Tm) := [(.exit 0, ⟨[], 20, []⟩), (.ret, ⟨[(2, false, [.hole .bool])], 20, []⟩)]
def intagliolaw14_few_L1 (s0 : List (Bool × (List UInt8) × Int × Unit)) (s3 : Int) : Option (((List (Bool × (List UInt8) × Int × Unit)) × Int) ⊕ ((Unit) ⊕ (Bool))) :=
  if decide (s3 < (((List.length s0) : Nat) : Int)) = true then
    Option.bind (ix s0 s3) fun (v0 : (Bool × ((List UInt8) × (Int × Unit)))) =>
    if decide ((((List.length v0.snd.fst) : Nat) : Int) > (100 : Int)) = true then
      some (.inr (.inr (false)))
    else
    some (.inl (s0, IntKind.wrap IntKind.i64 (s3 + (1 : Int))))
  else
  some (.inr (.inl (())))
def intagliolaw14_few_L1_P : (List (Bool × (List UInt8) × Int × Unit)) × Int → Option (((List (Bool × (List UInt8) × Int × Unit)) × Int) ⊕ ((Unit) ⊕ (Bool))) := fun p => intagliolaw14_few_L1 p.1 p.2
def intagliolaw14_few_L1_MM : HL [(.slc (.pair .bool (.pair .str (.pair (.int .i64) .unit)))), (.int .i64)] → Option (HL [(.slc (.pair .bool (.pair .str (.pair (.int .i64) .unit)))), (.int .i64)] ⊕ SumL [[], [.bool]]) := fun p => intagliolaw14_few_L1 p.1 p.2
def intagliolaw14_few_L1_C : Con := ⟨0, intagliolaw14_few_L1_T, intagliolaw14_few_L1_O, stdCn [(.slc (.pair .bool (.pair .str (.pair (.int .i64) .unit)))), (.int .i64)] [[], [.bool]] (loop intagliolaw14_few_L1_MM), []⟩
def intagliolaw14_few_T : Tm := ⟨[(0, false, [.hole (.slc (.pair .bool (.pair .str (.pair (.int .i64) .unit))))])], 1, []⟩
def intagliolaw14_few_O : List (Ex × Tm) := [(.ret, ⟨[(0, false, [.hole .bool])], 1, []⟩)]
def intagliolaw14_few_M (s0 : List (Bool × (List UInt8) × Int × Unit)) : Option (Bool) :=
  if decide ((((List.length s0) : Nat) : Int) > (120 : Int)) = true then
    some (false)
  else
  Option.bind (loop intagliolaw14_few_L1_P (s0, (0 : Int))) fun (v0 : (Unit ⊕ Bool)) =>
  Sum.elim (fun _ =>
      some (true)
    ) (fun (v2 : Bool) =>
    some (v2)
  ) (v0)
def intagliolaw14_few_P : (List (Bool × (List UInt8) × Int × Unit)) → Option (Bool) := fun p => intagliolaw14_few_M p
def intagliolaw14_few_MM : HL [(.slc (.pair .bool (.pair .str (.pair (.int .i64) .unit))))] → Option (SumL [[.bool]]) := fun p => intagliolaw14_few_M p
def intagliolaw14_few_C : Con := ⟨0, intagliolaw14_few_T, intagliolaw14_few_O, stdCn [(.slc (.pair .bool (.pair .str (.pair (.int .i64) .unit))))] [[.bool]] intagliolaw14_few_MM, []⟩

def intaglioref14_Same_L1_T : Tm := ⟨[(0, false, [.hole (.slc (.pair .str (.pair (.int .i64) .unit)))]), (1, false, [.hole (.slc (.pair .str (.pair (.int .i64) .unit)))]), (5, false, [.hole (.int .i64)])], 26, []⟩
def intaglioref14_Same_L1_O : List (Ex × Tm) := [(.exit 0, ⟨[], 26, []⟩), (.ret, ⟨[(4, false, [.hole .bool])], 26, []⟩)]
def intaglioref14_Same_L1 (s0 : List ((List UInt8) × Int × Unit)) (s1 : List ((List UInt8) × Int × Unit)) (s5 : Int) : Option (((List ((List UInt8) × Int × Unit)) × (List ((List UInt8) × Int × Unit)) × Int) ⊕ ((Unit) ⊕ (Bool))) :=
  if decide (s5 < (((List.length s0) : Nat) : Int)) = true then
    Option.bind (ix s0 s5) fun (v0 : ((List UInt8) × (Int × Unit))) =>
    Option.bind (ix s1 s5) fun (v1 : ((List UInt8) × (Int × Unit))) =>
    if (!(fun r => eqLs.strEq v0.fst v1.fst && r) ((fun r => eqLs.intEq v0.snd.fst v1.snd.fst && r) true)) = true then
      some (.inr (.inr (false)))
    else
    some (.inl (s0, s1, IntKind.wrap IntKind.i64 (s5 + (1 : Int))))
  else
  some (.inr (.inl (())))
def intaglioref14_Same_L1_P : (List ((List UInt8) × Int × Unit)) × (List ((List UInt8) × Int × Unit)) × Int → Option (((List ((List UInt8) × Int × Unit)) × (List ((List UInt8) × Int × Unit)) × Int) ⊕ ((Unit) ⊕ (Bool))) := fun p => intaglioref14_Same_L1 p.1 p.2.1 p.2.2
def intaglioref14_Same_L1_MM : HL [(.slc (.pair .str (.pair (.int .i64) .unit))), (.slc (.pair .str (.pair (.int .i64) .unit))), (.int .i64)] → Option (HL [(.slc (.pair .str (.pair (.int .i64) .unit))), (.slc (.pair .str (.pair (.int .i64) .unit))), (.int .i64)] ⊕ SumL [[], [.bool]]) := fun p => intaglioref14_Same_L1 p.1 p.2.1 p.2.2
def intaglioref14_Same_L1_C : Con := ⟨0, intaglioref14_Same_L1_T, intaglioref14_Same_L1_O, stdCn [(.slc (.pair .str (.pair (.int .i64) .unit))), (.slc (.pair .str (.pair (.int .i64) .unit))), (.int .i64)] [[], [.bool]] (loop intaglioref14_Same_L1_MM), []⟩
def intaglioref14_Same_T : Tm := ⟨[(0, false, [.hole (.slc (.pair .str (.pair (.int .i64) .unit)))]), (1, false, [.hole (.slc (.pair .str (.pair (.int .i64) .unit)))])], 2, []⟩
def intaglioref14_Same_O : List (Ex × Tm) := [(.ret, ⟨[(0, false, [.hole .bool])], 1, []⟩)]
def intaglioref14_Same_M (s0 : List ((List UInt8) × Int × Unit)) (s1 : List ((List UInt8) × Int × Unit)) : Option (Bool) :=
  if ((((List.length s0) : Nat) : Int) != (((List.length s1) : Nat) : Int)) = true then
    some (false)
  else
  Option.bind (loop intaglioref14_Same_L1_P (s0, s1, (0 : Int))) fun (v0 : (Unit ⊕ Bool)) =>
  Sum.elim (fun _ =>
      some (true)
    ) (fun (v2 : Bool) =>
    some (v2)
  ) (v0)
def intaglioref14_Same_P : (List ((List UInt8) × Int × Unit)) × (List ((List UInt8) × Int × Unit)) → Option (Bool) := fun p => intaglioref14_Same_M p.1 p.2
def intaglioref14_Same_MM : HL [(.slc (.pair .str (.pair (.int .i64) .unit))), (.slc (.pair .str (.pair (.int .i64) .unit)))] → Option (SumL [[.bool]]) := fun p => intaglioref14_Same_M p.1 p.2
def intaglioref14_Same_C : Con := ⟨0, intaglioref14_Same_T, intaglioref14_Same_O, stdCn [(.slc (.pair .str (.pair (.int .i64) .unit))), (.slc (.pair .str (.pair (.int .i64) .unit)))] [[.bool]] intaglioref14_Same_MM, []⟩

def zset_Set_made_n_T : Tm := ⟨[(0, false, [.nilp])], 1, [.ar (.pair .str (.pair (.int .i64) .unit)) (.pair .nd (.pair (.int .i64) .unit))]⟩
def zset_Set_made_n_O : List (Ex × Tm) := [(.ret, ⟨[(0, false, [.hole .bool])], 1, [.ar (.pair .str (.pair (.int .i64) .unit)) (.pair .nd (.pair (.int .i64) .unit))]⟩)]
def zset_Set_made_n_M (a0 : List (((List UInt8) × Int × Unit) × List ((Option Nat) × Int × Unit))) : Option (Bool × (List (((List UInt8) × Int × Unit) × List ((Option Nat) × Int × Unit)))) :=
  some (false, a0)
def zset_Set_made_n_P : (List (((List UInt8) × Int × Unit) × List ((Option Nat) × Int × Unit))) → Option (Bool × (List (((List UInt8) × Int × Unit) × List ((Option Nat) × Int × Unit)))) := fun p => zset_Set_made_n_M p
def zset_Set_made_n_MM : HL [(.slc (.pair (.pair .str (.pair (.int .i64) .unit)) (.slc (.pair .nd (.pair (.int .i64) .unit)))))] → Option (SumL [[.bool, (.slc (.pair (.pair .str (.pair (.int .i64) .unit)) (.slc (.pair .nd (.pair (.int .i64) .unit)))))]]) := fun p => zset_Set_made_n_M p
def zset_Set_made_n_C : Con := ⟨1, zset_Set_made_n_T, zset_Set_made_n_O, stdCn [(.slc (.pair (.pair .str (.pair (.int .i64) .unit)) (.slc (.pair .nd (.pair (.int .i64) .unit)))))] [[.bool, (.slc (.pair (.pair .str (.pair (.int .i64) .unit)) (.slc (.pair .nd (.pair (.int .i64) .unit)))))]] zset_Set_made_n_MM, []⟩

def zset_Set_made_e_T : Tm := ⟨[(0, false, [.ptr 0 0])], 1, [.box [.hole .nd, .nilm], .ar (.pair .str (.pair (.int .i64) .unit)) (.pair .nd (.pair (.int .i64) .unit))]⟩
def zset_Set_made_e_O : List (Ex × Tm) := [(.ret, ⟨[(0, false, [.hole .bool])], 1, [.box [.hole .nd, .nilm], .ar (.pair .str (.pair (.int .i64) .unit)) (.pair .nd (.pair (.int .i64) .unit))]⟩)]
def zset_Set_made_e_M (m0 : Option Nat) (a1 : List (((List UInt8) × Int × Unit) × List ((Option Nat) × Int × Unit))) : Option (Bool × (Option Nat) × (List (((List UInt8) × Int × Unit) × List ((Option Nat) × Int × Unit)))) :=
  some (!Option.isNone m0, m0, a1)
def zset_Set_made_e_P : (Option Nat) × (List (((List UInt8) × Int × Unit) × List ((Option Nat) × Int × Unit))) → Option (Bool × (Option Nat) × (List (((List UInt8) × Int × Unit) × List ((Option Nat) × Int × Unit)))) := fun p => zset_Set_made_e_M p.1 p.2
def zset_Set_made_e_MM : HL [.nd, (.slc (.pair (.pair .str (.pair (.int .i64) .unit)) (.slc (.pair .nd (.pair (.int .i64) .unit)))))] → Option (SumL [[.bool, .nd, (.slc (.pair (.pair .str (.pair (.int .i64) .unit)) (.slc (.pair .nd (.pair (.int .i64) .unit)))))]]) := fun p => zset_Set_made_e_M p.1 p.2
def zset_Set_made_e_C : Con := ⟨2, zset_Set_made_e_T, zset_Set_made_e_O, stdCn [.nd, (.slc (.pair (.pair .str (.pair (.int .i64) .unit)) (.slc (.pair .nd (.pair (.int .i64) .unit)))))] [[.bool, .nd, (.slc (.pair (.pair .str (.pair (.int .i64) .unit)) (.slc (.pair .nd (.pair (.int .i64) .unit)))))]] zset_Set_made_e_MM, []⟩

def zset_Set_made_T : Tm := ⟨[(0, false, [.ptr 0 0])], 1, [.box [.hole .nd, .mpl 1], .mp .str (.int .i64), .ar (.pair .str (.pair (.int .i64) .unit)) (.pair .nd (.pair (.int .i64) .unit))]⟩
def zset_Set_made_O : List (Ex × Tm) := [(.ret, ⟨[(0, false, [.hole .bool])], 1, [.box [.hole .nd, .mpl 1], .mp .str (.int .i64), .ar (.pair .str (.pair (.int .i64) .unit)) (.pair .nd (.pair (.int .i64) .unit))]⟩)]
def zset_Set_made_M (m0 : Option Nat) (d1 : List ((List UInt8) × Int)) (a2 : List (((List UInt8) × Int × Unit) × List ((Option Nat) × Int × Unit))) : Option (Bool × (Option Nat) × (List ((List UInt8) × Int)) × (List (((List UInt8) × Int × Unit) × List ((Option Nat) × Int × Unit)))) :=
  some (!Option.isNone m0, m0, d1, a2)
def zset_Set_made_P : (Option Nat) × (List ((List UInt8) × Int)) × (List (((List UInt8) × Int × Unit) × List ((Option Nat) × Int × Unit))) → Option (Bool × (Option Nat) × (List ((List UInt8) × Int)) × (List (((List UInt8) × Int × Unit) × List ((Option Nat) × Int × Unit)))) := fun p => zset_Set_made_M p.1 p.2.1 p.2.2
def zset_Set_made_MM : HL [.nd, (.slc (.pair .str (.int .i64))), (.slc (.pair (.pair .str (.pair (.int .i64) .unit)) (.slc (.pair .nd (.pair (.int .i64) .unit)))))] → Option (SumL [[.bool, .nd, (.slc (.pair .str (.int .i64))), (.slc (.pair (.pair .str (.pair (.int .i64) .unit)) (.slc (.pair .nd (.pair (.int .i64) .unit)))))]]) := fun p => zset_Set_made_M p.1 p.2.1 p.2.2
def zset_Set_made_C : Con := ⟨3, zset_Set_made_T, zset_Set_made_O, stdCn [.nd, (.slc (.pair .str (.int .i64))), (.slc (.pair (.pair .str (.pair (.int .i64) .unit)) (.slc (.pair .nd (.pair (.int .i64) .unit)))))] [[.bool, .nd, (.slc (.pair .str (.int .i64))), (.slc (.pair (.pair .str (.pair (.int .i64) .unit)) (.slc (.pair .nd (.pair (.int .i64) .unit)))))]] zset_Set_made_MM, []⟩

def zset_Set_Len_n_T : Tm := ⟨[(0, false, [.nilp])], 1, [.ar (.pair .str (.pair (.int .i64) .unit)) (.pair .nd (.pair (.int .i64) .unit))]⟩
def zset_Set_Len_n_O : List (Ex × Tm) := [(.ret, ⟨[(0, false, [.hole (.int .i64)])], 1, [.ar (.pair .str (.pair (.int .i64) .unit)) (.pair .nd (.pair (.int .i64) .unit))]⟩)]
def zset_Set_Len_n_M (a0 : List (((List UInt8) × Int × Unit) × List ((Option Nat) × Int × Unit))) : Option (Int × (List (((List UInt8) × Int × Unit) × List ((Option Nat) × Int × Unit)))) :=
  Option.bind (zset_Set_made_n_P a0) fun (v0 : (Bool × (List (((List UInt8) × (Int × Unit)) × (List ((Option Nat) × (Int × Unit))))))) =>
  if (!v0.fst) = true then
    some ((0 : Int), v0.snd)
  else
  none -- STUCK after t7 nilCheck [R0 R1 R2 R3]
def zset_Set_Len_n_P : (List (((List UInt8) × Int × Unit) × List ((Option Nat) × Int × Unit))) → Option (Int × (List (((List UInt8) × Int × Unit) × List ((Option Nat) × Int × Unit)))) := fun p => zset_Set_Len_n_M p
def zset_Set_Len_n_MM : HL [(.slc (.pair (.pair .str (.pair (.int .i64) .unit)) (.slc (.pair .nd (.pair (.int .i64) .unit)))))] → Option (SumL [[(.int .i64), (.slc (.pair (.pair .str (.pair (.int .i64) .unit)) (.slc (.pair .nd (.pair (.int .i64) .unit)))))]]) := fun p => zset_Set_Len_n_M p
def zset_Set_Len_n_C : Con := ⟨1, zset_Set_Len_n_T, zset_Set_Len_n_O, stdCn [(.slc (.pair (.pair .str (.pair (.int .i64) .unit)) (.slc (.pair .nd (.pair (.int .i64) .unit)))))] [[(.int .i64), (.slc (.pair (.pair .str (.pair (.int .i64) .unit)) (.slc (.pair .nd (.pair (.int .i64) .unit)))))]] zset_Set_Len_n_MM, []⟩

def zset_Set_Len_e_T : Tm := ⟨[(0, false, [.ptr 0 0])], 1, [.box [.hole .nd, .nilm], .ar (.pair .str (.pair (.int .i64) .unit)) (.pair .nd (.pair (.int .i64) .unit))]⟩
def zset_Set_Len_e_O : List (Ex × Tm) := [(.ret, ⟨[(0, false, [.hole (.int .i64)])], 1, [.box [.hole .nd, .nilm], .ar (.pair .str (.pair (.int .i64) .unit)) (.pair .nd (.pair (.int .i64) .unit))]⟩)]
def zset_Set_Len_e_M (m0 : Option Nat) (a1 : List (((List UInt8) × Int × Unit) × List ((Option Nat) × Int × Unit))) : Option (Int × (Option Nat) × (List (((List UInt8) × Int × Unit) × List ((Option Nat) × Int × Unit)))) :=
  Option.bind (zset_Set_made_e_P (m0, a1)) fun (v0 : (Bool × ((Option Nat) × (List (((List UInt8) × (Int × Unit)) × (List ((Option Nat) × (Int × Unit)))))))) =>
  if (!v0.fst) = true then
    some ((0 : Int), v0.snd.fst, v0.snd.snd)
  else
  some ((0 : Int), v0.snd.fst, v0.snd.snd)
def zset_Set_Len_e_P : (Option Nat) × (List (((List UInt8) × Int × Unit) × List ((Option Nat) × Int × Unit))) → Option (Int × (Option Nat) × (List (((List UInt8) × Int × Unit) × List ((Option Nat) × Int × Unit)))) := fun p => zset_Set_Len_e_M p.1 p.2
def zset_Set_Len_e_MM : HL [.nd, (.slc (.pair (.pair .str (.pair (.int .i64) .unit)) (.slc (.pair .nd (.pair (.int .i64) .unit)))))] → Option (SumL [[(.int .i64), .nd, (.slc (.pair (.pair .str (.pair (.int .i64) .unit)) (.slc (.pair .nd (.pair (.int .i64) .unit)))))]]) := fun p => zset_Set_Len_e_M p.1 p.2
def zset_Set_Len_e_C : Con := ⟨2, zset_Set_Len_e_T, zset_Set_Len_e_O, stdCn [.nd, (.slc (.pair (.pair .str (.pair (.int .i64) .unit)) (.slc (.pair .nd (.pair (.int .i64) .unit)))))] [[(.int .i64), .nd, (.slc (.pair (.pair .str (.pair (.int .i64) .unit)) (.slc (.pair .nd (.pair (.int .i64) .unit)))))]] zset_Set_Len_e_MM, []⟩

def zset_Set_Len_T : Tm := ⟨[(0, false, [.ptr 0 0])], 1, [.box [.hole .nd, .mpl 1], .mp .str (.int .i64), .ar (.pair .str (.pair (.int .i64) .unit)) (.pair .nd (.pair (.int .i64) .unit))]⟩
def zset_Set_Len_O : List (Ex × Tm) := [(.ret, ⟨[(0, false, [.hole (.int .i64)])], 1, [.box [.hole .nd, .mpl 1], .mp .str (.int .i64), .ar (.pair .str (.pair (.int .i64) .unit)) (.pair .nd (.pair (.int .i64) .unit))]⟩)]
def zset_Set_Len_M (m0 : Option Nat) (d1 : List ((List UInt8) × Int)) (a2 : List (((List UInt8) × Int × Unit) × List ((Option Nat) × Int × Unit))) : Option (Int × (Option Nat) × (List ((List UInt8) × Int)) × (List (((List UInt8) × Int × Unit) × List ((Option Nat) × Int × Unit)))) :=
  Option.bind (zset_Set_made_P (m0, d1, a2)) fun (v0 : (Bool × ((Option Nat) × ((List ((List UInt8) × Int)) × (List (((List UInt8) × (Int × Unit)) × (List ((Option Nat) × (Int × Unit))))))))) =>
  if (!v0.fst) = true then
    some ((0 : Int), v0.snd.fst, v0.snd.snd.fst, v0.snd.snd.snd)
  else
  some ((((List.length v0.snd.snd.fst) : Nat) : Int), v0.snd.fst, v0.snd.snd.fst, v0.snd.snd.snd)
def zset_Set_Len_P : (Option Nat) × (List ((List UInt8) × Int)) × (List (((List UInt8) × Int × Unit) × List ((Option Nat) × Int × Unit))) → Option (Int × (Option Nat) × (List ((List UInt8) × Int)) × (List (((List UInt8) × Int × Unit) × List ((Option Nat) × Int × Unit)))) := fun p => zset_Set_Len_M p.1 p.2.1 p.2.2
def zset_Set_Len_MM : HL [.nd, (.slc (.pair .str (.int .i64))), (.slc (.pair (.pair .str (.pair (.int .i64) .unit)) (.slc (.pair .nd (.pair (.int .i64) .unit)))))] → Option (SumL [[(.int .i64), .nd, (.slc (.pair .str (.int .i64))), (.slc (.pair (.pair .str (.pair (.int .i64) .unit)) (.slc (.pair .nd (.pair (.int .i64) .unit)))))]]) := fun p => zset_Set_Len_M p.1 p.2.1 p.2.2
def zset_Set_Len_C : Con := ⟨3, zset_Set_Len_T, zset_Set_Len_O, stdCn [.nd, (.slc (.pair .str (.int .i64))), (.slc (.pair (.pair .str (.pair (.int .i64) .unit)) (.slc (.pair .nd (.pair (.int .i64) .unit)))))] [[(.int .i64), .nd, (.slc (.pair .str (.int .i64))), (.slc (.pair (.pair .str (.pair (.int .i64) .unit)) (.slc (.pair .nd (.pair (.int .i64) .unit)))))]] zset_Set_Len_MM, []⟩

def zset_Set_place_n_T : Tm := ⟨[(0, false, [.nilp]), (1, false, [.hole (.int .i64)])], 2, [.ar (.pair .str (.pair (.int .i64) .unit)) (.pair .nd (.pair (.int .i64) .unit))]⟩
def zset_Set_place_n_O : List (Ex × Tm) := [(.ret, ⟨[(0, false, [.nilp])], 1, [.ar (.pair .str (.pair (.int .i64) .unit)) (.pair .nd (.pair (.int .i64) .unit))]⟩)]
def zset_Set_place_n_M (s1 : Int) (a0 : List (((List UInt8) × Int × Unit) × List ((Option Nat) × Int × Unit))) : Option ((List (((List UInt8) × Int × Unit) × List ((Option Nat) × Int × Unit)))) :=
  if decide (s1 < (0 : Int)) = true then
    some (a0)
  else
  Option.bind (zset_Set_Len_n_P a0) fun (v0 : (Int × (List (((List UInt8) × (Int × Unit)) × (List ((Option Nat) × (Int × Unit))))))) =>
  if decide (s1 ≥ v0.fst) = true then
    some (v0.snd)
  else
  none -- STUCK after t17 nilCheck [R0 R1 R2 R2 R3]
def zset_Set_place_n_P : Int × (List (((List UInt8) × Int × Unit) × List ((Option Nat) × Int × Unit))) → Option ((List (((List UInt8) × Int × Unit) × List ((Option Nat) × Int × Unit)))) := fun p => zset_Set_place_n_M p.1 p.2
def zset_Set_place_n_MM : HL [(.int .i64), (.slc (.pair (.pair .str (.pair (.int .i64) .unit)) (.slc (.pair .nd (.pair (.int .i64) .unit)))))] → Option (SumL [[(.slc (.pair (.pair .str (.pair (.int .i64) .unit)) (.slc (.pair .nd (.pair (.int .i64) .unit)))))]]) := fun p => zset_Set_place_n_M p.1 p.2
def zset_Set_place_n_C : Con := ⟨1, zset_Set_place_n_T, zset_Set_place_n_O, stdCn [(.int .i64), (.slc (.pair (.pair .str (.pair (.int .i64) .unit)) (.slc (.pair .nd (.pair (.int .i64) .unit)))))] [[(.slc (.pair (.pair .str (.pair (.int .i64) .unit)) (.slc (.pair .nd (.pair (.int .i64) .unit)))))]] zset_Set_place_n_MM, []⟩

def zset_Set_place_e_L2_T : Tm := ⟨[(5, false, [.hole .nd]), (6, false, [.hole (.int .i64)]), (7, false, [.hole (.int .i64)])], 66, [.ar (.pair .str (.pair (.int .i64) .unit)) (.pair .nd (.pair (.int .i64) .unit))]⟩
def zset_Set_place_e_L2_O : List (Ex × Tm) := [(.exit 2, ⟨[(5, false, [.hole .nd]), (6, false, [.hole (.int .i64)]), (7, false, [.hole (.int .i64)])], 66, [.ar (.pair .str (.pair (.int .i64) .unit)) (.pair .nd (.pair (.int .i64) .unit))]⟩)]
def zset_Set_place_e_L2 (s5 : Option Nat) (s6 : Int) (s7 : Int) (a0 : List (((List UInt8) × Int × Unit) × List ((Option Nat) × Int × Unit))) : Option (((Option Nat) × Int × Int × (List (((List UInt8) × Int × Unit) × List ((Option Nat) × Int × Unit)))) ⊕ (((Option Nat) × Int × Int × (List (((List UInt8) × Int × Unit) × List ((Option Nat) × Int × Unit)))))) :=
  Option.bind (s5) fun (v0 : Nat) =>
  Option.bind (inb (List.length (ndR a0 v0)) s7) fun _ =>
  if (!Option.isNone (List.getD (ndR a0 v0) (Int.toNat s7) (none, (0 : Int), ())).fst) = true then
    Option.bind (s5) fun (v2 : Nat) =>
    Option.bind (inb (List.length (ndR a0 v2)) s7) fun _ =>
    if decide ((List.getD (ndR a0 v2) (Int.toNat s7) (none, (0 : Int), ())).snd.fst ≤ s6) = true then
      Option.bind (s5) fun (v4 : Nat) =>
      Option.bind (inb (List.length (ndR a0 v4)) s7) fun _ =>
      Option.bind (s5) fun (v6 : Nat) =>
      Option.bind (inb (List.length (ndR a0 v6)) s7) fun _ =>
      some (.inl ((List.getD (ndR a0 v6) (Int.toNat s7) (none, (0 : Int), ())).fst, IntKind.wrap IntKind.i64 (s6 - (List.getD (ndR a0 v4) (Int.toNat s7) (none, (0 : Int), ())).snd.fst), s7, a0))
    else
    some (.inr (s5, s6, s7, a0))
  else
  some (.inr (s5, s6, s7, a0))
def zset_Set_place_e_L2_P : (Option Nat) × Int × Int × (List (((List UInt8) × Int × Unit) × List ((Option Nat) × Int × Unit))) → Option (((Option Nat) × Int × Int × (List (((List UInt8) × Int × Unit) × List ((Option Nat) × Int × Unit)))) ⊕ (((Option Nat) × Int × Int × (List (((List UInt8) × Int × Unit) × List ((Option Nat) × Int × Unit)))))) := fun p => zset_Set_place_e_L2 p.1 p.2.1 p.2.2.1 p.2.2.2
def zset_Set_place_e_L2_MM : HL [.nd, (.int .i64), (.int .i64), (.slc (.pair (.pair .str (.pair (.int .i64) .unit)) (.slc (.pair .nd (.pair (.int .i64) .unit)))))] → Option (HL [.nd, (.int .i64), (.int .i64), (.slc (.pair (.pair .str (.pair (.int .i64) .unit)) (.slc (.pair .nd (.pair (.int .i64) .unit)))))] ⊕ SumL [[.nd, (.int .i64), (.int .i64), (.slc (.pair (.pair .str (.pair (.int .i64) .unit)) (.slc (.pair .nd (.pair (.int .i64) .unit)))))]]) := fun p => zset_Set_place_e_L2 p.1 p.2.1 p.2.2.1 p.2.2.2
def zset_Set_place_e_L2_C : Con := ⟨1, zset_Set_place_e_L2_T, zset_Set_place_e_L2_O, stdCn [.nd, (.int .i64), (.int .i64), (.slc (.pair (.pair .str (.pair (.int .i64) .unit)) (.slc (.pair .nd (.pair (.int .i64) .unit)))))] [[.nd, (.int .i64), (.int .i64), (.slc (.pair (.pair .str (.pair (.int .i64) .unit)) (.slc (.pair .nd (.pair (.int .i64) .unit)))))]] (loop zset_Set_place_e_L2_MM), []⟩
def zset_Set_place_e_L1_T : Tm := ⟨[(5, false, [.hole .nd]), (6, false, [.hole (.int .i64)]), (7, false, [.hole (.int .i64)])], 66, [.ar (.pair .str (.pair (.int .i64) .unit)) (.pair .nd (.pair (.int .i64) .unit))]⟩
def zset_Set_place_e_L1_O : List (Ex × Tm) := [(.exit 0, ⟨[(5, false, [.hole .nd])], 66, [.ar (.pair .str (.pair (.int .i64) .unit)) (.pair .nd (.pair (.int .i64) .unit))]⟩)]
def zset_Set_place_e_L1 (s5 : Option Nat) (s6 : Int) (s7 : Int) (a0 : List (((List UInt8) × Int × Unit) × List ((Option Nat) × Int × Unit))) : Option (((Option Nat) × Int × Int × (List (((List UInt8) × Int × Unit) × List ((Option Nat) × Int × Unit)))) ⊕ (((Option Nat) × (List (((List UInt8) × Int × Unit) × List ((Option Nat) × Int × Unit)))))) :=
  if decide (s7 ≥ (0 : Int)) = true then
    Option.bind (loop zset_Set_place_e_L2_P (s5, s6, s7, a0)) fun (v0 : ((Option Nat) × (Int × (Int × (List (((List UInt8) × (Int × Unit)) × (List ((Option Nat) × (Int × Unit))))))))) =>
    some (.inl (v0.fst, v0.snd.fst, IntKind.wrap IntKind.i64 (v0.snd.snd.fst - (1 : Int)), v0.snd.snd.snd))
  else
  some (.inr (s5, a0))
def zset_Set_place_e_L1_P : (Option Nat) × Int × Int × (List (((List UInt8) × Int × Unit) × List ((Option Nat) × Int × Unit))) → Option (((Option Nat) × Int × Int × (List (((List UInt8) × Int × Unit) × List ((Option Nat) × Int × Unit)))) ⊕ (((Option Nat) × (List (((List UInt8) × Int × Unit) × List ((Option Nat) × Int × Unit)))))) := fun p => zset_Set_place_e_L1 p.1 p.2.1 p.2.2.1 p.2.2.2
def zset_Set_place_e_L1_MM : HL [.nd, (.int .i64), (.int .i64), (.slc (.pair (.pair .str (.pair (.int .i64) .unit)) (.slc (.pair .nd (.pair (.int .i64) .unit)))))] → Option (HL [.nd, (.int .i64), (.int .i64), (.slc (.pair (.pair .str (.pair (.int .i64) .unit)) (.slc (.pair .nd (.pair (.int .i64) .unit)))))] ⊕ SumL [[.nd, (.slc (.pair (.pair .str (.pair (.int .i64) .unit)) (.slc (.pair .nd (.pair (.int .i64) .unit)))))]]) := fun p => zset_Set_place_e_L1 p.1 p.2.1 p.2.2.1 p.2.2.2
def zset_Set_place_e_L1_C : Con := ⟨1, zset_Set_place_e_L1_T, zset_Set_place_e_L1_O, stdCn [.nd, (.int .i64), (.int .i64), (.slc (.pair (.pair .str (.pair (.int .i64) .unit)) (.slc (.pair .nd (.pair (.int .i64) .unit)))))] [[.nd, (.slc (.pair (.pair .str (.pair (.int .i64) .unit)) (.slc (.pair .nd (.pair (.int .i64) .unit)))))]] (loop zset_Set_place_e_L1_MM), []⟩
def zset_Set_place_e_T : Tm := ⟨[(0, false, [.ptr 0 0]), (1, false, [.hole (.int .i64)])], 2, [.box [.hole .nd, .nilm], .ar (.pair .str (.pair (.int .i64) .unit)) (.pair .nd (.pair (.int .i64) .unit))]⟩
def zset_Set_place_e_O : List (Ex × Tm) := [(.ret, ⟨[(0, false, [.hole .nd])], 1, [.box [.hole .nd, .nilm], .ar (.pair .str (.pair (.int .i64) .unit)) (.pair .nd (.pair (.int .i64) .unit))]⟩)]
def zset_Set_place_e_M (s1 : Int) (m0 : Option Nat) (a1 : List (((List UInt8) × Int × Unit) × List ((Option Nat) × Int × Unit))) : Option ((Option Nat) × (Option Nat) × (List (((List UInt8) × Int × Unit) × List ((Option Nat) × Int × Unit)))) :=
  if decide (s1 < (0 : Int)) = true then
    some (none, m0, a1)
  else
  Option.bind (zset_Set_Len_e_P (m0, a1)) fun (v0 : (Int × ((Option Nat) × (List (((List UInt8) × (Int × Unit)) × (List ((Option Nat) × (Int × Unit)))))))) =>
  if decide (s1 ≥ v0.fst) = true then
    some (none, v0.snd.fst, v0.snd.snd)
  else
  Option.bind (loop zset_Set_place_e_L1_P (v0.snd.fst, IntKind.wrap IntKind.i64 (s1 + (1 : Int)), (11 : Int), v0.snd.snd)) fun (v1 : ((Option Nat) × (List (((List UInt8) × (Int × Unit)) × (List ((Option Nat) × (Int × Unit))))))) =>
  some (v1.fst, v0.snd.fst, v1.snd)
def zset_Set_place_e_P : Int × (Option Nat) × (List (((List UInt8) × Int × Unit) × List ((Option Nat) × Int × Unit))) → Option ((Option Nat) × (Option Nat) × (List (((List UInt8) × Int × Unit) × List ((Option Nat) × Int × Unit)))) := fun p => zset_Set_place_e_M p.1 p.2.1 p.2.2
def zset_Set_place_e_MM : HL [(.int .i64), .nd, (.slc (.pair (.pair .str (.pair (.int .i64) .unit)) (.slc (.pair .nd (.pair (.int .i64) .unit)))))] → Option (SumL [[.nd, .nd, (.slc (.pair (.pair .str (.pair (.int .i64) .unit)) (.slc (.pair .nd (.pair (.int .i64) .unit)))))]]) := fun p => zset_Set_place_e_M p.1 p.2.1 p.2.2
def zset_Set_place_e_C : Con := ⟨2, zset_Set_place_e_T, zset_Set_place_e_O, stdCn [(.int .i64), .nd, (.slc (.pair (.pair .str (.pair (.int .i64) .unit)) (.slc (.pair .nd (.pair (.int .i64) .unit)))))] [[.nd, .nd, (.slc (.pair (.pair .str (.pair (.int .i64) .unit)) (.slc (.pair .nd (.pair (.int .i64) .unit)))))]] zset_Set_place_e_MM, []⟩

def zset_Set_place_L2_T : Tm := ⟨[(5, false, [.hole .nd]), (6, false, [.hole (.int .i64)]), (7, false, [.hole (.int .i64)])], 66, [.ar (.pair .str (.pair (.int .i64) .unit)) (.pair .nd (.pair (.int .i64) .unit))]⟩
def zset_Set_place_L2_O : List (Ex × Tm) := [(.exit 2, ⟨[(5, false, [.hole .nd]), (6, false, [.hole (.int .i64)]), (7, false, [.hole (.int .i64)])], 66, [.ar (.pair .str (.pair (.int .i64) .unit)) (.pair .nd (.pair (.int .i64) .unit))]⟩)]
def zset_Set_place_L2 (s5 : Option Nat) (s6 : Int) (s7 : Int) (a0 : List (((List UInt8) × Int × Unit) × List ((Option Nat) × Int × Unit))) : Option (((Option Nat) × Int × Int × (List (((List UInt8) × Int × Unit) × List ((Option Nat) × Int × Unit)))) ⊕ (((Option Nat) × Int × Int × (List (((List UInt8) × Int × Unit) × List ((Option Nat) × Int × Unit)))))) :=
  Option.bind (s5) fun (v0 : Nat) =>
  Option.bind (inb (List.length (ndR a0 v0)) s7) fun _ =>
  if (!Option.isNone (List.getD (ndR a0 v0) (Int.toNat s7) (none, (0 : Int), ())).fst) = true then
    Option.bind (s5) fun (v2 : Nat) =>
    Option.bind (inb (List.length (ndR a0 v2)) s7) fun _ =>
    if decide ((List.getD (ndR a0 v2) (Int.toNat s7) (none, (0 : Int), ())).snd.fst ≤ s6) = true then
      Option.bind (s5) fun (v4 : Nat) =>
      Option.bind (inb (List.length (ndR a0 v4)) s7) fun _ =>
      Option.bind (s5) fun (v6 : Nat) =>
      Option.bind (inb (List.length (ndR a0 v6)) s7) fun _ =>
      some (.inl ((List.getD (ndR a0 v6) (Int.toNat s7) (none, (0 : Int), ())).fst, IntKind.wrap IntKind.i64 (s6 - (List.getD (ndR a0 v4) (Int.toNat s7) (none, (0 : Int), ())).snd.fst), s7, a0))
    else
    some (.inr (s5, s6, s7, a0))
  else
  some (.inr (s5, s6, s7, a0))
def zset_Set_place_L2_P : (Option Nat) × Int × Int × (List (((List UInt8) × Int × Unit) × List ((Option Nat) × Int × Unit))) → Option (((Option Nat) × Int × Int × (List (((List UInt8) × Int × Unit) × List ((Option Nat) × Int × Unit)))) ⊕ (((Option Nat) × Int × Int × (List (((List UInt8) × Int × Unit) × List ((Option Nat) × Int × Unit)))))) := fun p => zset_Set_place_L2 p.1 p.2.1 p.2.2.1 p.2.2.2
def zset_Set_place_L2_MM : HL [.nd, (.int .i64), (.int .i64), (.slc (.pair (.pair .str (.pair (.int .i64) .unit)) (.slc (.pair .nd (.pair (.int .i64) .unit)))))] → Option (HL [.nd, (.int .i64), (.int .i64), (.slc (.pair (.pair .str (.pair (.int .i64) .unit)) (.slc (.pair .nd (.pair (.int .i64) .unit)))))] ⊕ SumL [[.nd, (.int .i64), (.int .i64), (.slc (.pair (.pair .str (.pair (.int .i64) .unit)) (.slc (.pair .nd (.pair (.int .i64) .unit)))))]]) := fun p => zset_Set_place_L2 p.1 p.2.1 p.2.2.1 p.2.2.2
def zset_Set_place_L2_C : Con := ⟨1, zset_Set_place_L2_T, zset_Set_place_L2_O, stdCn [.nd, (.int .i64), (.int .i64), (.slc (.pair (.pair .str (.pair (.int .i64) .unit)) (.slc (.pair .nd (.pair (.int .i64) .unit)))))] [[.nd, (.int .i64), (.int .i64), (.slc (.pair (.pair .str (.pair (.int .i64) .unit)) (.slc (.pair .nd (.pair (.int .i64) .unit)))))]] (loop zset_Set_place_L2_MM), []⟩
def zset_Set_place_L1_T : Tm := ⟨[(5, false, [.hole .nd]), (6, false, [.hole (.int .i64)]), (7, false, [.hole (.int .i64)])], 66, [.ar (.pair .str (.pair (.int .i64) .unit)) (.pair .nd (.pair (.int .i64) .unit))]⟩
def zset_Set_place_L1_O : List (Ex × Tm) := [(.exit 0, ⟨[(5, false, [.hole .nd])], 66, [.ar (.pair .str (.pair (.int .i64) .unit)) (.pair .nd (.pair (.int .i64) .unit))]⟩)]
def zset_Set_place_L1 (s5 : Option Nat) (s6 : Int) (s7 : Int) (a0 : List (((List UInt8) × Int × Unit) × List ((Option Nat) × Int × Unit))) : Option (((Option Nat) × Int × Int × (List (((List UInt8) × Int × Unit) × List ((Option Nat) × Int × Unit)))) ⊕ (((Option Nat) × (List (((List UInt8) × Int × Unit) × List ((Option Nat) × Int × Unit)))))) :=
  if decide (s7 ≥ (0 : Int)) = true then
    Option.bind (loop zset_Set_place_L2_P (s5, s6, s7, a0)) fun (v0 : ((Option Nat) × (Int × (Int × (List (((List UInt8) × (Int × Unit)) × (List ((Option Nat) × (Int × Unit))))))))) =>
    some (.inl (v0.fst, v0.snd.fst, IntKind.wrap IntKind.i64 (v0.snd.snd.fst - (1 : Int)), v0.snd.snd.snd))
  else
  some (.inr (s5, a0))
def zset_Set_place_L1_P : (Option Nat) × Int × Int × (List (((List UInt8) × Int × Unit) × List ((Option Nat) × Int × Unit))) → Option (((Option Nat) × Int × Int × (List (((List UInt8) × Int × Unit) × List ((Option Nat) × Int × Unit)))) ⊕ (((Option Nat) × (List (((List UInt8) × Int × Unit) × List ((Option Nat) × Int × Unit)))))) := fun p => zset_Set_place_L1 p.1 p.2.1 p.2.2.1 p.2.2.2
def zset_Set_place_L1_MM : HL [.nd, (.int .i64), (.int .i64), (.slc (.pair (.pair .str (.pair (.int .i64) .unit)) (.slc (.pair .nd (.pair (.int .i64) .unit)))))] → Option (HL [.nd, (.int .i64), (.int .i64), (.slc (.pair (.pair .str (.pair (.int .i64) .unit)) (.slc (.pair .nd (.pair (.int .i64) .unit)))))] ⊕ SumL [[.nd, (.slc (.pair (.pair .str (.pair (.int .i64) .unit)) (.slc (.pair .nd (.pair (.int .i64) .unit)))))]]) := fun p => zset_Set_place_L1 p.1 p.2.1 p.2.2.1 p.2.2.2
def zset_Set_place_L1_C : Con := ⟨1, zset_Set_place_L1_T, zset_Set_place_L1_O, stdCn [.nd, (.int .i64), (.int .i64), (.slc (.pair (.pair .str (.pair (.int .i64) .unit)) (.slc (.pair .nd (.pair (.int .i64) .unit)))))] [[.nd, (.slc (.pair (.pair .str (.pair (.int .i64) .unit)) (.slc (.pair .nd (.pair (.int .i64) .unit)))))]] (loop zset_Set_place_L1_MM), []⟩
def zset_Set_place_T : Tm := ⟨[(0, false, [.ptr 0 0]), (1, false, [.hole (.int .i64)])], 2, [.box [.hole .nd, .mpl 1], .mp .str (.int .i64), .ar (.pair .str (.pair (.int .i64) .unit)) (.pair .nd (.pair (.int .i64) .unit))]⟩
def zset_Set_place_O : List (Ex × Tm) := [(.ret, ⟨[(0, false, [.hole .nd])], 1, [.box [.hole .nd, .mpl 1], .mp .str (.int .i64), .ar (.pair .str (.pair (.int .i64) .unit)) (.pair .nd (.pair (.int .i64) .unit))]⟩)]
def zset_Set_place_M (s1 : Int) (m0 : Option Nat) (d1 : List ((List UInt8) × Int)) (a2 : List (((List UInt8) × Int × Unit) × List ((Option Nat) × Int × Unit))) : Option ((Option Nat) × (Option Nat) × (List ((List UInt8) × Int)) × (List (((List UInt8) × Int × Unit) × List ((Option Nat) × Int × Unit)))) :=
  if decide (s1 < (0 : Int)) = true then
    some (none, m0, d1, a2)
  else
  Option.bind (zset_Set_Len_P (m0, d1, a2)) fun (v0 : (Int × ((Option Nat) × ((List ((List UInt8) × Int)) × (List (((List UInt8) × (Int × Unit)) × (List ((Option Nat) × (Int × Unit))))))))) =>
  if decide (s1 ≥ v0.fst) = true then
    some (none, v0.snd.fst, v0.snd.snd.fst, v0.snd.snd.snd)
  else
  Option.bind (loop zset_Set_place_L1_P (v0.snd.fst, IntKind.wrap IntKind.i64 (s1 + (1 : Int)), (11 : Int), v0.snd.snd.snd)) fun (v1 : ((Option Nat) × (List (((List UInt8) × (Int × Unit)) × (List ((Option Nat) × (Int × Unit))))))) =>
  some (v1.fst, v0.snd.fst, v0.snd.snd.fst, v1.snd)
def zset_Set_place_P : Int × (Option Nat) × (List ((List UInt8) × Int)) × (List (((List UInt8) × Int × Unit) × List ((Option Nat) × Int × Unit))) → Option ((Option Nat) × (Option Nat) × (List ((List UInt8) × Int)) × (List (((List UInt8) × Int × Unit) × List ((Option Nat) × Int × Unit)))) := fun p => zset_Set_place_M p.1 p.2.1 p.2.2.1 p.2.2.2
def zset_Set_place_MM : HL [(.int .i64), .nd, (.slc (.pair .str (.int .i64))), (.slc (.pair (.pair .str (.pair (.int .i64) .unit)) (.slc (.pair .nd (.pair (.int .i64) .unit)))))] → Option (SumL [[.nd, .nd, (.slc (.pair .str (.int .i64))), (.slc (.pair (.pair .str (.pair (.int .i64) .unit)) (.slc (.pair .nd (.pair (.int .i64) .unit)))))]]) := fun p => zset_Set_place_M p.1 p.2.1 p.2.2.1 p.2.2.2
def zset_Set_place_C : Con := ⟨3, zset_Set_place_T, zset_Set_place_O, stdCn [(.int .i64), .nd, (.slc (.pair .str (.int .i64))), (.slc (.pair (.pair .str (.pair (.int .i64) .unit)) (.slc (.pair .nd (.pair (.int .i64) .unit)))))] [[.nd, .nd, (.slc (.pair .str (.int .i64))), (.slc (.pair (.pair .str (.pair (.int .i64) .unit)) (.slc (.pair .nd (.pair (.int .i64) .unit)))))]] zset_Set_place_MM, []⟩

def zset_Set_Range_n_L1_T : Tm := ⟨[(1, false, [.hole (.int .i64)]), (2, false, [.hole (.int .i64)]), (7, false, [.nils]), (8, false, [.nilp])], 44, [.ar (.pair .str (.pair (.int .i64) .unit)) (.pair .nd (.pair (.int .i64) .unit))]⟩
def zset_Set_Range_n_L1_O : List (Ex × Tm) := [(.exit 0, ⟨[(7, false, [.nils])], 44, [.ar (.pair .str (.pair (.int .i64) .unit)) (.pair .nd (.pair (.int .i64) .unit))]⟩)]
def zset_Set_Range_n_L1 (s1 : Int) (s2 : Int) (a0 : List (((List UInt8) × Int × Unit) × List ((Option Nat) × Int × Unit))) : Option ((Int × Int × (List (((List UInt8) × Int × Unit) × List ((Option Nat) × Int × Unit)))) ⊕ (((List (((List UInt8) × Int × Unit) × List ((Option Nat) × Int × Unit)))))) :=
  some (.inr (a0))
def zset_Set_Range_n_L1_P : Int × Int × (List (((List UInt8) × Int × Unit) × List ((Option Nat) × Int × Unit))) → Option ((Int × Int × (List (((List UInt8) × Int × Unit) × List ((Option Nat) × Int × Unit)))) ⊕ (((List (((List UInt8) × Int × Unit) × List ((Option Nat) × Int × Unit)))))) := fun p => zset_Set_Range_n_L1 p.1 p.2.1 p.2.2
def zset_Set_Range_n_L1_MM : HL [(.int .i64), (.int .i64), (.slc (.pair (.pair .str (.pair (.int .i64) .unit)) (.slc (.pair .nd (.pair (.int .i64) .unit)))))] → Option (HL [(.int .i64), (.int .i64), (.slc (.pair (.pair .str (.pair (.int .i64) .unit)) (.slc (.pair .nd (.pair (.int .i64) .unit)))))] ⊕ SumL [[(.slc (.pair (.pair .str (.pair (.int .i64) .unit)) (.slc (.pair .nd (.pair (.int .i64) .unit)))))]]) := fun p => zset_Set_Range_n_L1 p.1 p.2.1 p.2.2
def zset_Set_Range_n_L1_C : Con := ⟨1, zset_Set_Range_n_L1_T, zset_Set_Range_n_L1_O, stdCn [(.int .i64), (.int .i64), (.slc (.pair (.pair .str (.pair (.int .i64) .unit)) (.slc (.pair .nd (.pair (.int .i64) .unit)))))] [[(.slc (.pair (.pair .str (.pair (.int .i64) .unit)) (.slc (.pair .nd (.pair (.int .i64) .unit)))))]] (loop zset_Set_Range_n_L1_MM), []⟩
def zset_Set_Range_n_T : Tm := ⟨[(0, false, [.nilp]), (1, false, [.hole (.int .i64)]), (2, false, [.hole (.int .i64)])], 3, [.ar (.pair .str (.pair (.int .i64) .unit)) (.pair .nd (.pair (.int .i64) .unit))]⟩
def zset_Set_Range_n_O : List (Ex × Tm) := [(.ret, ⟨[(0, false, [.nils])], 1, [.ar (.pair .str (.pair (.int .i64) .unit)) (.pair .nd (.pair (.int .i64) .unit))]⟩)]
def zset_Set_Range_n_M (s1 : Int) (s2 : Int) (a0 : List (((List UInt8) × Int × Unit) × List ((Option Nat) × Int × Unit))) : Option ((List (((List UInt8) × Int × Unit) × List ((Option Nat) × Int × Unit)))) :=
  Option.bind (zset_Set_Len_n_P a0) fun (v0 : (Int × (List (((List UInt8) × (Int × Unit)) × (List ((Option Nat) × (Int × Unit))))))) =>
  Option.bind (zset_Set_place_n_P (if (0 : Int) > s1 then (0 : Int) else s1, v0.snd)) fun (v1 : (List (((List UInt8) × (Int × Unit)) × (List ((Option Nat) × (Int × Unit)))))) =>
  Option.bind (loop zset_Set_Range_n_L1_P (if (0 : Int) > s1 then (0 : Int) else s1, if v0.fst < if (0 : Int) > s2 then (0 : Int) else s2 then v0.fst else if (0 : Int) > s2 then (0 : Int) else s2, v1)) fun (v2 : (List (((List UInt8) × (Int × Unit)) × (List ((Option Nat) × (Int × Unit)))))) =>
  some (v2)
def zset_Set_Range_n_P : Int × Int × (List (((List UInt8) × Int × Unit) × List ((Option Nat) × Int × Unit))) → Option ((List (((List UInt8) × Int × Unit) × List ((Option Nat) × Int × Unit)))) := fun p => zset_Set_Range_n_M p.1 p.2.1 p.2.2
def zset_Set_Range_n_MM : HL [(.int .i64), (.int .i64), (.slc (.pair (.pair .str (.pair (.int .i64) .unit)) (.slc (.pair .nd (.pair (.int .i64) .unit)))))] → Option (SumL [[(.slc (.pair (.pair .str (.pair (.int .i64) .unit)) (.slc (.pair .nd (.pair (.int .i64) .unit)))))]]) := fun p => zset_Set_Range_n_M p.1 p.2.1 p.2.2
def zset_Set_Range_n_C : Con := ⟨1, zset_Set_Range_n_T, zset_Set_Range_n_O, stdCn [(.int .i64), (.int .i64), (.slc (.pair (.pair .str (.pair (.int .i64) .unit)) (.slc (.pair .nd (.pair (.int .i64) .unit)))))] [[(.slc (.pair (.pair .str (.pair (.int .i64) .unit)) (.slc (.pair .nd (.pair (.int .i64) .unit)))))]] zset_Set_Range_n_MM, []⟩

def zset_Set_Range_e_L1_T : Tm := ⟨[(1, false, [.hole (.int .i64)]), (2, false, [.hole (.int .i64)]), (7, false, [.row 1]), (8, false, [.hole .nd])], 44, [.ar (.pair .str (.pair (.int .i64) .unit)) (.pair .nd (.pair (.int .i64) .unit)), .row (.pair .str (.pair (.int .i64) .unit))]⟩
def zset_Set_Range_e_L1_O : List (Ex × Tm) := [(.exit 0, ⟨[(7, false, [.row 1])], 44, [.ar (.pair .str (.pair (.int .i64) .unit)) (.pair .nd (.pair (.int .i64) .unit)), .row (.pair .str (.pair (.int .i64) .unit))]⟩)]
def zset_Set_Range_e_L1 (s1 : Int) (s2 : Int) (s8 : Option Nat) (a0 : List (((List UInt8) × Int × Unit) × List ((Option Nat) × Int × Unit))) (r1 : List ((List UInt8) × Int × Unit)) : Option ((Int × Int × (Option Nat) × (List (((List UInt8) × Int × Unit) × List ((Option Nat) × Int × Unit))) × (List ((List UInt8) × Int × Unit))) ⊕ (((List (((List UInt8) × Int × Unit) × List ((Option Nat) × Int × Unit))) × (List ((List UInt8) × Int × Unit))))) :=
  if (!Option.isNone s8) = true then
    if decide ((((List.length r1) : Nat) : Int) < IntKind.wrap IntKind.i64 (s2 - s1)) = true then
      Option.bind (s8) fun (v0 : Nat) =>
      Option.bind (room (24 : Nat) (List.length r1 + List.length [((ndX ([], (0 : Int), ()) a0 v0).fst, (ndX ([], (0 : Int), ()) a0 v0).snd.fst, ())])) fun _ =>
      Option.bind (s8) fun (v2 : Nat) =>
      Option.bind (inb (List.length (ndR a0 v2)) (0 : Int)) fun _ =>
      some (.inl (s1, s2, (List.getD (ndR a0 v2) (nat_lit 0) (none, (0 : Int), ())).fst, a0, r1 ++ [((ndX ([], (0 : Int), ()) a0 v0).fst, (ndX ([], (0 : Int), ()) a0 v0).snd.fst, ())]))
    else
    some (.inr (a0, r1))
  else
  some (.inr (a0, r1))
def zset_Set_Range_e_L1_P : Int × Int × (Option Nat) × (List (((List UInt8) × Int × Unit) × List ((Option Nat) × Int × Unit))) × (List ((List UInt8) × Int × Unit)) → Option ((Int × Int × (Option Nat) × (List (((List UInt8) × Int × Unit) × List ((Option Nat) × Int × Unit))) × (List ((List UInt8) × Int × Unit))) ⊕ (((List (((List UInt8) × Int × Unit) × List ((Option Nat) × Int × Unit))) × (List ((List UInt8) × Int × Unit))))) := fun p => zset_Set_Range_e_L1 p.1 p.2.1 p.2.2.1 p.2.2.2.1 p.2.2.2.2
def zset_Set_Range_e_L1_MM : HL [(.int .i64), (.int .i64), .nd, (.slc (.pair (.pair .str (.pair (.int .i64) .unit)) (.slc (.pair .nd (.pair (.int .i64) .unit))))), (.slc (.pair .str (.pair (.int .i64) .unit)))] → Option (HL [(.int .i64), (.int .i64), .nd, (.slc (.pair (.pair .str (.pair (.int .i64) .unit)) (.slc (.pair .nd (.pair (.int .i64) .unit))))), (.slc (.pair .str (.pair (.int .i64) .unit)))] ⊕ SumL [[(.slc (.pair (.pair .str (.pair (.int .i64) .unit)) (.slc (.pair .nd (.pair (.int .i64) .unit))))), (.slc (.pair .str (.pair (.int .i64) .unit)))]]) := fun p => zset_Set_Range_e_L1 p.1 p.2.1 p.2.2.1 p.2.2.2.1 p.2.2.2.2
def zset_Set_Range_e_L1_C : Con := ⟨1, zset_Set_Range_e_L1_T, zset_Set_Range_e_L1_O, stdCn [(.int .i64), (.int .i64), .nd, (.slc (.pair (.pair .str (.pair (.int .i64) .unit)) (.slc (.pair .nd (.pair (.int .i64) .unit))))), (.slc (.pair .str (.pair (.int .i64) .unit)))] [[(.slc (.pair (.pair .str (.pair (.int .i64) .unit)) (.slc (.pair .nd (.pair (.int .i64) .unit))))), (.slc (.pair .str (.pair (.int .i64) .unit)))]] (loop zset_Set_Range_e_L1_MM), []⟩
def zset_Set_Range_e_T : Tm := ⟨[(0, false, [.ptr 0 0]), (1, false, [.hole (.int .i64)]), (2, false, [.hole (.int .i64)])], 3, [.box [.hole .nd, .nilm], .ar (.pair .str (.pair (.int .i64) .unit)) (.pair .nd (.pair (.int .i64) .unit))]⟩
def zset_Set_Range_e_O : List (Ex × Tm) := [(.ret, ⟨[(0, false, [.row 2])], 1, [.box [.hole .nd, .nilm], .ar (.pair .str (.pair (.int .i64) .unit)) (.pair .nd (.pair (.int .i64) .unit)), .row (.pair .str (.pair (.int .i64) .unit))]⟩)]
def zset_Set_Range_e_M (s1 : Int) (s2 : Int) (m0 : Option Nat) (a1 : List (((List UInt8) × Int × Unit) × List ((Option Nat) × Int × Unit))) : Option ((Option Nat) × (List (((List UInt8) × Int × Unit) × List ((Option Nat) × Int × Unit))) × (List ((List UInt8) × Int × Unit))) :=
  Option.bind (zset_Set_Len_e_P (m0, a1)) fun (v0 : (Int × ((Option Nat) × (List (((List UInt8) × (Int × Unit)) × (List ((Option Nat) × (Int × Unit)))))))) =>
  Option.bind (zset_Set_place_e_P (if (0 : Int) > s1 then (0 : Int) else s1, v0.snd.fst, v0.snd.snd)) fun (v1 : ((Option Nat) × ((Option Nat) × (List (((List UInt8) × (Int × Unit)) × (List ((Option Nat) × (Int × Unit)))))))) =>
  Option.bind (loop zset_Set_Range_e_L1_P (if (0 : Int) > s1 then (0 : Int) else s1, if v0.fst < if (0 : Int) > s2 then (0 : Int) else s2 then v0.fst else if (0 : Int) > s2 then (0 : Int) else s2, v1.fst, v1.snd.snd, [])) fun (v2 : ((List (((List UInt8) × (Int × Unit)) × (List ((Option Nat) × (Int × Unit))))) × (List ((List UInt8) × (Int × Unit))))) =>
  some (v1.snd.fst, v2.fst, v2.snd)
def zset_Set_Range_e_P : Int × Int × (Option Nat) × (List (((List UInt8) × Int × Unit) × List ((Option Nat) × Int × Unit))) → Option ((Option Nat) × (List (((List UInt8) × Int × Unit) × List ((Option Nat) × Int × Unit))) × (List ((List UInt8) × Int × Unit))) := fun p => zset_Set_Range_e_M p.1 p.2.1 p.2.2.1 p.2.2.2
def zset_Set_Range_e_MM : HL [(.int .i64), (.int .i64), .nd, (.slc (.pair (.pair .str (.pair (.int .i64) .unit)) (.slc (.pair .nd (.pair (.int .i64) .unit)))))] → Option (SumL [[.nd, (.slc (.pair (.pair .str (.pair (.int .i64) .unit)) (.slc (.pair .nd (.pair (.int .i64) .unit))))), (.slc (.pair .str (.pair (.int .i64) .unit)))]]) := fun p => zset_Set_Range_e_M p.1 p.2.1 p.2.2.1 p.2.2.2
def zset_Set_Range_e_C : Con := ⟨2, zset_Set_Range_e_T, zset_Set_Range_e_O, stdCn [(.int .i64), (.int .i64), .nd, (.slc (.pair (.pair .str (.pair (.int .i64) .unit)) (.slc (.pair .nd (.pair (.int .i64) .unit)))))] [[.nd, (.slc (.pair (.pair .str (.pair (.int .i64) .unit)) (.slc (.pair .nd (.pair (.int .i64) .unit))))), (.slc (.pair .str (.pair (.int .i64) .unit)))]] zset_Set_Range_e_MM, []⟩

def zset_Set_Range_L1_T : Tm := ⟨[(1, false, [.hole (.int .i64)]), (2, false, [.hole (.int .i64)]), (7, false, [.row 1]), (8, false, [.hole .nd])], 44, [.ar (.pair .str (.pair (.int .i64) .unit)) (.pair .nd (.pair (.int .i64) .unit)), .row (.pair .str (.pair (.int .i64) .unit))]⟩
def zset_Set_Range_L1_O : List (Ex × Tm) := [(.exit 0, ⟨[(7, false, [.row 1])], 44, [.ar (.pair .str (.pair (.int .i64) .unit)) (.pair .nd (.pair (.int .i64) .unit)), .row (.pair .str (.pair (.int .i64) .unit))]⟩)]
def zset_Set_Range_L1 (s1 : Int) (s2 : Int) (s8 : Option Nat) (a0 : List (((List UInt8) × Int × Unit) × List ((Option Nat) × Int × Unit))) (r1 : List ((List UInt8) × Int × Unit)) : Option ((Int × Int × (Option Nat) × (List (((List UInt8) × Int × Unit) × List ((Option Nat) × Int × Unit))) × (List ((List UInt8) × Int × Unit))) ⊕ (((List (((List UInt8) × Int × Unit) × List ((Option Nat) × Int × Unit))) × (List ((List UInt8) × Int × Unit))))) :=
  if (!Option.isNone s8) = true then
    if decide ((((List.length r1) : Nat) : Int) < IntKind.wrap IntKind.i64 (s2 - s1)) = true then
      Option.bind (s8) fun (v0 : Nat) =>
      Option.bind (room (24 : Nat) (List.length r1 + List.length [((ndX ([], (0 : Int), ()) a0 v0).fst, (ndX ([], (0 : Int), ()) a0 v0).snd.fst, ())])) fun _ =>
      Option.bind (s8) fun (v2 : Nat) =>
      Option.bind (inb (List.length (ndR a0 v2)) (0 : Int)) fun _ =>
      some (.inl (s1, s2, (List.getD (ndR a0 v2) (nat_lit 0) (none, (0 : Int), ())).fst, a0, r1 ++ [((ndX ([], (0 : Int), ()) a0 v0).fst, (ndX ([], (0 : Int), ()) a0 v0).snd.fst, ())]))
    else
    some (.inr (a0, r1))
  else
  some (.inr (a0, r1))
def zset_Set_Range_L1_P : Int × Int × (Option Nat) × (List (((List UInt8) × Int × Unit) × List ((Option Nat) × Int × Unit))) × (List ((List UInt8) × Int × Unit)) → Option ((Int × Int × (Option Nat) × (List (((List UInt8) × Int × Unit) × List ((Option Nat) × Int × Unit))) × (List ((List UInt8) × Int × Unit))) ⊕ (((List (((List UInt8) × Int × Unit) × List ((Option Nat) × Int × Unit))) × (List ((List UInt8) × Int × Unit))))) := fun p => zset_Set_Range_L1 p.1 p.2.1 p.2.2.1 p.2.2.2.1 p.2.2.2.2
def zset_Set_Range_L1_MM : HL [(.int .i64), (.int .i64), .nd, (.slc (.pair (.pair .str (.pair (.int .i64) .unit)) (.slc (.pair .nd (.pair (.int .i64) .unit))))), (.slc (.pair .str (.pair (.int .i64) .unit)))] → Option (HL [(.int .i64), (.int .i64), .nd, (.slc (.pair (.pair .str (.pair (.int .i64) .unit)) (.slc (.pair .nd (.pair (.int .i64) .unit))))), (.slc (.pair .str (.pair (.int .i64) .unit)))] ⊕ SumL [[(.slc (.pair (.pair .str (.pair (.int .i64) .unit)) (.slc (.pair .nd (.pair (.int .i64) .unit))))), (.slc (.pair .str (.pair (.int .i64) .unit)))]]) := fun p => zset_Set_Range_L1 p.1 p.2.1 p.2.2.1 p.2.2.2.1 p.2.2.2.2
def zset_Set_Range_L1_C : Con := ⟨1, zset_Set_Range_L1_T, zset_Set_Range_L1_O, stdCn [(.int .i64), (.int .i64), .nd, (.slc (.pair (.pair .str (.pair (.int .i64) .unit)) (.slc (.pair .nd (.pair (.int .i64) .unit))))), (.slc (.pair .str (.pair (.int .i64) .unit)))] [[(.slc (.pair (.pair .str (.pair (.int .i64) .unit)) (.slc (.pair .nd (.pair (.int .i64) .unit))))), (.slc (.pair .str (.pair (.int .i64) .unit)))]] (loop zset_Set_Range_L1_MM), []⟩
def zset_Set_Range_T : Tm := ⟨[(0, false, [.ptr 0 0]), (1, false, [.hole (.int .i64)]), (2, false, [.hole (.int .i64)])], 3, [.box [.hole .nd, .mpl 1], .mp .str (.int .i64), .ar (.pair .str (.pair (.int .i64) .unit)) (.pair .nd (.pair (.int .i64) .unit))]⟩
def zset_Set_Range_O : List (Ex × Tm) := [(.ret, ⟨[(0, false, [.row 3])], 1, [.box [.hole .nd, .mpl 1], .mp .str (.int .i64), .ar (.pair .str (.pair (.int .i64) .unit)) (.pair .nd (.pair (.int .i64) .unit)), .row (.pair .str (.pair (.int .i64) .unit))]⟩)]
def zset_Set_Range_M (s1 : Int) (s2 : Int) (m0 : Option Nat) (d1 : List ((List UInt8) × Int)) (a2 : List (((List UInt8) × Int × Unit) × List ((Option Nat) × Int × Unit))) : Option ((Option Nat) × (List ((List UInt8) × Int)) × (List (((List UInt8) × Int × Unit) × List ((Option Nat) × Int × Unit))) × (List ((List UInt8) × Int × Unit))) :=
  Option.bind (zset_Set_Len_P (m0, d1, a2)) fun (v0 : (Int × ((Option Nat) × ((List ((List UInt8) × Int)) × (List (((List UInt8) × (Int × Unit)) × (List ((Option Nat) × (Int × Unit))))))))) =>
  Option.bind (zset_Set_place_P (if (0 : Int) > s1 then (0 : Int) else s1, v0.snd.fst, v0.snd.snd.fst, v0.snd.snd.snd)) fun (v1 : ((Option Nat) × ((Option Nat) × ((List ((List UInt8) × Int)) × (List (((List UInt8) × (Int × Unit)) × (List ((Option Nat) × (Int × Unit))))))))) =>
  Option.bind (loop zset_Set_Range_L1_P (if (0 : Int) > s1 then (0 : Int) else s1, if v0.fst < if (0 : Int) > s2 then (0 : Int) else s2 then v0.fst else if (0 : Int) > s2 then (0 : Int) else s2, v1.fst, v1.snd.snd.snd, [])) fun (v2 : ((List (((List UInt8) × (Int × Unit)) × (List ((Option Nat) × (Int × Unit))))) × (List ((List UInt8) × (Int × Unit))))) =>
  some (v1.snd.fst, v1.snd.snd.fst, v2.fst, v2.snd)
def zset_Set_Range_P : Int × Int × (Option Nat) × (List ((List UInt8) × Int)) × (List (((List UInt8) × Int × Unit) × List ((Option Nat) × Int × Unit))) → Option ((Option Nat) × (List ((List UInt8) × Int)) × (List (((List UInt8) × Int × Unit) × List ((Option Nat) × Int × Unit))) × (List ((List UInt8) × Int × Unit))) := fun p => zset_Set_Range_M p.1 p.2.1 p.2.2.1 p.2.2.2.1 p.2.2.2.2
def zset_Set_Range_MM : HL [(.int .i64), (.int .i64), .nd, (.slc (.pair .str (.int .i64))), (.slc (.pair (.pair .str (.pair (.int .i64) .unit)) (.slc (.pair .nd (.pair (.int .i64) .unit)))))] → Option (SumL [[.nd, (.slc (.pair .str (.int .i64))), (.slc (.pair (.pair .str (.pair (.int .i64) .unit)) (.slc (.pair .nd (.pair (.int .i64) .unit))))), (.slc (.pair .str (.pair (.int .i64) .unit)))]]) := fun p => zset_Set_Range_M p.1 p.2.1 p.2.2.1 p.2.2.2.1 p.2.2.2.2
def zset_Set_Range_C : Con := ⟨3, zset_Set_Range_T, zset_Set_Range_O, stdCn [(.int .i64), (.int .i64), .nd, (.slc (.pair .str (.int .i64))), (.slc (.pair (.pair .str (.pair (.int .i64) .unit)) (.slc (.pair .nd (.pair (.int .i64) .unit)))))] [[.nd, (.slc (.pair .str (.int .i64))), (.slc (.pair (.pair .str (.pair (.int .i64) .unit)) (.slc (.pair .nd (.pair (.int .i64) .unit))))), (.slc (.pair .str (.pair (.int .i64) .unit)))]] zset_Set_Range_MM, []⟩

def zset_Set_Score_n_T : Tm := ⟨[(0, false, [.nilp]), (1, false, [.hole .str])], 2, [.ar (.pair .str (.pair (.int .i64) .unit)) (.pair .nd (.pair (.int .i64) .unit))]⟩
def zset_Set_Score_n_O : List (Ex × Tm) := [(.ret, ⟨[(0, false, [.hole (.int .i64)]), (1, false, [.hole .bool])], 2, [.ar (.pair .str (.pair (.int .i64) .unit)) (.pair .nd (.pair (.int .i64) .unit))]⟩)]
def zset_Set_Score_n_M (s1 : List UInt8) (a0 : List (((List UInt8) × Int × Unit) × List ((Option Nat) × Int × Unit))) : Option (Int × Bool × (List (((List UInt8) × Int × Unit) × List ((Option Nat) × Int × Unit)))) :=
  Option.bind (zset_Set_made_n_P a0) fun (v0 : (Bool × (List (((List UInt8) × (Int × Unit)) × (List ((Option Nat) × (Int × Unit))))))) =>
  if (!v0.fst) = true then
    some ((0 : Int), false, v0.snd)
  else
  none -- STUCK after t13 nilCheck [R0 R1 R2 R3]
def zset_Set_Score_n_P : (List UInt8) × (List (((List UInt8) × Int × Unit) × List ((Option Nat) × Int × Unit))) → Option (Int × Bool × (List (((List UInt8) × Int × Unit) × List ((Option Nat) × Int × Unit)))) := fun p => zset_Set_Score_n_M p.1 p.2
def zset_Set_Score_n_MM : HL [.str, (.slc (.pair (.pair .str (.pair (.int .i64) .unit)) (.slc (.pair .nd (.pair (.int .i64) .unit)))))] → Option (SumL [[(.int .i64), .bool, (.slc (.pair (.pair .str (.pair (.int .i64) .unit)) (.slc (.pair .nd (.pair (.int .i64) .unit)))))]]) := fun p => zset_Set_Score_n_M p.1 p.2
def zset_Set_Score_n_C : Con := ⟨1, zset_Set_Score_n_T, zset_Set_Score_n_O, stdCn [.str, (.slc (.pair (.pair .str (.pair (.int .i64) .unit)) (.slc (.pair .nd (.pair (.int .i64) .unit)))))] [[(.int .i64), .bool, (.slc (.pair (.pair .str (.pair (.int .i64) .unit)) (.slc (.pair .nd (.pair (.int .i64) .unit)))))]] zset_Set_Score_n_MM, []⟩

def zset_Set_Score_e_T : Tm := ⟨[(0, false, [.ptr 0 0]), (1, false, [.hole .str])], 2, [.box [.hole .nd, .nilm], .ar (.pair .str (.pair (.int .i64) .unit)) (.pair .nd (.pair (.int .i64) .unit))]⟩
def zset_Set_Score_e_O : List (Ex × Tm) := [(.ret, ⟨[(0, false, [.hole (.int .i64)]), (1, false, [.hole .bool])], 2, [.box [.hole .nd, .nilm], .ar (.pair .str (.pair (.int .i64) .unit)) (.pair .nd (.pair (.int .i64) .unit))]⟩)]
def zset_Set_Score_e_M (s1 : List UInt8) (m0 : Option Nat) (a1 : List (((List UInt8) × Int × Unit) × List ((Option Nat) × Int × Unit))) : Option (Int × Bool × (Option Nat) × (List (((List UInt8) × Int × Unit) × List ((Option Nat) × Int × Unit)))) :=
  Option.bind (zset_Set_made_e_P (m0, a1)) fun (v0 : (Bool × ((Option Nat) × (List (((List UInt8) × (Int × Unit)) × (List ((Option Nat) × (Int × Unit)))))))) =>
  if (!v0.fst) = true then
    some ((0 : Int), false, v0.snd.fst, v0.snd.snd)
  else
  none -- STUCK after t17 lookup [R0 R1 R2 R3]
def zset_Set_Score_e_P : (List UInt8) × (Option Nat) × (List (((List UInt8) × Int × Unit) × List ((Option Nat) × Int × Unit))) → Option (Int × Bool × (Option Nat) × (List (((List UInt8) × Int × Unit) × List ((Option Nat) × Int × Unit)))) := fun p => zset_Set_Score_e_M p.1 p.2.1 p.2.2
def zset_Set_Score_e_MM : HL [.str, .nd, (.slc (.pair (.pair .str (.pair (.int .i64) .unit)) (.slc (.pair .nd (.pair (.int .i64) .unit)))))] → Option (SumL [[(.int .i64), .bool, .nd, (.slc (.pair (.pair .str (.pair (.int .i64) .unit)) (.slc (.pair .nd (.pair (.int .i64) .unit)))))]]) := fun p => zset_Set_Score_e_M p.1 p.2.1 p.2.2
def zset_Set_Score_e_C : Con := ⟨2, zset_Set_Score_e_T, zset_Set_Score_e_O, stdCn [.str, .nd, (.slc (.pair (.pair .str (.pair (.int .i64) .unit)) (.slc (.pair .nd (.pair (.int .i64) .unit)))))] [[(.int .i64), .bool, .nd, (.slc (.pair (.pair .str (.pair (.int .i64) .unit)) (.slc (.pair .nd (.pair (.int .i64) .unit)))))]] zset_Set_Score_e_MM, []⟩

def zset_Set_Score_T : Tm := ⟨[(0, false, [.ptr 0 0]), (1, false, [.hole .str])], 2, [.box [.hole .nd, .mpl 1], .mp .str (.int .i64), .ar (.pair .str (.pair (.int .i64) .unit)) (.pair .nd (.pair (.int .i64) .unit))]⟩
def zset_Set_Score_O : List (Ex × Tm) := [(.ret, ⟨[(0, false, [.hole (.int .i64)]), (1, false, [.hole .bool])], 2, [.box [.hole .nd, .mpl 1], .mp .str (.int .i64), .ar (.pair .str (.pair (.int .i64) .unit)) (.pair .nd (.pair (.int .i64) .unit))]⟩)]
def zset_Set_Score_M (s1 : List UInt8) (m0 : Option Nat) (d1 : List ((List UInt8) × Int)) (a2 : List (((List UInt8) × Int × Unit) × List ((Option Nat) × Int × Unit))) : Option (Int × Bool × (Option Nat) × (List ((List UInt8) × Int)) × (List (((List UInt8) × Int × Unit) × List ((Option Nat) × Int × Unit)))) :=
  Option.bind (zset_Set_made_P (m0, d1, a2)) fun (v0 : (Bool × ((Option Nat) × ((List ((List UInt8) × Int)) × (List (((List UInt8) × (Int × Unit)) × (List ((Option Nat) × (Int × Unit))))))))) =>
  if (!v0.fst) = true then
    some ((0 : Int), false, v0.snd.fst, v0.snd.snd.fst, v0.snd.snd.snd)
  else
  some (Option.getD (mget v0.snd.snd.fst s1) (0 : Int), Option.isSome (mget v0.snd.snd.fst s1), v0.snd.fst, v0.snd.snd.fst, v0.snd.snd.snd)
def zset_Set_Score_P : (List UInt8) × (Option Nat) × (List ((List UInt8) × Int)) × (List (((List UInt8) × Int × Unit) × List ((Option Nat) × Int × Unit))) → Option (Int × Bool × (Option Nat) × (List ((List UInt8) × Int)) × (List (((List UInt8) × Int × Unit) × List ((Option Nat) × Int × Unit)))) := fun p => zset_Set_Score_M p.1 p.2.1 p.2.2.1 p.2.2.2
def zset_Set_Score_MM : HL [.str, .nd, (.slc (.pair .str (.int .i64))), (.slc (.pair (.pair .str (.pair (.int .i64) .unit)) (.slc (.pair .nd (.pair (.int .i64) .unit)))))] → Option (SumL [[(.int .i64), .bool, .nd, (.slc (.pair .str (.int .i64))), (.slc (.pair (.pair .str (.pair (.int .i64) .unit)) (.slc (.pair .nd (.pair (.int .i64) .unit)))))]]) := fun p => zset_Set_Score_M p.1 p.2.1 p.2.2.1 p.2.2.2
def zset_Set_Score_C : Con := ⟨3, zset_Set_Score_T, zset_Set_Score_O, stdCn [.str, .nd, (.slc (.pair .str (.int .i64))), (.slc (.pair (.pair .str (.pair (.int .i64) .unit)) (.slc (.pair .nd (.pair (.int .i64) .unit)))))] [[(.int .i64), .bool, .nd, (.slc (.pair .str (.int .i64))), (.slc (.pair (.pair .str (.pair (.int .i64) .unit)) (.slc (.pair .nd (.pair (.int .i64) .unit)))))]] zset_Set_Score_MM, []⟩

def zset_Less_T : Tm := ⟨[(0, true, [.hole .str, .hole (.int .i64)]), (1, true, [.hole .str, .hole (.int .i64)])], 2, []⟩
def zset_Less_O : List (Ex × Tm) := [(.ret, ⟨[(0, false, [.hole .bool])], 1, []⟩)]
def zset_Less_M (s0_0 : List UInt8) (s0_1 : Int) (s1_0 : List UInt8) (s1_1 : Int) : Option (Bool) :=
  if (s0_1 != s1_1) = true then
    some (decide (s0_1 < s1_1))
  else
  some (Op.bytesLess s0_0 s1_0)
def zset_Less_P : (List UInt8) × Int × (List UInt8) × Int → Option (Bool) := fun p => zset_Less_M p.1 p.2.1 p.2.2.1 p.2.2.2
def zset_Less_MM : HL [.str, (.int .i64), .str, (.int .i64)] → Option (SumL [[.bool]]) := fun p => zset_Less_M p.1 p.2.1 p.2.2.1 p.2.2.2
def zset_Less_C : Con := ⟨0, zset_Less_T, zset_Less_O, stdCn [.str, (.int .i64), .str, (.int .i64)] [[.bool]] zset_Less_MM, []⟩

def zset_Set_ahead_L2_T : Tm := ⟨[(3, false, [.ptr 0 0]), (4, false, [.ptr 1 0]), (5, false, [.ptr 2 0]), (6, false, [.hole .nd]), (7, false, [.hole (.int .i64)]), (8, false, [.hole (.int .i64)])], 68, [.box [.hole .str, .hole (.int .i64)], .box [.hole (.arr 12 .nd), .hole (.arr 12 (.int .i64))], .box [.hole (.arr 12 .nd), .hole (.arr 12 (.int .i64))], .ar (.pair .str (.pair (.int .i64) .unit)) (.pair .nd (.pair (.int .i64) .unit))]⟩
def zset_Set_ahead_L2_O : List (Ex × Tm) := [(.exit 2, ⟨[(3, false, [.ptr 0 0]), (4, false, [.ptr 1 0]), (5, false, [.ptr 2 0]), (6, false, [.hole .nd]), (7, false, [.hole (.int .i64)]), (8, false, [.hole (.int .i64)])], 68, [.box [.hole .str, .hole (.int .i64)], .box [.hole (.arr 12 .nd), .hole (.arr 12 (.int .i64))], .box [.hole (.arr 12 .nd), .hole (.arr 12 (.int .i64))], .ar (.pair .str (.pair (.int .i64) .unit)) (.pair .nd (.pair (.int .i64) .unit))]⟩)]
def zset_Set_ahead_L2 (s6 : Option Nat) (s7 : Int) (s8 : Int) (m0_0 : List UInt8) (m0_1 : Int) (m1_0 : Arr 12 (Option Nat)) (m1_1 : Arr 12 Int) (m2_0 : Arr 12 (Option Nat)) (m2_1 : Arr 12 Int) (a3 : List (((List UInt8) × Int × Unit) × List ((Option Nat) × Int × Unit))) : Option (((Option Nat) × Int × Int × (List UInt8) × Int × (Arr 12 (Option Nat)) × (Arr 12 Int) × (Arr 12 (Option Nat)) × (Arr 12 Int) × (List (((List UInt8) × Int × Unit) × List ((Option Nat) × Int × Unit)))) ⊕ (((Option Nat) × Int × Int × (List UInt8) × Int × (Arr 12 (Option Nat)) × (Arr 12 Int) × (Arr 12 (Option Nat)) × (Arr 12 Int) × (List (((List UInt8) × Int × Unit) × List ((Option Nat) × Int × Unit)))))) :=
  Option.bind (s6) fun (v0 : Nat) =>
  Option.bind (inb (List.length (ndR a3 v0)) s8) fun _ =>
  if (!Option.isNone (List.getD (ndR a3 v0) (Int.toNat s8) (none, (0 : Int), ())).fst) = true then
    Option.bind (s6) fun (v2 : Nat) =>
    Option.bind (inb (List.length (ndR a3 v2)) s8) fun _ =>
    Option.bind ((List.getD (ndR a3 v2) (Int.toNat s8) (none, (0 : Int), ())).fst) fun (v4 : Nat) =>
    Option.bind (zset_Less_P ((ndX ([], (0 : Int), ()) a3 v4).fst, (ndX ([], (0 : Int), ()) a3 v4).snd.fst, m0_0, m0_1)) fun (v5 : Bool) =>
    if v5 = true then
      Option.bind (s6) fun (v6 : Nat) =>
      Option.bind (inb (List.length (ndR a3 v6)) s8) fun _ =>
      Option.bind (s6) fun (v8 : Nat) =>
      Option.bind (inb (List.length (ndR a3 v8)) s8) fun _ =>
      some (.inl ((List.getD (ndR a3 v8) (Int.toNat s8) (none, (0 : Int), ())).fst, IntKind.wrap IntKind.i64 (s7 + (List.getD (ndR a3 v6) (Int.toNat s8) (none, (0 : Int), ())).snd.fst), s8, m0_0, m0_1, m1_0, m1_1, m2_0, m2_1, a3))
    else
    some (.inr (s6, s7, s8, m0_0, m0_1, m1_0, m1_1, m2_0, m2_1, a3))
  else
  some (.inr (s6, s7, s8, m0_0, m0_1, m1_0, m1_1, m2_0, m2_1, a3))
def zset_Set_ahead_L2_P : (Option Nat) × Int × Int × (List UInt8) × Int × (Arr 12 (Option Nat)) × (Arr 12 Int) × (Arr 12 (Option Nat)) × (Arr 12 Int) × (List (((List UInt8) × Int × Unit) × List ((Option Nat) × Int × Unit))) → Option (((Option Nat) × Int × Int × (List UInt8) × Int × (Arr 12 (Option Nat)) × (Arr 12 Int) × (Arr 12 (Option Nat)) × (Arr 12 Int) × (List (((List UInt8) × Int × Unit) × List ((Option Nat) × Int × Unit)))) ⊕ (((Option Nat) × Int × Int × (List UInt8) × Int × (Arr 12 (Option Nat)) × (Arr 12 Int) × (Arr 12 (Option Nat)) × (Arr 12 Int) × (List (((List UInt8) × Int × Unit) × List ((Option Nat) × Int × Unit)))))) := fun p => zset_Set_ahead_L2 p.1 p.2.1 p.2.2.1 p.2.2.2.1 p.2.2.2.2.1 p.2.2.2.2.2.1 p.2.2.2.2.2.2.1 p.2.2.2.2.2.2.2.1 p.2.2.2.2.2.2.2.2.1 p.2.2.2.2.2.2.2.2.2
def zset_Set_ahead_L2_MM : HL [.nd, (.int .i64), (.int .i64), .str, (.int .i64), (.arr 12 .nd), (.arr 12 (.int .i64)), (.arr 12 .nd), (.arr 12 (.int .i64)), (.slc (.pair (.pair .str (.pair (.int .i64) .unit)) (.slc (.pair .nd (.pair (.int .i64) .unit)))))] → Option (HL [.nd, (.int .i64), (.int .i64), .str, (.int .i64), (.arr 12 .nd), (.arr 12 (.int .i64)), (.arr 12 .nd), (.arr 12 (.int .i64)), (.slc (.pair (.pair .str (.pair (.int .i64) .unit)) (.slc (.pair .nd (.pair (.int .i64) .unit)))))] ⊕ SumL [[.nd, (.int .i64), (.int .i64), .str, (.int .i64), (.arr 12 .nd), (.arr 12 (.int .i64)), (.arr 12 .nd), (.arr 12 (.int .i64)), (.slc (.pair (.pair .str (.pair (.int .i64) .unit)) (.slc (.pair .nd (.pair (.int .i64) .unit)))))]]) := fun p => zset_Set_ahead_L2 p.1 p.2.1 p.2.2.1 p.2.2.2.1 p.2.2.2.2.1 p.2.2.2.2.2.1 p.2.2.2.2.2.2.1 p.2.2.2.2.2.2.2.1 p.2.2.2.2.2.2.2.2.1 p.2.2.2.2.2.2.2.2.2
def zset_Set_ahead_L2_C : Con := ⟨4, zset_Set_ahead_L2_T, zset_Set_ahead_L2_O, stdCn [.nd, (.int .i64), (.int .i64), .str, (.int .i64), (.arr 12 .nd), (.arr 12 (.int .i64)), (.arr 12 .nd), (.arr 12 (.int .i64)), (.slc (.pair (.pair .str (.pair (.int .i64) .unit)) (.slc (.pair .nd (.pair (.int .i64) .unit)))))] [[.nd, (.int .i64), (.int .i64), .str, (.int .i64), (.arr 12 .nd), (.arr 12 (.int .i64)), (.arr 12 .nd), (.arr 12 (.int .i64)), (.slc (.pair (.pair .str (.pair (.int .i64) .unit)) (.slc (.pair .nd (.pair (.int .i64) .unit)))))]] (loop zset_Set_ahead_L2_MM), []⟩
def zset_Set_ahead_L1_T : Tm := ⟨[(3, false, [.ptr 0 0]), (4, false, [.ptr 1 0]), (5, false, [.ptr 2 0]), (6, false, [.hole .nd]), (7, false, [.hole (.int .i64)]), (8, false, [.hole (.int .i64)])], 68, [.box [.hole .str, .hole (.int .i64)], .box [.hole (.arr 12 .nd), .hole (.arr 12 (.int .i64))], .box [.hole (.arr 12 .nd), .hole (.arr 12 (.int .i64))], .ar (.pair .str (.pair (.int .i64) .unit)) (.pair .nd (.pair (.int .i64) .unit))]⟩
def zset_Set_ahead_L1_O : List (Ex × Tm) := [(.exit 0, ⟨[(4, false, [.ptr 1 0]), (5, false, [.ptr 2 0])], 68, [.box [.hole .str, .hole (.int .i64)], .box [.hole (.arr 12 .nd), .hole (.arr 12 (.int .i64))], .box [.hole (.arr 12 .nd), .hole (.arr 12 (.int .i64))], .ar (.pair .str (.pair (.int .i64) .unit)) (.pair .nd (.pair (.int .i64) .unit))]⟩)]
def zset_Set_ahead_L1 (s6 : Option Nat) (s7 : Int) (s8 : Int) (m0_0 : List UInt8) (m0_1 : Int) (m1_0 : Arr 12 (Option Nat)) (m1_1 : Arr 12 Int) (m2_0 : Arr 12 (Option Nat)) (m2_1 : Arr 12 Int) (a3 : List (((List UInt8) × Int × Unit) × List ((Option Nat) × Int × Unit))) : Option (((Option Nat) × Int × Int × (List UInt8) × Int × (Arr 12 (Option Nat)) × (Arr 12 Int) × (Arr 12 (Option Nat)) × (Arr 12 Int) × (List (((List UInt8) × Int × Unit) × List ((Option Nat) × Int × Unit)))) ⊕ (((List UInt8) × Int × (Arr 12 (Option Nat)) × (Arr 12 Int) × (Arr 12 (Option Nat)) × (Arr 12 Int) × (List (((List UInt8) × Int × Unit) × List ((Option Nat) × Int × Unit)))))) :=
  if decide (s8 ≥ (0 : Int)) = true then
    Option.bind (loop zset_Set_ahead_L2_P (s6, s7, s8, m0_0, m0_1, m1_0, m1_1, m2_0, m2_1, a3)) fun (v0 : ((Option Nat) × (Int × (Int × ((List UInt8) × (Int × ((Arr (12 : Nat) (Option Nat)) × ((Arr (12 : Nat) Int) × ((Arr (12 : Nat) (Option Nat)) × ((Arr (12 : Nat) Int) × (List (((List UInt8) × (Int × Unit)) × (List ((Option Nat) × (Int × Unit))))))))))))))) =>
    Option.bind (inb (12 : Nat) v0.snd.snd.fst) fun _ =>
    Option.bind (inb (12 : Nat) v0.snd.snd.fst) fun _ =>
    some (.inl (v0.fst, v0.snd.fst, IntKind.wrap IntKind.i64 (v0.snd.snd.fst - (1 : Int)), v0.snd.snd.snd.fst, v0.snd.snd.snd.snd.fst, v0.snd.snd.snd.snd.snd.fst, v0.snd.snd.snd.snd.snd.snd.fst, Arr.set v0.snd.snd.snd.snd.snd.snd.snd.fst (Int.toNat v0.snd.snd.fst) v0.fst, Arr.set v0.snd.snd.snd.snd.snd.snd.snd.snd.fst (Int.toNat v0.snd.snd.fst) v0.snd.fst, v0.snd.snd.snd.snd.snd.snd.snd.snd.snd))
  else
  some (.inr (m0_0, m0_1, m1_0, m1_1, m2_0, m2_1, a3))
def zset_Set_ahead_L1_P : (Option Nat) × Int × Int × (List UInt8) × Int × (Arr 12 (Option Nat)) × (Arr 12 Int) × (Arr 12 (Option Nat)) × (Arr 12 Int) × (List (((List UInt8) × Int × Unit) × List ((Option Nat) × Int × Unit))) → Option (((Option Nat) × Int × Int × (List UInt8) × Int × (Arr 12 (Option Nat)) × (Arr 12 Int) × (Arr 12 (Option Nat)) × (Arr 12 Int) × (List (((List UInt8) × Int × Unit) × List ((Option Nat) × Int × Unit)))) ⊕ (((List UInt8) × Int × (Arr 12 (Option Nat)) × (Arr 12 Int) × (Arr 12 (Option Nat)) × (Arr 12 Int) × (List (((List UInt8) × Int × Unit) × List ((Option Nat) × Int × Unit)))))) := fun p => zset_Set_ahead_L1 p.1 p.2.1 p.2.2.1 p.2.2.2.1 p.2.2.2.2.1 p.2.2.2.2.2.1 p.2.2.2.2.2.2.1 p.2.2.2.2.2.2.2.1 p.2.2.2.2.2.2.2.2.1 p.2.2.2.2.2.2.2.2.2
def zset_Set_ahead_L1_MM : HL [.nd, (.int .i64), (.int .i64), .str, (.int .i64), (.arr 12 .nd), (.arr 12 (.int .i64)), (.arr 12 .nd), (.arr 12 (.int .i64)), (.slc (.pair (.pair .str (.pair (.int .i64) .unit)) (.slc (.pair .nd (.pair (.int .i64) .unit)))))] → Option (HL [.nd, (.int .i64), (.int .i64), .str, (.int .i64), (.arr 12 .nd), (.arr 12 (.int .i64)), (.arr 12 .nd), (.arr 12 (.int .i64)), (.slc (.pair (.pair .str (.pair (.int .i64) .unit)) (.slc (.pair .nd (.pair (.int .i64) .unit)))))] ⊕ SumL [[.str, (.int .i64), (.arr 12 .nd), (.arr 12 (.int .i64)), (.arr 12 .nd), (.arr 12 (.int .i64)), (.slc (.pair (.pair .str (.pair (.int .i64) .unit)) (.slc (.pair .nd (.pair (.int .i64) .unit)))))]]) := fun p => zset_Set_ahead_L1 p.1 p.2.1 p.2.2.1 p.2.2.2.1 p.2.2.2.2.1 p.2.2.2.2.2.1 p.2.2.2.2.2.2.1 p.2.2.2.2.2.2.2.1 p.2.2.2.2.2.2.2.2.1 p.2.2.2.2.2.2.2.2.2
def zset_Set_ahead_L1_C : Con := ⟨4, zset_Set_ahead_L1_T, zset_Set_ahead_L1_O, stdCn [.nd, (.int .i64), (.int .i64), .str, (.int .i64), (.arr 12 .nd), (.arr 12 (.int .i64)), (.arr 12 .nd), (.arr 12 (.int .i64)), (.slc (.pair (.pair .str (.pair (.int .i64) .unit)) (.slc (.pair .nd (.pair (.int .i64) .unit)))))] [[.str, (.int .i64), (.arr 12 .nd), (.arr 12 (.int .i64)), (.arr 12 .nd), (.arr 12 (.int .i64)), (.slc (.pair (.pair .str (.pair (.int .i64) .unit)) (.slc (.pair .nd (.pair (.int .i64) .unit)))))]] (loop zset_Set_ahead_L1_MM), []⟩
def zset_Set_ahead_T : Tm := ⟨[(0, false, [.ptr 0 0]), (1, true, [.hole .str, .hole (.int .i64)])], 2, [.box [.hole .nd, .mpl 1], .mp .str (.int .i64), .ar (.pair .str (.pair (.int .i64) .unit)) (.pair .nd (.pair (.int .i64) .unit))]⟩
def zset_Set_ahead_O : List (Ex × Tm) := [(.ret, ⟨[(0, true, [.hole (.arr 12 .nd), .hole (.arr 12 (.int .i64))])], 1, [.box [.hole .nd, .mpl 1], .mp .str (.int .i64), .ar (.pair .str (.pair (.int .i64) .unit)) (.pair .nd (.pair (.int .i64) .unit))]⟩)]
def zset_Set_ahead_M (s1_0 : List UInt8) (s1_1 : Int) (m0 : Option Nat) (d1 : List ((List UInt8) × Int)) (a2 : List (((List UInt8) × Int × Unit) × List ((Option Nat) × Int × Unit))) : Option ((Arr 12 (Option Nat)) × (Arr 12 Int) × (Option Nat) × (List ((List UInt8) × Int)) × (List (((List UInt8) × Int × Unit) × List ((Option Nat) × Int × Unit)))) :=
  Option.bind (loop zset_Set_ahead_L1_P (m0, (0 : Int), (11 : Int), s1_0, s1_1, Arr.rep (12 : Nat) none, Arr.rep (12 : Nat) (0 : Int), Arr.rep (12 : Nat) none, Arr.rep (12 : Nat) (0 : Int), a2)) fun (v0 : ((List UInt8) × (Int × ((Arr (12 : Nat) (Option Nat)) × ((Arr (12 : Nat) Int) × ((Arr (12 : Nat) (Option Nat)) × ((Arr (12 : Nat) Int) × (List (((List UInt8) × (Int × Unit)) × (List ((Option Nat) × (Int × Unit)))))))))))) =>
  some (v0.snd.snd.snd.snd.fst, v0.snd.snd.snd.snd.snd.fst, m0, d1, v0.snd.snd.snd.snd.snd.snd)
def zset_Set_ahead_P : (List UInt8) × Int × (Option Nat) × (List ((List UInt8) × Int)) × (List (((List UInt8) × Int × Unit) × List ((Option Nat) × Int × Unit))) → Option ((Arr 12 (Option Nat)) × (Arr 12 Int) × (Option Nat) × (List ((List UInt8) × Int)) × (List (((List UInt8) × Int × Unit) × List ((Option Nat) × Int × Unit)))) := fun p => zset_Set_ahead_M p.1 p.2.1 p.2.2.1 p.2.2.2.1 p.2.2.2.2
def zset_Set_ahead_MM : HL [.str, (.int .i64), .nd, (.slc (.pair .str (.int .i64))), (.slc (.pair (.pair .str (.pair (.int .i64) .unit)) (.slc (.pair .nd (.pair (.int .i64) .unit)))))] → Option (SumL [[(.arr 12 .nd), (.arr 12 (.int .i64)), .nd, (.slc (.pair .str (.int .i64))), (.slc (.pair (.pair .str (.pair (.int .i64) .unit)) (.slc (.pair .nd (.pair (.int .i64) .unit)))))]]) := fun p => zset_Set_ahead_M p.1 p.2.1 p.2.2.1 p.2.2.2.1 p.2.2.2.2
def zset_Set_ahead_C : Con := ⟨3, zset_Set_ahead_T, zset_Set_ahead_O, stdCn [.str, (.int .i64), .nd, (.slc (.pair .str (.int .i64))), (.slc (.pair (.pair .str (.pair (.int .i64) .unit)) (.slc (.pair .nd (.pair (.int .i64) .unit)))))] [[(.arr 12 .nd), (.arr 12 (.int .i64)), .nd, (.slc (.pair .str (.int .i64))), (.slc (.pair (.pair .str (.pair (.int .i64) .unit)) (.slc (.pair .nd (.pair (.int .i64) .unit)))))]] zset_Set_ahead_MM, []⟩

def zset_Set_Rank_n_T : Tm := ⟨[(0, false, [.nilp]), (1, false, [.hole .str])], 2, [.ar (.pair .str (.pair (.int .i64) .unit)) (.pair .nd (.pair (.int .i64) .unit))]⟩
def zset_Set_Rank_n_O : List (Ex × Tm) := [(.ret, ⟨[(0, false, [.hole (.int .i64)]), (1, false, [.hole .bool])], 2, [.ar (.pair .str (.pair (.int .i64) .unit)) (.pair .nd (.pair (.int .i64) .unit))]⟩)]
def zset_Set_Rank_n_M (s1 : List UInt8) (a0 : List (((List UInt8) × Int × Unit) × List ((Option Nat) × Int × Unit))) : Option (Int × Bool × (List (((List UInt8) × Int × Unit) × List ((Option Nat) × Int × Unit)))) :=
  Option.bind (zset_Set_Score_n_P (s1, a0)) fun (v0 : (Int × (Bool × (List (((List UInt8) × (Int × Unit)) × (List ((Option Nat) × (Int × Unit)))))))) =>
  if (!v0.snd.fst) = true then
    some ((0 : Int), false, v0.snd.snd)
  else
  none -- STUCK after t20 call [R0 R1 R2 R3 R4]
def zset_Set_Rank_n_P : (List UInt8) × (List (((List UInt8) × Int × Unit) × List ((Option Nat) × Int × Unit))) → Option (Int × Bool × (List (((List UInt8) × Int × Unit) × List ((Option Nat) × Int × Unit)))) := fun p => zset_Set_Rank_n_M p.1 p.2
def zset_Set_Rank_n_MM : HL [.str, (.slc (.pair (.pair .str (.pair (.int .i64) .unit)) (.slc (.pair .nd (.pair (.int .i64) .unit)))))] → Option (SumL [[(.int .i64), .bool, (.slc (.pair (.pair .str (.pair (.int .i64) .unit)) (.slc (.pair .nd (.pair (.int .i64) .unit)))))]]) := fun p => zset_Set_Rank_n_M p.1 p.2
def zset_Set_Rank_n_C : Con := ⟨1, zset_Set_Rank_n_T, zset_Set_Rank_n_O, stdCn [.str, (.slc (.pair (.pair .str (.pair (.int .i64) .unit)) (.slc (.pair .nd (.pair (.int .i64) .unit)))))] [[(.int .i64), .bool, (.slc (.pair (.pair .str (.pair (.int .i64) .unit)) (.slc (.pair .nd (.pair (.int .i64) .unit)))))]] zset_Set_Rank_n_MM, []⟩

def zset_Set_Rank_e_T : Tm := ⟨[(0, false, [.ptr 0 0]), (1, false, [.hole .str])], 2, [.box [.hole .nd, .nilm], .ar (.pair .str (.pair (.int .i64) .unit)) (.pair .nd (.pair (.int .i64) .unit))]⟩
def zset_Set_Rank_e_O : List (Ex × Tm) := [(.ret, ⟨[(0, false, [.hole (.int .i64)]), (1, false, [.hole .bool])], 2, [.box [.hole .nd, .nilm], .ar (.pair .str (.pair (.int .i64) .unit)) (.pair .nd (.pair (.int .i64) .unit))]⟩)]
def zset_Set_Rank_e_M (s1 : List UInt8) (m0 : Option Nat) (a1 : List (((List UInt8) × Int × Unit) × List ((Option Nat) × Int × Unit))) : Option (Int × Bool × (Option Nat) × (List (((List UInt8) × Int × Unit) × List ((Option Nat) × Int × Unit)))) :=
  Option.bind (zset_Set_Score_e_P (s1, m0, a1)) fun (v0 : (Int × (Bool × ((Option Nat) × (List (((List UInt8) × (Int × Unit)) × (List ((Option Nat) × (Int × Unit))))))))) =>
  if (!v0.snd.fst) = true then
    some ((0 : Int), false, v0.snd.snd.fst, v0.snd.snd.snd)
  else
  none -- STUCK after t20 call [R0 R1 R2 R3 R4]
def zset_Set_Rank_e_P : (List UInt8) × (Option Nat) × (List (((List UInt8) × Int × Unit) × List ((Option Nat) × Int × Unit))) → Option (Int × Bool × (Option Nat) × (List (((List UInt8) × Int × Unit) × List ((Option Nat) × Int × Unit)))) := fun p => zset_Set_Rank_e_M p.1 p.2.1 p.2.2
def zset_Set_Rank_e_MM : HL [.str, .nd, (.slc (.pair (.pair .str (.pair (.int .i64) .unit)) (.slc (.pair .nd (.pair (.int .i64) .unit)))))] → Option (SumL [[(.int .i64), .bool, .nd, (.slc (.pair (.pair .str (.pair (.int .i64) .unit)) (.slc (.pair .nd (.pair (.int .i64) .unit)))))]]) := fun p => zset_Set_Rank_e_M p.1 p.2.1 p.2.2
def zset_Set_Rank_e_C : Con := ⟨2, zset_Set_Rank_e_T, zset_Set_Rank_e_O, stdCn [.str, .nd, (.slc (.pair (.pair .str (.pair (.int .i64) .unit)) (.slc (.pair .nd (.pair (.int .i64) .unit)))))] [[(.int .i64), .bool, .nd, (.slc (.pair (.pair .str (.pair (.int .i64) .unit)) (.slc (.pair .nd (.pair (.int .i64) .unit)))))]] zset_Set_Rank_e_MM, []⟩

def zset_Set_Rank_T : Tm := ⟨[(0, false, [.ptr 0 0]), (1, false, [.hole .str])], 2, [.box [.hole .nd, .mpl 1], .mp .str (.int .i64), .ar (.pair .str (.pair (.int .i64) .unit)) (.pair .nd (.pair (.int .i64) .unit))]⟩
def zset_Set_Rank_O : List (Ex × Tm) := [(.ret, ⟨[(0, false, [.hole (.int .i64)]), (1, false, [.hole .bool])], 2, [.box [.hole .nd, .mpl 1], .mp .str (.int .i64), .ar (.pair .str (.pair (.int .i64) .unit)) (.pair .nd (.pair (.int .i64) .unit))]⟩)]
def zset_Set_Rank_M (s1 : List UInt8) (m0 : Option Nat) (d1 : List ((List UInt8) × Int)) (a2 : List (((List UInt8) × Int × Unit) × List ((Option Nat) × Int × Unit))) : Option (Int × Bool × (Option Nat) × (List ((List UInt8) × Int)) × (List (((List UInt8) × Int × Unit) × List ((Option Nat) × Int × Unit)))) :=
  Option.bind (zset_Set_Score_P (s1, m0, d1, a2)) fun (v0 : (Int × (Bool × ((Option Nat) × ((List ((List UInt8) × Int)) × (List (((List UInt8) × (Int × Unit)) × (List ((Option Nat) × (Int × Unit)))))))))) =>
  if (!v0.snd.fst) = true then
    some ((0 : Int), false, v0.snd.snd.fst, v0.snd.snd.snd.fst, v0.snd.snd.snd.snd)
  else
  Option.bind (zset_Set_ahead_P (s1, v0.fst, v0.snd.snd.fst, v0.snd.snd.snd.fst, v0.snd.snd.snd.snd)) fun (v1 : ((Arr (12 : Nat) (Option Nat)) × ((Arr (12 : Nat) Int) × ((Option Nat) × ((List ((List UInt8) × Int)) × (List (((List UInt8) × (Int × Unit)) × (List ((Option Nat) × (Int × Unit)))))))))) =>
  Option.bind (inb (12 : Nat) (0 : Int)) fun _ =>
  some (List.getD v1.snd.fst.val (0 : Nat) (0 : Int), true, v1.snd.snd.fst, v1.snd.snd.snd.fst, v1.snd.snd.snd.snd)
def zset_Set_Rank_P : (List UInt8) × (Option Nat) × (List ((List UInt8) × Int)) × (List (((List UInt8) × Int × Unit) × List ((Option Nat) × Int × Unit))) → Option (Int × Bool × (Option Nat) × (List ((List UInt8) × Int)) × (List (((List UInt8) × Int × Unit) × List ((Option Nat) × Int × Unit)))) := fun p => zset_Set_Rank_M p.1 p.2.1 p.2.2.1 p.2.2.2
def zset_Set_Rank_MM : HL [.str, .nd, (.slc (.pair .str (.int .i64))), (.slc (.pair (.pair .str (.pair (.int .i64) .unit)) (.slc (.pair .nd (.pair (.int .i64) .unit)))))] → Option (SumL [[(.int .i64), .bool, .nd, (.slc (.pair .str (.int .i64))), (.slc (.pair (.pair .str (.pair (.int .i64) .unit)) (.slc (.pair .nd (.pair (.int .i64) .unit)))))]]) := fun p => zset_Set_Rank_M p.1 p.2.1 p.2.2.1 p.2.2.2
def zset_Set_Rank_C : Con := ⟨3, zset_Set_Rank_T, zset_Set_Rank_O, stdCn [.str, .nd, (.slc (.pair .str (.int .i64))), (.slc (.pair (.pair .str (.pair (.int .i64) .unit)) (.slc (.pair .nd (.pair (.int .i64) .unit)))))] [[(.int .i64), .bool, .nd, (.slc (.pair .str (.int .i64))), (.slc (.pair (.pair .str (.pair (.int .i64) .unit)) (.slc (.pair .nd (.pair (.int .i64) .unit)))))]] zset_Set_Rank_MM, []⟩

def zset_New_T : Tm := ⟨[], 0, [.ar (.pair .str (.pair (.int .i64) .unit)) (.pair .nd (.pair (.int .i64) .unit))]⟩
def zset_New_O : List (Ex × Tm) := [(.ret, ⟨[(0, false, [.ptr 1 0])], 1, [.ar (.pair .str (.pair (.int .i64) .unit)) (.pair .nd (.pair (.int .i64) .unit)), .box [.hole .nd, .mpl 2], .mp .str (.int .i64)]⟩)]
def zset_New_M (a0 : List (((List UInt8) × Int × Unit) × List ((Option Nat) × Int × Unit))) : Option ((List (((List UInt8) × Int × Unit) × List ((Option Nat) × Int × Unit))) × (Option Nat) × (List ((List UInt8) × Int))) :=
  Option.bind (mk2 (16 : Nat) (12 : Int) (12 : Int)) fun (v0 : Nat) =>
  some (a0 ++ [(([], (0 : Int), ()), List.replicate v0 (none, (0 : Int), ()))], some (List.length a0), [])
def zset_New_P : (List (((List UInt8) × Int × Unit) × List ((Option Nat) × Int × Unit))) → Option ((List (((List UInt8) × Int × Unit) × List ((Option Nat) × Int × Unit))) × (Option Nat) × (List ((List UInt8) × Int))) := fun p => zset_New_M p
def zset_New_MM : HL [(.slc (.pair (.pair .str (.pair (.int .i64) .unit)) (.slc (.pair .nd (.pair (.int .i64) .unit)))))] → Option (SumL [[(.slc (.pair (.pair .str (.pair (.int .i64) .unit)) (.slc (.pair .nd (.pair (.int .i64) .unit))))), .nd, (.slc (.pair .str (.int .i64)))]]) := fun p => zset_New_M p
def zset_New_C : Con := ⟨1, zset_New_T, zset_New_O, stdCn [(.slc (.pair (.pair .str (.pair (.int .i64) .unit)) (.slc (.pair .nd (.pair (.int .i64) .unit)))))] [[(.slc (.pair (.pair .str (.pair (.int .i64) .unit)) (.slc (.pair .nd (.pair (.int .i64) .unit))))), .nd, (.slc (.pair .str (.int .i64)))]] zset_New_MM, []⟩

def zset_Set_remove_L1_T : Tm := ⟨[(4, false, [.ptr 0 0]), (5, false, [.hole .nd]), (20, false, [.hole (.int .i64)])], 71, [.box [.hole (.arr 12 .nd), .hole (.arr 12 (.int .i64))], .ar (.pair .str (.pair (.int .i64) .unit)) (.pair .nd (.pair (.int .i64) .unit))]⟩
def zset_Set_remove_L1_O : List (Ex × Tm) := [(.exit 0, ⟨[], 71, [.box [.hole (.arr 12 .nd), .hole (.arr 12 (.int .i64))], .ar (.pair .str (.pair (.int .i64) .unit)) (.pair .nd (.pair (.int .i64) .unit))]⟩)]
def zset_Set_remove_L1 (s5 : Option Nat) (s20 : Int) (m0_0 : Arr 12 (Option Nat)) (m0_1 : Arr 12 Int) (a1 : List (((List UInt8) × Int × Unit) × List ((Option Nat) × Int × Unit))) : Option (((Option Nat) × Int × (Arr 12 (Option Nat)) × (Arr 12 Int) × (List (((List UInt8) × Int × Unit) × List ((Option Nat) × Int × Unit)))) ⊕ (((Arr 12 (Option Nat)) × (Arr 12 Int) × (List (((List UInt8) × Int × Unit) × List ((Option Nat) × Int × Unit)))))) :=
  if decide (s20 < (12 : Int)) = true then
    Option.bind (inb (12 : Nat) s20) fun _ =>
    Option.bind (List.getD m0_0.val (Int.toNat s20) none) fun (v1 : Nat) =>
    Option.bind (inb (List.length (ndR a1 v1)) s20) fun _ =>
    Option.bind (s5) fun (v3 : Nat) =>
    if decide (s20 < (((List.length (ndR a1 v3)) : Nat) : Int)) = true then
      Option.bind (s5) fun (v4 : Nat) =>
      Option.bind (inb (List.length (ndR a1 v4)) s20) fun _ =>
      Option.bind (s5) fun (v6 : Nat) =>
      Option.bind (inb (List.length (ndR a1 v6)) s20) fun _ =>
      some (.inl (s5, IntKind.wrap IntKind.i64 (s20 + (1 : Int)), m0_0, m0_1, List.set (List.set a1 v1 (ndX ([], (0 : Int), ()) a1 v1, List.set (ndR a1 v1) (Int.toNat s20) ((List.getD (ndR a1 v4) (Int.toNat s20) (none, (0 : Int), ())).fst, IntKind.wrap IntKind.i64 ((List.getD (ndR a1 v1) (Int.toNat s20) (none, (0 : Int), ())).snd.fst + (List.getD (ndR a1 v6) (Int.toNat s20) (none, (0 : Int), ())).snd.fst), ()))) v1 (ndX ([], (0 : Int), ()) (List.set a1 v1 (ndX ([], (0 : Int), ()) a1 v1, List.set (ndR a1 v1) (Int.toNat s20) ((List.getD (ndR a1 v4) (Int.toNat s20) (none, (0 : Int), ())).fst, IntKind.wrap IntKind.i64 ((List.getD (ndR a1 v1) (Int.toNat s20) (none, (0 : Int), ())).snd.fst + (List.getD (ndR a1 v6) (Int.toNat s20) (none, (0 : Int), ())).snd.fst), ()))) v1, List.set (ndR (List.set a1 v1 (ndX ([], (0 : Int), ()) a1 v1, List.set (ndR a1 v1) (Int.toNat s20) ((List.getD (ndR a1 v4) (Int.toNat s20) (none, (0 : Int), ())).fst, IntKind.wrap IntKind.i64 ((List.getD (ndR a1 v1) (Int.toNat s20) (none, (0 : Int), ())).snd.fst + (List.getD (ndR a1 v6) (Int.toNat s20) (none, (0 : Int), ())).snd.fst), ()))) v1) (Int.toNat s20) ((List.getD (ndR (List.set a1 v1 (ndX ([], (0 : Int), ()) a1 v1, List.set (ndR a1 v1) (Int.toNat s20) ((List.getD (ndR a1 v4) (Int.toNat s20) (none, (0 : Int), ())).fst, IntKind.wrap IntKind.i64 ((List.getD (ndR a1 v1) (Int.toNat s20) (none, (0 : Int), ())).snd.fst + (List.getD (ndR a1 v6) (Int.toNat s20) (none, (0 : Int), ())).snd.fst), ()))) v1) (Int.toNat s20) (none, (0 : Int), ())).fst, IntKind.wrap IntKind.i64 ((List.getD (ndR (List.set a1 v1 (ndX ([], (0 : Int), ()) a1 v1, List.set (ndR a1 v1) (Int.toNat s20) ((List.getD (ndR a1 v4) (Int.toNat s20) (none, (0 : Int), ())).fst, IntKind.wrap IntKind.i64 ((List.getD (ndR a1 v1) (Int.toNat s20) (none, (0 : Int), ())).snd.fst + (List.getD (ndR a1 v6) (Int.toNat s20) (none, (0 : Int), ())).snd.fst), ()))) v1) (Int.toNat s20) (none, (0 : Int), ())).snd.fst - (1 : Int)), ()))))
    else
    some (.inl (s5, IntKind.wrap IntKind.i64 (s20 + (1 : Int)), m0_0, m0_1, List.set a1 v1 (ndX ([], (0 : Int), ()) a1 v1, List.set (ndR a1 v1) (Int.toNat s20) ((List.getD (ndR a1 v1) (Int.toNat s20) (none, (0 : Int), ())).fst, IntKind.wrap IntKind.i64 ((List.getD (ndR a1 v1) (Int.toNat s20) (none, (0 : Int), ())).snd.fst - (1 : Int)), ()))))
  else
  some (.inr (m0_0, m0_1, a1))
def zset_Set_remove_L1_P : (Option Nat) × Int × (Arr 12 (Option Nat)) × (Arr 12 Int) × (List (((List UInt8) × Int × Unit) × List ((Option Nat) × Int × Unit))) → Option (((Option Nat) × Int × (Arr 12 (Option Nat)) × (Arr 12 Int) × (List (((List UInt8) × Int × Unit) × List ((Option Nat) × Int × Unit)))) ⊕ (((Arr 12 (Option Nat)) × (Arr 12 Int) × (List (((List UInt8) × Int × Unit) × List ((Option Nat) × Int × Unit)))))) := fun p => zset_Set_remove_L1 p.1 p.2.1 p.2.2.1 p.2.2.2.1 p.2.2.2.2
def zset_Set_remove_L1_MM : HL [.nd, (.int .i64), (.arr 12 .nd), (.arr 12 (.int .i64)), (.slc (.pair (.pair .str (.pair (.int .i64) .unit)) (.slc (.pair .nd (.pair (.int .i64) .unit)))))] → Option (HL [.nd, (.int .i64), (.arr 12 .nd), (.arr 12 (.int .i64)), (.slc (.pair (.pair .str (.pair (.int .i64) .unit)) (.slc (.pair .nd (.pair (.int .i64) .unit)))))] ⊕ SumL [[(.arr 12 .nd), (.arr 12 (.int .i64)), (.slc (.pair (.pair .str (.pair (.int .i64) .unit)) (.slc (.pair .nd (.pair (.int .i64) .unit)))))]]) := fun p => zset_Set_remove_L1 p.1 p.2.1 p.2.2.1 p.2.2.2.1 p.2.2.2.2
def zset_Set_remove_L1_C : Con := ⟨2, zset_Set_remove_L1_T, zset_Set_remove_L1_O, stdCn [.nd, (.int .i64), (.arr 12 .nd), (.arr 12 (.int .i64)), (.slc (.pair (.pair .str (.pair (.int .i64) .unit)) (.slc (.pair .nd (.pair (.int .i64) .unit)))))] [[(.arr 12 .nd), (.arr 12 (.int .i64)), (.slc (.pair (.pair .str (.pair (.int .i64) .unit)) (.slc (.pair .nd (.pair (.int .i64) .unit)))))]] (loop zset_Set_remove_L1_MM), []⟩
def zset_Set_remove_T : Tm := ⟨[(0, false, [.ptr 0 0]), (1, true, [.hole .str, .hole (.int .i64)])], 2, [.box [.hole .nd, .mpl 1], .mp .str (.int .i64), .ar (.pair .str (.pair (.int .i64) .unit)) (.pair .nd (.pair (.int .i64) .unit))]⟩
def zset_Set_remove_O : List (Ex × Tm) := [(.ret, ⟨[], 0, [.box [.hole .nd, .mpl 1], .mp .str (.int .i64), .ar (.pair .str (.pair (.int .i64) .unit)) (.pair .nd (.pair (.int .i64) .unit))]⟩)]
def zset_Set_remove_M (s1_0 : List UInt8) (s1_1 : Int) (m0 : Option Nat) (d1 : List ((List UInt8) × Int)) (a2 : List (((List UInt8) × Int × Unit) × List ((Option Nat) × Int × Unit))) : Option ((Option Nat) × (List ((List UInt8) × Int)) × (List (((List UInt8) × Int × Unit) × List ((Option Nat) × Int × Unit)))) :=
  Option.bind (zset_Set_ahead_P (s1_0, s1_1, m0, d1, a2)) fun (v0 : ((Arr (12 : Nat) (Option Nat)) × ((Arr (12 : Nat) Int) × ((Option Nat) × ((List ((List UInt8) × Int)) × (List (((List UInt8) × (Int × Unit)) × (List ((Option Nat) × (Int × Unit)))))))))) =>
  Option.bind (inb (12 : Nat) (0 : Int)) fun _ =>
  Option.bind (List.getD v0.fst.val (nat_lit 0) none) fun (v2 : Nat) =>
  Option.bind (inb (List.length (ndR v0.snd.snd.snd.snd v2)) (0 : Int)) fun _ =>
  Option.bind (loop zset_Set_remove_L1_P ((List.getD (ndR v0.snd.snd.snd.snd v2) (nat_lit 0) (none, (0 : Int), ())).fst, (0 : Int), v0.fst, v0.snd.fst, v0.snd.snd.snd.snd)) fun (v4 : ((Arr (12 : Nat) (Option Nat)) × ((Arr (12 : Nat) Int) × (List (((List UInt8) × (Int × Unit)) × (List ((Option Nat) × (Int × Unit)))))))) =>
  some (v0.snd.snd.fst, v0.snd.snd.snd.fst, v4.snd.snd)
def zset_Set_remove_P : (List UInt8) × Int × (Option Nat) × (List ((List UInt8) × Int)) × (List (((List UInt8) × Int × Unit) × List ((Option Nat) × Int × Unit))) → Option ((Option Nat) × (List ((List UInt8) × Int)) × (List (((List UInt8) × Int × Unit) × List ((Option Nat) × Int × Unit)))) := fun p => zset_Set_remove_M p.1 p.2.1 p.2.2.1 p.2.2.2.1 p.2.2.2.2
def zset_Set_remove_MM : HL [.str, (.int .i64), .nd, (.slc (.pair .str (.int .i64))), (.slc (.pair (.pair .str (.pair (.int .i64) .unit)) (.slc (.pair .nd (.pair (.int .i64) .unit)))))] → Option (SumL [[.nd, (.slc (.pair .str (.int .i64))), (.slc (.pair (.pair .str (.pair (.int .i64) .unit)) (.slc (.pair .nd (.pair (.int .i64) .unit)))))]]) := fun p => zset_Set_remove_M p.1 p.2.1 p.2.2.1 p.2.2.2.1 p.2.2.2.2
def zset_Set_remove_C : Con := ⟨3, zset_Set_remove_T, zset_Set_remove_O, stdCn [.str, (.int .i64), .nd, (.slc (.pair .str (.int .i64))), (.slc (.pair (.pair .str (.pair (.int .i64) .unit)) (.slc (.pair .nd (.pair (.int .i64) .unit)))))] [[.nd, (.slc (.pair .str (.int .i64))), (.slc (.pair (.pair .str (.pair (.int .i64) .unit)) (.slc (.pair .nd (.pair (.int .i64) .unit)))))]] zset_Set_remove_MM, []⟩

def zset_height_L1_T : Tm := ⟨[(0, false, [.hole .str]), (3, false, [.hole (.int .u64)]), (7, false, [.hole (.int .i64)]), (8, false, [.hole (.int .i64)])], 35, []⟩
def zset_height_L1_O : List (Ex × Tm) := [(.exit 0, ⟨[(3, false, [.hole (.int .u64)])], 35, []⟩)]
def zset_height_L1 (s0 : List UInt8) (s3 : Int) (s7 : Int) (s8 : Int) : Option (((List UInt8) × Int × Int × Int) ⊕ ((Int))) :=
  if decide (s8 < s7) = true then
    Option.bind (ix s0 s8) fun (v0 : UInt8) =>
    some (.inl (s0, IntKind.wrap IntKind.u64 (bxor IntKind.u64 s3 (IntKind.wrap IntKind.u64 (((UInt8.toNat v0) : Nat) : Int)) * (1099511628211 : Int)), s7, IntKind.wrap IntKind.i64 (s8 + (1 : Int))))
  else
  some (.inr (s3))
def zset_height_L1_P : (List UInt8) × Int × Int × Int → Option (((List UInt8) × Int × Int × Int) ⊕ ((Int))) := fun p => zset_height_L1 p.1 p.2.1 p.2.2.1 p.2.2.2
def zset_height_L1_MM : HL [.str, (.int .u64), (.int .i64), (.int .i64)] → Option (HL [.str, (.int .u64), (.int .i64), (.int .i64)] ⊕ SumL [[(.int .u64)]]) := fun p => zset_height_L1 p.1 p.2.1 p.2.2.1 p.2.2.2
def zset_height_L1_C : Con := ⟨0, zset_height_L1_T, zset_height_L1_O, stdCn [.str, (.int .u64), (.int .i64), (.int .i64)] [[(.int .u64)]] (loop zset_height_L1_MM), []⟩
def zset_height_L2_T : Tm := ⟨[(3, false, [.hole (.int .u64)]), (5, false, [.hole (.int .i64)])], 35, []⟩
def zset_height_L2_O : List (Ex × Tm) := [(.exit 2, ⟨[(5, false, [.hole (.int .i64)])], 35, []⟩)]
def zset_height_L2 (s3 : Int) (s5 : Int) : Option ((Int × Int) ⊕ ((Int))) :=
  if decide (s5 < (12 : Int)) = true then
    if (band IntKind.u64 s3 (3 : Int) == (0 : Int)) = true then
      Option.bind (gshr IntKind.u64 s3 (2 : Int)) fun (v0 : Int) =>
      some (.inl (v0, IntKind.wrap IntKind.i64 (s5 + (1 : Int))))
    else
    some (.inr (s5))
  else
  some (.inr (s5))
def zset_height_L2_P : Int × Int → Option ((Int × Int) ⊕ ((Int))) := fun p => zset_height_L2 p.1 p.2
def zset_height_L2_MM : HL [(.int .u64), (.int .i64)] → Option (HL [(.int .u64), (.int .i64)] ⊕ SumL [[(.int .i64)]]) := fun p => zset_height_L2 p.1 p.2
def zset_height_L2_C : Con := ⟨0, zset_height_L2_T, zset_height_L2_O, stdCn [(.int .u64), (.int .i64)] [[(.int .i64)]] (loop zset_height_L2_MM), []⟩
def zset_height_T : Tm := ⟨[(0, false, [.hole .str])], 1, []⟩
def zset_height_O : List (Ex × Tm) := [(.ret, ⟨[(0, false, [.hole (.int .i64)])], 1, []⟩)]
def zset_height_M (s0 : List UInt8) : Option (Int) :=
  Option.bind (loop zset_height_L1_P (s0, (14695981039346656037 : Int), (((List.length s0) : Nat) : Int), (0 : Int))) fun (v0 : Int) =>
  Option.bind (gshr IntKind.u64 v0 (29 : Int)) fun (v1 : Int) =>
  Option.bind (loop zset_height_L2_P (bxor IntKind.u64 v0 v1, (1 : Int))) fun (v2 : Int) =>
  some (v2)
def zset_height_P : (List UInt8) → Option (Int) := fun p => zset_height_M p
def zset_height_MM : HL [.str] → Option (SumL [[(.int .i64)]]) := fun p => zset_height_M p
def zset_height_C : Con := ⟨0, zset_height_T, zset_height_O, stdCn [.str] [[(.int .i64)]] zset_height_MM, []⟩

def zset_Set_insert_L1_T : Tm := ⟨[(4, false, [.ptr 0 0]), (5, false, [.hole .nd]), (19, false, [.hole (.int .i64)])], 77, [.box [.hole (.arr 12 .nd), .hole (.arr 12 (.int .i64))], .ar (.pair .str (.pair (.int .i64) .unit)) (.pair .nd (.pair (.int .i64) .unit))]⟩
def zset_Set_insert_L1_O : List (Ex × Tm) := [(.exit 0, ⟨[], 77, [.box [.hole (.arr 12 .nd), .hole (.arr 12 (.int .i64))], .ar (.pair .str (.pair (.int .i64) .unit)) (.pair .nd (.pair (.int .i64) .unit))]⟩)]
def zset_Set_insert_L1 (s5 : Option Nat) (s19 : Int) (m0_0 : Arr 12 (Option Nat)) (m0_1 : Arr 12 Int) (a1 : List (((List UInt8) × Int × Unit) × List ((Option Nat) × Int × Unit))) : Option (((Option Nat) × Int × (Arr 12 (Option Nat)) × (Arr 12 Int) × (List (((List UInt8) × Int × Unit) × List ((Option Nat) × Int × Unit)))) ⊕ (((Arr 12 (Option Nat)) × (Arr 12 Int) × (List (((List UInt8) × Int × Unit) × List ((Option Nat) × Int × Unit)))))) :=
  if decide (s19 < (12 : Int)) = true then
    Option.bind (inb (12 : Nat) s19) fun _ =>
    Option.bind (List.getD m0_0.val (Int.toNat s19) none) fun (v1 : Nat) =>
    Option.bind (inb (List.length (ndR a1 v1)) s19) fun _ =>
    Option.bind (s5) fun (v3 : Nat) =>
    if decide (s19 ≥ (((List.length (ndR a1 v3)) : Nat) : Int)) = true then
      some (.inl (s5, IntKind.wrap IntKind.i64 (s19 + (1 : Int)), m0_0, m0_1, List.set a1 v1 (ndX ([], (0 : Int), ()) a1 v1, List.set (ndR a1 v1) (Int.toNat s19) ((List.getD (ndR a1 v1) (Int.toNat s19) (none, (0 : Int), ())).fst, IntKind.wrap IntKind.i64 ((List.getD (ndR a1 v1) (Int.toNat s19) (none, (0 : Int), ())).snd.fst + (1 : Int)), ()))))
    else
    Option.bind (inb (12 : Nat) (0 : Int)) fun _ =>
    Option.bind (inb (12 : Nat) s19) fun _ =>
    Option.bind (s5) fun (v6 : Nat) =>
    Option.bind (inb (List.length (ndR a1 v6)) s19) fun _ =>
    some (.inl (s5, IntKind.wrap IntKind.i64 (s19 + (1 : Int)), m0_0, m0_1, List.set (List.set a1 v6 (ndX ([], (0 : Int), ()) a1 v6, List.set (ndR a1 v6) (Int.toNat s19) ((List.getD (ndR a1 v1) (Int.toNat s19) (none, (0 : Int), ())).fst, IntKind.wrap IntKind.i64 ((List.getD (ndR a1 v1) (Int.toNat s19) (none, (0 : Int), ())).snd.fst - IntKind.wrap IntKind.i64 (List.getD m0_1.val (nat_lit 0) (0 : Int) - List.getD m0_1.val (Int.toNat s19) (0 : Int))), ()))) v1 (ndX ([], (0 : Int), ()) (List.set a1 v6 (ndX ([], (0 : Int), ()) a1 v6, List.set (ndR a1 v6) (Int.toNat s19) ((List.getD (ndR a1 v1) (Int.toNat s19) (none, (0 : Int), ())).fst, IntKind.wrap IntKind.i64 ((List.getD (ndR a1 v1) (Int.toNat s19) (none, (0 : Int), ())).snd.fst - IntKind.wrap IntKind.i64 (List.getD m0_1.val (nat_lit 0) (0 : Int) - List.getD m0_1.val (Int.toNat s19) (0 : Int))), ()))) v1, List.set (ndR (List.set a1 v6 (ndX ([], (0 : Int), ()) a1 v6, List.set (ndR a1 v6) (Int.toNat s19) ((List.getD (ndR a1 v1) (Int.toNat s19) (none, (0 : Int), ())).fst, IntKind.wrap IntKind.i64 ((List.getD (ndR a1 v1) (Int.toNat s19) (none, (0 : Int), ())).snd.fst - IntKind.wrap IntKind.i64 (List.getD m0_1.val (nat_lit 0) (0 : Int) - List.getD m0_1.val (Int.toNat s19) (0 : Int))), ()))) v1) (Int.toNat s19) (s5, IntKind.wrap IntKind.i64 (IntKind.wrap IntKind.i64 (List.getD m0_1.val (nat_lit 0) (0 : Int) - List.getD m0_1.val (Int.toNat s19) (0 : Int)) + (1 : Int)), ()))))
  else
  some (.inr (m0_0, m0_1, a1))
def zset_Set_insert_L1_P : (Option Nat) × Int × (Arr 12 (Option Nat)) × (Arr 12 Int) × (List (((List UInt8) × Int × Unit) × List ((Option Nat) × Int × Unit))) → Option (((Option Nat) × Int × (Arr 12 (Option Nat)) × (Arr 12 Int) × (List (((List UInt8) × Int × Unit) × List ((Option Nat) × Int × Unit)))) ⊕ (((Arr 12 (Option Nat)) × (Arr 12 Int) × (List (((List UInt8) × Int × Unit) × List ((Option Nat) × Int × Unit)))))) := fun p => zset_Set_insert_L1 p.1 p.2.1 p.2.2.1 p.2.2.2.1 p.2.2.2.2
def zset_Set_insert_L1_MM : HL [.nd, (.int .i64), (.arr 12 .nd), (.arr 12 (.int .i64)), (.slc (.pair (.pair .str (.pair (.int .i64) .unit)) (.slc (.pair .nd (.pair (.int .i64) .unit)))))] → Option (HL [.nd, (.int .i64), (.arr 12 .nd), (.arr 12 (.int .i64)), (.slc (.pair (.pair .str (.pair (.int .i64) .unit)) (.slc (.pair .nd (.pair (.int .i64) .unit)))))] ⊕ SumL [[(.arr 12 .nd), (.arr 12 (.int .i64)), (.slc (.pair (.pair .str (.pair (.int .i64) .unit)) (.slc (.pair .nd (.pair (.int .i64) .unit)))))]]) := fun p => zset_Set_insert_L1 p.1 p.2.1 p.2.2.1 p.2.2.2.1 p.2.2.2.2
def zset_Set_insert_L1_C : Con := ⟨2, zset_Set_insert_L1_T, zset_Set_insert_L1_O, stdCn [.nd, (.int .i64), (.arr 12 .nd), (.arr 12 (.int .i64)), (.slc (.pair (.pair .str (.pair (.int .i64) .unit)) (.slc (.pair .nd (.pair (.int .i64) .unit)))))] [[(.arr 12 .nd), (.arr 12 (.int .i64)), (.slc (.pair (.pair .str (.pair (.int .i64) .unit)) (.slc (.pair .nd (.pair (.int .i64) .unit)))))]] (loop zset_Set_insert_L1_MM), []⟩
def zset_Set_insert_T : Tm := ⟨[(0, false, [.ptr 0 0]), (1, true, [.hole .str, .hole (.int .i64)])], 2, [.box [.hole .nd, .mpl 1], .mp .str (.int .i64), .ar (.pair .str (.pair (.int .i64) .unit)) (.pair .nd (.pair (.int .i64) .unit))]⟩
def zset_Set_insert_O : List (Ex × Tm) := [(.ret, ⟨[], 0, [.box [.hole .nd, .mpl 1], .mp .str (.int .i64), .ar (.pair .str (.pair (.int .i64) .unit)) (.pair .nd (.pair (.int .i64) .unit))]⟩)]
def zset_Set_insert_M (s1_0 : List UInt8) (s1_1 : Int) (m0 : Option Nat) (d1 : List ((List UInt8) × Int)) (a2 : List (((List UInt8) × Int × Unit) × List ((Option Nat) × Int × Unit))) : Option ((Option Nat) × (List ((List UInt8) × Int)) × (List (((List UInt8) × Int × Unit) × List ((Option Nat) × Int × Unit)))) :=
  Option.bind (zset_Set_ahead_P (s1_0, s1_1, m0, d1, a2)) fun (v0 : ((Arr (12 : Nat) (Option Nat)) × ((Arr (12 : Nat) Int) × ((Option Nat) × ((List ((List UInt8) × Int)) × (List (((List UInt8) × (Int × Unit)) × (List ((Option Nat) × (Int × Unit)))))))))) =>
  Option.bind (zset_height_P s1_0) fun (v1 : Int) =>
  Option.bind (mk2 (16 : Nat) v1 v1) fun (v2 : Nat) =>
  Option.bind (loop zset_Set_insert_L1_P (some (List.length v0.snd.snd.snd.snd), (0 : Int), v0.fst, v0.snd.fst, v0.snd.snd.snd.snd ++ [((s1_0, s1_1, ()), List.replicate v2 (none, (0 : Int), ()))])) fun (v3 : ((Arr (12 : Nat) (Option Nat)) × ((Arr (12 : Nat) Int) × (List (((List UInt8) × (Int × Unit)) × (List ((Option Nat) × (Int × Unit)))))))) =>
  some (v0.snd.snd.fst, v0.snd.snd.snd.fst, v3.snd.snd)
def zset_Set_insert_P : (List UInt8) × Int × (Option Nat) × (List ((List UInt8) × Int)) × (List (((List UInt8) × Int × Unit) × List ((Option Nat) × Int × Unit))) → Option ((Option Nat) × (List ((List UInt8) × Int)) × (List (((List UInt8) × Int × Unit) × List ((Option Nat) × Int × Unit)))) := fun p => zset_Set_insert_M p.1 p.2.1 p.2.2.1 p.2.2.2.1 p.2.2.2.2
def zset_Set_insert_MM : HL [.str, (.int .i64), .nd, (.slc (.pair .str (.int .i64))), (.slc (.pair (.pair .str (.pair (.int .i64) .unit)) (.slc (.pair .nd (.pair (.int .i64) .unit)))))] → Option (SumL [[.nd, (.slc (.pair .str (.int .i64))), (.slc (.pair (.pair .str (.pair (.int .i64) .unit)) (.slc (.pair .nd (.pair (.int .i64) .unit)))))]]) := fun p => zset_Set_insert_M p.1 p.2.1 p.2.2.1 p.2.2.2.1 p.2.2.2.2
def zset_Set_insert_C : Con := ⟨3, zset_Set_insert_T, zset_Set_insert_O, stdCn [.str, (.int .i64), .nd, (.slc (.pair .str (.int .i64))), (.slc (.pair (.pair .str (.pair (.int .i64) .unit)) (.slc (.pair .nd (.pair (.int .i64) .unit)))))] [[.nd, (.slc (.pair .str (.int .i64))), (.slc (.pair (.pair .str (.pair (.int .i64) .unit)) (.slc (.pair .nd (.pair (.int .i64) .unit)))))]] zset_Set_insert_MM, []⟩

def zset_Set_Put_n_T : Tm := ⟨[(0, false, [.nilp]), (1, false, [.hole .str]), (2, false, [.hole (.int .i64)])], 3, [.ar (.pair .str (.pair (.int .i64) .unit)) (.pair .nd (.pair (.int .i64) .unit))]⟩
def zset_Set_Put_n_O : List (Ex × Tm) := [(.ret, ⟨[(0, false, [.hole .bool])], 1, [.ar (.pair .str (.pair (.int .i64) .unit)) (.pair .nd (.pair (.int .i64) .unit))]⟩)]
def zset_Set_Put_n_M (s1 : List UInt8) (s2 : Int) (a0 : List (((List UInt8) × Int × Unit) × List ((Option Nat) × Int × Unit))) : Option (Bool × (List (((List UInt8) × Int × Unit) × List ((Option Nat) × Int × Unit)))) :=
  Option.bind (zset_Set_made_n_P a0) fun (v0 : (Bool × (List (((List UInt8) × (Int × Unit)) × (List ((Option Nat) × (Int × Unit))))))) =>
  if (!v0.fst) = true then
    some (false, v0.snd)
  else
  none -- STUCK after t14 nilCheck [R0 R1 R2 R3]
def zset_Set_Put_n_P : (List UInt8) × Int × (List (((List UInt8) × Int × Unit) × List ((Option Nat) × Int × Unit))) → Option (Bool × (List (((List UInt8) × Int × Unit) × List ((Option Nat) × Int × Unit)))) := fun p => zset_Set_Put_n_M p.1 p.2.1 p.2.2
def zset_Set_Put_n_MM : HL [.str, (.int .i64), (.slc (.pair (.pair .str (.pair (.int .i64) .unit)) (.slc (.pair .nd (.pair (.int .i64) .unit)))))] → Option (SumL [[.bool, (.slc (.pair (.pair .str (.pair (.int .i64) .unit)) (.slc (.pair .nd (.pair (.int .i64) .unit)))))]]) := fun p => zset_Set_Put_n_M p.1 p.2.1 p.2.2
def zset_Set_Put_n_C : Con := ⟨1, zset_Set_Put_n_T, zset_Set_Put_n_O, stdCn [.str, (.int .i64), (.slc (.pair (.pair .str (.pair (.int .i64) .unit)) (.slc (.pair .nd (.pair (.int .i64) .unit)))))] [[.bool, (.slc (.pair (.pair .str (.pair (.int .i64) .unit)) (.slc (.pair .nd (.pair (.int .i64) .unit)))))]] zset_Set_Put_n_MM, []⟩

def zset_Set_Put_e_T : Tm := ⟨[(0, false, [.ptr 0 0]), (1, false, [.hole .str]), (2, false, [.hole (.int .i64)])], 3, [.box [.hole .nd, .nilm], .ar (.pair .str (.pair (.int .i64) .unit)) (.pair .nd (.pair (.int .i64) .unit))]⟩
def zset_Set_Put_e_O : List (Ex × Tm) := [(.ret, ⟨[(0, false, [.hole .bool])], 1, [.box [.hole .nd, .nilm], .ar (.pair .str (.pair (.int .i64) .unit)) (.pair .nd (.pair (.int .i64) .unit))]⟩)]
def zset_Set_Put_e_M (s1 : List UInt8) (s2 : Int) (m0 : Option Nat) (a1 : List (((List UInt8) × Int × Unit) × List ((Option Nat) × Int × Unit))) : Option (Bool × (Option Nat) × (List (((List UInt8) × Int × Unit) × List ((Option Nat) × Int × Unit)))) :=
  Option.bind (zset_Set_made_e_P (m0, a1)) fun (v0 : (Bool × ((Option Nat) × (List (((List UInt8) × (Int × Unit)) × (List ((Option Nat) × (Int × Unit)))))))) =>
  if (!v0.fst) = true then
    some (false, v0.snd.fst, v0.snd.snd)
  else
  none -- STUCK after t18 lookup [R0 R1 R2 R3]
def zset_Set_Put_e_P : (List UInt8) × Int × (Option Nat) × (List (((List UInt8) × Int × Unit) × List ((Option Nat) × Int × Unit))) → Option (Bool × (Option Nat) × (List (((List UInt8) × Int × Unit) × List ((Option Nat) × Int × Unit)))) := fun p => zset_Set_Put_e_M p.1 p.2.1 p.2.2.1 p.2.2.2
def zset_Set_Put_e_MM : HL [.str, (.int .i64), .nd, (.slc (.pair (.pair .str (.pair (.int .i64) .unit)) (.slc (.pair .nd (.pair (.int .i64) .unit)))))] → Option (SumL [[.bool, .nd, (.slc (.pair (.pair .str (.pair (.int .i64) .unit)) (.slc (.pair .nd (.pair (.int .i64) .unit)))))]]) := fun p => zset_Set_Put_e_M p.1 p.2.1 p.2.2.1 p.2.2.2
def zset_Set_Put_e_C : Con := ⟨2, zset_Set_Put_e_T, zset_Set_Put_e_O, stdCn [.str, (.int .i64), .nd, (.slc (.pair (.pair .str (.pair (.int .i64) .unit)) (.slc (.pair .nd (.pair (.int .i64) .unit)))))] [[.bool, .nd, (.slc (.pair (.pair .str (.pair (.int .i64) .unit)) (.slc (.pair .nd (.pair (.int .i64) .unit)))))]] zset_Set_Put_e_MM, []⟩

def zset_Set_Put_T : Tm := ⟨[(0, false, [.ptr 0 0]), (1, false, [.hole .str]), (2, false, [.hole (.int .i64)])], 3, [.box [.hole .nd, .mpl 1], .mp .str (.int .i64), .ar (.pair .str (.pair (.int .i64) .unit)) (.pair .nd (.pair (.int .i64) .unit))]⟩
def zset_Set_Put_O : List (Ex × Tm) := [(.ret, ⟨[(0, false, [.hole .bool])], 1, [.box [.hole .nd, .mpl 1], .mp .str (.int .i64), .ar (.pair .str (.pair (.int .i64) .unit)) (.pair .nd (.pair (.int .i64) .unit))]⟩)]
def zset_Set_Put_M (s1 : List UInt8) (s2 : Int) (m0 : Option Nat) (d1 : List ((List UInt8) × Int)) (a2 : List (((List UInt8) × Int × Unit) × List ((Option Nat) × Int × Unit))) : Option (Bool × (Option Nat) × (List ((List UInt8) × Int)) × (List (((List UInt8) × Int × Unit) × List ((Option Nat) × Int × Unit)))) :=
  Option.bind (zset_Set_made_P (m0, d1, a2)) fun (v0 : (Bool × ((Option Nat) × ((List ((List UInt8) × Int)) × (List (((List UInt8) × (Int × Unit)) × (List ((Option Nat) × (Int × Unit))))))))) =>
  if (!v0.fst) = true then
    some (false, v0.snd.fst, v0.snd.snd.fst, v0.snd.snd.snd)
  else
  if Option.isSome (mget v0.snd.snd.fst s1) = true then
    Option.bind (zset_Set_remove_P (s1, Option.getD (mget v0.snd.snd.fst s1) (0 : Int), v0.snd.fst, v0.snd.snd.fst, v0.snd.snd.snd)) fun (v1 : ((Option Nat) × ((List ((List UInt8) × Int)) × (List (((List UInt8) × (Int × Unit)) × (List ((Option Nat) × (Int × Unit)))))))) =>
    Option.bind (zset_Set_insert_P (s1, s2, v1.fst, mput v1.snd.fst s1 s2, v1.snd.snd)) fun (v2 : ((Option Nat) × ((List ((List UInt8) × Int)) × (List (((List UInt8) × (Int × Unit)) × (List ((Option Nat) × (Int × Unit)))))))) =>
    some (!Option.isSome (mget v0.snd.snd.fst s1), v2.fst, v2.snd.fst, v2.snd.snd)
  else
  Option.bind (zset_Set_insert_P (s1, s2, v0.snd.fst, mput v0.snd.snd.fst s1 s2, v0.snd.snd.snd)) fun (v3 : ((Option Nat) × ((List ((List UInt8) × Int)) × (List (((List UInt8) × (Int × Unit)) × (List ((Option Nat) × (Int × Unit)))))))) =>
  some (!Option.isSome (mget v0.snd.snd.fst s1), v3.fst, v3.snd.fst, v3.snd.snd)
def zset_Set_Put_P : (List UInt8) × Int × (Option Nat) × (List ((List UInt8) × Int)) × (List (((List UInt8) × Int × Unit) × List ((Option Nat) × Int × Unit))) → Option (Bool × (Option Nat) × (List ((List UInt8) × Int)) × (List (((List UInt8) × Int × Unit) × List ((Option Nat) × Int × Unit)))) := fun p => zset_Set_Put_M p.1 p.2.1 p.2.2.1 p.2.2.2.1 p.2.2.2.2
def zset_Set_Put_MM : HL [.str, (.int .i64), .nd, (.slc (.pair .str (.int .i64))), (.slc (.pair (.pair .str (.pair (.int .i64) .unit)) (.slc (.pair .nd (.pair (.int .i64) .unit)))))] → Option (SumL [[.bool, .nd, (.slc (.pair .str (.int .i64))), (.slc (.pair (.pair .str (.pair (.int .i64) .unit)) (.slc (.pair .nd (.pair (.int .i64) .unit)))))]]) := fun p => zset_Set_Put_M p.1 p.2.1 p.2.2.1 p.2.2.2.1 p.2.2.2.2
def zset_Set_Put_C : Con := ⟨3, zset_Set_Put_T, zset_Set_Put_O, stdCn [.str, (.int .i64), .nd, (.slc (.pair .str (.int .i64))), (.slc (.pair (.pair .str (.pair (.int .i64) .unit)) (.slc (.pair .nd (.pair (.int .i64) .unit)))))] [[.bool, .nd, (.slc (.pair .str (.int .i64))), (.slc (.pair (.pair .str (.pair (.int .i64) .unit)) (.slc (.pair .nd (.pair (.int .i64) .unit)))))]] zset_Set_Put_MM, []⟩

def intagliolaw14_awake_T : Tm := ⟨[], 0, [.ar (.pair .str (.pair (.int .i64) .unit)) (.pair .nd (.pair (.int .i64) .unit))]⟩
def intagliolaw14_awake_O : List (Ex × Tm) := [(.ret, ⟨[(0, false, [.hole .bool])], 1, [.ar (.pair .str (.pair (.int .i64) .unit)) (.pair .nd (.pair (.int .i64) .unit))]⟩)]
def intagliolaw14_awake_M (a0 : List (((List UInt8) × Int × Unit) × List ((Option Nat) × Int × Unit))) : Option (Bool × (List (((List UInt8) × Int × Unit) × List ((Option Nat) × Int × Unit)))) :=
  Option.bind (zset_New_P a0) fun (v0 : ((List (((List UInt8) × (Int × Unit)) × (List ((Option Nat) × (Int × Unit))))) × ((Option Nat) × (List ((List UInt8) × Int))))) =>
  Option.bind (zset_Set_Put_P ([(97 : UInt8)], (5 : Int), v0.snd.fst, v0.snd.snd, v0.fst)) fun (v1 : (Bool × ((Option Nat) × ((List ((List UInt8) × Int)) × (List (((List UInt8) × (Int × Unit)) × (List ((Option Nat) × (Int × Unit))))))))) =>
  if v1.fst = true then
    Option.bind (zset_Set_Put_P ([(98 : UInt8)], (3 : Int), v1.snd.fst, v1.snd.snd.fst, v1.snd.snd.snd)) fun (v2 : (Bool × ((Option Nat) × ((List ((List UInt8) × Int)) × (List (((List UInt8) × (Int × Unit)) × (List ((Option Nat) × (Int × Unit))))))))) =>
    if v2.fst = true then
      Option.bind (zset_Set_Put_P ([(97 : UInt8)], (1 : Int), v2.snd.fst, v2.snd.snd.fst, v2.snd.snd.snd)) fun (v3 : (Bool × ((Option Nat) × ((List ((List UInt8) × Int)) × (List (((List UInt8) × (Int × Unit)) × (List ((Option Nat) × (Int × Unit))))))))) =>
      Option.bind (zset_Set_Rank_P ([(98 : UInt8)], v3.snd.fst, v3.snd.snd.fst, v3.snd.snd.snd)) fun (v4 : (Int × (Bool × ((Option Nat) × ((List ((List UInt8) × Int)) × (List (((List UInt8) × (Int × Unit)) × (List ((Option Nat) × (Int × Unit)))))))))) =>
      if (!v3.fst) = true then
        if (v4.fst == (1 : Int)) = true then
          if v4.snd.fst = true then
            Option.bind (zset_Set_Len_P (v4.snd.snd.fst, v4.snd.snd.snd.fst, v4.snd.snd.snd.snd)) fun (v5 : (Int × ((Option Nat) × ((List ((List UInt8) × Int)) × (List (((List UInt8) × (Int × Unit)) × (List ((Option Nat) × (Int × Unit))))))))) =>
            if (v5.fst == (2 : Int)) = true then
              Option.bind (zset_Set_Range_P ((0 : Int), (9 : Int), v5.snd.fst, v5.snd.snd.fst, v5.snd.snd.snd)) fun (v6 : ((Option Nat) × ((List ((List UInt8) × Int)) × ((List (((List UInt8) × (Int × Unit)) × (List ((Option Nat) × (Int × Unit))))) × (List ((List UInt8) × (Int × Unit))))))) =>
              Option.bind (intaglioref14_Same_P (v6.snd.snd.snd, [([(97 : UInt8)], (1 : Int), ()), ([(98 : UInt8)], (3 : Int), ())])) fun (v7 : Bool) =>
              some (v7, v6.snd.snd.fst)
            else
            some (false, v5.snd.snd.snd)
          else
          some (false, v4.snd.snd.snd.snd)
        else
        some (false, v4.snd.snd.snd.snd)
      else
      some (false, v4.snd.snd.snd.snd)
    else
    Option.bind (zset_Set_Rank_P ([(98 : UInt8)], v2.snd.fst, v2.snd.snd.fst, v2.snd.snd.snd)) fun (v8 : (Int × (Bool × ((Option Nat) × ((List ((List UInt8) × Int)) × (List (((List UInt8) × (Int × Unit)) × (List ((Option Nat) × (Int × Unit)))))))))) =>
    some (false, v8.snd.snd.snd.snd)
  else
  Option.bind (zset_Set_Rank_P ([(98 : UInt8)], v1.snd.fst, v1.snd.snd.fst, v1.snd.snd.snd)) fun (v9 : (Int × (Bool × ((Option Nat) × ((List ((List UInt8) × Int)) × (List (((List UInt8) × (Int × Unit)) × (List ((Option Nat) × (Int × Unit)))))))))) =>
  some (false, v9.snd.snd.snd.snd)
def intagliolaw14_awake_P : (List (((List UInt8) × Int × Unit) × List ((Option Nat) × Int × Unit))) → Option (Bool × (List (((List UInt8) × Int × Unit) × List ((Option Nat) × Int × Unit)))) := fun p => intagliolaw14_awake_M p
def intagliolaw14_awake_MM : HL [(.slc (.pair (.pair .str (.pair (.int .i64) .unit)) (.slc (.pair .nd (.pair (.int .i64) .unit)))))] → Option (SumL [[.bool, (.slc (.pair (.pair .str (.pair (.int .i64) .unit)) (.slc (.pair .nd (.pair (.int .i64) .unit)))))]]) := fun p => intagliolaw14_awake_M p
def intagliolaw14_awake_C : Con := ⟨1, intagliolaw14_awake_T, intagliolaw14_awake_O, stdCn [(.slc (.pair (.pair .str (.pair (.int .i64) .unit)) (.slc (.pair .nd (.pair (.int .i64) .unit)))))] [[.bool, (.slc (.pair (.pair .str (.pair (.int .i64) .unit)) (.slc (.pair .nd (.pair (.int .i64) .unit)))))]] intagliolaw14_awake_MM, []⟩

def intaglioref14_Find_L1_T : Tm := ⟨[(0, false, [.hole (.slc (.pair .str (.pair (.int .i64) .unit)))]), (1, false, [.hole .str]), (5, false, [.hole (.int .i64)])], 20, []⟩
def intaglioref14_Find_L1_O : List (Ex × Tm) := [(.exit 0, ⟨[], 20, []⟩), (.ret, ⟨[(4, false, [.hole (.int .i64)])], 20, []⟩)]
def intaglioref14_Find_L1 (s0 : List ((List UInt8) × Int × Unit)) (s1 : List UInt8) (s5 : Int) : Option (((List ((List UInt8) × Int × Unit)) × (List UInt8) × Int) ⊕ ((Unit) ⊕ (Int))) :=
  if decide (s5 < (((List.length s0) : Nat) : Int)) = true then
    Option.bind (ix s0 s5) fun (v0 : ((List UInt8) × (Int × Unit))) =>
    if (v0.fst == s1) = true then
      some (.inr (.inr (s5)))
    else
    some (.inl (s0, s1, IntKind.wrap IntKind.i64 (s5 + (1 : Int))))
  else
  some (.inr (.inl (())))
def intaglioref14_Find_L1_P : (List ((List UInt8) × Int × Unit)) × (List UInt8) × Int → Option (((List ((List UInt8) × Int × Unit)) × (List UInt8) × Int) ⊕ ((Unit) ⊕ (Int))) := fun p => intaglioref14_Find_L1 p.1 p.2.1 p.2.2
def intaglioref14_Find_L1_MM : HL [(.slc (.pair .str (.pair (.int .i64) .unit))), .str, (.int .i64)] → Option (HL [(.slc (.pair .str (.pair (.int .i64) .unit))), .str, (.int .i64)] ⊕ SumL [[], [(.int .i64)]]) := fun p => intaglioref14_Find_L1 p.1 p.2.1 p.2.2
def intaglioref14_Find_L1_C : Con := ⟨0, intaglioref14_Find_L1_T, intaglioref14_Find_L1_O, stdCn [(.slc (.pair .str (.pair (.int .i64) .unit))), .str, (.int .i64)] [[], [(.int .i64)]] (loop intaglioref14_Find_L1_MM), []⟩
def intaglioref14_Find_T : Tm := ⟨[(0, false, [.hole (.slc (.pair .str (.pair (.int .i64) .unit)))]), (1, false, [.hole .str])], 2, []⟩
def intaglioref14_Find_O : List (Ex × Tm) := [(.ret, ⟨[(0, false, [.hole (.int .i64)])], 1, []⟩)]
def intaglioref14_Find_M (s0 : List ((List UInt8) × Int × Unit)) (s1 : List UInt8) : Option (Int) :=
  Option.bind (loop intaglioref14_Find_L1_P (s0, s1, (0 : Int))) fun (v0 : (Unit ⊕ Int)) =>
  Sum.elim (fun _ =>
      some ((-1 : Int))
    ) (fun (v2 : Int) =>
    some (v2)
  ) (v0)
def intaglioref14_Find_P : (List ((List UInt8) × Int × Unit)) × (List UInt8) → Option (Int) := fun p => intaglioref14_Find_M p.1 p.2
def intaglioref14_Find_MM : HL [(.slc (.pair .str (.pair (.int .i64) .unit))), .str] → Option (SumL [[(.int .i64)]]) := fun p => intaglioref14_Find_M p.1 p.2
def intaglioref14_Find_C : Con := ⟨0, intaglioref14_Find_T, intaglioref14_Find_O, stdCn [(.slc (.pair .str (.pair (.int .i64) .unit))), .str] [[(.int .i64)]] intaglioref14_Find_MM, []⟩

def zset_Set_Drop_n_T : Tm := ⟨[(0, false, [.nilp]), (1, false, [.hole .str])], 2, [.ar (.pair .str (.pair (.int .i64) .unit)) (.pair .nd (.pair (.int .i64) .unit))]⟩
def zset_Set_Drop_n_O : List (Ex × Tm) := [(.ret, ⟨[(0, false, [.hole .bool])], 1, [.ar (.pair .str (.pair (.int .i64) .unit)) (.pair .nd (.pair (.int .i64) .unit))]⟩)]
def zset_Set_Drop_n_M (s1 : List UInt8) (a0 : List (((List UInt8) × Int × Unit) × List ((Option Nat) × Int × Unit))) : Option (Bool × (List (((List UInt8) × Int × Unit) × List ((Option Nat) × Int × Unit)))) :=
  Option.bind (zset_Set_Score_n_P (s1, a0)) fun (v0 : (Int × (Bool × (List (((List UInt8) × (Int × Unit)) × (List ((Option Nat) × (Int × Unit)))))))) =>
  if v0.snd.fst = true then
    none -- STUCK after t18 call [R0 R1 R2 R3]
  else
  some (v0.snd.fst, v0.snd.snd)
def zset_Set_Drop_n_P : (List UInt8) × (List (((List UInt8) × Int × Unit) × List ((Option Nat) × Int × Unit))) → Option (Bool × (List (((List UInt8) × Int × Unit) × List ((Option Nat) × Int × Unit)))) := fun p => zset_Set_Drop_n_M p.1 p.2
def zset_Set_Drop_n_MM : HL [.str, (.slc (.pair (.pair .str (.pair (.int .i64) .unit)) (.slc (.pair .nd (.pair (.int .i64) .unit)))))] → Option (SumL [[.bool, (.slc (.pair (.pair .str (.pair (.int .i64) .unit)) (.slc (.pair .nd (.pair (.int .i64) .unit)))))]]) := fun p => zset_Set_Drop_n_M p.1 p.2
def zset_Set_Drop_n_C : Con := ⟨1, zset_Set_Drop_n_T, zset_Set_Drop_n_O, stdCn [.str, (.slc (.pair (.pair .str (.pair (.int .i64) .unit)) (.slc (.pair .nd (.pair (.int .i64) .unit)))))] [[.bool, (.slc (.pair (.pair .str (.pair (.int .i64) .unit)) (.slc (.pair .nd (.pair (.int .i64) .unit)))))]] zset_Set_Drop_n_MM, []⟩

def zset_Set_Drop_e_T : Tm := ⟨[(0, false, [.ptr 0 0]), (1, false, [.hole .str])], 2, [.box [.hole .nd, .nilm], .ar (.pair .str (.pair (.int .i64) .unit)) (.pair .nd (.pair (.int .i64) .unit))]⟩
def zset_Set_Drop_e_O : List (Ex × Tm) := [(.ret, ⟨[(0, false, [.hole .bool])], 1, [.box [.hole .nd, .nilm], .ar (.pair .str (.pair (.int .i64) .unit)) (.pair .nd (.pair (.int .i64) .unit))]⟩)]
def zset_Set_Drop_e_M (s1 : List UInt8) (m0 : Option Nat) (a1 : List (((List UInt8) × Int × Unit) × List ((Option Nat) × Int × Unit))) : Option (Bool × (Option Nat) × (List (((List UInt8) × Int × Unit) × List ((Option Nat) × Int × Unit)))) :=
  Option.bind (zset_Set_Score_e_P (s1, m0, a1)) fun (v0 : (Int × (Bool × ((Option Nat) × (List (((List UInt8) × (Int × Unit)) × (List ((Option Nat) × (Int × Unit))))))))) =>
  if v0.snd.fst = true then
    none -- STUCK after t18 call [R0 R1 R2 R3]
  else
  some (v0.snd.fst, v0.snd.snd.fst, v0.snd.snd.snd)
def zset_Set_Drop_e_P : (List UInt8) × (Option Nat) × (List (((List UInt8) × Int × Unit) × List ((Option Nat) × Int × Unit))) → Option (Bool × (Option Nat) × (List (((List UInt8) × Int × Unit) × List ((Option Nat) × Int × Unit)))) := fun p => zset_Set_Drop_e_M p.1 p.2.1 p.2.2
def zset_Set_Drop_e_MM : HL [.str, .nd, (.slc (.pair (.pair .str (.pair (.int .i64) .unit)) (.slc (.pair .nd (.pair (.int .i64) .unit)))))] → Option (SumL [[.bool, .nd, (.slc (.pair (.pair .str (.pair (.int .i64) .unit)) (.slc (.pair .nd (.pair (.int .i64) .unit)))))]]) := fun p => zset_Set_Drop_e_M p.1 p.2.1 p.2.2
def zset_Set_Drop_e_C : Con := ⟨2, zset_Set_Drop_e_T, zset_Set_Drop_e_O, stdCn [.str, .nd, (.slc (.pair (.pair .str (.pair (.int .i64) .unit)) (.slc (.pair .nd (.pair (.int .i64) .unit)))))] [[.bool, .nd, (.slc (.pair (.pair .str (.pair (.int .i64) .unit)) (.slc (.pair .nd (.pair (.int .i64) .unit)))))]] zset_Set_Drop_e_MM, []⟩

def zset_Set_Drop_T : Tm := ⟨[(0, false, [.ptr 0 0]), (1, false, [.hole .str])], 2, [.box [.hole .nd, .mpl 1], .mp .str (.int .i64), .ar (.pair .str (.pair (.int .i64) .unit)) (.pair .nd (.pair (.int .i64) .unit))]⟩
def zset_Set_Drop_O : List (Ex × Tm) := [(.ret, ⟨[(0, false, [.hole .bool])], 1, [.box [.hole .nd, .mpl 1], .mp .str (.int .i64), .ar (.pair .str (.pair (.int .i64) .unit)) (.pair .nd (.pair (.int .i64) .unit))]⟩)]
def zset_Set_Drop_M (s1 : List UInt8) (m0 : Option Nat) (d1 : List ((List UInt8) × Int)) (a2 : List (((List UInt8) × Int × Unit) × List ((Option Nat) × Int × Unit))) : Option (Bool × (Option Nat) × (List ((List UInt8) × Int)) × (List (((List UInt8) × Int × Unit) × List ((Option Nat) × Int × Unit)))) :=
  Option.bind (zset_Set_Score_P (s1, m0, d1, a2)) fun (v0 : (Int × (Bool × ((Option Nat) × ((List ((List UInt8) × Int)) × (List (((List UInt8) × (Int × Unit)) × (List ((Option Nat) × (Int × Unit)))))))))) =>
  if v0.snd.fst = true then
    Option.bind (zset_Set_remove_P (s1, v0.fst, v0.snd.snd.fst, v0.snd.snd.snd.fst, v0.snd.snd.snd.snd)) fun (v1 : ((Option Nat) × ((List ((List UInt8) × Int)) × (List (((List UInt8) × (Int × Unit)) × (List ((Option Nat) × (Int × Unit)))))))) =>
    some (v0.snd.fst, v1.fst, mdel v1.snd.fst s1, v1.snd.snd)
  else
  some (v0.snd.fst, v0.snd.snd.fst, v0.snd.snd.snd.fst, v0.snd.snd.snd.snd)
def zset_Set_Drop_P : (List UInt8) × (Option Nat) × (List ((List UInt8) × Int)) × (List (((List UInt8) × Int × Unit) × List ((Option Nat) × Int × Unit))) → Option (Bool × (Option Nat) × (List ((List UInt8) × Int)) × (List (((List UInt8) × Int × Unit) × List ((Option Nat) × Int × Unit)))) := fun p => zset_Set_Drop_M p.1 p.2.1 p.2.2.1 p.2.2.2
def zset_Set_Drop_MM : HL [.str, .nd, (.slc (.pair .str (.int .i64))), (.slc (.pair (.pair .str (.pair (.int .i64) .unit)) (.slc (.pair .nd (.pair (.int .i64) .unit)))))] → Option (SumL [[.bool, .nd, (.slc (.pair .str (.int .i64))), (.slc (.pair (.pair .str (.pair (.int .i64) .unit)) (.slc (.pair .nd (.pair (.int .i64) .unit)))))]]) := fun p => zset_Set_Drop_M p.1 p.2.1 p.2.2.1 p.2.2.2
def zset_Set_Drop_C : Con := ⟨3, zset_Set_Drop_T, zset_Set_Drop_O, stdCn [.str, .nd, (.slc (.pair .str (.int .i64))), (.slc (.pair (.pair .str (.pair (.int .i64) .unit)) (.slc (.pair .nd (.pair (.int .i64) .unit)))))] [[.bool, .nd, (.slc (.pair .str (.int .i64))), (.slc (.pair (.pair .str (.pair (.int .i64) .unit)) (.slc (.pair .nd (.pair (.int .i64) .unit)))))]] zset_Set_Drop_MM, []⟩

def intaglioref14_Drop_L1_T : Tm := ⟨[(0, false, [.hole (.slc (.pair .str (.pair (.int .i64) .unit)))]), (1, false, [.hole .str]), (5, false, [.row 0]), (6, false, [.hole (.int .i64)])], 28, [.row (.pair .str (.pair (.int .i64) .unit))]⟩
def intaglioref14_Drop_L1_O : List (Ex × Tm) := [(.exit 0, ⟨[(5, false, [.row 0])], 28, [.row (.pair .str (.pair (.int .i64) .unit))]⟩)]
def intaglioref14_Drop_L1 (s0 : List ((List UInt8) × Int × Unit)) (s1 : List UInt8) (s6 : Int) (r0 : List ((List UInt8) × Int × Unit)) : Option (((List ((List UInt8) × Int × Unit)) × (List UInt8) × Int × (List ((List UInt8) × Int × Unit))) ⊕ (((List ((List UInt8) × Int × Unit))))) :=
  if decide (s6 < (((List.length s0) : Nat) : Int)) = true then
    Option.bind (ix s0 s6) fun (v0 : ((List UInt8) × (Int × Unit))) =>
    if (!v0.fst == s1) = true then
      Option.bind (ix s0 s6) fun (v1 : ((List UInt8) × (Int × Unit))) =>
      Option.bind (room (24 : Nat) (List.length r0 + List.length [(v1.fst, v1.snd.fst, ())])) fun _ =>
      some (.inl (s0, s1, IntKind.wrap IntKind.i64 (s6 + (1 : Int)), r0 ++ [(v1.fst, v1.snd.fst, ())]))
    else
    some (.inl (s0, s1, IntKind.wrap IntKind.i64 (s6 + (1 : Int)), r0))
  else
  some (.inr (r0))
def intaglioref14_Drop_L1_P : (List ((List UInt8) × Int × Unit)) × (List UInt8) × Int × (List ((List UInt8) × Int × Unit)) → Option (((List ((List UInt8) × Int × Unit)) × (List UInt8) × Int × (List ((List UInt8) × Int × Unit))) ⊕ (((List ((List UInt8) × Int × Unit))))) := fun p => intaglioref14_Drop_L1 p.1 p.2.1 p.2.2.1 p.2.2.2
def intaglioref14_Drop_L1_MM : HL [(.slc (.pair .str (.pair (.int .i64) .unit))), .str, (.int .i64), (.slc (.pair .str (.pair (.int .i64) .unit)))] → Option (HL [(.slc (.pair .str (.pair (.int .i64) .unit))), .str, (.int .i64), (.slc (.pair .str (.pair (.int .i64) .unit)))] ⊕ SumL [[(.slc (.pair .str (.pair (.int .i64) .unit)))]]) := fun p => intaglioref14_Drop_L1 p.1 p.2.1 p.2.2.1 p.2.2.2
def intaglioref14_Drop_L1_C : Con := ⟨0, intaglioref14_Drop_L1_T, intaglioref14_Drop_L1_O, stdCn [(.slc (.pair .str (.pair (.int .i64) .unit))), .str, (.int .i64), (.slc (.pair .str (.pair (.int .i64) .unit)))] [[(.slc (.pair .str (.pair (.int .i64) .unit)))]] (loop intaglioref14_Drop_L1_MM), []⟩
def intaglioref14_Drop_T : Tm := ⟨[(0, false, [.hole (.slc (.pair .str (.pair (.int .i64) .unit)))]), (1, false, [.hole .str])], 2, []⟩
def intaglioref14_Drop_O : List (Ex × Tm) := [(.ret, ⟨[(0, false, [.row 0])], 1, [.row (.pair .str (.pair (.int .i64) .unit))]⟩)]
def intaglioref14_Drop_M (s0 : List ((List UInt8) × Int × Unit)) (s1 : List UInt8) : Option ((List ((List UInt8) × Int × Unit))) :=
  Option.bind (loop intaglioref14_Drop_L1_P (s0, s1, (0 : Int), [])) fun (v0 : (List ((List UInt8) × (Int × Unit)))) =>
  some (v0)
def intaglioref14_Drop_P : (List ((List UInt8) × Int × Unit)) × (List UInt8) → Option ((List ((List UInt8) × Int × Unit))) := fun p => intaglioref14_Drop_M p.1 p.2
def intaglioref14_Drop_MM : HL [(.slc (.pair .str (.pair (.int .i64) .unit))), .str] → Option (SumL [[(.slc (.pair .str (.pair (.int .i64) .unit)))]]) := fun p => intaglioref14_Drop_M p.1 p.2
def intaglioref14_Drop_C : Con := ⟨0, intaglioref14_Drop_T, intaglioref14_Drop_O, stdCn [(.slc (.pair .str (.pair (.int .i64) .unit))), .str] [[(.slc (.pair .str (.pair (.int .i64) .unit)))]] intaglioref14_Drop_MM, []⟩

def intaglioref14_Less_T : Tm := ⟨[(0, true, [.hole .str, .hole (.int .i64)]), (1, true, [.hole .str, .hole (.int .i64)])], 2, []⟩
def intaglioref14_Less_O : List (Ex × Tm) := [(.ret, ⟨[(0, false, [.hole .bool])], 1, []⟩)]
def intaglioref14_Less_M (s0_0 : List UInt8) (s0_1 : Int) (s1_0 : List UInt8) (s1_1 : Int) : Option (Bool) :=
  if decide (s0_1 < s1_1) = true then
    some (true)
  else
  if (s0_1 == s1_1) = true then
    some (Op.bytesLess s0_0 s1_0)
  else
  some (false)
def intaglioref14_Less_P : (List UInt8) × Int × (List UInt8) × Int → Option (Bool) := fun p => intaglioref14_Less_M p.1 p.2.1 p.2.2.1 p.2.2.2
def intaglioref14_Less_MM : HL [.str, (.int .i64), .str, (.int .i64)] → Option (SumL [[.bool]]) := fun p => intaglioref14_Less_M p.1 p.2.1 p.2.2.1 p.2.2.2
def intaglioref14_Less_C : Con := ⟨0, intaglioref14_Less_T, intaglioref14_Less_O, stdCn [.str, (.int .i64), .str, (.int .i64)] [[.bool]] intaglioref14_Less_MM, []⟩

def intaglioref14_Put_L1_T : Tm := ⟨[(0, false, [.row 1]), (7, false, [.ptr 0 0]), (8, false, [.hole (.int .i64)]), (9, false, [.hole (.int .i64)])], 45, [.box [.hole .str, .hole (.int .i64)], .row (.pair .str (.pair (.int .i64) .unit))]⟩
def intaglioref14_Put_L1_O : List (Ex × Tm) := [(.exit 0, ⟨[(0, false, [.row 1]), (7, false, [.ptr 0 0]), (8, false, [.hole (.int .i64)])], 45, [.box [.hole .str, .hole (.int .i64)], .row (.pair .str (.pair (.int .i64) .unit))]⟩)]
def intaglioref14_Put_L1 (s8 : Int) (s9 : Int) (m0_0 : List UInt8) (m0_1 : Int) (r1 : List ((List UInt8) × Int × Unit)) : Option ((Int × Int × (List UInt8) × Int × (List ((List UInt8) × Int × Unit))) ⊕ ((Int × (List UInt8) × Int × (List ((List UInt8) × Int × Unit))))) :=
  if decide (s9 < (((List.length r1) : Nat) : Int)) = true then
    Option.bind (inb (List.length r1) s9) fun _ =>
    Option.bind (intaglioref14_Less_P ((List.getD r1 (Int.toNat s9) ([], (0 : Int), ())).fst, (List.getD r1 (Int.toNat s9) ([], (0 : Int), ())).snd.fst, m0_0, m0_1)) fun (v1 : Bool) =>
    if v1 = true then
      some (.inl (IntKind.wrap IntKind.i64 (s9 + (1 : Int)), IntKind.wrap IntKind.i64 (s9 + (1 : Int)), m0_0, m0_1, r1))
    else
    some (.inl (s8, IntKind.wrap IntKind.i64 (s9 + (1 : Int)), m0_0, m0_1, r1))
  else
  some (.inr (s8, m0_0, m0_1, r1))
def intaglioref14_Put_L1_P : Int × Int × (List UInt8) × Int × (List ((List UInt8) × Int × Unit)) → Option ((Int × Int × (List UInt8) × Int × (List ((List UInt8) × Int × Unit))) ⊕ ((Int × (List UInt8) × Int × (List ((List UInt8) × Int × Unit))))) := fun p => intaglioref14_Put_L1 p.1 p.2.1 p.2.2.1 p.2.2.2.1 p.2.2.2.2
def intaglioref14_Put_L1_MM : HL [(.int .i64), (.int .i64), .str, (.int .i64), (.slc (.pair .str (.pair (.int .i64) .unit)))] → Option (HL [(.int .i64), (.int .i64), .str, (.int .i64), (.slc (.pair .str (.pair (.int .i64) .unit)))] ⊕ SumL [[(.int .i64), .str, (.int .i64), (.slc (.pair .str (.pair (.int .i64) .unit)))]]) := fun p => intaglioref14_Put_L1 p.1 p.2.1 p.2.2.1 p.2.2.2.1 p.2.2.2.2
def intaglioref14_Put_L1_C : Con := ⟨1, intaglioref14_Put_L1_T, intaglioref14_Put_L1_O, stdCn [(.int .i64), (.int .i64), .str, (.int .i64), (.slc (.pair .str (.pair (.int .i64) .unit)))] [[(.int .i64), .str, (.int .i64), (.slc (.pair .str (.pair (.int .i64) .unit)))]] (loop intaglioref14_Put_L1_MM), []⟩
def intaglioref14_Put_T : Tm := ⟨[(0, false, [.hole (.slc (.pair .str (.pair (.int .i64) .unit)))]), (1, false, [.hole .str]), (2, false, [.hole (.int .i64)])], 3, []⟩
def intaglioref14_Put_O : List (Ex × Tm) := [(.ret, ⟨[(0, false, [.row 0])], 1, [.row (.pair .str (.pair (.int .i64) .unit))]⟩)]
def intaglioref14_Put_M (s0 : List ((List UInt8) × Int × Unit)) (s1 : List UInt8) (s2 : Int) : Option ((List ((List UInt8) × Int × Unit))) :=
  Option.bind (intaglioref14_Drop_P (s0, s1)) fun (v0 : (List ((List UInt8) × (Int × Unit)))) =>
  Option.bind (loop intaglioref14_Put_L1_P ((0 : Int), (0 : Int), s1, s2, v0)) fun (v1 : (Int × ((List UInt8) × (Int × (List ((List UInt8) × (Int × Unit))))))) =>
  Option.bind (subn (List.length v1.snd.snd.snd) (0 : Int) v1.fst) fun _ =>
  Option.bind (room (24 : Nat) ((0 : Nat) + List.length (List.drop (nat_lit 0) (List.take (Int.toNat v1.fst) v1.snd.snd.snd)))) fun _ =>
  Option.bind (room (24 : Nat) (List.length (List.drop (nat_lit 0) (List.take (Int.toNat v1.fst) v1.snd.snd.snd)) + List.length [(v1.snd.fst, v1.snd.snd.fst, ())])) fun _ =>
  Option.bind (subn (List.length v1.snd.snd.snd) v1.fst (((List.length v1.snd.snd.snd) : Nat) : Int)) fun _ =>
  Option.bind (room (24 : Nat) (List.length (List.drop (nat_lit 0) (List.take (Int.toNat v1.fst) v1.snd.snd.snd) ++ [(v1.snd.fst, v1.snd.snd.fst, ())]) + List.length (List.drop (Int.toNat v1.fst) (List.take (Int.toNat (((List.length v1.snd.snd.snd) : Nat) : Int)) v1.snd.snd.snd)))) fun _ =>
  some (List.drop (nat_lit 0) (List.take (Int.toNat v1.fst) v1.snd.snd.snd) ++ [(v1.snd.fst, v1.snd.snd.fst, ())] ++ List.drop (Int.toNat v1.fst) (List.take (Int.toNat (((List.length v1.snd.snd.snd) : Nat) : Int)) v1.snd.snd.snd))
def intaglioref14_Put_P : (List ((List UInt8) × Int × Unit)) × (List UInt8) × Int → Option ((List ((List UInt8) × Int × Unit))) := fun p => intaglioref14_Put_M p.1 p.2.1 p.2.2
def intaglioref14_Put_MM : HL [(.slc (.pair .str (.pair (.int .i64) .unit))), .str, (.int .i64)] → Option (SumL [[(.slc (.pair .str (.pair (.int .i64) .unit)))]]) := fun p => intaglioref14_Put_M p.1 p.2.1 p.2.2
def intaglioref14_Put_C : Con := ⟨0, intaglioref14_Put_T, intaglioref14_Put_O, stdCn [(.slc (.pair .str (.pair (.int .i64) .unit))), .str, (.int .i64)] [[(.slc (.pair .str (.pair (.int .i64) .unit)))]] intaglioref14_Put_MM, []⟩

def intagliolaw14_made_L1_T : Tm := ⟨[(0, false, [.hole (.slc (.pair .bool (.pair .str (.pair (.int .i64) .unit))))]), (5, false, [.ptr 0 0]), (6, false, [.row 3]), (7, false, [.hole (.int .i64)])], 63, [.box [.hole .nd, .mpl 1], .mp .str (.int .i64), .ar (.pair .str (.pair (.int .i64) .unit)) (.pair .nd (.pair (.int .i64) .unit)), .row (.pair .str (.pair (.int .i64) .unit))]⟩
def intagliolaw14_made_L1_O : List (Ex × Tm) := [(.exit 0, ⟨[(5, false, [.ptr 0 0]), (6, false, [.row 3])], 63, [.box [.hole .nd, .mpl 1], .mp .str (.int .i64), .ar (.pair .str (.pair (.int .i64) .unit)) (.pair .nd (.pair (.int .i64) .unit)), .row (.pair .str (.pair (.int .i64) .unit))]⟩), (.ret, ⟨[(2, false, [.ptr 0 0]), (3, false, [.row 3]), (4, false, [.hole .bool])], 63, [.box [.hole .nd, .mpl 1], .mp .str (.int .i64), .ar (.pair .str (.pair (.int .i64) .unit)) (.pair .nd (.pair (.int .i64) .unit)), .row (.pair .str (.pair (.int .i64) .unit))]⟩)]
def intagliolaw14_made_L1 (s0 : List (Bool × (List UInt8) × Int × Unit)) (s7 : Int) (m0 : Option Nat) (d1 : List ((List UInt8) × Int)) (a2 : List (((List UInt8) × Int × Unit) × List ((Option Nat) × Int × Unit))) (r3 : List ((List UInt8) × Int × Unit)) : Option (((List (Bool × (List UInt8) × Int × Unit)) × Int × (Option Nat) × (List ((List UInt8) × Int)) × (List (((List UInt8) × Int × Unit) × List ((Option Nat) × Int × Unit))) × (List ((List UInt8) × Int × Unit))) ⊕ (((Option Nat) × (List ((List UInt8) × Int)) × (List (((List UInt8) × Int × Unit) × List ((Option Nat) × Int × Unit))) × (List ((List UInt8) × Int × Unit))) ⊕ (Bool × (Option Nat) × (List ((List UInt8) × Int)) × (List (((List UInt8) × Int × Unit) × List ((Option Nat) × Int × Unit))) × (List ((List UInt8) × Int × Unit))))) :=
  if decide (s7 < (((List.length s0) : Nat) : Int)) = true then
    Option.bind (ix s0 s7) fun (v0 : (Bool × ((List UInt8) × (Int × Unit)))) =>
    Option.bind (intaglioref14_Find_P (r3, v0.snd.fst)) fun (v1 : Int) =>
    if v0.fst = true then
      Option.bind (intaglioref14_Drop_P (r3, v0.snd.fst)) fun (v2 : (List ((List UInt8) × (Int × Unit)))) =>
      Option.bind (zset_Set_Drop_P (v0.snd.fst, m0, d1, a2)) fun (v3 : (Bool × ((Option Nat) × ((List ((List UInt8) × Int)) × (List (((List UInt8) × (Int × Unit)) × (List ((Option Nat) × (Int × Unit))))))))) =>
      if (!v3.fst == decide (v1 ≥ (0 : Int))) = true then
        some (.inr (.inr (false, v3.snd.fst, v3.snd.snd.fst, v3.snd.snd.snd, v2)))
      else
      some (.inl (s0, IntKind.wrap IntKind.i64 (s7 + (1 : Int)), v3.snd.fst, v3.snd.snd.fst, v3.snd.snd.snd, v2))
    else
    Option.bind (intaglioref14_Put_P (r3, v0.snd.fst, v0.snd.snd.fst)) fun (v4 : (List ((List UInt8) × (Int × Unit)))) =>
    Option.bind (zset_Set_Put_P (v0.snd.fst, v0.snd.snd.fst, m0, d1, a2)) fun (v5 : (Bool × ((Option Nat) × ((List ((List UInt8) × Int)) × (List (((List UInt8) × (Int × Unit)) × (List ((Option Nat) × (Int × Unit))))))))) =>
    if (v5.fst == decide (v1 ≥ (0 : Int))) = true then
      some (.inr (.inr (false, v5.snd.fst, v5.snd.snd.fst, v5.snd.snd.snd, v4)))
    else
    some (.inl (s0, IntKind.wrap IntKind.i64 (s7 + (1 : Int)), v5.snd.fst, v5.snd.snd.fst, v5.snd.snd.snd, v4))
  else
  some (.inr (.inl (m0, d1, a2, r3)))
def intagliolaw14_made_L1_P : (List (Bool × (List UInt8) × Int × Unit)) × Int × (Option Nat) × (List ((List UInt8) × Int)) × (List (((List UInt8) × Int × Unit) × List ((Option Nat) × Int × Unit))) × (List ((List UInt8) × Int × Unit)) → Option (((List (Bool × (List UInt8) × Int × Unit)) × Int × (Option Nat) × (List ((List UInt8) × Int)) × (List (((List UInt8) × Int × Unit) × List ((Option Nat) × Int × Unit))) × (List ((List UInt8) × Int × Unit))) ⊕ (((Option Nat) × (List ((List UInt8) × Int)) × (List (((List UInt8) × Int × Unit) × List ((Option Nat) × Int × Unit))) × (List ((List UInt8) × Int × Unit))) ⊕ (Bool × (Option Nat) × (List ((List UInt8) × Int)) × (List (((List UInt8) × Int × Unit) × List ((Option Nat) × Int × Unit))) × (List ((List UInt8) × Int × Unit))))) := fun p => intagliolaw14_made_L1 p.1 p.2.1 p.2.2.1 p.2.2.2.1 p.2.2.2.2.1 p.2.2.2.2.2
def intagliolaw14_made_L1_MM : HL [(.slc (.pair .bool (.pair .str (.pair (.int .i64) .unit)))), (.int .i64), .nd, (.slc (.pair .str (.int .i64))), (.slc (.pair (.pair .str (.pair (.int .i64) .unit)) (.slc (.pair .nd (.pair (.int .i64) .unit))))), (.slc (.pair .str (.pair (.int .i64) .unit)))] → Option (HL [(.slc (.pair .bool (.pair .str (.pair (.int .i64) .unit)))), (.int .i64), .nd, (.slc (.pair .str (.int .i64))), (.slc (.pair (.pair .str (.pair (.int .i64) .unit)) (.slc (.pair .nd (.pair (.int .i64) .unit))))), (.slc (.pair .str (.pair (.int .i64) .unit)))] ⊕ SumL [[.nd, (.slc (.pair .str (.int .i64))), (.slc (.pair (.pair .str (.pair (.int .i64) .unit)) (.slc (.pair .nd (.pair (.int .i64) .unit))))), (.slc (.pair .str (.pair (.int .i64) .unit)))], [.bool, .nd, (.slc (.pair .str (.int .i64))), (.slc (.pair (.pair .str (.pair (.int .i64) .unit)) (.slc (.pair .nd (.pair (.int .i64) .unit))))), (.slc (.pair .str (.pair (.int .i64) .unit)))]]) := fun p => intagliolaw14_made_L1 p.1 p.2.1 p.2.2.1 p.2.2.2.1 p.2.2.2.2.1 p.2.2.2.2.2
def intagliolaw14_made_L1_C : Con := ⟨3, intagliolaw14_made_L1_T, intagliolaw14_made_L1_O, stdCn [(.slc (.pair .bool (.pair .str (.pair (.int .i64) .unit)))), (.int .i64), .nd, (.slc (.pair .str (.int .i64))), (.slc (.pair (.pair .str (.pair (.int .i64) .unit)) (.slc (.pair .nd (.pair (.int .i64) .unit))))), (.slc (.pair .str (.pair (.int .i64) .unit)))] [[.nd, (.slc (.pair .str (.int .i64))), (.slc (.pair (.pair .str (.pair (.int .i64) .unit)) (.slc (.pair .nd (.pair (.int .i64) .unit))))), (.slc (.pair .str (.pair (.int .i64) .unit)))], [.bool, .nd, (.slc (.pair .str (.int .i64))), (.slc (.pair (.pair .str (.pair (.int .i64) .unit)) (.slc (.pair .nd (.pair (.int .i64) .unit))))), (.slc (.pair .str (.pair (.int .i64) .unit)))]] (loop intagliolaw14_made_L1_MM), []⟩
def intagliolaw14_made_T : Tm := ⟨[(0, false, [.hole (.slc (.pair .bool (.pair .str (.pair (.int .i64) .unit))))])], 1, [.ar (.pair .str (.pair (.int .i64) .unit)) (.pair .nd (.pair (.int .i64) .unit))]⟩
def intagliolaw14_made_O : List (Ex × Tm) := [(.ret, ⟨[(0, false, [.ptr 1 0]), (1, false, [.row 3]), (2, false, [.hole .bool])], 3, [.ar (.pair .str (.pair (.int .i64) .unit)) (.pair .nd (.pair (.int .i64) .unit)), .box [.hole .nd, .mpl 2], .mp .str (.int .i64), .row (.pair .str (.pair (.int .i64) .unit))]⟩)]
def intagliolaw14_made_M (s0 : List (Bool × (List UInt8) × Int × Unit)) (a0 : List (((List UInt8) × Int × Unit) × List ((Option Nat) × Int × Unit))) : Option (Bool × (List (((List UInt8) × Int × Unit) × List ((Option Nat) × Int × Unit))) × (Option Nat) × (List ((List UInt8) × Int)) × (List ((List UInt8) × Int × Unit))) :=
  Option.bind (zset_New_P a0) fun (v0 : ((List (((List UInt8) × (Int × Unit)) × (List ((Option Nat) × (Int × Unit))))) × ((Option Nat) × (List ((List UInt8) × Int))))) =>
  Option.bind (loop intagliolaw14_made_L1_P (s0, (0 : Int), v0.snd.fst, v0.snd.snd, v0.fst, [])) fun (v1 : (((Option Nat) × ((List ((List UInt8) × Int)) × ((List (((List UInt8) × (Int × Unit)) × (List ((Option Nat) × (Int × Unit))))) × (List ((List UInt8) × (Int × Unit)))))) ⊕ (Bool × ((Option Nat) × ((List ((List UInt8) × Int)) × ((List (((List UInt8) × (Int × Unit)) × (List ((Option Nat) × (Int × Unit))))) × (List ((List UInt8) × (Int × Unit))))))))) =>
  Sum.elim (fun (v2 : ((Option Nat) × ((List ((List UInt8) × Int)) × ((List (((List UInt8) × (Int × Unit)) × (List ((Option Nat) × (Int × Unit))))) × (List ((List UInt8) × (Int × Unit))))))) =>
      Option.bind (zset_Set_Len_P (v2.fst, v2.snd.fst, v2.snd.snd.fst)) fun (v4 : (Int × ((Option Nat) × ((List ((List UInt8) × Int)) × (List (((List UInt8) × (Int × Unit)) × (List ((Option Nat) × (Int × Unit))))))))) =>
      some (v4.fst == (((List.length v2.snd.snd.snd) : Nat) : Int), v4.snd.snd.snd, v4.snd.fst, v4.snd.snd.fst, v2.snd.snd.snd)
    ) (fun (v3 : (Bool × ((Option Nat) × ((List ((List UInt8) × Int)) × ((List (((List UInt8) × (Int × Unit)) × (List ((Option Nat) × (Int × Unit))))) × (List ((List UInt8) × (Int × Unit)))))))) =>
    some (v3.fst, v3.snd.snd.snd.fst, v3.snd.fst, v3.snd.snd.fst, v3.snd.snd.snd.snd)
  ) (v1)
def intagliolaw14_made_P : (List (Bool × (List UInt8) × Int × Unit)) × (List (((List UInt8) × Int × Unit) × List ((Option Nat) × Int × Unit))) → Option (Bool × (List (((List UInt8) × Int × Unit) × List ((Option Nat) × Int × Unit))) × (Option Nat) × (List ((List UInt8) × Int)) × (List ((List UInt8) × Int × Unit))) := fun p => intagliolaw14_made_M p.1 p.2
def intagliolaw14_made_MM : HL [(.slc (.pair .bool (.pair .str (.pair (.int .i64) .unit)))), (.slc (.pair (.pair .str (.pair (.int .i64) .unit)) (.slc (.pair .nd (.pair (.int .i64) .unit)))))] → Option (SumL [[.bool, (.slc (.pair (.pair .str (.pair (.int .i64) .unit)) (.slc (.pair .nd (.pair (.int .i64) .unit))))), .nd, (.slc (.pair .str (.int .i64))), (.slc (.pair .str (.pair (.int .i64) .unit)))]]) := fun p => intagliolaw14_made_M p.1 p.2
def intagliolaw14_made_C : Con := ⟨1, intagliolaw14_made_T, intagliolaw14_made_O, stdCn [(.slc (.pair .bool (.pair .str (.pair (.int .i64) .unit)))), (.slc (.pair (.pair .str (.pair (.int .i64) .unit)) (.slc (.pair .nd (.pair (.int .i64) .unit)))))] [[.bool, (.slc (.pair (.pair .str (.pair (.int .i64) .unit)) (.slc (.pair .nd (.pair (.int .i64) .unit))))), .nd, (.slc (.pair .str (.int .i64))), (.slc (.pair .str (.pair (.int .i64) .unit)))]] intagliolaw14_made_MM, []⟩

def intagliolaw14_ZsetPlays_T : Tm := ⟨[(0, false, [.hole (.slc (.pair .bool (.pair .str (.pair (.int .i64) .unit))))]), (1, false, [.hole .str])], 2, [.ar (.pair .str (.pair (.int .i64) .unit)) (.pair .nd (.pair (.int .i64) .unit))]⟩
def intagliolaw14_ZsetPlays_O : List (Ex × Tm) := [(.ret, ⟨[(0, false, [.hole .bool])], 1, [.ar (.pair .str (.pair (.int .i64) .unit)) (.pair .nd (.pair (.int .i64) .unit))]⟩)]
def intagliolaw14_ZsetPlays_M (s0 : List (Bool × (List UInt8) × Int × Unit)) (s1 : List UInt8) (a0 : List (((List UInt8) × Int × Unit) × List ((Option Nat) × Int × Unit))) : Option (Bool × (List (((List UInt8) × Int × Unit) × List ((Option Nat) × Int × Unit)))) :=
  Option.bind (intagliolaw14_few_P s0) fun (v0 : Bool) =>
  if (!v0) = true then
    Option.bind (intagliolaw14_awake_P a0) fun (v1 : (Bool × (List (((List UInt8) × (Int × Unit)) × (List ((Option Nat) × (Int × Unit))))))) =>
    some (v1.fst, v1.snd)
  else
  if decide ((((List.length s1) : Nat) : Int) > (100 : Int)) = true then
    Option.bind (intagliolaw14_awake_P a0) fun (v2 : (Bool × (List (((List UInt8) × (Int × Unit)) × (List ((Option Nat) × (Int × Unit))))))) =>
    some (v2.fst, v2.snd)
  else
  Option.bind (intagliolaw14_made_P (s0, a0)) fun (v3 : (Bool × ((List (((List UInt8) × (Int × Unit)) × (List ((Option Nat) × (Int × Unit))))) × ((Option Nat) × ((List ((List UInt8) × Int)) × (List ((List UInt8) × (Int × Unit)))))))) =>
  if (!v3.fst) = true then
    some (false, v3.snd.fst)
  else
  Option.bind (zset_Set_Range_P ((0 : Int), (((List.length v3.snd.snd.snd.snd) : Nat) : Int), v3.snd.snd.fst, v3.snd.snd.snd.fst, v3.snd.fst)) fun (v4 : ((Option Nat) × ((List ((List UInt8) × Int)) × ((List (((List UInt8) × (Int × Unit)) × (List ((Option Nat) × (Int × Unit))))) × (List ((List UInt8) × (Int × Unit))))))) =>
  Option.bind (intaglioref14_Same_P (v4.snd.snd.snd, v3.snd.snd.snd.snd)) fun (v5 : Bool) =>
  if (!v5) = true then
    some (false, v4.snd.snd.fst)
  else
  Option.bind (zset_Set_Score_P (s1, v4.fst, v4.snd.fst, v4.snd.snd.fst)) fun (v6 : (Int × (Bool × ((Option Nat) × ((List ((List UInt8) × Int)) × (List (((List UInt8) × (Int × Unit)) × (List ((Option Nat) × (Int × Unit)))))))))) =>
  Option.bind (zset_Set_Rank_P (s1, v6.snd.snd.fst, v6.snd.snd.snd.fst, v6.snd.snd.snd.snd)) fun (v7 : (Int × (Bool × ((Option Nat) × ((List ((List UInt8) × Int)) × (List (((List UInt8) × (Int × Unit)) × (List ((Option Nat) × (Int × Unit)))))))))) =>
  Option.bind (intaglioref14_Find_P (v3.snd.snd.snd.snd, s1)) fun (v8 : Int) =>
  if decide (v8 < (0 : Int)) = true then
    if (v6.fst == (0 : Int)) = true then
      if (!v6.snd.fst) = true then
        if (v7.fst == (0 : Int)) = true then
          if (!v7.snd.fst) = true then
            Option.bind (intagliolaw14_awake_P v7.snd.snd.snd.snd) fun (v9 : (Bool × (List (((List UInt8) × (Int × Unit)) × (List ((Option Nat) × (Int × Unit))))))) =>
            some (v9.fst, v9.snd)
          else
          some (false, v7.snd.snd.snd.snd)
        else
        some (false, v7.snd.snd.snd.snd)
      else
      some (false, v7.snd.snd.snd.snd)
    else
    some (false, v7.snd.snd.snd.snd)
  else
  Option.bind (inb (List.length v3.snd.snd.snd.snd) v8) fun _ =>
  if (v6.fst == (List.getD v3.snd.snd.snd.snd (Int.toNat v8) ([], (0 : Int), ())).snd.fst) = true then
    if v6.snd.fst = true then
      if (v7.fst == v8) = true then
        if v7.snd.fst = true then
          Option.bind (intagliolaw14_awake_P v7.snd.snd.snd.snd) fun (v11 : (Bool × (List (((List UInt8) × (Int × Unit)) × (List ((Option Nat) × (Int × Unit))))))) =>
          some (v11.fst, v11.snd)
        else
        some (false, v7.snd.snd.snd.snd)
      else
      some (false, v7.snd.snd.snd.snd)
    else
    some (false, v7.snd.snd.snd.snd)
  else
  some (false, v7.snd.snd.snd.snd)
def intagliolaw14_ZsetPlays_P : (List (Bool × (List UInt8) × Int × Unit)) × (List UInt8) × (List (((List UInt8) × Int × Unit) × List ((Option Nat) × Int × Unit))) → Option (Bool × (List (((List UInt8) × Int × Unit) × List ((Option Nat) × Int × Unit)))) := fun p => intagliolaw14_ZsetPlays_M p.1 p.2.1 p.2.2
def intagliolaw14_ZsetPlays_MM : HL [(.slc (.pair .bool (.pair .str (.pair (.int .i64) .unit)))), .str, (.slc (.pair (.pair .str (.pair (.int .i64) .unit)) (.slc (.pair .nd (.pair (.int .i64) .unit)))))] → Option (SumL [[.bool, (.slc (.pair (.pair .str (.pair (.int .i64) .unit)) (.slc (.pair .nd (.pair (.int .i64) .unit)))))]]) := fun p => intagliolaw14_ZsetPlays_M p.1 p.2.1 p.2.2
def intagliolaw14_ZsetPlays_C : Con := ⟨1, intagliolaw14_ZsetPlays_T, intagliolaw14_ZsetPlays_O, stdCn [(.slc (.pair .bool (.pair .str (.pair (.int .i64) .unit)))), .str, (.slc (.pair (.pair .str (.pair (.int .i64) .unit)) (.slc (.pair .nd (.pair (.int .i64) .unit)))))] [[.bool, (.slc (.pair (.pair .str (.pair (.int .i64) .unit)) (.slc (.pair .nd (.pair (.int .i64) .unit)))))]] intagliolaw14_ZsetPlays_MM, []⟩

def zset_Set_At_n_T : Tm := ⟨[(0, false, [.nilp]), (1, false, [.hole (.int .i64)])], 2, [.ar (.pair .str (.pair (.int .i64) .unit)) (.pair .nd (.pair (.int .i64) .unit))]⟩
def zset_Set_At_n_O : List (Ex × Tm) := [(.ret, ⟨[(0, true, [.hole .str, .hole (.int .i64)]), (1, false, [.hole .bool])], 2, [.ar (.pair .str (.pair (.int .i64) .unit)) (.pair .nd (.pair (.int .i64) .unit))]⟩)]
def zset_Set_At_n_M (s1 : Int) (a0 : List (((List UInt8) × Int × Unit) × List ((Option Nat) × Int × Unit))) : Option ((List UInt8) × Int × Bool × (List (((List UInt8) × Int × Unit) × List ((Option Nat) × Int × Unit)))) :=
  Option.bind (zset_Set_place_n_P (s1, a0)) fun (v0 : (List (((List UInt8) × (Int × Unit)) × (List ((Option Nat) × (Int × Unit)))))) =>
  some ([], (0 : Int), false, v0)
def zset_Set_At_n_P : Int × (List (((List UInt8) × Int × Unit) × List ((Option Nat) × Int × Unit))) → Option ((List UInt8) × Int × Bool × (List (((List UInt8) × Int × Unit) × List ((Option Nat) × Int × Unit)))) := fun p => zset_Set_At_n_M p.1 p.2
def zset_Set_At_n_MM : HL [(.int .i64), (.slc (.pair (.pair .str (.pair (.int .i64) .unit)) (.slc (.pair .nd (.pair (.int .i64) .unit)))))] → Option (SumL [[.str, (.int .i64), .bool, (.slc (.pair (.pair .str (.pair (.int .i64) .unit)) (.slc (.pair .nd (.pair (.int .i64) .unit)))))]]) := fun p => zset_Set_At_n_M p.1 p.2
def zset_Set_At_n_C : Con := ⟨1, zset_Set_At_n_T, zset_Set_At_n_O, stdCn [(.int .i64), (.slc (.pair (.pair .str (.pair (.int .i64) .unit)) (.slc (.pair .nd (.pair (.int .i64) .unit)))))] [[.str, (.int .i64), .bool, (.slc (.pair (.pair .str (.pair (.int .i64) .unit)) (.slc (.pair .nd (.pair (.int .i64) .unit)))))]] zset_Set_At_n_MM, []⟩

def zset_Set_At_e_T : Tm := ⟨[(0, false, [.ptr 0 0]), (1, false, [.hole (.int .i64)])], 2, [.box [.hole .nd, .nilm], .ar (.pair .str (.pair (.int .i64) .unit)) (.pair .nd (.pair (.int .i64) .unit))]⟩
def zset_Set_At_e_O : List (Ex × Tm) := [(.ret, ⟨[(0, true, [.hole .str, .hole (.int .i64)]), (1, false, [.hole .bool])], 2, [.box [.hole .nd, .nilm], .ar (.pair .str (.pair (.int .i64) .unit)) (.pair .nd (.pair (.int .i64) .unit))]⟩)]
def zset_Set_At_e_M (s1 : Int) (m0 : Option Nat) (a1 : List (((List UInt8) × Int × Unit) × List ((Option Nat) × Int × Unit))) : Option ((List UInt8) × Int × Bool × (Option Nat) × (List (((List UInt8) × Int × Unit) × List ((Option Nat) × Int × Unit)))) :=
  Option.bind (zset_Set_place_e_P (s1, m0, a1)) fun (v0 : ((Option Nat) × ((Option Nat) × (List (((List UInt8) × (Int × Unit)) × (List ((Option Nat) × (Int × Unit)))))))) =>
  if Option.isNone v0.fst = true then
    some ([], (0 : Int), false, v0.snd.fst, v0.snd.snd)
  else
  Option.bind (v0.fst) fun (v1 : Nat) =>
  some ((ndX ([], (0 : Int), ()) v0.snd.snd v1).fst, (ndX ([], (0 : Int), ()) v0.snd.snd v1).snd.fst, true, v0.snd.fst, v0.snd.snd)
def zset_Set_At_e_P : Int × (Option Nat) × (List (((List UInt8) × Int × Unit) × List ((Option Nat) × Int × Unit))) → Option ((List UInt8) × Int × Bool × (Option Nat) × (List (((List UInt8) × Int × Unit) × List ((Option Nat) × Int × Unit)))) := fun p => zset_Set_At_e_M p.1 p.2.1 p.2.2
def zset_Set_At_e_MM : HL [(.int .i64), .nd, (.slc (.pair (.pair .str (.pair (.int .i64) .unit)) (.slc (.pair .nd (.pair (.int .i64) .unit)))))] → Option (SumL [[.str, (.int .i64), .bool, .nd, (.slc (.pair (.pair .str (.pair (.int .i64) .unit)) (.slc (.pair .nd (.pair (.int .i64) .unit)))))]]) := fun p => zset_Set_At_e_M p.1 p.2.1 p.2.2
def zset_Set_At_e_C : Con := ⟨2, zset_Set_At_e_T, zset_Set_At_e_O, stdCn [(.int .i64), .nd, (.slc (.pair (.pair .str (.pair (.int .i64) .unit)) (.slc (.pair .nd (.pair (.int .i64) .unit)))))] [[.str, (.int .i64), .bool, .nd, (.slc (.pair (.pair .str (.pair (.int .i64) .unit)) (.slc (.pair .nd (.pair (.int .i64) .unit)))))]] zset_Set_At_e_MM, []⟩

def zset_Set_At_T : Tm := ⟨[(0, false, [.ptr 0 0]), (1, false, [.hole (.int .i64)])], 2, [.box [.hole .nd, .mpl 1], .mp .str (.int .i64), .ar (.pair .str (.pair (.int .i64) .unit)) (.pair .nd (.pair (.int .i64) .unit))]⟩
def zset_Set_At_O : List (Ex × Tm) := [(.ret, ⟨[(0, true, [.hole .str, .hole (.int .i64)]), (1, false, [.hole .bool])], 2, [.box [.hole .nd, .mpl 1], .mp .str (.int .i64), .ar (.pair .str (.pair (.int .i64) .unit)) (.pair .nd (.pair (.int .i64) .unit))]⟩)]
def zset_Set_At_M (s1 : Int) (m0 : Option Nat) (d1 : List ((List UInt8) × Int)) (a2 : List (((List UInt8) × Int × Unit) × List ((Option Nat) × Int × Unit))) : Option ((List UInt8) × Int × Bool × (Option Nat) × (List ((List UInt8) × Int)) × (List (((List UInt8) × Int × Unit) × List ((Option Nat) × Int × Unit)))) :=
  Option.bind (zset_Set_place_P (s1, m0, d1, a2)) fun (v0 : ((Option Nat) × ((Option Nat) × ((List ((List UInt8) × Int)) × (List (((List UInt8) × (Int × Unit)) × (List ((Option Nat) × (Int × Unit))))))))) =>
  if Option.isNone v0.fst = true then
    some ([], (0 : Int), false, v0.snd.fst, v0.snd.snd.fst, v0.snd.snd.snd)
  else
  Option.bind (v0.fst) fun (v1 : Nat) =>
  some ((ndX ([], (0 : Int), ()) v0.snd.snd.snd v1).fst, (ndX ([], (0 : Int), ()) v0.snd.snd.snd v1).snd.fst, true, v0.snd.fst, v0.snd.snd.fst, v0.snd.snd.snd)
def zset_Set_At_P : Int × (Option Nat) × (List ((List UInt8) × Int)) × (List (((List UInt8) × Int × Unit) × List ((Option Nat) × Int × Unit))) → Option ((List UInt8) × Int × Bool × (Option Nat) × (List ((List UInt8) × Int)) × (List (((List UInt8) × Int × Unit) × List ((Option Nat) × Int × Unit)))) := fun p => zset_Set_At_M p.1 p.2.1 p.2.2.1 p.2.2.2
def zset_Set_At_MM : HL [(.int .i64), .nd, (.slc (.pair .str (.int .i64))), (.slc (.pair (.pair .str (.pair (.int .i64) .unit)) (.slc (.pair .nd (.pair (.int .i64) .unit)))))] → Option (SumL [[.str, (.int .i64), .bool, .nd, (.slc (.pair .str (.int .i64))), (.slc (.pair (.pair .str (.pair (.int .i64) .unit)) (.slc (.pair .nd (.pair (.int .i64) .unit)))))]]) := fun p => zset_Set_At_M p.1 p.2.1 p.2.2.1 p.2.2.2
def zset_Set_At_C : Con := ⟨3, zset_Set_At_T, zset_Set_At_O, stdCn [(.int .i64), .nd, (.slc (.pair .str (.int .i64))), (.slc (.pair (.pair .str (.pair (.int .i64) .unit)) (.slc (.pair .nd (.pair (.int .i64) .unit)))))] [[.str, (.int .i64), .bool, .nd, (.slc (.pair .str (.int .i64))), (.slc (.pair (.pair .str (.pair (.int .i64) .unit)) (.slc (.pair .nd (.pair (.int .i64) .unit)))))]] zset_Set_At_MM, []⟩

def intaglioref14_Range_L1_T : Tm := ⟨[(0, false, [.hole (.slc (.pair .str (.pair (.int .i64) .unit)))]), (1, false, [.hole (.int .i64)]), (2, false, [.hole (.int .i64)]), (7, false, [.row 0]), (8, false, [.hole (.int .i64)])], 31, [.row (.pair .str (.pair (.int .i64) .unit))]⟩
def intaglioref14_Range_L1_O : List (Ex × Tm) := [(.exit 0, ⟨[(7, false, [.row 0])], 31, [.row (.pair .str (.pair (.int .i64) .unit))]⟩)]
def intaglioref14_Range_L1 (s0 : List ((List UInt8) × Int × Unit)) (s1 : Int) (s2 : Int) (s8 : Int) (r0 : List ((List UInt8) × Int × Unit)) : Option (((List ((List UInt8) × Int × Unit)) × Int × Int × Int × (List ((List UInt8) × Int × Unit))) ⊕ (((List ((List UInt8) × Int × Unit))))) :=
  if decide (s8 < (((List.length s0) : Nat) : Int)) = true then
    if decide (s8 ≥ s1) = true then
      if decide (s8 < s2) = true then
        Option.bind (ix s0 s8) fun (v0 : ((List UInt8) × (Int × Unit))) =>
        Option.bind (room (24 : Nat) (List.length r0 + List.length [(v0.fst, v0.snd.fst, ())])) fun _ =>
        some (.inl (s0, s1, s2, IntKind.wrap IntKind.i64 (s8 + (1 : Int)), r0 ++ [(v0.fst, v0.snd.fst, ())]))
      else
      some (.inl (s0, s1, s2, IntKind.wrap IntKind.i64 (s8 + (1 : Int)), r0))
    else
    some (.inl (s0, s1, s2, IntKind.wrap IntKind.i64 (s8 + (1 : Int)), r0))
  else
  some (.inr (r0))
def intaglioref14_Range_L1_P : (List ((List UInt8) × Int × Unit)) × Int × Int × Int × (List ((List UInt8) × Int × Unit)) → Option (((List ((List UInt8) × Int × Unit)) × Int × Int × Int × (List ((List UInt8) × Int × Unit))) ⊕ (((List ((List UInt8) × Int × Unit))))) := fun p => intaglioref14_Range_L1 p.1 p.2.1 p.2.2.1 p.2.2.2.1 p.2.2.2.2
def intaglioref14_Range_L1_MM : HL [(.slc (.pair .str (.pair (.int .i64) .unit))), (.int .i64), (.int .i64), (.int .i64), (.slc (.pair .str (.pair (.int .i64) .unit)))] → Option (HL [(.slc (.pair .str (.pair (.int .i64) .unit))), (.int .i64), (.int .i64), (.int .i64), (.slc (.pair .str (.pair (.int .i64) .unit)))] ⊕ SumL [[(.slc (.pair .str (.pair (.int .i64) .unit)))]]) := fun p => intaglioref14_Range_L1 p.1 p.2.1 p.2.2.1 p.2.2.2.1 p.2.2.2.2
def intaglioref14_Range_L1_C : Con := ⟨0, intaglioref14_Range_L1_T, intaglioref14_Range_L1_O, stdCn [(.slc (.pair .str (.pair (.int .i64) .unit))), (.int .i64), (.int .i64), (.int .i64), (.slc (.pair .str (.pair (.int .i64) .unit)))] [[(.slc (.pair .str (.pair (.int .i64) .unit)))]] (loop intaglioref14_Range_L1_MM), []⟩
def intaglioref14_Range_T : Tm := ⟨[(0, false, [.hole (.slc (.pair .str (.pair (.int .i64) .unit)))]), (1, false, [.hole (.int .i64)]), (2, false, [.hole (.int .i64)])], 3, []⟩
def intaglioref14_Range_O : List (Ex × Tm) := [(.ret, ⟨[(0, false, [.row 0])], 1, [.row (.pair .str (.pair (.int .i64) .unit))]⟩)]
def intaglioref14_Range_M (s0 : List ((List UInt8) × Int × Unit)) (s1 : Int) (s2 : Int) : Option ((List ((List UInt8) × Int × Unit))) :=
  Option.bind (loop intaglioref14_Range_L1_P (s0, s1, s2, (0 : Int), [])) fun (v0 : (List ((List UInt8) × (Int × Unit)))) =>
  some (v0)
def intaglioref14_Range_P : (List ((List UInt8) × Int × Unit)) × Int × Int → Option ((List ((List UInt8) × Int × Unit))) := fun p => intaglioref14_Range_M p.1 p.2.1 p.2.2
def intaglioref14_Range_MM : HL [(.slc (.pair .str (.pair (.int .i64) .unit))), (.int .i64), (.int .i64)] → Option (SumL [[(.slc (.pair .str (.pair (.int .i64) .unit)))]]) := fun p => intaglioref14_Range_M p.1 p.2.1 p.2.2
def intaglioref14_Range_C : Con := ⟨0, intaglioref14_Range_T, intaglioref14_Range_O, stdCn [(.slc (.pair .str (.pair (.int .i64) .unit))), (.int .i64), (.int .i64)] [[(.slc (.pair .str (.pair (.int .i64) .unit)))]] intaglioref14_Range_MM, []⟩

def intagliolaw14_ZsetPlaces_T : Tm := ⟨[(0, false, [.hole (.slc (.pair .bool (.pair .str (.pair (.int .i64) .unit))))]), (1, false, [.hole (.int .i64)]), (2, false, [.hole (.int .i64)])], 3, [.ar (.pair .str (.pair (.int .i64) .unit)) (.pair .nd (.pair (.int .i64) .unit))]⟩
def intagliolaw14_ZsetPlaces_O : List (Ex × Tm) := [(.ret, ⟨[(0, false, [.hole .bool])], 1, [.ar (.pair .str (.pair (.int .i64) .unit)) (.pair .nd (.pair (.int .i64) .unit))]⟩)]
def intagliolaw14_ZsetPlaces_M (s0 : List (Bool × (List UInt8) × Int × Unit)) (s1 : Int) (s2 : Int) (a0 : List (((List UInt8) × Int × Unit) × List ((Option Nat) × Int × Unit))) : Option (Bool × (List (((List UInt8) × Int × Unit) × List ((Option Nat) × Int × Unit)))) :=
  Option.bind (intagliolaw14_few_P s0) fun (v0 : Bool) =>
  if (!v0) = true then
    Option.bind (intagliolaw14_awake_P a0) fun (v1 : (Bool × (List (((List UInt8) × (Int × Unit)) × (List ((Option Nat) × (Int × Unit))))))) =>
    some (v1.fst, v1.snd)
  else
  Option.bind (intagliolaw14_made_P (s0, a0)) fun (v2 : (Bool × ((List (((List UInt8) × (Int × Unit)) × (List ((Option Nat) × (Int × Unit))))) × ((Option Nat) × ((List ((List UInt8) × Int)) × (List ((List UInt8) × (Int × Unit)))))))) =>
  Option.bind (zset_Set_At_P (s1, v2.snd.snd.fst, v2.snd.snd.snd.fst, v2.snd.fst)) fun (v3 : ((List UInt8) × (Int × (Bool × ((Option Nat) × ((List ((List UInt8) × Int)) × (List (((List UInt8) × (Int × Unit)) × (List ((Option Nat) × (Int × Unit))))))))))) =>
  if (!v2.fst) = true then
    some (false, v3.snd.snd.snd.snd.snd)
  else
  if decide (s1 ≥ (0 : Int)) = true then
    if (!v3.snd.snd.fst == decide (s1 < (((List.length v2.snd.snd.snd.snd) : Nat) : Int))) = true then
      some (false, v3.snd.snd.snd.snd.snd)
    else
    if v3.snd.snd.fst = true then
      Option.bind (inb (List.length v2.snd.snd.snd.snd) s1) fun _ =>
      if (!(fun r => eqLs.strEq v3.fst (List.getD v2.snd.snd.snd.snd (Int.toNat s1) ([], (0 : Int), ())).fst && r) ((fun r => eqLs.intEq v3.snd.fst (List.getD v2.snd.snd.snd.snd (Int.toNat s1) ([], (0 : Int), ())).snd.fst && r) true)) = true then
        some (false, v3.snd.snd.snd.snd.snd)
      else
      if (!v3.snd.snd.fst) = true then
        if (!(fun r => eqLs.strEq v3.fst [] && r) ((fun r => eqLs.intEq v3.snd.fst (0 : Int) && r) true)) = true then
          some (false, v3.snd.snd.snd.snd.snd)
        else
        Option.bind (zset_Set_Range_P (s1, s2, v3.snd.snd.snd.fst, v3.snd.snd.snd.snd.fst, v3.snd.snd.snd.snd.snd)) fun (v5 : ((Option Nat) × ((List ((List UInt8) × Int)) × ((List (((List UInt8) × (Int × Unit)) × (List ((Option Nat) × (Int × Unit))))) × (List ((List UInt8) × (Int × Unit))))))) =>
        Option.bind (intaglioref14_Range_P (v2.snd.snd.snd.snd, s1, s2)) fun (v6 : (List ((List UInt8) × (Int × Unit)))) =>
        Option.bind (intaglioref14_Same_P (v5.snd.snd.snd, v6)) fun (v7 : Bool) =>
        if v7 = true then
          Option.bind (intagliolaw14_awake_P v5.snd.snd.fst) fun (v8 : (Bool × (List (((List UInt8) × (Int × Unit)) × (List ((Option Nat) × (Int × Unit))))))) =>
          some (v8.fst, v8.snd)
        else
        some (false, v5.snd.snd.fst)
      else
      Option.bind (zset_Set_Range_P (s1, s2, v3.snd.snd.snd.fst, v3.snd.snd.snd.snd.fst, v3.snd.snd.snd.snd.snd)) fun (v9 : ((Option Nat) × ((List ((List UInt8) × Int)) × ((List (((List UInt8) × (Int × Unit)) × (List ((Option Nat) × (Int × Unit))))) × (List ((List UInt8) × (Int × Unit))))))) =>
      Option.bind (intaglioref14_Range_P (v2.snd.snd.snd.snd, s1, s2)) fun (v10 : (List ((List UInt8) × (Int × Unit)))) =>
      Option.bind (intaglioref14_Same_P (v9.snd.snd.snd, v10)) fun (v11 : Bool) =>
      if v11 = true then
        Option.bind (intagliolaw14_awake_P v9.snd.snd.fst) fun (v12 : (Bool × (List (((List UInt8) × (Int × Unit)) × (List ((Option Nat) × (Int × Unit))))))) =>
        some (v12.fst, v12.snd)
      else
      some (false, v9.snd.snd.fst)
    else
    if (!v3.snd.snd.fst) = true then
      if (!(fun r => eqLs.strEq v3.fst [] && r) ((fun r => eqLs.intEq v3.snd.fst (0 : Int) && r) true)) = true then
        some (false, v3.snd.snd.snd.snd.snd)
      else
      Option.bind (zset_Set_Range_P (s1, s2, v3.snd.snd.snd.fst, v3.snd.snd.snd.snd.fst, v3.snd.snd.snd.snd.snd)) fun (v13 : ((Option Nat) × ((List ((List UInt8) × Int)) × ((List (((List UInt8) × (Int × Unit)) × (List ((Option Nat) × (Int × Unit))))) × (List ((List UInt8) × (Int × Unit))))))) =>
      Option.bind (intaglioref14_Range_P (v2.snd.snd.snd.snd, s1, s2)) fun (v14 : (List ((List UInt8) × (Int × Unit)))) =>
      Option.bind (intaglioref14_Same_P (v13.snd.snd.snd, v14)) fun (v15 : Bool) =>
      if v15 = true then
        Option.bind (intagliolaw14_awake_P v13.snd.snd.fst) fun (v16 : (Bool × (List (((List UInt8) × (Int × Unit)) × (List ((Option Nat) × (Int × Unit))))))) =>
        some (v16.fst, v16.snd)
      else
      some (false, v13.snd.snd.fst)
    else
    Option.bind (zset_Set_Range_P (s1, s2, v3.snd.snd.snd.fst, v3.snd.snd.snd.snd.fst, v3.snd.snd.snd.snd.snd)) fun (v17 : ((Option Nat) × ((List ((List UInt8) × Int)) × ((List (((List UInt8) × (Int × Unit)) × (List ((Option Nat) × (Int × Unit))))) × (List ((List UInt8) × (Int × Unit))))))) =>
    Option.bind (intaglioref14_Range_P (v2.snd.snd.snd.snd, s1, s2)) fun (v18 : (List ((List UInt8) × (Int × Unit)))) =>
    Option.bind (intaglioref14_Same_P (v17.snd.snd.snd, v18)) fun (v19 : Bool) =>
    if v19 = true then
      Option.bind (intagliolaw14_awake_P v17.snd.snd.fst) fun (v20 : (Bool × (List (((List UInt8) × (Int × Unit)) × (List ((Option Nat) × (Int × Unit))))))) =>
      some (v20.fst, v20.snd)
    else
    some (false, v17.snd.snd.fst)
  else
  if (!v3.snd.snd.fst == false) = true then
    some (false, v3.snd.snd.snd.snd.snd)
  else
  if v3.snd.snd.fst = true then
    Option.bind (inb (List.length v2.snd.snd.snd.snd) s1) fun _ =>
    if (!(fun r => eqLs.strEq v3.fst (List.getD v2.snd.snd.snd.snd (Int.toNat s1) ([], (0 : Int), ())).fst && r) ((fun r => eqLs.intEq v3.snd.fst (List.getD v2.snd.snd.snd.snd (Int.toNat s1) ([], (0 : Int), ())).snd.fst && r) true)) = true then
      some (false, v3.snd.snd.snd.snd.snd)
    else
    if (!v3.snd.snd.fst) = true then
      if (!(fun r => eqLs.strEq v3.fst [] && r) ((fun r => eqLs.intEq v3.snd.fst (0 : Int) && r) true)) = true then
        some (false, v3.snd.snd.snd.snd.snd)
      else
      Option.bind (zset_Set_Range_P (s1, s2, v3.snd.snd.snd.fst, v3.snd.snd.snd.snd.fst, v3.snd.snd.snd.snd.snd)) fun (v22 : ((Option Nat) × ((List ((List UInt8) × Int)) × ((List (((List UInt8) × (Int × Unit)) × (List ((Option Nat) × (Int × Unit))))) × (List ((List UInt8) × (Int × Unit))))))) =>
      Option.bind (intaglioref14_Range_P (v2.snd.snd.snd.snd, s1, s2)) fun (v23 : (List ((List UInt8) × (Int × Unit)))) =>
      Option.bind (intaglioref14_Same_P (v22.snd.snd.snd, v23)) fun (v24 : Bool) =>
      if v24 = true then
        Option.bind (intagliolaw14_awake_P v22.snd.snd.fst) fun (v25 : (Bool × (List (((List UInt8) × (Int × Unit)) × (List ((Option Nat) × (Int × Unit))))))) =>
        some (v25.fst, v25.snd)
      else
      some (false, v22.snd.snd.fst)
    else
    Option.bind (zset_Set_Range_P (s1, s2, v3.snd.snd.snd.fst, v3.snd.snd.snd.snd.fst, v3.snd.snd.snd.snd.snd)) fun (v26 : ((Option Nat) × ((List ((List UInt8) × Int)) × ((List (((List UInt8) × (Int × Unit)) × (List ((Option Nat) × (Int × Unit))))) × (List ((List UInt8) × (Int × Unit))))))) =>
    Option.bind (intaglioref14_Range_P (v2.snd.snd.snd.snd, s1, s2)) fun (v27 : (List ((List UInt8) × (Int × Unit)))) =>
    Option.bind (intaglioref14_Same_P (v26.snd.snd.snd, v27)) fun (v28 : Bool) =>
    if v28 = true then
      Option.bind (intagliolaw14_awake_P v26.snd.snd.fst) fun (v29 : (Bool × (List (((List UInt8) × (Int × Unit)) × (List ((Option Nat) × (Int × Unit))))))) =>
      some (v29.fst, v29.snd)
    else
    some (false, v26.snd.snd.fst)
  else
  if (!v3.snd.snd.fst) = true then
    if (!(fun r => eqLs.strEq v3.fst [] && r) ((fun r => eqLs.intEq v3.snd.fst (0 : Int) && r) true)) = true then
      some (false, v3.snd.snd.snd.snd.snd)
    else
    Option.bind (zset_Set_Range_P (s1, s2, v3.snd.snd.snd.fst, v3.snd.snd.snd.snd.fst, v3.snd.snd.snd.snd.snd)) fun (v30 : ((Option Nat) × ((List ((List UInt8) × Int)) × ((List (((List UInt8) × (Int × Unit)) × (List ((Option Nat) × (Int × Unit))))) × (List ((List UInt8) × (Int × Unit))))))) =>
    Option.bind (intaglioref14_Range_P (v2.snd.snd.snd.snd, s1, s2)) fun (v31 : (List ((List UInt8) × (Int × Unit)))) =>
    Option.bind (intaglioref14_Same_P (v30.snd.snd.snd, v31)) fun (v32 : Bool) =>
    if v32 = true then
      Option.bind (intagliolaw14_awake_P v30.snd.snd.fst) fun (v33 : (Bool × (List (((List UInt8) × (Int × Unit)) × (List ((Option Nat) × (Int × Unit))))))) =>
      some (v33.fst, v33.snd)
    else
    some (false, v30.snd.snd.fst)
  else
  Option.bind (zset_Set_Range_P (s1, s2, v3.snd.snd.snd.fst, v3.snd.snd.snd.snd.fst, v3.snd.snd.snd.snd.snd)) fun (v34 : ((Option Nat) × ((List ((List UInt8) × Int)) × ((List (((List UInt8) × (Int × Unit)) × (List ((Option Nat) × (Int × Unit))))) × (List ((List UInt8) × (Int × Unit))))))) =>
  Option.bind (intaglioref14_Range_P (v2.snd.snd.snd.snd, s1, s2)) fun (v35 : (List ((List UInt8) × (Int × Unit)))) =>
  Option.bind (intaglioref14_Same_P (v34.snd.snd.snd, v35)) fun (v36 : Bool) =>
  if v36 = true then
    Option.bind (intagliolaw14_awake_P v34.snd.snd.fst) fun (v37 : (Bool × (List (((List UInt8) × (Int × Unit)) × (List ((Option Nat) × (Int × Unit))))))) =>
    some (v37.fst, v37.snd)
  else
  some (false, v34.snd.snd.fst)
def intagliolaw14_ZsetPlaces_P : (List (Bool × (List UInt8) × Int × Unit)) × Int × Int × (List (((List UInt8) × Int × Unit) × List ((Option Nat) × Int × Unit))) → Option (Bool × (List (((List UInt8) × Int × Unit) × List ((Option Nat) × Int × Unit)))) := fun p => intagliolaw14_ZsetPlaces_M p.1 p.2.1 p.2.2.1 p.2.2.2
def intagliolaw14_ZsetPlaces_MM : HL [(.slc (.pair .bool (.pair .str (.pair (.int .i64) .unit)))), (.int .i64), (.int .i64), (.slc (.pair (.pair .str (.pair (.int .i64) .unit)) (.slc (.pair .nd (.pair (.int .i64) .unit)))))] → Option (SumL [[.bool, (.slc (.pair (.pair .str (.pair (.int .i64) .unit)) (.slc (.pair .nd (.pair (.int .i64) .unit)))))]]) := fun p => intagliolaw14_ZsetPlaces_M p.1 p.2.1 p.2.2.1 p.2.2.2
def intagliolaw14_ZsetPlaces_C : Con := ⟨1, intagliolaw14_ZsetPlaces_T, intagliolaw14_ZsetPlaces_O, stdCn [(.slc (.pair .bool (.pair .str (.pair (.int .i64) .unit)))), (.int .i64), (.int .i64), (.slc (.pair (.pair .str (.pair (.int .i64) .unit)) (.slc (.pair .nd (.pair (.int .i64) .unit)))))] [[.bool, (.slc (.pair (.pair .str (.pair (.int .i64) .unit)) (.slc (.pair .nd (.pair (.int .i64) .unit)))))]] intagliolaw14_ZsetPlaces_MM, []⟩

def zset_Set_Between_n_T : Tm := ⟨[(0, false, [.nilp]), (1, false, [.hole (.int .i64)]), (2, false, [.hole (.int .i64)])], 3, [.ar (.pair .str (.pair (.int .i64) .unit)) (.pair .nd (.pair (.int .i64) .unit))]⟩
def zset_Set_Between_n_O : List (Ex × Tm) := [(.ret, ⟨[(0, false, [.nils])], 1, [.ar (.pair .str (.pair (.int .i64) .unit)) (.pair .nd (.pair (.int .i64) .unit))]⟩)]
def zset_Set_Between_n_M (s1 : Int) (s2 : Int) (a0 : List (((List UInt8) × Int × Unit) × List ((Option Nat) × Int × Unit))) : Option ((List (((List UInt8) × Int × Unit) × List ((Option Nat) × Int × Unit)))) :=
  Option.bind (zset_Set_made_n_P a0) fun (v0 : (Bool × (List (((List UInt8) × (Int × Unit)) × (List ((Option Nat) × (Int × Unit))))))) =>
  if (!v0.fst) = true then
    some (v0.snd)
  else
  none -- STUCK after t16 call [R0 R1 R2 R3 R4]
def zset_Set_Between_n_P : Int × Int × (List (((List UInt8) × Int × Unit) × List ((Option Nat) × Int × Unit))) → Option ((List (((List UInt8) × Int × Unit) × List ((Option Nat) × Int × Unit)))) := fun p => zset_Set_Between_n_M p.1 p.2.1 p.2.2
def zset_Set_Between_n_MM : HL [(.int .i64), (.int .i64), (.slc (.pair (.pair .str (.pair (.int .i64) .unit)) (.slc (.pair .nd (.pair (.int .i64) .unit)))))] → Option (SumL [[(.slc (.pair (.pair .str (.pair (.int .i64) .unit)) (.slc (.pair .nd (.pair (.int .i64) .unit)))))]]) := fun p => zset_Set_Between_n_M p.1 p.2.1 p.2.2
def zset_Set_Between_n_C : Con := ⟨1, zset_Set_Between_n_T, zset_Set_Between_n_O, stdCn [(.int .i64), (.int .i64), (.slc (.pair (.pair .str (.pair (.int .i64) .unit)) (.slc (.pair .nd (.pair (.int .i64) .unit)))))] [[(.slc (.pair (.pair .str (.pair (.int .i64) .unit)) (.slc (.pair .nd (.pair (.int .i64) .unit)))))]] zset_Set_Between_n_MM, []⟩

def zset_Set_Between_e_T : Tm := ⟨[(0, false, [.ptr 0 0]), (1, false, [.hole (.int .i64)]), (2, false, [.hole (.int .i64)])], 3, [.box [.hole .nd, .nilm], .ar (.pair .str (.pair (.int .i64) .unit)) (.pair .nd (.pair (.int .i64) .unit))]⟩
def zset_Set_Between_e_O : List (Ex × Tm) := [(.ret, ⟨[(0, false, [.nils])], 1, [.box [.hole .nd, .nilm], .ar (.pair .str (.pair (.int .i64) .unit)) (.pair .nd (.pair (.int .i64) .unit))]⟩)]
def zset_Set_Between_e_M (s1 : Int) (s2 : Int) (m0 : Option Nat) (a1 : List (((List UInt8) × Int × Unit) × List ((Option Nat) × Int × Unit))) : Option ((Option Nat) × (List (((List UInt8) × Int × Unit) × List ((Option Nat) × Int × Unit)))) :=
  Option.bind (zset_Set_made_e_P (m0, a1)) fun (v0 : (Bool × ((Option Nat) × (List (((List UInt8) × (Int × Unit)) × (List ((Option Nat) × (Int × Unit)))))))) =>
  if (!v0.fst) = true then
    some (v0.snd.fst, v0.snd.snd)
  else
  none -- STUCK after t16 call [R0 R1 R2 R3 R4]
def zset_Set_Between_e_P : Int × Int × (Option Nat) × (List (((List UInt8) × Int × Unit) × List ((Option Nat) × Int × Unit))) → Option ((Option Nat) × (List (((List UInt8) × Int × Unit) × List ((Option Nat) × Int × Unit)))) := fun p => zset_Set_Between_e_M p.1 p.2.1 p.2.2.1 p.2.2.2
def zset_Set_Between_e_MM : HL [(.int .i64), (.int .i64), .nd, (.slc (.pair (.pair .str (.pair (.int .i64) .unit)) (.slc (.pair .nd (.pair (.int .i64) .unit)))))] → Option (SumL [[.nd, (.slc (.pair (.pair .str (.pair (.int .i64) .unit)) (.slc (.pair .nd (.pair (.int .i64) .unit)))))]]) := fun p => zset_Set_Between_e_M p.1 p.2.1 p.2.2.1 p.2.2.2
def zset_Set_Between_e_C : Con := ⟨2, zset_Set_Between_e_T, zset_Set_Between_e_O, stdCn [(.int .i64), (.int .i64), .nd, (.slc (.pair (.pair .str (.pair (.int .i64) .unit)) (.slc (.pair .nd (.pair (.int .i64) .unit)))))] [[.nd, (.slc (.pair (.pair .str (.pair (.int .i64) .unit)) (.slc (.pair .nd (.pair (.int .i64) .unit)))))]] zset_Set_Between_e_MM, []⟩

def zset_Set_Between_L1_T : Tm := ⟨[(2, false, [.hole (.int .i64)]), (7, false, [.row 1]), (8, false, [.hole .nd])], 51, [.ar (.pair .str (.pair (.int .i64) .unit)) (.pair .nd (.pair (.int .i64) .unit)), .row (.pair .str (.pair (.int .i64) .unit))]⟩
def zset_Set_Between_L1_O : List (Ex × Tm) := [(.exit 0, ⟨[(7, false, [.row 1])], 51, [.ar (.pair .str (.pair (.int .i64) .unit)) (.pair .nd (.pair (.int .i64) .unit)), .row (.pair .str (.pair (.int .i64) .unit))]⟩)]
def zset_Set_Between_L1 (s2 : Int) (s8 : Option Nat) (a0 : List (((List UInt8) × Int × Unit) × List ((Option Nat) × Int × Unit))) (r1 : List ((List UInt8) × Int × Unit)) : Option ((Int × (Option Nat) × (List (((List UInt8) × Int × Unit) × List ((Option Nat) × Int × Unit))) × (List ((List UInt8) × Int × Unit))) ⊕ (((List (((List UInt8) × Int × Unit) × List ((Option Nat) × Int × Unit))) × (List ((List UInt8) × Int × Unit))))) :=
  if (!Option.isNone s8) = true then
    Option.bind (s8) fun (v0 : Nat) =>
    if decide ((ndX ([], (0 : Int), ()) a0 v0).snd.fst ≤ s2) = true then
      Option.bind (s8) fun (v1 : Nat) =>
      Option.bind (room (24 : Nat) (List.length r1 + List.length [((ndX ([], (0 : Int), ()) a0 v1).fst, (ndX ([], (0 : Int), ()) a0 v1).snd.fst, ())])) fun _ =>
      Option.bind (s8) fun (v3 : Nat) =>
      Option.bind (inb (List.length (ndR a0 v3)) (0 : Int)) fun _ =>
      some (.inl (s2, (List.getD (ndR a0 v3) (nat_lit 0) (none, (0 : Int), ())).fst, a0, r1 ++ [((ndX ([], (0 : Int), ()) a0 v1).fst, (ndX ([], (0 : Int), ()) a0 v1).snd.fst, ())]))
    else
    some (.inr (a0, r1))
  else
  some (.inr (a0, r1))
def zset_Set_Between_L1_P : Int × (Option Nat) × (List (((List UInt8) × Int × Unit) × List ((Option Nat) × Int × Unit))) × (List ((List UInt8) × Int × Unit)) → Option ((Int × (Option Nat) × (List (((List UInt8) × Int × Unit) × List ((Option Nat) × Int × Unit))) × (List ((List UInt8) × Int × Unit))) ⊕ (((List (((List UInt8) × Int × Unit) × List ((Option Nat) × Int × Unit))) × (List ((List UInt8) × Int × Unit))))) := fun p => zset_Set_Between_L1 p.1 p.2.1 p.2.2.1 p.2.2.2
def zset_Set_Between_L1_MM : HL [(.int .i64), .nd, (.slc (.pair (.pair .str (.pair (.int .i64) .unit)) (.slc (.pair .nd (.pair (.int .i64) .unit))))), (.slc (.pair .str (.pair (.int .i64) .unit)))] → Option (HL [(.int .i64), .nd, (.slc (.pair (.pair .str (.pair (.int .i64) .unit)) (.slc (.pair .nd (.pair (.int .i64) .unit))))), (.slc (.pair .str (.pair (.int .i64) .unit)))] ⊕ SumL [[(.slc (.pair (.pair .str (.pair (.int .i64) .unit)) (.slc (.pair .nd (.pair (.int .i64) .unit))))), (.slc (.pair .str (.pair (.int .i64) .unit)))]]) := fun p => zset_Set_Between_L1 p.1 p.2.1 p.2.2.1 p.2.2.2
def zset_Set_Between_L1_C : Con := ⟨1, zset_Set_Between_L1_T, zset_Set_Between_L1_O, stdCn [(.int .i64), .nd, (.slc (.pair (.pair .str (.pair (.int .i64) .unit)) (.slc (.pair .nd (.pair (.int .i64) .unit))))), (.slc (.pair .str (.pair (.int .i64) .unit)))] [[(.slc (.pair (.pair .str (.pair (.int .i64) .unit)) (.slc (.pair .nd (.pair (.int .i64) .unit))))), (.slc (.pair .str (.pair (.int .i64) .unit)))]] (loop zset_Set_Between_L1_MM), []⟩
def zset_Set_Between_T : Tm := ⟨[(0, false, [.ptr 0 0]), (1, false, [.hole (.int .i64)]), (2, false, [.hole (.int .i64)])], 3, [.box [.hole .nd, .mpl 1], .mp .str (.int .i64), .ar (.pair .str (.pair (.int .i64) .unit)) (.pair .nd (.pair (.int .i64) .unit))]⟩
def zset_Set_Between_O : List (Ex × Tm) := [(.ret, ⟨[(0, false, [.row 3])], 1, [.box [.hole .nd, .mpl 1], .mp .str (.int .i64), .ar (.pair .str (.pair (.int .i64) .unit)) (.pair .nd (.pair (.int .i64) .unit)), .row (.pair .str (.pair (.int .i64) .unit))]⟩)]
def zset_Set_Between_M (s1 : Int) (s2 : Int) (m0 : Option Nat) (d1 : List ((List UInt8) × Int)) (a2 : List (((List UInt8) × Int × Unit) × List ((Option Nat) × Int × Unit))) : Option ((Option Nat) × (List ((List UInt8) × Int)) × (List (((List UInt8) × Int × Unit) × List ((Option Nat) × Int × Unit))) × (List ((List UInt8) × Int × Unit))) :=
  Option.bind (zset_Set_made_P (m0, d1, a2)) fun (v0 : (Bool × ((Option Nat) × ((List ((List UInt8) × Int)) × (List (((List UInt8) × (Int × Unit)) × (List ((Option Nat) × (Int × Unit))))))))) =>
  if (!v0.fst) = true then
    some (v0.snd.fst, v0.snd.snd.fst, v0.snd.snd.snd, [])
  else
  Option.bind (zset_Set_ahead_P ([], s1, v0.snd.fst, v0.snd.snd.fst, v0.snd.snd.snd)) fun (v1 : ((Arr (12 : Nat) (Option Nat)) × ((Arr (12 : Nat) Int) × ((Option Nat) × ((List ((List UInt8) × Int)) × (List (((List UInt8) × (Int × Unit)) × (List ((Option Nat) × (Int × Unit)))))))))) =>
  Option.bind (inb (12 : Nat) (0 : Int)) fun _ =>
  Option.bind (List.getD v1.fst.val (0 : Nat) none) fun (v3 : Nat) =>
  Option.bind (inb (List.length (ndR v1.snd.snd.snd.snd v3)) (0 : Int)) fun _ =>
  Option.bind (loop zset_Set_Between_L1_P (s2, (List.getD (ndR v1.snd.snd.snd.snd v3) (nat_lit 0) (none, (0 : Int), ())).fst, v1.snd.snd.snd.snd, [])) fun (v5 : ((List (((List UInt8) × (Int × Unit)) × (List ((Option Nat) × (Int × Unit))))) × (List ((List UInt8) × (Int × Unit))))) =>
  some (v1.snd.snd.fst, v1.snd.snd.snd.fst, v5.fst, v5.snd)
def zset_Set_Between_P : Int × Int × (Option Nat) × (List ((List UInt8) × Int)) × (List (((List UInt8) × Int × Unit) × List ((Option Nat) × Int × Unit))) → Option ((Option Nat) × (List ((List UInt8) × Int)) × (List (((List UInt8) × Int × Unit) × List ((Option Nat) × Int × Unit))) × (List ((List UInt8) × Int × Unit))) := fun p => zset_Set_Between_M p.1 p.2.1 p.2.2.1 p.2.2.2.1 p.2.2.2.2
def zset_Set_Between_MM : HL [(.int .i64), (.int .i64), .nd, (.slc (.pair .str (.int .i64))), (.slc (.pair (.pair .str (.pair (.int .i64) .unit)) (.slc (.pair .nd (.pair (.int .i64) .unit)))))] → Option (SumL [[.nd, (.slc (.pair .str (.int .i64))), (.slc (.pair (.pair .str (.pair (.int .i64) .unit)) (.slc (.pair .nd (.pair (.int .i64) .unit))))), (.slc (.pair .str (.pair (.int .i64) .unit)))]]) := fun p => zset_Set_Between_M p.1 p.2.1 p.2.2.1 p.2.2.2.1 p.2.2.2.2
def zset_Set_Between_C : Con := ⟨3, zset_Set_Between_T, zset_Set_Between_O, stdCn [(.int .i64), (.int .i64), .nd, (.slc (.pair .str (.int .i64))), (.slc (.pair (.pair .str (.pair (.int .i64) .unit)) (.slc (.pair .nd (.pair (.int .i64) .unit)))))] [[.nd, (.slc (.pair .str (.int .i64))), (.slc (.pair (.pair .str (.pair (.int .i64) .unit)) (.slc (.pair .nd (.pair (.int .i64) .unit))))), (.slc (.pair .str (.pair (.int .i64) .unit)))]] zset_Set_Between_MM, []⟩

def intaglioref14_Between_L1_T : Tm := ⟨[(0, false, [.hole (.slc (.pair .str (.pair (.int .i64) .unit)))]), (1, false, [.hole (.int .i64)]), (2, false, [.hole (.int .i64)]), (7, false, [.row 0]), (8, false, [.hole (.int .i64)])], 39, [.row (.pair .str (.pair (.int .i64) .unit))]⟩
def intaglioref14_Between_L1_O : List (Ex × Tm) := [(.exit 0, ⟨[(7, false, [.row 0])], 39, [.row (.pair .str (.pair (.int .i64) .unit))]⟩)]
def intaglioref14_Between_L1 (s0 : List ((List UInt8) × Int × Unit)) (s1 : Int) (s2 : Int) (s8 : Int) (r0 : List ((List UInt8) × Int × Unit)) : Option (((List ((List UInt8) × Int × Unit)) × Int × Int × Int × (List ((List UInt8) × Int × Unit))) ⊕ (((List ((List UInt8) × Int × Unit))))) :=
  if decide (s8 < (((List.length s0) : Nat) : Int)) = true then
    Option.bind (ix s0 s8) fun (v0 : ((List UInt8) × (Int × Unit))) =>
    if decide (v0.snd.fst ≥ s1) = true then
      Option.bind (ix s0 s8) fun (v1 : ((List UInt8) × (Int × Unit))) =>
      if decide (v1.snd.fst ≤ s2) = true then
        Option.bind (ix s0 s8) fun (v2 : ((List UInt8) × (Int × Unit))) =>
        Option.bind (room (24 : Nat) (List.length r0 + List.length [(v2.fst, v2.snd.fst, ())])) fun _ =>
        some (.inl (s0, s1, s2, IntKind.wrap IntKind.i64 (s8 + (1 : Int)), r0 ++ [(v2.fst, v2.snd.fst, ())]))
      else
      some (.inl (s0, s1, s2, IntKind.wrap IntKind.i64 (s8 + (1 : Int)), r0))
    else
    some (.inl (s0, s1, s2, IntKind.wrap IntKind.i64 (s8 + (1 : Int)), r0))
  else
  some (.inr (r0))
def intaglioref14_Between_L1_P : (List ((List UInt8) × Int × Unit)) × Int × Int × Int × (List ((List UInt8) × Int × Unit)) → Option (((List ((List UInt8) × Int × Unit)) × Int × Int × Int × (List ((List UInt8) × Int × Unit))) ⊕ (((List ((List UInt8) × Int × Unit))))) := fun p => intaglioref14_Between_L1 p.1 p.2.1 p.2.2.1 p.2.2.2.1 p.2.2.2.2
def intaglioref14_Between_L1_MM : HL [(.slc (.pair .str (.pair (.int .i64) .unit))), (.int .i64), (.int .i64), (.int .i64), (.slc (.pair .str (.pair (.int .i64) .unit)))] → Option (HL [(.slc (.pair .str (.pair (.int .i64) .unit))), (.int .i64), (.int .i64), (.int .i64), (.slc (.pair .str (.pair (.int .i64) .unit)))] ⊕ SumL [[(.slc (.pair .str (.pair (.int .i64) .unit)))]]) := fun p => intaglioref14_Between_L1 p.1 p.2.1 p.2.2.1 p.2.2.2.1 p.2.2.2.2
def intaglioref14_Between_L1_C : Con := ⟨0, intaglioref14_Between_L1_T, intaglioref14_Between_L1_O, stdCn [(.slc (.pair .str (.pair (.int .i64) .unit))), (.int .i64), (.int .i64), (.int .i64), (.slc (.pair .str (.pair (.int .i64) .unit)))] [[(.slc (.pair .str (.pair (.int .i64) .unit)))]] (loop intaglioref14_Between_L1_MM), []⟩
def intaglioref14_Between_T : Tm := ⟨[(0, false, [.hole (.slc (.pair .str (.pair (.int .i64) .unit)))]), (1, false, [.hole (.int .i64)]), (2, false, [.hole (.int .i64)])], 3, []⟩
def intaglioref14_Between_O : List (Ex × Tm) := [(.ret, ⟨[(0, false, [.row 0])], 1, [.row (.pair .str (.pair (.int .i64) .unit))]⟩)]
def intaglioref14_Between_M (s0 : List ((List UInt8) × Int × Unit)) (s1 : Int) (s2 : Int) : Option ((List ((List UInt8) × Int × Unit))) :=
  Option.bind (loop intaglioref14_Between_L1_P (s0, s1, s2, (0 : Int), [])) fun (v0 : (List ((List UInt8) × (Int × Unit)))) =>
  some (v0)
def intaglioref14_Between_P : (List ((List UInt8) × Int × Unit)) × Int × Int → Option ((List ((List UInt8) × Int × Unit))) := fun p => intaglioref14_Between_M p.1 p.2.1 p.2.2
def intaglioref14_Between_MM : HL [(.slc (.pair .str (.pair (.int .i64) .unit))), (.int .i64), (.int .i64)] → Option (SumL [[(.slc (.pair .str (.pair (.int .i64) .unit)))]]) := fun p => intaglioref14_Between_M p.1 p.2.1 p.2.2
def intaglioref14_Between_C : Con := ⟨0, intaglioref14_Between_T, intaglioref14_Between_O, stdCn [(.slc (.pair .str (.pair (.int .i64) .unit))), (.int .i64), (.int .i64)] [[(.slc (.pair .str (.pair (.int .i64) .unit)))]] intaglioref14_Between_MM, []⟩

def intagliolaw14_ZsetBetween_T : Tm := ⟨[(0, false, [.hole (.slc (.pair .bool (.pair .str (.pair (.int .i64) .unit))))]), (1, false, [.hole (.int .i64)]), (2, false, [.hole (.int .i64)])], 3, [.ar (.pair .str (.pair (.int .i64) .unit)) (.pair .nd (.pair (.int .i64) .unit))]⟩
def intagliolaw14_ZsetBetween_O : List (Ex × Tm) := [(.ret, ⟨[(0, false, [.hole .bool])], 1, [.ar (.pair .str (.pair (.int .i64) .unit)) (.pair .nd (.pair (.int .i64) .unit))]⟩)]
def intagliolaw14_ZsetBetween_M (s0 : List (Bool × (List UInt8) × Int × Unit)) (s1 : Int) (s2 : Int) (a0 : List (((List UInt8) × Int × Unit) × List ((Option Nat) × Int × Unit))) : Option (Bool × (List (((List UInt8) × Int × Unit) × List ((Option Nat) × Int × Unit)))) :=
  Option.bind (intagliolaw14_few_P s0) fun (v0 : Bool) =>
  if (!v0) = true then
    Option.bind (intagliolaw14_awake_P a0) fun (v1 : (Bool × (List (((List UInt8) × (Int × Unit)) × (List ((Option Nat) × (Int × Unit))))))) =>
    some (v1.fst, v1.snd)
  else
  Option.bind (intagliolaw14_made_P (s0, a0)) fun (v2 : (Bool × ((List (((List UInt8) × (Int × Unit)) × (List ((Option Nat) × (Int × Unit))))) × ((Option Nat) × ((List ((List UInt8) × Int)) × (List ((List UInt8) × (Int × Unit)))))))) =>
  if v2.fst = true then
    Option.bind (zset_Set_Between_P (s1, s2, v2.snd.snd.fst, v2.snd.snd.snd.fst, v2.snd.fst)) fun (v3 : ((Option Nat) × ((List ((List UInt8) × Int)) × ((List (((List UInt8) × (Int × Unit)) × (List ((Option Nat) × (Int × Unit))))) × (List ((List UInt8) × (Int × Unit))))))) =>
    Option.bind (intaglioref14_Between_P (v2.snd.snd.snd.snd, s1, s2)) fun (v4 : (List ((List UInt8) × (Int × Unit)))) =>
    Option.bind (intaglioref14_Same_P (v3.snd.snd.snd, v4)) fun (v5 : Bool) =>
    if v5 = true then
      Option.bind (intagliolaw14_awake_P v3.snd.snd.fst) fun (v6 : (Bool × (List (((List UInt8) × (Int × Unit)) × (List ((Option Nat) × (Int × Unit))))))) =>
      some (v6.fst, v6.snd)
    else
    some (false, v3.snd.snd.fst)
  else
  some (false, v2.snd.fst)
def intagliolaw14_ZsetBetween_P : (List (Bool × (List UInt8) × Int × Unit)) × Int × Int × (List (((List UInt8) × Int × Unit) × List ((Option Nat) × Int × Unit))) → Option (Bool × (List (((List UInt8) × Int × Unit) × List ((Option Nat) × Int × Unit)))) := fun p => intagliolaw14_ZsetBetween_M p.1 p.2.1 p.2.2.1 p.2.2.2
def intagliolaw14_ZsetBetween_MM : HL [(.slc (.pair .bool (.pair .str (.pair (.int .i64) .unit)))), (.int .i64), (.int .i64), (.slc (.pair (.pair .str (.pair (.int .i64) .unit)) (.slc (.pair .nd (.pair (.int .i64) .unit)))))] → Option (SumL [[.bool, (.slc (.pair (.pair .str (.pair (.int .i64) .unit)) (.slc (.pair .nd (.pair (.int .i64) .unit)))))]]) := fun p => intagliolaw14_ZsetBetween_M p.1 p.2.1 p.2.2.1 p.2.2.2
def intagliolaw14_ZsetBetween_C : Con := ⟨1, intagliolaw14_ZsetBetween_T, intagliolaw14_ZsetBetween_O, stdCn [(.slc (.pair .bool (.pair .str (.pair (.int .i64) .unit)))), (.int .i64), (.int .i64), (.slc (.pair (.pair .str (.pair (.int .i64) .unit)) (.slc (.pair .nd (.pair (.int .i64) .unit)))))] [[.bool, (.slc (.pair (.pair .str (.pair (.int .i64) .unit)) (.slc (.pair .nd (.pair (.int .i64) .unit)))))]] intagliolaw14_ZsetBetween_MM, []⟩

def intagliolaw14_ZsetInverse_L1_T : Tm := ⟨[(0, false, [.hole (.slc (.pair .bool (.pair .str (.pair (.int .i64) .unit))))]), (3, false, [.ptr 0 0]), (4, false, [.hole (.int .i64)])], 103, [.box [.hole .nd, .mpl 1], .mp .str (.int .i64), .ar (.pair .str (.pair (.int .i64) .unit)) (.pair .nd (.pair (.int .i64) .unit))]⟩
def intagliolaw14_ZsetInverse_L1_O : List (Ex × Tm) := [(.exit 0, ⟨[(3, false, [.ptr 0 0])], 103, [.box [.hole .nd, .mpl 1], .mp .str (.int .i64), .ar (.pair .str (.pair (.int .i64) .unit)) (.pair .nd (.pair (.int .i64) .unit))]⟩)]
def intagliolaw14_ZsetInverse_L1 (s0 : List (Bool × (List UInt8) × Int × Unit)) (s4 : Int) (m0 : Option Nat) (d1 : List ((List UInt8) × Int)) (a2 : List (((List UInt8) × Int × Unit) × List ((Option Nat) × Int × Unit))) : Option (((List (Bool × (List UInt8) × Int × Unit)) × Int × (Option Nat) × (List ((List UInt8) × Int)) × (List (((List UInt8) × Int × Unit) × List ((Option Nat) × Int × Unit)))) ⊕ (((Option Nat) × (List ((List UInt8) × Int)) × (List (((List UInt8) × Int × Unit) × List ((Option Nat) × Int × Unit)))))) :=
  if decide (s4 < (((List.length s0) : Nat) : Int)) = true then
    Option.bind (ix s0 s4) fun (v0 : (Bool × ((List UInt8) × (Int × Unit)))) =>
    if v0.fst = true then
      Option.bind (ix s0 s4) fun (v1 : (Bool × ((List UInt8) × (Int × Unit)))) =>
      Option.bind (zset_Set_Drop_P (v1.snd.fst, m0, d1, a2)) fun (v2 : (Bool × ((Option Nat) × ((List ((List UInt8) × Int)) × (List (((List UInt8) × (Int × Unit)) × (List ((Option Nat) × (Int × Unit))))))))) =>
      some (.inl (s0, IntKind.wrap IntKind.i64 (s4 + (1 : Int)), v2.snd.fst, v2.snd.snd.fst, v2.snd.snd.snd))
    else
    Option.bind (ix s0 s4) fun (v3 : (Bool × ((List UInt8) × (Int × Unit)))) =>
    Option.bind (ix s0 s4) fun (v4 : (Bool × ((List UInt8) × (Int × Unit)))) =>
    Option.bind (zset_Set_Put_P (v3.snd.fst, v4.snd.snd.fst, m0, d1, a2)) fun (v5 : (Bool × ((Option Nat) × ((List ((List UInt8) × Int)) × (List (((List UInt8) × (Int × Unit)) × (List ((Option Nat) × (Int × Unit))))))))) =>
    some (.inl (s0, IntKind.wrap IntKind.i64 (s4 + (1 : Int)), v5.snd.fst, v5.snd.snd.fst, v5.snd.snd.snd))
  else
  some (.inr (m0, d1, a2))
def intagliolaw14_ZsetInverse_L1_P : (List (Bool × (List UInt8) × Int × Unit)) × Int × (Option Nat) × (List ((List UInt8) × Int)) × (List (((List UInt8) × Int × Unit) × List ((Option Nat) × Int × Unit))) → Option (((List (Bool × (List UInt8) × Int × Unit)) × Int × (Option Nat) × (List ((List UInt8) × Int)) × (List (((List UInt8) × Int × Unit) × List ((Option Nat) × Int × Unit)))) ⊕ (((Option Nat) × (List ((List UInt8) × Int)) × (List (((List UInt8) × Int × Unit) × List ((Option Nat) × Int × Unit)))))) := fun p => intagliolaw14_ZsetInverse_L1 p.1 p.2.1 p.2.2.1 p.2.2.2.1 p.2.2.2.2
def intagliolaw14_ZsetInverse_L1_MM : HL [(.slc (.pair .bool (.pair .str (.pair (.int .i64) .unit)))), (.int .i64), .nd, (.slc (.pair .str (.int .i64))), (.slc (.pair (.pair .str (.pair (.int .i64) .unit)) (.slc (.pair .nd (.pair (.int .i64) .unit)))))] → Option (HL [(.slc (.pair .bool (.pair .str (.pair (.int .i64) .unit)))), (.int .i64), .nd, (.slc (.pair .str (.int .i64))), (.slc (.pair (.pair .str (.pair (.int .i64) .unit)) (.slc (.pair .nd (.pair (.int .i64) .unit)))))] ⊕ SumL [[.nd, (.slc (.pair .str (.int .i64))), (.slc (.pair (.pair .str (.pair (.int .i64) .unit)) (.slc (.pair .nd (.pair (.int .i64) .unit)))))]]) := fun p => intagliolaw14_ZsetInverse_L1 p.1 p.2.1 p.2.2.1 p.2.2.2.1 p.2.2.2.2
def intagliolaw14_ZsetInverse_L1_C : Con := ⟨3, intagliolaw14_ZsetInverse_L1_T, intagliolaw14_ZsetInverse_L1_O, stdCn [(.slc (.pair .bool (.pair .str (.pair (.int .i64) .unit)))), (.int .i64), .nd, (.slc (.pair .str (.int .i64))), (.slc (.pair (.pair .str (.pair (.int .i64) .unit)) (.slc (.pair .nd (.pair (.int .i64) .unit)))))] [[.nd, (.slc (.pair .str (.int .i64))), (.slc (.pair (.pair .str (.pair (.int .i64) .unit)) (.slc (.pair .nd (.pair (.int .i64) .unit)))))]] (loop intagliolaw14_ZsetInverse_L1_MM), []⟩
def intagliolaw14_ZsetInverse_L2_T : Tm := ⟨[(3, false, [.ptr 0 0]), (5, false, [.hole (.int .i64)])], 103, [.box [.hole .nd, .mpl 1], .mp .str (.int .i64), .ar (.pair .str (.pair (.int .i64) .unit)) (.pair .nd (.pair (.int .i64) .unit))]⟩
def intagliolaw14_ZsetInverse_L2_O : List (Ex × Tm) := [(.exit 2, ⟨[], 103, [.box [.hole .nd, .mpl 1], .mp .str (.int .i64), .ar (.pair .str (.pair (.int .i64) .unit)) (.pair .nd (.pair (.int .i64) .unit))]⟩), (.ret, ⟨[(2, false, [.hole .bool])], 103, [.box [.hole .nd, .mpl 1], .mp .str (.int .i64), .ar (.pair .str (.pair (.int .i64) .unit)) (.pair .nd (.pair (.int .i64) .unit))]⟩)]
def intagliolaw14_ZsetInverse_L2 (s5 : Int) (m0 : Option Nat) (d1 : List ((List UInt8) × Int)) (a2 : List (((List UInt8) × Int × Unit) × List ((Option Nat) × Int × Unit))) : Option ((Int × (Option Nat) × (List ((List UInt8) × Int)) × (List (((List UInt8) × Int × Unit) × List ((Option Nat) × Int × Unit)))) ⊕ (((Option Nat) × (List ((List UInt8) × Int)) × (List (((List UInt8) × Int × Unit) × List ((Option Nat) × Int × Unit)))) ⊕ (Bool × (Option Nat) × (List ((List UInt8) × Int)) × (List (((List UInt8) × Int × Unit) × List ((Option Nat) × Int × Unit)))))) :=
  Option.bind (zset_Set_Len_P (m0, d1, a2)) fun (v0 : (Int × ((Option Nat) × ((List ((List UInt8) × Int)) × (List (((List UInt8) × (Int × Unit)) × (List ((Option Nat) × (Int × Unit))))))))) =>
  if decide (s5 < v0.fst) = true then
    Option.bind (zset_Set_At_P (s5, v0.snd.fst, v0.snd.snd.fst, v0.snd.snd.snd)) fun (v1 : ((List UInt8) × (Int × (Bool × ((Option Nat) × ((List ((List UInt8) × Int)) × (List (((List UInt8) × (Int × Unit)) × (List ((Option Nat) × (Int × Unit))))))))))) =>
    Option.bind (zset_Set_Rank_P (v1.fst, v1.snd.snd.snd.fst, v1.snd.snd.snd.snd.fst, v1.snd.snd.snd.snd.snd)) fun (v2 : (Int × (Bool × ((Option Nat) × ((List ((List UInt8) × Int)) × (List (((List UInt8) × (Int × Unit)) × (List ((Option Nat) × (Int × Unit)))))))))) =>
    Option.bind (zset_Set_At_P (IntKind.wrap IntKind.i64 (s5 + (1 : Int)), v2.snd.snd.fst, v2.snd.snd.snd.fst, v2.snd.snd.snd.snd)) fun (v3 : ((List UInt8) × (Int × (Bool × ((Option Nat) × ((List ((List UInt8) × Int)) × (List (((List UInt8) × (Int × Unit)) × (List ((Option Nat) × (Int × Unit))))))))))) =>
    if (!v1.snd.snd.fst) = true then
      some (.inr (.inr (false, v3.snd.snd.snd.fst, v3.snd.snd.snd.snd.fst, v3.snd.snd.snd.snd.snd)))
    else
    if (!v2.snd.fst) = true then
      some (.inr (.inr (false, v3.snd.snd.snd.fst, v3.snd.snd.snd.snd.fst, v3.snd.snd.snd.snd.snd)))
    else
    if (v2.fst != s5) = true then
      some (.inr (.inr (false, v3.snd.snd.snd.fst, v3.snd.snd.snd.snd.fst, v3.snd.snd.snd.snd.snd)))
    else
    if v3.snd.snd.fst = true then
      Option.bind (zset_Less_P (v1.fst, v1.snd.fst, v3.fst, v3.snd.fst)) fun (v4 : Bool) =>
      if (!v4) = true then
        some (.inr (.inr (false, v3.snd.snd.snd.fst, v3.snd.snd.snd.snd.fst, v3.snd.snd.snd.snd.snd)))
      else
      Option.bind (zset_Set_Len_P (v3.snd.snd.snd.fst, v3.snd.snd.snd.snd.fst, v3.snd.snd.snd.snd.snd)) fun (v5 : (Int × ((Option Nat) × ((List ((List UInt8) × Int)) × (List (((List UInt8) × (Int × Unit)) × (List ((Option Nat) × (Int × Unit))))))))) =>
      if (!v3.snd.snd.fst == decide (IntKind.wrap IntKind.i64 (s5 + (1 : Int)) < v5.fst)) = true then
        some (.inr (.inr (false, v5.snd.fst, v5.snd.snd.fst, v5.snd.snd.snd)))
      else
      some (.inl (IntKind.wrap IntKind.i64 (s5 + (1 : Int)), v5.snd.fst, v5.snd.snd.fst, v5.snd.snd.snd))
    else
    Option.bind (zset_Set_Len_P (v3.snd.snd.snd.fst, v3.snd.snd.snd.snd.fst, v3.snd.snd.snd.snd.snd)) fun (v6 : (Int × ((Option Nat) × ((List ((List UInt8) × Int)) × (List (((List UInt8) × (Int × Unit)) × (List ((Option Nat) × (Int × Unit))))))))) =>
    if (!v3.snd.snd.fst == decide (IntKind.wrap IntKind.i64 (s5 + (1 : Int)) < v6.fst)) = true then
      some (.inr (.inr (false, v6.snd.fst, v6.snd.snd.fst, v6.snd.snd.snd)))
    else
    some (.inl (IntKind.wrap IntKind.i64 (s5 + (1 : Int)), v6.snd.fst, v6.snd.snd.fst, v6.snd.snd.snd))
  else
  some (.inr (.inl (v0.snd.fst, v0.snd.snd.fst, v0.snd.snd.snd)))
def intagliolaw14_ZsetInverse_L2_P : Int × (Option Nat) × (List ((List UInt8) × Int)) × (List (((List UInt8) × Int × Unit) × List ((Option Nat) × Int × Unit))) → Option ((Int × (Option Nat) × (List ((List UInt8) × Int)) × (List (((List UInt8) × Int × Unit) × List ((Option Nat) × Int × Unit)))) ⊕ (((Option Nat) × (List ((List UInt8) × Int)) × (List (((List UInt8) × Int × Unit) × List ((Option Nat) × Int × Unit)))) ⊕ (Bool × (Option Nat) × (List ((List UInt8) × Int)) × (List (((List UInt8) × Int × Unit) × List ((Option Nat) × Int × Unit)))))) := fun p => intagliolaw14_ZsetInverse_L2 p.1 p.2.1 p.2.2.1 p.2.2.2
def intagliolaw14_ZsetInverse_L2_MM : HL [(.int .i64), .nd, (.slc (.pair .str (.int .i64))), (.slc (.pair (.pair .str (.pair (.int .i64) .unit)) (.slc (.pair .nd (.pair (.int .i64) .unit)))))] → Option (HL [(.int .i64), .nd, (.slc (.pair .str (.int .i64))), (.slc (.pair (.pair .str (.pair (.int .i64) .unit)) (.slc (.pair .nd (.pair (.int .i64) .unit)))))] ⊕ SumL [[.nd, (.slc (.pair .str (.int .i64))), (.slc (.pair (.pair .str (.pair (.int .i64) .unit)) (.slc (.pair .nd (.pair (.int .i64) .unit)))))], [.bool, .nd, (.slc (.pair .str (.int .i64))), (.slc (.pair (.pair .str (.pair (.int .i64) .unit)) (.slc (.pair .nd (.pair (.int .i64) .unit)))))]]) := fun p => intagliolaw14_ZsetInverse_L2 p.1 p.2.1 p.2.2.1 p.2.2.2
def intagliolaw14_ZsetInverse_L2_C : Con := ⟨3, intagliolaw14_ZsetInverse_L2_T, intagliolaw14_ZsetInverse_L2_O, stdCn [(.int .i64), .nd, (.slc (.pair .str (.int .i64))), (.slc (.pair (.pair .str (.pair (.int .i64) .unit)) (.slc (.pair .nd (.pair (.int .i64) .unit)))))] [[.nd, (.slc (.pair .str (.int .i64))), (.slc (.pair (.pair .str (.pair (.int .i64) .unit)) (.slc (.pair .nd (.pair (.int .i64) .unit)))))], [.bool, .nd, (.slc (.pair .str (.int .i64))), (.slc (.pair (.pair .str (.pair (.int .i64) .unit)) (.slc (.pair .nd (.pair (.int .i64) .unit)))))]] (loop intagliolaw14_ZsetInverse_L2_MM), []⟩
def intagliolaw14_ZsetInverse_T : Tm := ⟨[(0, false, [.hole (.slc (.pair .bool (.pair .str (.pair (.int .i64) .unit))))])], 1, [.ar (.pair .str (.pair (.int .i64) .unit)) (.pair .nd (.pair (.int .i64) .unit))]⟩
def intagliolaw14_ZsetInverse_O : List (Ex × Tm) := [(.ret, ⟨[(0, false, [.hole .bool])], 1, [.ar (.pair .str (.pair (.int .i64) .unit)) (.pair .nd (.pair (.int .i64) .unit))]⟩)]
def intagliolaw14_ZsetInverse_M (s0 : List (Bool × (List UInt8) × Int × Unit)) (a0 : List (((List UInt8) × Int × Unit) × List ((Option Nat) × Int × Unit))) : Option (Bool × (List (((List UInt8) × Int × Unit) × List ((Option Nat) × Int × Unit)))) :=
  Option.bind (intagliolaw14_few_P s0) fun (v0 : Bool) =>
  if (!v0) = true then
    Option.bind (intagliolaw14_awake_P a0) fun (v1 : (Bool × (List (((List UInt8) × (Int × Unit)) × (List ((Option Nat) × (Int × Unit))))))) =>
    some (v1.fst, v1.snd)
  else
  Option.bind (zset_New_P a0) fun (v2 : ((List (((List UInt8) × (Int × Unit)) × (List ((Option Nat) × (Int × Unit))))) × ((Option Nat) × (List ((List UInt8) × Int))))) =>
  Option.bind (loop intagliolaw14_ZsetInverse_L1_P (s0, (0 : Int), v2.snd.fst, v2.snd.snd, v2.fst)) fun (v3 : ((Option Nat) × ((List ((List UInt8) × Int)) × (List (((List UInt8) × (Int × Unit)) × (List ((Option Nat) × (Int × Unit)))))))) =>
  Option.bind (loop intagliolaw14_ZsetInverse_L2_P ((0 : Int), v3.fst, v3.snd.fst, v3.snd.snd)) fun (v4 : (((Option Nat) × ((List ((List UInt8) × Int)) × (List (((List UInt8) × (Int × Unit)) × (List ((Option Nat) × (Int × Unit))))))) ⊕ (Bool × ((Option Nat) × ((List ((List UInt8) × Int)) × (List (((List UInt8) × (Int × Unit)) × (List ((Option Nat) × (Int × Unit)))))))))) =>
  Sum.elim (fun (v5 : ((Option Nat) × ((List ((List UInt8) × Int)) × (List (((List UInt8) × (Int × Unit)) × (List ((Option Nat) × (Int × Unit)))))))) =>
      Option.bind (intagliolaw14_awake_P v5.snd.snd) fun (v7 : (Bool × (List (((List UInt8) × (Int × Unit)) × (List ((Option Nat) × (Int × Unit))))))) =>
      some (v7.fst, v7.snd)
    ) (fun (v6 : (Bool × ((Option Nat) × ((List ((List UInt8) × Int)) × (List (((List UInt8) × (Int × Unit)) × (List ((Option Nat) × (Int × Unit))))))))) =>
    some (v6.fst, v6.snd.snd.snd)
  ) (v4)
def intagliolaw14_ZsetInverse_P : (List (Bool × (List UInt8) × Int × Unit)) × (List (((List UInt8) × Int × Unit) × List ((Option Nat) × Int × Unit))) → Option (Bool × (List (((List UInt8) × Int × Unit) × List ((Option Nat) × Int × Unit)))) := fun p => intagliolaw14_ZsetInverse_M p.1 p.2
def intagliolaw14_ZsetInverse_MM : HL [(.slc (.pair .bool (.pair .str (.pair (.int .i64) .unit)))), (.slc (.pair (.pair .str (.pair (.int .i64) .unit)) (.slc (.pair .nd (.pair (.int .i64) .unit)))))] → Option (SumL [[.bool, (.slc (.pair (.pair .str (.pair (.int .i64) .unit)) (.slc (.pair .nd (.pair (.int .i64) .unit)))))]]) := fun p => intagliolaw14_ZsetInverse_M p.1 p.2
def intagliolaw14_ZsetInverse_C : Con := ⟨1, intagliolaw14_ZsetInverse_T, intagliolaw14_ZsetInverse_O, stdCn [(.slc (.pair .bool (.pair .str (.pair (.int .i64) .unit)))), (.slc (.pair (.pair .str (.pair (.int .i64) .unit)) (.slc (.pair .nd (.pair (.int .i64) .unit)))))] [[.bool, (.slc (.pair (.pair .str (.pair (.int .i64) .unit)) (.slc (.pair .nd (.pair (.int .i64) .unit)))))]] intagliolaw14_ZsetInverse_MM, []⟩

def zset_Set_Clone_n_T : Tm := ⟨[(0, false, [.nilp])], 1, [.ar (.pair .str (.pair (.int .i64) .unit)) (.pair .nd (.pair (.int .i64) .unit))]⟩
def zset_Set_Clone_n_O : List (Ex × Tm) := [(.ret, ⟨[(0, false, [.nilp])], 1, [.ar (.pair .str (.pair (.int .i64) .unit)) (.pair .nd (.pair (.int .i64) .unit))]⟩)]
def zset_Set_Clone_n_M (a0 : List (((List UInt8) × Int × Unit) × List ((Option Nat) × Int × Unit))) : Option ((List (((List UInt8) × Int × Unit) × List ((Option Nat) × Int × Unit)))) :=
  Option.bind (zset_Set_made_n_P a0) fun (v0 : (Bool × (List (((List UInt8) × (Int × Unit)) × (List ((Option Nat) × (Int × Unit))))))) =>
  if (!v0.fst) = true then
    some (v0.snd)
  else
  Option.bind (zset_New_P v0.snd) fun (v1 : ((List (((List UInt8) × (Int × Unit)) × (List ((Option Nat) × (Int × Unit))))) × ((Option Nat) × (List ((List UInt8) × Int))))) =>
  none -- STUCK after t10 nilCheck [R0 R1 R2 R3 R4]
def zset_Set_Clone_n_P : (List (((List UInt8) × Int × Unit) × List ((Option Nat) × Int × Unit))) → Option ((List (((List UInt8) × Int × Unit) × List ((Option Nat) × Int × Unit)))) := fun p => zset_Set_Clone_n_M p
def zset_Set_Clone_n_MM : HL [(.slc (.pair (.pair .str (.pair (.int .i64) .unit)) (.slc (.pair .nd (.pair (.int .i64) .unit)))))] → Option (SumL [[(.slc (.pair (.pair .str (.pair (.int .i64) .unit)) (.slc (.pair .nd (.pair (.int .i64) .unit)))))]]) := fun p => zset_Set_Clone_n_M p
def zset_Set_Clone_n_C : Con := ⟨1, zset_Set_Clone_n_T, zset_Set_Clone_n_O, stdCn [(.slc (.pair (.pair .str (.pair (.int .i64) .unit)) (.slc (.pair .nd (.pair (.int .i64) .unit)))))] [[(.slc (.pair (.pair .str (.pair (.int .i64) .unit)) (.slc (.pair .nd (.pair (.int .i64) .unit)))))]] zset_Set_Clone_n_MM, []⟩

def zset_Set_Clone_e_L1_T : Tm := ⟨[(3, false, [.ptr 0 0]), (4, false, [.hole .nd])], 41, [.box [.hole .nd, .mpl 1], .mp .str (.int .i64), .ar (.pair .str (.pair (.int .i64) .unit)) (.pair .nd (.pair (.int .i64) .unit))]⟩
def zset_Set_Clone_e_L1_O : List (Ex × Tm) := [(.exit 0, ⟨[(3, false, [.ptr 0 0])], 41, [.box [.hole .nd, .mpl 1], .mp .str (.int .i64), .ar (.pair .str (.pair (.int .i64) .unit)) (.pair .nd (.pair (.int .i64) .unit))]⟩)]
def zset_Set_Clone_e_L1 (s4 : Option Nat) (m0 : Option Nat) (d1 : List ((List UInt8) × Int)) (a2 : List (((List UInt8) × Int × Unit) × List ((Option Nat) × Int × Unit))) : Option (((Option Nat) × (Option Nat) × (List ((List UInt8) × Int)) × (List (((List UInt8) × Int × Unit) × List ((Option Nat) × Int × Unit)))) ⊕ (((Option Nat) × (List ((List UInt8) × Int)) × (List (((List UInt8) × Int × Unit) × List ((Option Nat) × Int × Unit)))))) :=
  if (!Option.isNone s4) = true then
    Option.bind (s4) fun (v0 : Nat) =>
    Option.bind (s4) fun (v1 : Nat) =>
    Option.bind (zset_Set_Put_P ((ndX ([], (0 : Int), ()) a2 v0).fst, (ndX ([], (0 : Int), ()) a2 v1).snd.fst, m0, d1, a2)) fun (v2 : (Bool × ((Option Nat) × ((List ((List UInt8) × Int)) × (List (((List UInt8) × (Int × Unit)) × (List ((Option Nat) × (Int × Unit))))))))) =>
    Option.bind (s4) fun (v3 : Nat) =>
    Option.bind (inb (List.length (ndR v2.snd.snd.snd v3)) (0 : Int)) fun _ =>
    some (.inl ((List.getD (ndR v2.snd.snd.snd v3) (nat_lit 0) (none, (0 : Int), ())).fst, v2.snd.fst, v2.snd.snd.fst, v2.snd.snd.snd))
  else
  some (.inr (m0, d1, a2))
def zset_Set_Clone_e_L1_P : (Option Nat) × (Option Nat) × (List ((List UInt8) × Int)) × (List (((List UInt8) × Int × Unit) × List ((Option Nat) × Int × Unit))) → Option (((Option Nat) × (Option Nat) × (List ((List UInt8) × Int)) × (List (((List UInt8) × Int × Unit) × List ((Option Nat) × Int × Unit)))) ⊕ (((Option Nat) × (List ((List UInt8) × Int)) × (List (((List UInt8) × Int × Unit) × List ((Option Nat) × Int × Unit)))))) := fun p => zset_Set_Clone_e_L1 p.1 p.2.1 p.2.2.1 p.2.2.2
def zset_Set_Clone_e_L1_MM : HL [.nd, .nd, (.slc (.pair .str (.int .i64))), (.slc (.pair (.pair .str (.pair (.int .i64) .unit)) (.slc (.pair .nd (.pair (.int .i64) .unit)))))] → Option (HL [.nd, .nd, (.slc (.pair .str (.int .i64))), (.slc (.pair (.pair .str (.pair (.int .i64) .unit)) (.slc (.pair .nd (.pair (.int .i64) .unit)))))] ⊕ SumL [[.nd, (.slc (.pair .str (.int .i64))), (.slc (.pair (.pair .str (.pair (.int .i64) .unit)) (.slc (.pair .nd (.pair (.int .i64) .unit)))))]]) := fun p => zset_Set_Clone_e_L1 p.1 p.2.1 p.2.2.1 p.2.2.2
def zset_Set_Clone_e_L1_C : Con := ⟨3, zset_Set_Clone_e_L1_T, zset_Set_Clone_e_L1_O, stdCn [.nd, .nd, (.slc (.pair .str (.int .i64))), (.slc (.pair (.pair .str (.pair (.int .i64) .unit)) (.slc (.pair .nd (.pair (.int .i64) .unit)))))] [[.nd, (.slc (.pair .str (.int .i64))), (.slc (.pair (.pair .str (.pair (.int .i64) .unit)) (.slc (.pair .nd (.pair (.int .i64) .unit)))))]] (loop zset_Set_Clone_e_L1_MM), []⟩
def zset_Set_Clone_e_T : Tm := ⟨[(0, false, [.ptr 0 0])], 1, [.box [.hole .nd, .nilm], .ar (.pair .str (.pair (.int .i64) .unit)) (.pair .nd (.pair (.int .i64) .unit))]⟩
def zset_Set_Clone_e_O : List (Ex × Tm) := [(.ret, ⟨[(0, false, [.nilp])], 1, [.box [.hole .nd, .nilm], .ar (.pair .str (.pair (.int .i64) .unit)) (.pair .nd (.pair (.int .i64) .unit))]⟩), (.ret, ⟨[(0, false, [.ptr 2 0])], 1, [.box [.hole .nd, .nilm], .ar (.pair .str (.pair (.int .i64) .unit)) (.pair .nd (.pair (.int .i64) .unit)), .box [.hole .nd, .mpl 3], .mp .str (.int .i64)]⟩)]
def zset_Set_Clone_e_M (m0 : Option Nat) (a1 : List (((List UInt8) × Int × Unit) × List ((Option Nat) × Int × Unit))) : Option ((((Option Nat) × (List (((List UInt8) × Int × Unit) × List ((Option Nat) × Int × Unit)))) ⊕ ((Option Nat) × (List (((List UInt8) × Int × Unit) × List ((Option Nat) × Int × Unit))) × (Option Nat) × (List ((List UInt8) × Int))))) :=
  Option.bind (zset_Set_made_e_P (m0, a1)) fun (v0 : (Bool × ((Option Nat) × (List (((List UInt8) × (Int × Unit)) × (List ((Option Nat) × (Int × Unit)))))))) =>
  if (!v0.fst) = true then
    some (.inl (v0.snd.fst, v0.snd.snd))
  else
  Option.bind (zset_New_P v0.snd.snd) fun (v1 : ((List (((List UInt8) × (Int × Unit)) × (List ((Option Nat) × (Int × Unit))))) × ((Option Nat) × (List ((List UInt8) × Int))))) =>
  Option.bind (v0.snd.fst) fun (v2 : Nat) =>
  Option.bind (inb (List.length (ndR v1.fst v2)) (0 : Int)) fun _ =>
  Option.bind (loop zset_Set_Clone_e_L1_P ((List.getD (ndR v1.fst v2) (nat_lit 0) (none, (0 : Int), ())).fst, v1.snd.fst, v1.snd.snd, v1.fst)) fun (v4 : ((Option Nat) × ((List ((List UInt8) × Int)) × (List (((List UInt8) × (Int × Unit)) × (List ((Option Nat) × (Int × Unit)))))))) =>
  some (.inr (v0.snd.fst, v4.snd.snd, v4.fst, v4.snd.fst))
def zset_Set_Clone_e_P : (Option Nat) × (List (((List UInt8) × Int × Unit) × List ((Option Nat) × Int × Unit))) → Option ((((Option Nat) × (List (((List UInt8) × Int × Unit) × List ((Option Nat) × Int × Unit)))) ⊕ ((Option Nat) × (List (((List UInt8) × Int × Unit) × List ((Option Nat) × Int × Unit))) × (Option Nat) × (List ((List UInt8) × Int))))) := fun p => zset_Set_Clone_e_M p.1 p.2
def zset_Set_Clone_e_MM : HL [.nd, (.slc (.pair (.pair .str (.pair (.int .i64) .unit)) (.slc (.pair .nd (.pair (.int .i64) .unit)))))] → Option (SumL [[.nd, (.slc (.pair (.pair .str (.pair (.int .i64) .unit)) (.slc (.pair .nd (.pair (.int .i64) .unit)))))], [.nd, (.slc (.pair (.pair .str (.pair (.int .i64) .unit)) (.slc (.pair .nd (.pair (.int .i64) .unit))))), .nd, (.slc (.pair .str (.int .i64)))]]) := fun p => zset_Set_Clone_e_M p.1 p.2
def zset_Set_Clone_e_C : Con := ⟨2, zset_Set_Clone_e_T, zset_Set_Clone_e_O, stdCn [.nd, (.slc (.pair (.pair .str (.pair (.int .i64) .unit)) (.slc (.pair .nd (.pair (.int .i64) .unit)))))] [[.nd, (.slc (.pair (.pair .str (.pair (.int .i64) .unit)) (.slc (.pair .nd (.pair (.int .i64) .unit)))))], [.nd, (.slc (.pair (.pair .str (.pair (.int .i64) .unit)) (.slc (.pair .nd (.pair (.int .i64) .unit))))), .nd, (.slc (.pair .str (.int .i64)))]] zset_Set_Clone_e_MM, []⟩

def zset_Set_Clone_L1_T : Tm := ⟨[(3, false, [.ptr 0 0]), (4, false, [.hole .nd])], 41, [.box [.hole .nd, .mpl 1], .mp .str (.int .i64), .ar (.pair .str (.pair (.int .i64) .unit)) (.pair .nd (.pair (.int .i64) .unit))]⟩
def zset_Set_Clone_L1_O : List (Ex × Tm) := [(.exit 0, ⟨[(3, false, [.ptr 0 0])], 41, [.box [.hole .nd, .mpl 1], .mp .str (.int .i64), .ar (.pair .str (.pair (.int .i64) .unit)) (.pair .nd (.pair (.int .i64) .unit))]⟩)]
def zset_Set_Clone_L1 (s4 : Option Nat) (m0 : Option Nat) (d1 : List ((List UInt8) × Int)) (a2 : List (((List UInt8) × Int × Unit) × List ((Option Nat) × Int × Unit))) : Option (((Option Nat) × (Option Nat) × (List ((List UInt8) × Int)) × (List (((List UInt8) × Int × Unit) × List ((Option Nat) × Int × Unit)))) ⊕ (((Option Nat) × (List ((List UInt8) × Int)) × (List (((List UInt8) × Int × Unit) × List ((Option Nat) × Int × Unit)))))) :=
  if (!Option.isNone s4) = true then
    Option.bind (s4) fun (v0 : Nat) =>
    Option.bind (s4) fun (v1 : Nat) =>
    Option.bind (zset_Set_Put_P ((ndX ([], (0 : Int), ()) a2 v0).fst, (ndX ([], (0 : Int), ()) a2 v1).snd.fst, m0, d1, a2)) fun (v2 : (Bool × ((Option Nat) × ((List ((List UInt8) × Int)) × (List (((List UInt8) × (Int × Unit)) × (List ((Option Nat) × (Int × Unit))))))))) =>
    Option.bind (s4) fun (v3 : Nat) =>
    Option.bind (inb (List.length (ndR v2.snd.snd.snd v3)) (0 : Int)) fun _ =>
    some (.inl ((List.getD (ndR v2.snd.snd.snd v3) (nat_lit 0) (none, (0 : Int), ())).fst, v2.snd.fst, v2.snd.snd.fst, v2.snd.snd.snd))
  else
  some (.inr (m0, d1, a2))
def zset_Set_Clone_L1_P : (Option Nat) × (Option Nat) × (List ((List UInt8) × Int)) × (List (((List UInt8) × Int × Unit) × List ((Option Nat) × Int × Unit))) → Option (((Option Nat) × (Option Nat) × (List ((List UInt8) × Int)) × (List (((List UInt8) × Int × Unit) × List ((Option Nat) × Int × Unit)))) ⊕ (((Option Nat) × (List ((List UInt8) × Int)) × (List (((List UInt8) × Int × Unit) × List ((Option Nat) × Int × Unit)))))) := fun p => zset_Set_Clone_L1 p.1 p.2.1 p.2.2.1 p.2.2.2
def zset_Set_Clone_L1_MM : HL [.nd, .nd, (.slc (.pair .str (.int .i64))), (.slc (.pair (.pair .str (.pair (.int .i64) .unit)) (.slc (.pair .nd (.pair (.int .i64) .unit)))))] → Option (HL [.nd, .nd, (.slc (.pair .str (.int .i64))), (.slc (.pair (.pair .str (.pair (.int .i64) .unit)) (.slc (.pair .nd (.pair (.int .i64) .unit)))))] ⊕ SumL [[.nd, (.slc (.pair .str (.int .i64))), (.slc (.pair (.pair .str (.pair (.int .i64) .unit)) (.slc (.pair .nd (.pair (.int .i64) .unit)))))]]) := fun p => zset_Set_Clone_L1 p.1 p.2.1 p.2.2.1 p.2.2.2
def zset_Set_Clone_L1_C : Con := ⟨3, zset_Set_Clone_L1_T, zset_Set_Clone_L1_O, stdCn [.nd, .nd, (.slc (.pair .str (.int .i64))), (.slc (.pair (.pair .str (.pair (.int .i64) .unit)) (.slc (.pair .nd (.pair (.int .i64) .unit)))))] [[.nd, (.slc (.pair .str (.int .i64))), (.slc (.pair (.pair .str (.pair (.int .i64) .unit)) (.slc (.pair .nd (.pair (.int .i64) .unit)))))]] (loop zset_Set_Clone_L1_MM), []⟩
def zset_Set_Clone_T : Tm := ⟨[(0, false, [.ptr 0 0])], 1, [.box [.hole .nd, .mpl 1], .mp .str (.int .i64), .ar (.pair .str (.pair (.int .i64) .unit)) (.pair .nd (.pair (.int .i64) .unit))]⟩
def zset_Set_Clone_O : List (Ex × Tm) := [(.ret, ⟨[(0, false, [.nilp])], 1, [.box [.hole .nd, .mpl 1], .mp .str (.int .i64), .ar (.pair .str (.pair (.int .i64) .unit)) (.pair .nd (.pair (.int .i64) .unit))]⟩), (.ret, ⟨[(0, false, [.ptr 3 0])], 1, [.box [.hole .nd, .mpl 1], .mp .str (.int .i64), .ar (.pair .str (.pair (.int .i64) .unit)) (.pair .nd (.pair (.int .i64) .unit)), .box [.hole .nd, .mpl 4], .mp .str (.int .i64)]⟩)]
def zset_Set_Clone_M (m0 : Option Nat) (d1 : List ((List UInt8) × Int)) (a2 : List (((List UInt8) × Int × Unit) × List ((Option Nat) × Int × Unit))) : Option ((((Option Nat) × (List ((List UInt8) × Int)) × (List (((List UInt8) × Int × Unit) × List ((Option Nat) × Int × Unit)))) ⊕ ((Option Nat) × (List ((List UInt8) × Int)) × (List (((List UInt8) × Int × Unit) × List ((Option Nat) × Int × Unit))) × (Option Nat) × (List ((List UInt8) × Int))))) :=
  Option.bind (zset_Set_made_P (m0, d1, a2)) fun (v0 : (Bool × ((Option Nat) × ((List ((List UInt8) × Int)) × (List (((List UInt8) × (Int × Unit)) × (List ((Option Nat) × (Int × Unit))))))))) =>
  if (!v0.fst) = true then
    some (.inl (v0.snd.fst, v0.snd.snd.fst, v0.snd.snd.snd))
  else
  Option.bind (zset_New_P v0.snd.snd.snd) fun (v1 : ((List (((List UInt8) × (Int × Unit)) × (List ((Option Nat) × (Int × Unit))))) × ((Option Nat) × (List ((List UInt8) × Int))))) =>
  Option.bind (v0.snd.fst) fun (v2 : Nat) =>
  Option.bind (inb (List.length (ndR v1.fst v2)) (0 : Int)) fun _ =>
  Option.bind (loop zset_Set_Clone_L1_P ((List.getD (ndR v1.fst v2) (nat_lit 0) (none, (0 : Int), ())).fst, v1.snd.fst, v1.snd.snd, v1.fst)) fun (v4 : ((Option Nat) × ((List ((List UInt8) × Int)) × (List (((List UInt8) × (Int × Unit)) × (List ((Option Nat) × (Int × Unit)))))))) =>
  some (.inr (v0.snd.fst, v0.snd.snd.fst, v4.snd.snd, v4.fst, v4.snd.fst))
def zset_Set_Clone_P : (Option Nat) × (List ((List UInt8) × Int)) × (List (((List UInt8) × Int × Unit) × List ((Option Nat) × Int × Unit))) → Option ((((Option Nat) × (List ((List UInt8) × Int)) × (List (((List UInt8) × Int × Unit) × List ((Option Nat) × Int × Unit)))) ⊕ ((Option Nat) × (List ((List UInt8) × Int)) × (List (((List UInt8) × Int × Unit) × List ((Option Nat) × Int × Unit))) × (Option Nat) × (List ((List UInt8) × Int))))) := fun p => zset_Set_Clone_M p.1 p.2.1 p.2.2
def zset_Set_Clone_MM : HL [.nd, (.slc (.pair .str (.int .i64))), (.slc (.pair (.pair .str (.pair (.int .i64) .unit)) (.slc (.pair .nd (.pair (.int .i64) .unit)))))] → Option (SumL [[.nd, (.slc (.pair .str (.int .i64))), (.slc (.pair (.pair .str (.pair (.int .i64) .unit)) (.slc (.pair .nd (.pair (.int .i64) .unit)))))], [.nd, (.slc (.pair .str (.int .i64))), (.slc (.pair (.pair .str (.pair (.int .i64) .unit)) (.slc (.pair .nd (.pair (.int .i64) .unit))))), .nd, (.slc (.pair .str (.int .i64)))]]) := fun p => zset_Set_Clone_M p.1 p.2.1 p.2.2
def zset_Set_Clone_C : Con := ⟨3, zset_Set_Clone_T, zset_Set_Clone_O, stdCn [.nd, (.slc (.pair .str (.int .i64))), (.slc (.pair (.pair .str (.pair (.int .i64) .unit)) (.slc (.pair .nd (.pair (.int .i64) .unit)))))] [[.nd, (.slc (.pair .str (.int .i64))), (.slc (.pair (.pair .str (.pair (.int .i64) .unit)) (.slc (.pair .nd (.pair (.int .i64) .unit)))))], [.nd, (.slc (.pair .str (.int .i64))), (.slc (.pair (.pair .str (.pair (.int .i64) .unit)) (.slc (.pair .nd (.pair (.int .i64) .unit))))), .nd, (.slc (.pair .str (.int .i64)))]] zset_Set_Clone_MM, []⟩

def intagliolaw14_ZsetClones_L1_T : Tm := ⟨[(1, false, [.hole (.slc (.pair .bool (.pair .str (.pair (.int .i64) .unit))))]), (5, false, [.ptr 0 0]), (6, false, [.row 5]), (7, false, [.hole .bool]), (8, false, [.ptr 1 0]), (9, false, [.hole (.int .i64)])], 76, [.box [.hole .nd, .mpl 2], .box [.hole .nd, .mpl 3], .mp .str (.int .i64), .mp .str (.int .i64), .ar (.pair .str (.pair (.int .i64) .unit)) (.pair .nd (.pair (.int .i64) .unit)), .row (.pair .str (.pair (.int .i64) .unit))]⟩
def intagliolaw14_ZsetClones_L1_O : List (Ex × Tm) := [(.exit 0, ⟨[(6, false, [.row 5]), (7, false, [.hole .bool]), (8, false, [.ptr 1 0])], 76, [.box [.hole .nd, .mpl 2], .box [.hole .nd, .mpl 3], .mp .str (.int .i64), .mp .str (.int .i64), .ar (.pair .str (.pair (.int .i64) .unit)) (.pair .nd (.pair (.int .i64) .unit)), .row (.pair .str (.pair (.int .i64) .unit))]⟩)]
def intagliolaw14_ZsetClones_L1 (s1 : List (Bool × (List UInt8) × Int × Unit)) (s7 : Bool) (s9 : Int) (m0 : Option Nat) (m1 : Option Nat) (d2 : List ((List UInt8) × Int)) (d3 : List ((List UInt8) × Int)) (a4 : List (((List UInt8) × Int × Unit) × List ((Option Nat) × Int × Unit))) (r5 : List ((List UInt8) × Int × Unit)) : Option (((List (Bool × (List UInt8) × Int × Unit)) × Bool × Int × (Option Nat) × (Option Nat) × (List ((List UInt8) × Int)) × (List ((List UInt8) × Int)) × (List (((List UInt8) × Int × Unit) × List ((Option Nat) × Int × Unit))) × (List ((List UInt8) × Int × Unit))) ⊕ ((Bool × (Option Nat) × (Option Nat) × (List ((List UInt8) × Int)) × (List ((List UInt8) × Int)) × (List (((List UInt8) × Int × Unit) × List ((Option Nat) × Int × Unit))) × (List ((List UInt8) × Int × Unit))))) :=
  if decide (s9 < (((List.length s1) : Nat) : Int)) = true then
    Option.bind (ix s1 s9) fun (v0 : (Bool × ((List UInt8) × (Int × Unit)))) =>
    if v0.fst = true then
      Option.bind (ix s1 s9) fun (v1 : (Bool × ((List UInt8) × (Int × Unit)))) =>
      Option.bind (zset_Set_Drop_P (v1.snd.fst, m0, d2, a4)) fun (v2 : (Bool × ((Option Nat) × ((List ((List UInt8) × Int)) × (List (((List UInt8) × (Int × Unit)) × (List ((Option Nat) × (Int × Unit))))))))) =>
      some (.inl (s1, s7, IntKind.wrap IntKind.i64 (s9 + (1 : Int)), v2.snd.fst, m1, v2.snd.snd.fst, d3, v2.snd.snd.snd, r5))
    else
    Option.bind (ix s1 s9) fun (v3 : (Bool × ((List UInt8) × (Int × Unit)))) =>
    Option.bind (ix s1 s9) fun (v4 : (Bool × ((List UInt8) × (Int × Unit)))) =>
    Option.bind (zset_Set_Put_P (v3.snd.fst, v4.snd.snd.fst, m0, d2, a4)) fun (v5 : (Bool × ((Option Nat) × ((List ((List UInt8) × Int)) × (List (((List UInt8) × (Int × Unit)) × (List ((Option Nat) × (Int × Unit))))))))) =>
    some (.inl (s1, s7, IntKind.wrap IntKind.i64 (s9 + (1 : Int)), v5.snd.fst, m1, v5.snd.snd.fst, d3, v5.snd.snd.snd, r5))
  else
  some (.inr (s7, m0, m1, d2, d3, a4, r5))
def intagliolaw14_ZsetClones_L1_P : (List (Bool × (List UInt8) × Int × Unit)) × Bool × Int × (Option Nat) × (Option Nat) × (List ((List UInt8) × Int)) × (List ((List UInt8) × Int)) × (List (((List UInt8) × Int × Unit) × List ((Option Nat) × Int × Unit))) × (List ((List UInt8) × Int × Unit)) → Option (((List (Bool × (List UInt8) × Int × Unit)) × Bool × Int × (Option Nat) × (Option Nat) × (List ((List UInt8) × Int)) × (List ((List UInt8) × Int)) × (List (((List UInt8) × Int × Unit) × List ((Option Nat) × Int × Unit))) × (List ((List UInt8) × Int × Unit))) ⊕ ((Bool × (Option Nat) × (Option Nat) × (List ((List UInt8) × Int)) × (List ((List UInt8) × Int)) × (List (((List UInt8) × Int × Unit) × List ((Option Nat) × Int × Unit))) × (List ((List UInt8) × Int × Unit))))) := fun p => intagliolaw14_ZsetClones_L1 p.1 p.2.1 p.2.2.1 p.2.2.2.1 p.2.2.2.2.1 p.2.2.2.2.2.1 p.2.2.2.2.2.2.1 p.2.2.2.2.2.2.2.1 p.2.2.2.2.2.2.2.2
def intagliolaw14_ZsetClones_L1_MM : HL [(.slc (.pair .bool (.pair .str (.pair (.int .i64) .unit)))), .bool, (.int .i64), .nd, .nd, (.slc (.pair .str (.int .i64))), (.slc (.pair .str (.int .i64))), (.slc (.pair (.pair .str (.pair (.int .i64) .unit)) (.slc (.pair .nd (.pair (.int .i64) .unit))))), (.slc (.pair .str (.pair (.int .i64) .unit)))] → Option (HL [(.slc (.pair .bool (.pair .str (.pair (.int .i64) .unit)))), .bool, (.int .i64), .nd, .nd, (.slc (.pair .str (.int .i64))), (.slc (.pair .str (.int .i64))), (.slc (.pair (.pair .str (.pair (.int .i64) .unit)) (.slc (.pair .nd (.pair (.int .i64) .unit))))), (.slc (.pair .str (.pair (.int .i64) .unit)))] ⊕ SumL [[.bool, .nd, .nd, (.slc (.pair .str (.int .i64))), (.slc (.pair .str (.int .i64))), (.slc (.pair (.pair .str (.pair (.int .i64) .unit)) (.slc (.pair .nd (.pair (.int .i64) .unit))))), (.slc (.pair .str (.pair (.int .i64) .unit)))]]) := fun p => intagliolaw14_ZsetClones_L1 p.1 p.2.1 p.2.2.1 p.2.2.2.1 p.2.2.2.2.1 p.2.2.2.2.2.1 p.2.2.2.2.2.2.1 p.2.2.2.2.2.2.2.1 p.2.2.2.2.2.2.2.2
def intagliolaw14_ZsetClones_L1_C : Con := ⟨5, intagliolaw14_ZsetClones_L1_T, intagliolaw14_ZsetClones_L1_O, stdCn [(.slc (.pair .bool (.pair .str (.pair (.int .i64) .unit)))), .bool, (.int .i64), .nd, .nd, (.slc (.pair .str (.int .i64))), (.slc (.pair .str (.int .i64))), (.slc (.pair (.pair .str (.pair (.int .i64) .unit)) (.slc (.pair .nd (.pair (.int .i64) .unit))))), (.slc (.pair .str (.pair (.int .i64) .unit)))] [[.bool, .nd, .nd, (.slc (.pair .str (.int .i64))), (.slc (.pair .str (.int .i64))), (.slc (.pair (.pair .str (.pair (.int .i64) .unit)) (.slc (.pair .nd (.pair (.int .i64) .unit))))), (.slc (.pair .str (.pair (.int .i64) .unit)))]] (loop intagliolaw14_ZsetClones_L1_MM), []⟩
def intagliolaw14_ZsetClones_T : Tm := ⟨[(0, false, [.hole (.slc (.pair .bool (.pair .str (.pair (.int .i64) .unit))))]), (1, false, [.hole (.slc (.pair .bool (.pair .str (.pair (.int .i64) .unit))))])], 2, [.ar (.pair .str (.pair (.int .i64) .unit)) (.pair .nd (.pair (.int .i64) .unit))]⟩
def intagliolaw14_ZsetClones_O : List (Ex × Tm) := [(.ret, ⟨[(0, false, [.hole .bool])], 1, [.ar (.pair .str (.pair (.int .i64) .unit)) (.pair .nd (.pair (.int .i64) .unit))]⟩)]
def intagliolaw14_ZsetClones_M (s0 : List (Bool × (List UInt8) × Int × Unit)) (s1 : List (Bool × (List UInt8) × Int × Unit)) (a0 : List (((List UInt8) × Int × Unit) × List ((Option Nat) × Int × Unit))) : Option (Bool × (List (((List UInt8) × Int × Unit) × List ((Option Nat) × Int × Unit)))) :=
  Option.bind (intagliolaw14_few_P s0) fun (v0 : Bool) =>
  if (!v0) = true then
    Option.bind (intagliolaw14_awake_P a0) fun (v1 : (Bool × (List (((List UInt8) × (Int × Unit)) × (List ((Option Nat) × (Int × Unit))))))) =>
    some (v1.fst, v1.snd)
  else
  Option.bind (intagliolaw14_few_P s1) fun (v2 : Bool) =>
  if (!v2) = true then
    Option.bind (intagliolaw14_awake_P a0) fun (v3 : (Bool × (List (((List UInt8) × (Int × Unit)) × (List ((Option Nat) × (Int × Unit))))))) =>
    some (v3.fst, v3.snd)
  else
  Option.bind (intagliolaw14_made_P (s0, a0)) fun (v4 : (Bool × ((List (((List UInt8) × (Int × Unit)) × (List ((Option Nat) × (Int × Unit))))) × ((Option Nat) × ((List ((List UInt8) × Int)) × (List ((List UInt8) × (Int × Unit)))))))) =>
  Option.bind (zset_Set_Clone_P (v4.snd.snd.fst, v4.snd.snd.snd.fst, v4.snd.fst)) fun (v5 : (((Option Nat) × ((List ((List UInt8) × Int)) × (List (((List UInt8) × (Int × Unit)) × (List ((Option Nat) × (Int × Unit))))))) ⊕ ((Option Nat) × ((List ((List UInt8) × Int)) × ((List (((List UInt8) × (Int × Unit)) × (List ((Option Nat) × (Int × Unit))))) × ((Option Nat) × (List ((List UInt8) × Int)))))))) =>
  Sum.elim (fun (v6 : ((Option Nat) × ((List ((List UInt8) × Int)) × (List (((List UInt8) × (Int × Unit)) × (List ((Option Nat) × (Int × Unit)))))))) =>
      none -- STUCK after t9 assign [R0 R1 R2 R2 R3 R4 R5]
    ) (fun (v7 : ((Option Nat) × ((List ((List UInt8) × Int)) × ((List (((List UInt8) × (Int × Unit)) × (List ((Option Nat) × (Int × Unit))))) × ((Option Nat) × (List ((List UInt8) × Int))))))) =>
    Option.bind (loop intagliolaw14_ZsetClones_L1_P (s1, v4.fst, (0 : Int), v7.fst, v7.snd.snd.snd.fst, v7.snd.fst, v7.snd.snd.snd.snd, v7.snd.snd.fst, v4.snd.snd.snd.snd)) fun (v8 : (Bool × ((Option Nat) × ((Option Nat) × ((List ((List UInt8) × Int)) × ((List ((List UInt8) × Int)) × ((List (((List UInt8) × (Int × Unit)) × (List ((Option Nat) × (Int × Unit))))) × (List ((List UInt8) × (Int × Unit)))))))))) =>
    if v8.fst = true then
      Option.bind (zset_Set_Len_P (v8.snd.snd.fst, v8.snd.snd.snd.snd.fst, v8.snd.snd.snd.snd.snd.fst)) fun (v9 : (Int × ((Option Nat) × ((List ((List UInt8) × Int)) × (List (((List UInt8) × (Int × Unit)) × (List ((Option Nat) × (Int × Unit))))))))) =>
      if (v9.fst == (((List.length v8.snd.snd.snd.snd.snd.snd) : Nat) : Int)) = true then
        Option.bind (zset_Set_Range_P ((0 : Int), (((List.length v8.snd.snd.snd.snd.snd.snd) : Nat) : Int), v9.snd.fst, v9.snd.snd.fst, v9.snd.snd.snd)) fun (v10 : ((Option Nat) × ((List ((List UInt8) × Int)) × ((List (((List UInt8) × (Int × Unit)) × (List ((Option Nat) × (Int × Unit))))) × (List ((List UInt8) × (Int × Unit))))))) =>
        Option.bind (intaglioref14_Same_P (v10.snd.snd.snd, v8.snd.snd.snd.snd.snd.snd)) fun (v11 : Bool) =>
        if v11 = true then
          Option.bind (intagliolaw14_awake_P v10.snd.snd.fst) fun (v12 : (Bool × (List (((List UInt8) × (Int × Unit)) × (List ((Option Nat) × (Int × Unit))))))) =>
          some (v12.fst, v12.snd)
        else
        some (false, v10.snd.snd.fst)
      else
      some (false, v9.snd.snd.snd)
    else
    some (false, v8.snd.snd.snd.snd.snd.fst)
  ) (v5)
def intagliolaw14_ZsetClones_P : (List (Bool × (List UInt8) × Int × Unit)) × (List (Bool × (List UInt8) × Int × Unit)) × (List (((List UInt8) × Int × Unit) × List ((Option Nat) × Int × Unit))) → Option (Bool × (List (((List UInt8) × Int × Unit) × List ((Option Nat) × Int × Unit)))) := fun p => intagliolaw14_ZsetClones_M p.1 p.2.1 p.2.2
def intagliolaw14_ZsetClones_MM : HL [(.slc (.pair .bool (.pair .str (.pair (.int .i64) .unit)))), (.slc (.pair .bool (.pair .str (.pair (.int .i64) .unit)))), (.slc (.pair (.pair .str (.pair (.int .i64) .unit)) (.slc (.pair .nd (.pair (.int .i64) .unit)))))] → Option (SumL [[.bool, (.slc (.pair (.pair .str (.pair (.int .i64) .unit)) (.slc (.pair .nd (.pair (.int .i64) .unit)))))]]) := fun p => intagliolaw14_ZsetClones_M p.1 p.2.1 p.2.2
def intagliolaw14_ZsetClones_C : Con := ⟨1, intagliolaw14_ZsetClones_T, intagliolaw14_ZsetClones_O, stdCn [(.slc (.pair .bool (.pair .str (.pair (.int .i64) .unit)))), (.slc (.pair .bool (.pair .str (.pair (.int .i64) .unit)))), (.slc (.pair (.pair .str (.pair (.int .i64) .unit)) (.slc (.pair .nd (.pair (.int .i64) .unit)))))] [[.bool, (.slc (.pair (.pair .str (.pair (.int .i64) .unit)) (.slc (.pair .nd (.pair (.int .i64) .unit)))))]] intagliolaw14_ZsetClones_MM, []⟩

def intagliolaw14_ZsetNobody_T : Tm := ⟨[(0, true, [.hole .bool, .hole .str, .hole (.int .i64)]), (1, true, [.hole .str, .hole (.int .i64)]), (2, false, [.hole (.int .i64)])], 3, [.ar (.pair .str (.pair (.int .i64) .unit)) (.pair .nd (.pair (.int .i64) .unit))]⟩
def intagliolaw14_ZsetNobody_O : List (Ex × Tm) := [(.ret, ⟨[(0, false, [.hole .bool])], 1, [.ar (.pair .str (.pair (.int .i64) .unit)) (.pair .nd (.pair (.int .i64) .unit))]⟩)]
def intagliolaw14_ZsetNobody_M (s0_0 : Bool) (s0_1 : List UInt8) (s0_2 : Int) (s1_0 : List UInt8) (s1_1 : Int) (s2 : Int) (a0 : List (((List UInt8) × Int × Unit) × List ((Option Nat) × Int × Unit))) : Option (Bool × (List (((List UInt8) × Int × Unit) × List ((Option Nat) × Int × Unit)))) :=
  Option.bind (inb (nat_lit 2) (0 : Int)) fun _ =>
  Option.bind (zset_Set_Score_n_P (s0_1, a0)) fun (v1 : (Int × (Bool × (List (((List UInt8) × (Int × Unit)) × (List ((Option Nat) × (Int × Unit)))))))) =>
  Option.bind (zset_Set_Rank_n_P (s0_1, v1.snd.snd)) fun (v2 : (Int × (Bool × (List (((List UInt8) × (Int × Unit)) × (List ((Option Nat) × (Int × Unit)))))))) =>
  Option.bind (zset_Set_At_n_P (s2, v2.snd.snd)) fun (v3 : ((List UInt8) × (Int × (Bool × (List (((List UInt8) × (Int × Unit)) × (List ((Option Nat) × (Int × Unit))))))))) =>
  Option.bind (zset_Set_Put_n_P (s0_1, s0_2, v3.snd.snd.snd)) fun (v4 : (Bool × (List (((List UInt8) × (Int × Unit)) × (List ((Option Nat) × (Int × Unit))))))) =>
  if v4.fst = true then
    some (false, v4.snd)
  else
  Option.bind (zset_Set_Drop_n_P (s0_1, v4.snd)) fun (v5 : (Bool × (List (((List UInt8) × (Int × Unit)) × (List ((Option Nat) × (Int × Unit))))))) =>
  if v5.fst = true then
    some (false, v5.snd)
  else
  if v1.snd.fst = true then
    some (false, v5.snd)
  else
  if v2.snd.fst = true then
    some (false, v5.snd)
  else
  if v3.snd.snd.fst = true then
    some (false, v5.snd)
  else
  Option.bind (zset_Set_Len_n_P v5.snd) fun (v6 : (Int × (List (((List UInt8) × (Int × Unit)) × (List ((Option Nat) × (Int × Unit))))))) =>
  Option.bind (zset_Set_Range_n_P ((0 : Int), s2, v6.snd)) fun (v7 : (List (((List UInt8) × (Int × Unit)) × (List ((Option Nat) × (Int × Unit)))))) =>
  Option.bind (zset_Set_Between_n_P (s2, s0_2, v7)) fun (v8 : (List (((List UInt8) × (Int × Unit)) × (List ((Option Nat) × (Int × Unit)))))) =>
  if (IntKind.wrap IntKind.i64 (IntKind.wrap IntKind.i64 (IntKind.wrap IntKind.i64 (IntKind.wrap IntKind.i64 (v6.fst + v1.fst) + v2.fst) + (0 : Int)) + (0 : Int)) != (0 : Int)) = true then
    some (false, v8)
  else
  Option.bind (zset_Set_Clone_n_P v8) fun (v9 : (List (((List UInt8) × (Int × Unit)) × (List ((Option Nat) × (Int × Unit)))))) =>
  Option.bind (inb (nat_lit 2) (1 : Int)) fun _ =>
  Option.bind (zset_Set_Score_e_P (s0_1, none, v9)) fun (v11 : (Int × (Bool × ((Option Nat) × (List (((List UInt8) × (Int × Unit)) × (List ((Option Nat) × (Int × Unit))))))))) =>
  Option.bind (zset_Set_Rank_e_P (s0_1, v11.snd.snd.fst, v11.snd.snd.snd)) fun (v12 : (Int × (Bool × ((Option Nat) × (List (((List UInt8) × (Int × Unit)) × (List ((Option Nat) × (Int × Unit))))))))) =>
  Option.bind (zset_Set_At_e_P (s2, v12.snd.snd.fst, v12.snd.snd.snd)) fun (v13 : ((List UInt8) × (Int × (Bool × ((Option Nat) × (List (((List UInt8) × (Int × Unit)) × (List ((Option Nat) × (Int × Unit)))))))))) =>
  Option.bind (zset_Set_Put_e_P (s0_1, s0_2, v13.snd.snd.snd.fst, v13.snd.snd.snd.snd)) fun (v14 : (Bool × ((Option Nat) × (List (((List UInt8) × (Int × Unit)) × (List ((Option Nat) × (Int × Unit)))))))) =>
  if v14.fst = true then
    some (false, v14.snd.snd)
  else
  Option.bind (zset_Set_Drop_e_P (s0_1, v14.snd.fst, v14.snd.snd)) fun (v15 : (Bool × ((Option Nat) × (List (((List UInt8) × (Int × Unit)) × (List ((Option Nat) × (Int × Unit)))))))) =>
  if v15.fst = true then
    some (false, v15.snd.snd)
  else
  if v11.snd.fst = true then
    some (false, v15.snd.snd)
  else
  if v12.snd.fst = true then
    some (false, v15.snd.snd)
  else
  if v13.snd.snd.fst = true then
    some (false, v15.snd.snd)
  else
  Option.bind (zset_Set_Len_e_P (v15.snd.fst, v15.snd.snd)) fun (v16 : (Int × ((Option Nat) × (List (((List UInt8) × (Int × Unit)) × (List ((Option Nat) × (Int × Unit)))))))) =>
  Option.bind (zset_Set_Range_e_P ((0 : Int), s2, v16.snd.fst, v16.snd.snd)) fun (v17 : ((Option Nat) × ((List (((List UInt8) × (Int × Unit)) × (List ((Option Nat) × (Int × Unit))))) × (List ((List UInt8) × (Int × Unit)))))) =>
  Option.bind (zset_Set_Between_e_P (s2, s0_2, v17.fst, v17.snd.fst)) fun (v18 : ((Option Nat) × (List (((List UInt8) × (Int × Unit)) × (List ((Option Nat) × (Int × Unit))))))) =>
  if (IntKind.wrap IntKind.i64 (IntKind.wrap IntKind.i64 (IntKind.wrap IntKind.i64 (IntKind.wrap IntKind.i64 (v16.fst + v11.fst) + v12.fst) + (((List.length v17.snd.snd) : Nat) : Int)) + (0 : Int)) != (0 : Int)) = true then
    some (false, v18.snd)
  else
  Option.bind (zset_Set_Clone_e_P (v18.fst, v18.snd)) fun (v19 : (((Option Nat) × (List (((List UInt8) × (Int × Unit)) × (List ((Option Nat) × (Int × Unit)))))) ⊕ ((Option Nat) × ((List (((List UInt8) × (Int × Unit)) × (List ((Option Nat) × (Int × Unit))))) × ((Option Nat) × (List ((List UInt8) × Int))))))) =>
  Sum.elim (fun (v20 : ((Option Nat) × (List (((List UInt8) × (Int × Unit)) × (List ((Option Nat) × (Int × Unit))))))) =>
      Option.bind (zset_Less_P (s0_1, s0_2, s1_0, s1_1)) fun (v22 : Bool) =>
      Option.bind (intaglioref14_Less_P (s0_1, s0_2, s1_0, s1_1)) fun (v23 : Bool) =>
      if (v22 == v23) = true then
        Option.bind (zset_Less_P (s1_0, s1_1, s1_0, s1_1)) fun (v24 : Bool) =>
        if (!v24) = true then
          Option.bind (intagliolaw14_awake_P v20.snd) fun (v25 : (Bool × (List (((List UInt8) × (Int × Unit)) × (List ((Option Nat) × (Int × Unit))))))) =>
          some (v25.fst, v25.snd)
        else
        some (false, v20.snd)
      else
      some (false, v20.snd)
    ) (fun (v21 : ((Option Nat) × ((List (((List UInt8) × (Int × Unit)) × (List ((Option Nat) × (Int × Unit))))) × ((Option Nat) × (List ((List UInt8) × Int)))))) =>
    some (false, v21.snd.fst)
  ) (v19)
def intagliolaw14_ZsetNobody_P : Bool × (List UInt8) × Int × (List UInt8) × Int × Int × (List (((List UInt8) × Int × Unit) × List ((Option Nat) × Int × Unit))) → Option (Bool × (List (((List UInt8) × Int × Unit) × List ((Option Nat) × Int × Unit)))) := fun p => intagliolaw14_ZsetNobody_M p.1 p.2.1 p.2.2.1 p.2.2.2.1 p.2.2.2.2.1 p.2.2.2.2.2.1 p.2.2.2.2.2.2
def intagliolaw14_ZsetNobody_MM : HL [.bool, .str, (.int .i64), .str, (.int .i64), (.int .i64), (.slc (.pair (.pair .str (.pair (.int .i64) .unit)) (.slc (.pair .nd (.pair (.int .i64) .unit)))))] → Option (SumL [[.bool, (.slc (.pair (.pair .str (.pair (.int .i64) .unit)) (.slc (.pair .nd (.pair (.int .i64) .unit)))))]]) := fun p => intagliolaw14_ZsetNobody_M p.1 p.2.1 p.2.2.1 p.2.2.2.1 p.2.2.2.2.1 p.2.2.2.2.2.1 p.2.2.2.2.2.2
def intagliolaw14_ZsetNobody_C : Con := ⟨1, intagliolaw14_ZsetNobody_T, intagliolaw14_ZsetNobody_O, stdCn [.bool, .str, (.int .i64), .str, (.int .i64), (.int .i64), (.slc (.pair (.pair .str (.pair (.int .i64) .unit)) (.slc (.pair .nd (.pair (.int .i64) .unit)))))] [[.bool, (.slc (.pair (.pair .str (.pair (.int .i64) .unit)) (.slc (.pair .nd (.pair (.int .i64) .unit)))))]] intagliolaw14_ZsetNobody_MM, []⟩
end
end Go.Proofs.Ytfhngejmfnahhaa
