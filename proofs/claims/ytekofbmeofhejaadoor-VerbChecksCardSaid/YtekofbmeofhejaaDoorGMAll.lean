/- Plain models of Go functions. -/
import Derived.Test.YtekofbmeofhejaaDoorEd
import Derived.Lib.ParseIntB
import Derived.Lib.Bytealg
import Derived.Lib.ItoaNum
namespace Go.Proofs.YtekofbmeofhejaaDoor
open Go Go.Lift
set_option maxRecDepth 100000
set_option maxHeartbeats 4000000
set_option linter.unusedVariables false
noncomputable section
theorem fuel_ex : ∃ n : Nat, n = 1000000 := ⟨_, rfl⟩
noncomputable def fuel : Nat := Classical.choose fuel_ex
theorem fuel_is : fuel = 1000000 := Classical.choose_spec fuel_ex
def tb_math_bits_deBruijn32tab : Arr 32 Int := Arr.of 32 [0, 1, 28, 2, 29, 14, 24, 3, 30, 22, 20, 15, 25, 17, 4, 8, 31, 27, 13, 23, 21, 19, 16, 7, 26, 12, 18, 6, 11, 5, 10, 9] rfl
def tb_math_bits_deBruijn64tab : Arr 64 Int := Arr.of 64 [0, 1, 56, 2, 57, 49, 28, 3, 61, 58, 42, 50, 38, 29, 17, 4, 62, 47, 59, 36, 45, 43, 51, 22, 53, 39, 33, 30, 24, 18, 12, 5, 63, 55, 48, 27, 60, 41, 37, 16, 46, 35, 44, 21, 52, 32, 23, 11, 54, 26, 40, 15, 34, 20, 31, 10, 25, 14, 19, 9, 13, 8, 7, 6] rfl
def tb_internal_strconv_uint64pow10 : Arr 20 Int := Arr.of 20 [1, 10, 100, 1000, 10000, 100000, 1000000, 10000000, 100000000, 1000000000, 10000000000, 100000000000, 1000000000000, 10000000000000, 100000000000000, 1000000000000000, 10000000000000000, 100000000000000000, 1000000000000000000, 10000000000000000000] rfl
def tb_intaglio_verb_one : Ty.den (.pair (.int .i64) (.pair (.int .i64) (.pair (.int .i64) .unit))) := ((1 : Int), (1 : Int), (1 : Int), ())
def tb_intaglio_verb_two : Ty.den (.pair (.int .i64) (.pair (.int .i64) (.pair (.int .i64) .unit))) := ((1 : Int), (2 : Int), (1 : Int), ())
def tb_intaglio_verb_all : Ty.den (.pair (.int .i64) (.pair (.int .i64) (.pair (.int .i64) .unit))) := ((1 : Int), ((-1) : Int), (1 : Int), ())
def GL : Globs := [(7, ⟨.arr 32 (.int .u8), tb_math_bits_deBruijn32tab⟩), (8, ⟨.arr 64 (.int .u8), tb_math_bits_deBruijn64tab⟩), (5, ⟨.arr 20 (.int .u64), tb_internal_strconv_uint64pow10⟩), (0, ⟨(.pair (.int .i64) (.pair (.int .i64) (.pair (.int .i64) .unit))), tb_intaglio_verb_one⟩), (2, ⟨(.pair (.int .i64) (.pair (.int .i64) (.pair (.int .i64) .unit))), tb_intaglio_verb_two⟩), (1, ⟨(.pair (.int .i64) (.pair (.int .i64) (.pair (.int .i64) .unit))), tb_intaglio_verb_all⟩), (4, ⟨.err, true⟩), (3, ⟨.err, true⟩)]
def sc_parse (s : List UInt8) : Int × Bool := match Go.Lib.parseIntB 64 s with
  | .ok v => (v, false)
  | .range => (Go.Lib.intSat 64 s, true)
  | _ => (0, true)

def verb_Upper_L1_T : Tm := ⟨[(3, false, [.row 0]), (8, false, [.row 0]), (9, false, [.hole (.int .i64)]), (10, false, [.hole (.int .i64)])], 30, [.row (.int .u8)]⟩
def verb_Upper_L1_O : List (Ex × Tm) := [(.exit 0, ⟨[(3, false, [.row 0])], 30, [.row (.int .u8)]⟩)]
def verb_Upper_L1 (s9 : Int) (s10 : Int) (r0 : List Int) : Option ((Int × Int × (List Int)) ⊕ (((List Int)))) :=
  if decide (s10 < s9) = true then
    Option.bind (inb (List.length r0) s10) fun _ =>
    if decide (List.getD r0 (Int.toNat s10) (0 : Int) ≥ (97 : Int)) = true then
      if decide (List.getD r0 (Int.toNat s10) (0 : Int) ≤ (122 : Int)) = true then
        Option.bind (inb (List.length r0) s10) fun _ =>
        some (.inl (s9, IntKind.wrap IntKind.i64 (s10 + (1 : Int)), List.set r0 (Int.toNat s10) (IntKind.wrap IntKind.u8 (IntKind.wrap IntKind.u8 (List.getD r0 (Int.toNat s10) (0 : Int) - (97 : Int)) + (65 : Int)))))
      else
      some (.inl (s9, IntKind.wrap IntKind.i64 (s10 + (1 : Int)), r0))
    else
    some (.inl (s9, IntKind.wrap IntKind.i64 (s10 + (1 : Int)), r0))
  else
  some (.inr (r0))
def verb_Upper_L1_P : Int × Int × (List Int) → Option ((Int × Int × (List Int)) ⊕ (((List Int)))) := fun p => verb_Upper_L1 p.1 p.2.1 p.2.2
def verb_Upper_L1_MM : HL [(.int .i64), (.int .i64), (.slc (.int .u8))] → Option (HL [(.int .i64), (.int .i64), (.slc (.int .u8))] ⊕ SumL [[(.slc (.int .u8))]]) := fun p => verb_Upper_L1 p.1 p.2.1 p.2.2
def verb_Upper_L1_C : Con := ⟨0, verb_Upper_L1_T, verb_Upper_L1_O, stdCn [(.int .i64), (.int .i64), (.slc (.int .u8))] [[(.slc (.int .u8))]] (loop verb_Upper_L1_MM)⟩
def verb_Upper_T : Tm := ⟨[(0, false, [.hole .str])], 1, []⟩
def verb_Upper_O : List (Ex × Tm) := [(.ret, ⟨[(0, false, [.hole .str])], 1, []⟩)]
def verb_Upper_M (s0 : List UInt8) : Option ((List UInt8)) :=
  Option.bind (loop verb_Upper_L1_P ((((List.length (bnums s0)) : Nat) : Int), (0 : Int), bnums s0)) fun (v0 : (List Int)) =>
  some (b8 v0)
def verb_Upper_P : (List UInt8) → Option ((List UInt8)) := fun p => verb_Upper_M p
def verb_Upper_MM : HL [.str] → Option (SumL [[.str]]) := fun p => verb_Upper_M p
def verb_Upper_C : Con := ⟨0, verb_Upper_T, verb_Upper_O, stdCn [.str] [[.str]] verb_Upper_MM⟩

def verb_short_T : Tm := ⟨[(0, false, [.hole .str])], 1, []⟩
def verb_short_O : List (Ex × Tm) := [(.ret, ⟨[(0, true, [.hole (.int .i64), .hole (.int .i64), .hole (.int .i64), .hole .str, .hole (.int .i64), .hole (.int .i64), .hole .bool, .hole .bool, .hole .bool]), (1, false, [.hole .bool])], 2, []⟩)]
def verb_short_M (s0 : List UInt8) : Option (Int × Int × Int × (List UInt8) × Int × Int × Bool × Bool × Bool × Bool) :=
  if (s0 == [(80 : UInt8), (73 : UInt8), (78 : UInt8), (71 : UInt8)]) = true then
    some ((0 : Int), (0 : Int), (0 : Int), [], (1 : Int), (2 : Int), false, false, false, true)
  else
  if (s0 == [(69 : UInt8), (67 : UInt8), (72 : UInt8), (79 : UInt8)]) = true then
    some ((0 : Int), (0 : Int), (0 : Int), [], (2 : Int), (2 : Int), false, false, false, true)
  else
  if (s0 == [(75 : UInt8), (69 : UInt8), (89 : UInt8), (83 : UInt8)]) = true then
    some ((0 : Int), (0 : Int), (0 : Int), [], (2 : Int), (2 : Int), false, false, false, true)
  else
  if (s0 == [(68 : UInt8), (66 : UInt8), (83 : UInt8), (73 : UInt8), (90 : UInt8), (69 : UInt8)]) = true then
    some ((0 : Int), (0 : Int), (0 : Int), [], (1 : Int), (1 : Int), false, false, false, true)
  else
  if (s0 == [(77 : UInt8), (85 : UInt8), (76 : UInt8), (84 : UInt8), (73 : UInt8)]) = true then
    some ((0 : Int), (0 : Int), (0 : Int), [], (1 : Int), (1 : Int), false, false, false, true)
  else
  if (s0 == [(69 : UInt8), (88 : UInt8), (69 : UInt8), (67 : UInt8)]) = true then
    some ((0 : Int), (0 : Int), (0 : Int), [], (1 : Int), (1 : Int), false, false, false, true)
  else
  if (s0 == [(68 : UInt8), (73 : UInt8), (83 : UInt8), (67 : UInt8), (65 : UInt8), (82 : UInt8), (68 : UInt8)]) = true then
    some ((0 : Int), (0 : Int), (0 : Int), [], (1 : Int), (1 : Int), false, false, false, true)
  else
  if (s0 == [(85 : UInt8), (78 : UInt8), (87 : UInt8), (65 : UInt8), (84 : UInt8), (67 : UInt8), (72 : UInt8)]) = true then
    some ((0 : Int), (0 : Int), (0 : Int), [], (1 : Int), (1 : Int), false, false, false, true)
  else
  if (s0 == [(70 : UInt8), (76 : UInt8), (85 : UInt8), (83 : UInt8), (72 : UInt8), (65 : UInt8), (76 : UInt8), (76 : UInt8)]) = true then
    some ((0 : Int), (0 : Int), (0 : Int), [], (1 : Int), (1 : Int), true, false, false, true)
  else
  if (s0 == [(71 : UInt8), (69 : UInt8), (84 : UInt8)]) = true then
    some (tb_intaglio_verb_one.fst, tb_intaglio_verb_one.snd.fst, tb_intaglio_verb_one.snd.snd.fst, [], (2 : Int), (2 : Int), false, false, false, true)
  else
  if (s0 == [(83 : UInt8), (84 : UInt8), (82 : UInt8), (76 : UInt8), (69 : UInt8), (78 : UInt8)]) = true then
    some (tb_intaglio_verb_one.fst, tb_intaglio_verb_one.snd.fst, tb_intaglio_verb_one.snd.snd.fst, [], (2 : Int), (2 : Int), false, false, false, true)
  else
  if (s0 == [(84 : UInt8), (89 : UInt8), (80 : UInt8), (69 : UInt8)]) = true then
    some (tb_intaglio_verb_one.fst, tb_intaglio_verb_one.snd.fst, tb_intaglio_verb_one.snd.snd.fst, [], (2 : Int), (2 : Int), false, false, false, true)
  else
  if (s0 == [(84 : UInt8), (84 : UInt8), (76 : UInt8)]) = true then
    some (tb_intaglio_verb_one.fst, tb_intaglio_verb_one.snd.fst, tb_intaglio_verb_one.snd.snd.fst, [], (2 : Int), (2 : Int), false, false, false, true)
  else
  if (s0 == [(80 : UInt8), (84 : UInt8), (84 : UInt8), (76 : UInt8)]) = true then
    some (tb_intaglio_verb_one.fst, tb_intaglio_verb_one.snd.fst, tb_intaglio_verb_one.snd.snd.fst, [], (2 : Int), (2 : Int), false, false, false, true)
  else
  if (s0 == [(72 : UInt8), (76 : UInt8), (69 : UInt8), (78 : UInt8)]) = true then
    some (tb_intaglio_verb_one.fst, tb_intaglio_verb_one.snd.fst, tb_intaglio_verb_one.snd.snd.fst, [], (2 : Int), (2 : Int), false, false, false, true)
  else
  if (s0 == [(72 : UInt8), (71 : UInt8), (69 : UInt8), (84 : UInt8), (65 : UInt8), (76 : UInt8), (76 : UInt8)]) = true then
    some (tb_intaglio_verb_one.fst, tb_intaglio_verb_one.snd.fst, tb_intaglio_verb_one.snd.snd.fst, [], (2 : Int), (2 : Int), false, false, false, true)
  else
  if (s0 == [(72 : UInt8), (75 : UInt8), (69 : UInt8), (89 : UInt8), (83 : UInt8)]) = true then
    some (tb_intaglio_verb_one.fst, tb_intaglio_verb_one.snd.fst, tb_intaglio_verb_one.snd.snd.fst, [], (2 : Int), (2 : Int), false, false, false, true)
  else
  if (s0 == [(72 : UInt8), (86 : UInt8), (65 : UInt8), (76 : UInt8), (83 : UInt8)]) = true then
    some (tb_intaglio_verb_one.fst, tb_intaglio_verb_one.snd.fst, tb_intaglio_verb_one.snd.snd.fst, [], (2 : Int), (2 : Int), false, false, false, true)
  else
  if (s0 == [(76 : UInt8), (76 : UInt8), (69 : UInt8), (78 : UInt8)]) = true then
    some (tb_intaglio_verb_one.fst, tb_intaglio_verb_one.snd.fst, tb_intaglio_verb_one.snd.snd.fst, [], (2 : Int), (2 : Int), false, false, false, true)
  else
  if (s0 == [(83 : UInt8), (67 : UInt8), (65 : UInt8), (82 : UInt8), (68 : UInt8)]) = true then
    some (tb_intaglio_verb_one.fst, tb_intaglio_verb_one.snd.fst, tb_intaglio_verb_one.snd.snd.fst, [], (2 : Int), (2 : Int), false, false, false, true)
  else
  if (s0 == [(83 : UInt8), (77 : UInt8), (69 : UInt8), (77 : UInt8), (66 : UInt8), (69 : UInt8), (82 : UInt8), (83 : UInt8)]) = true then
    some (tb_intaglio_verb_one.fst, tb_intaglio_verb_one.snd.fst, tb_intaglio_verb_one.snd.snd.fst, [], (2 : Int), (2 : Int), false, false, false, true)
  else
  if (s0 == [(83 : UInt8), (82 : UInt8), (65 : UInt8), (78 : UInt8), (68 : UInt8), (77 : UInt8), (69 : UInt8), (77 : UInt8), (66 : UInt8), (69 : UInt8), (82 : UInt8)]) = true then
    some (tb_intaglio_verb_one.fst, tb_intaglio_verb_one.snd.fst, tb_intaglio_verb_one.snd.snd.fst, [], (2 : Int), (2 : Int), false, false, false, true)
  else
  if (s0 == [(90 : UInt8), (67 : UInt8), (65 : UInt8), (82 : UInt8), (68 : UInt8)]) = true then
    some (tb_intaglio_verb_one.fst, tb_intaglio_verb_one.snd.fst, tb_intaglio_verb_one.snd.snd.fst, [], (2 : Int), (2 : Int), false, false, false, true)
  else
  if (s0 == [(73 : UInt8), (78 : UInt8), (67 : UInt8), (82 : UInt8)]) = true then
    some (tb_intaglio_verb_one.fst, tb_intaglio_verb_one.snd.fst, tb_intaglio_verb_one.snd.snd.fst, [], (2 : Int), (2 : Int), true, false, false, true)
  else
  if (s0 == [(68 : UInt8), (69 : UInt8), (67 : UInt8), (82 : UInt8)]) = true then
    some (tb_intaglio_verb_one.fst, tb_intaglio_verb_one.snd.fst, tb_intaglio_verb_one.snd.snd.fst, [], (2 : Int), (2 : Int), true, false, false, true)
  else
  if (s0 == [(80 : UInt8), (69 : UInt8), (82 : UInt8), (83 : UInt8), (73 : UInt8), (83 : UInt8), (84 : UInt8)]) = true then
    some (tb_intaglio_verb_one.fst, tb_intaglio_verb_one.snd.fst, tb_intaglio_verb_one.snd.snd.fst, [], (2 : Int), (2 : Int), true, false, false, true)
  else
  if (s0 == [(76 : UInt8), (80 : UInt8), (79 : UInt8), (80 : UInt8)]) = true then
    some (tb_intaglio_verb_one.fst, tb_intaglio_verb_one.snd.fst, tb_intaglio_verb_one.snd.snd.fst, [], (2 : Int), (2 : Int), true, false, false, true)
  else
  if (s0 == [(82 : UInt8), (80 : UInt8), (79 : UInt8), (80 : UInt8)]) = true then
    some (tb_intaglio_verb_one.fst, tb_intaglio_verb_one.snd.fst, tb_intaglio_verb_one.snd.snd.fst, [], (2 : Int), (2 : Int), true, false, false, true)
  else
  if (s0 == [(83 : UInt8), (80 : UInt8), (79 : UInt8), (80 : UInt8)]) = true then
    some (tb_intaglio_verb_one.fst, tb_intaglio_verb_one.snd.fst, tb_intaglio_verb_one.snd.snd.fst, [], (2 : Int), (2 : Int), true, false, false, true)
  else
  some ((0 : Int), (0 : Int), (0 : Int), [], (0 : Int), (0 : Int), false, false, false, false)
def verb_short_P : (List UInt8) → Option (Int × Int × Int × (List UInt8) × Int × Int × Bool × Bool × Bool × Bool) := fun p => verb_short_M p
def verb_short_MM : HL [.str] → Option (SumL [[(.int .i64), (.int .i64), (.int .i64), .str, (.int .i64), (.int .i64), .bool, .bool, .bool, .bool]]) := fun p => verb_short_M p
def verb_short_C : Con := ⟨0, verb_short_T, verb_short_O, stdCn [.str] [[(.int .i64), (.int .i64), (.int .i64), .str, (.int .i64), (.int .i64), .bool, .bool, .bool, .bool]] verb_short_MM⟩

def verb_middle_T : Tm := ⟨[(0, false, [.hole .str])], 1, []⟩
def verb_middle_O : List (Ex × Tm) := [(.ret, ⟨[(0, true, [.hole (.int .i64), .hole (.int .i64), .hole (.int .i64), .hole .str, .hole (.int .i64), .hole (.int .i64), .hole .bool, .hole .bool, .hole .bool]), (1, false, [.hole .bool])], 2, []⟩)]
def verb_middle_M (s0 : List UInt8) : Option (Int × Int × Int × (List UInt8) × Int × Int × Bool × Bool × Bool × Bool) :=
  if (s0 == [(87 : UInt8), (65 : UInt8), (84 : UInt8), (67 : UInt8), (72 : UInt8)]) = true then
    some (tb_intaglio_verb_all.fst, tb_intaglio_verb_all.snd.fst, tb_intaglio_verb_all.snd.snd.fst, [], (2 : Int), (40 : Int), false, false, false, true)
  else
  if (s0 == [(69 : UInt8), (88 : UInt8), (73 : UInt8), (83 : UInt8), (84 : UInt8), (83 : UInt8)]) = true then
    some (tb_intaglio_verb_all.fst, tb_intaglio_verb_all.snd.fst, tb_intaglio_verb_all.snd.snd.fst, [], (2 : Int), (40 : Int), false, false, false, true)
  else
  if (s0 == [(77 : UInt8), (71 : UInt8), (69 : UInt8), (84 : UInt8)]) = true then
    some (tb_intaglio_verb_all.fst, tb_intaglio_verb_all.snd.fst, tb_intaglio_verb_all.snd.snd.fst, [], (2 : Int), (40 : Int), false, false, false, true)
  else
  if (s0 == [(83 : UInt8), (73 : UInt8), (78 : UInt8), (84 : UInt8), (69 : UInt8), (82 : UInt8)]) = true then
    some (tb_intaglio_verb_all.fst, tb_intaglio_verb_all.snd.fst, tb_intaglio_verb_all.snd.snd.fst, [], (2 : Int), (40 : Int), false, false, false, true)
  else
  if (s0 == [(83 : UInt8), (85 : UInt8), (78 : UInt8), (73 : UInt8), (79 : UInt8), (78 : UInt8)]) = true then
    some (tb_intaglio_verb_all.fst, tb_intaglio_verb_all.snd.fst, tb_intaglio_verb_all.snd.snd.fst, [], (2 : Int), (40 : Int), false, false, false, true)
  else
  if (s0 == [(83 : UInt8), (68 : UInt8), (73 : UInt8), (70 : UInt8), (70 : UInt8)]) = true then
    some (tb_intaglio_verb_all.fst, tb_intaglio_verb_all.snd.fst, tb_intaglio_verb_all.snd.snd.fst, [], (2 : Int), (40 : Int), false, false, false, true)
  else
  if (s0 == [(68 : UInt8), (69 : UInt8), (76 : UInt8)]) = true then
    some (tb_intaglio_verb_all.fst, tb_intaglio_verb_all.snd.fst, tb_intaglio_verb_all.snd.snd.fst, [], (2 : Int), (40 : Int), true, false, false, true)
  else
  if (s0 == [(83 : UInt8), (69 : UInt8), (84 : UInt8)]) = true then
    some (tb_intaglio_verb_one.fst, tb_intaglio_verb_one.snd.fst, tb_intaglio_verb_one.snd.snd.fst, [], (3 : Int), (7 : Int), true, false, false, true)
  else
  if (s0 == [(71 : UInt8), (69 : UInt8), (84 : UInt8), (83 : UInt8), (69 : UInt8), (84 : UInt8)]) = true then
    some (tb_intaglio_verb_one.fst, tb_intaglio_verb_one.snd.fst, tb_intaglio_verb_one.snd.snd.fst, [], (3 : Int), (3 : Int), true, false, false, true)
  else
  if (s0 == [(83 : UInt8), (69 : UInt8), (84 : UInt8), (78 : UInt8), (88 : UInt8)]) = true then
    some (tb_intaglio_verb_one.fst, tb_intaglio_verb_one.snd.fst, tb_intaglio_verb_one.snd.snd.fst, [], (3 : Int), (3 : Int), true, false, false, true)
  else
  if (s0 == [(65 : UInt8), (80 : UInt8), (80 : UInt8), (69 : UInt8), (78 : UInt8), (68 : UInt8)]) = true then
    some (tb_intaglio_verb_one.fst, tb_intaglio_verb_one.snd.fst, tb_intaglio_verb_one.snd.snd.fst, [], (3 : Int), (3 : Int), true, false, false, true)
  else
  if (s0 == [(73 : UInt8), (78 : UInt8), (67 : UInt8), (82 : UInt8), (66 : UInt8), (89 : UInt8)]) = true then
    some (tb_intaglio_verb_one.fst, tb_intaglio_verb_one.snd.fst, tb_intaglio_verb_one.snd.snd.fst, [], (3 : Int), (3 : Int), true, false, false, true)
  else
  if (s0 == [(68 : UInt8), (69 : UInt8), (67 : UInt8), (82 : UInt8), (66 : UInt8), (89 : UInt8)]) = true then
    some (tb_intaglio_verb_one.fst, tb_intaglio_verb_one.snd.fst, tb_intaglio_verb_one.snd.snd.fst, [], (3 : Int), (3 : Int), true, false, false, true)
  else
  if (s0 == [(69 : UInt8), (88 : UInt8), (80 : UInt8), (73 : UInt8), (82 : UInt8), (69 : UInt8)]) = true then
    some (tb_intaglio_verb_one.fst, tb_intaglio_verb_one.snd.fst, tb_intaglio_verb_one.snd.snd.fst, [], (3 : Int), (3 : Int), true, false, false, true)
  else
  if (s0 == [(80 : UInt8), (69 : UInt8), (88 : UInt8), (80 : UInt8), (73 : UInt8), (82 : UInt8), (69 : UInt8)]) = true then
    some (tb_intaglio_verb_one.fst, tb_intaglio_verb_one.snd.fst, tb_intaglio_verb_one.snd.snd.fst, [], (3 : Int), (3 : Int), true, false, false, true)
  else
  if (s0 == [(80 : UInt8), (69 : UInt8), (88 : UInt8), (80 : UInt8), (73 : UInt8), (82 : UInt8), (69 : UInt8), (65 : UInt8), (84 : UInt8)]) = true then
    some (tb_intaglio_verb_one.fst, tb_intaglio_verb_one.snd.fst, tb_intaglio_verb_one.snd.snd.fst, [], (3 : Int), (3 : Int), true, false, false, true)
  else
  if (s0 == [(82 : UInt8), (69 : UInt8), (78 : UInt8), (65 : UInt8), (77 : UInt8), (69 : UInt8)]) = true then
    some (tb_intaglio_verb_two.fst, tb_intaglio_verb_two.snd.fst, tb_intaglio_verb_two.snd.snd.fst, [], (3 : Int), (3 : Int), true, false, false, true)
  else
  if (s0 == [(82 : UInt8), (80 : UInt8), (79 : UInt8), (80 : UInt8), (76 : UInt8), (80 : UInt8), (85 : UInt8), (83 : UInt8), (72 : UInt8)]) = true then
    some (tb_intaglio_verb_two.fst, tb_intaglio_verb_two.snd.fst, tb_intaglio_verb_two.snd.snd.fst, [], (3 : Int), (3 : Int), true, false, false, true)
  else
  if (s0 == [(77 : UInt8), (83 : UInt8), (69 : UInt8), (84 : UInt8)]) = true then
    some ((1 : Int), (-1 : Int), (2 : Int), [], (3 : Int), (40 : Int), true, true, false, true)
  else
  if (s0 == [(72 : UInt8), (71 : UInt8), (69 : UInt8), (84 : UInt8)]) = true then
    some (tb_intaglio_verb_one.fst, tb_intaglio_verb_one.snd.fst, tb_intaglio_verb_one.snd.snd.fst, [], (3 : Int), (3 : Int), false, false, false, true)
  else
  if (s0 == [(72 : UInt8), (69 : UInt8), (88 : UInt8), (73 : UInt8), (83 : UInt8), (84 : UInt8), (83 : UInt8)]) = true then
    some (tb_intaglio_verb_one.fst, tb_intaglio_verb_one.snd.fst, tb_intaglio_verb_one.snd.snd.fst, [], (3 : Int), (3 : Int), false, false, false, true)
  else
  if (s0 == [(76 : UInt8), (73 : UInt8), (78 : UInt8), (68 : UInt8), (69 : UInt8), (88 : UInt8)]) = true then
    some (tb_intaglio_verb_one.fst, tb_intaglio_verb_one.snd.fst, tb_intaglio_verb_one.snd.snd.fst, [], (3 : Int), (3 : Int), false, false, false, true)
  else
  if (s0 == [(83 : UInt8), (73 : UInt8), (83 : UInt8), (77 : UInt8), (69 : UInt8), (77 : UInt8), (66 : UInt8), (69 : UInt8), (82 : UInt8)]) = true then
    some (tb_intaglio_verb_one.fst, tb_intaglio_verb_one.snd.fst, tb_intaglio_verb_one.snd.snd.fst, [], (3 : Int), (3 : Int), false, false, false, true)
  else
  if (s0 == [(90 : UInt8), (83 : UInt8), (67 : UInt8), (79 : UInt8), (82 : UInt8), (69 : UInt8)]) = true then
    some (tb_intaglio_verb_one.fst, tb_intaglio_verb_one.snd.fst, tb_intaglio_verb_one.snd.snd.fst, [], (3 : Int), (3 : Int), false, false, false, true)
  else
  if (s0 == [(90 : UInt8), (82 : UInt8), (65 : UInt8), (78 : UInt8), (75 : UInt8)]) = true then
    some (tb_intaglio_verb_one.fst, tb_intaglio_verb_one.snd.fst, tb_intaglio_verb_one.snd.snd.fst, [], (3 : Int), (3 : Int), false, false, false, true)
  else
  if (s0 == [(90 : UInt8), (82 : UInt8), (69 : UInt8), (86 : UInt8), (82 : UInt8), (65 : UInt8), (78 : UInt8), (75 : UInt8)]) = true then
    some (tb_intaglio_verb_one.fst, tb_intaglio_verb_one.snd.fst, tb_intaglio_verb_one.snd.snd.fst, [], (3 : Int), (3 : Int), false, false, false, true)
  else
  if (s0 == [(72 : UInt8), (77 : UInt8), (71 : UInt8), (69 : UInt8), (84 : UInt8)]) = true then
    some (tb_intaglio_verb_one.fst, tb_intaglio_verb_one.snd.fst, tb_intaglio_verb_one.snd.snd.fst, [], (3 : Int), (40 : Int), false, false, false, true)
  else
  if (s0 == [(72 : UInt8), (68 : UInt8), (69 : UInt8), (76 : UInt8)]) = true then
    some (tb_intaglio_verb_one.fst, tb_intaglio_verb_one.snd.fst, tb_intaglio_verb_one.snd.snd.fst, [], (3 : Int), (40 : Int), true, false, false, true)
  else
  if (s0 == [(76 : UInt8), (80 : UInt8), (85 : UInt8), (83 : UInt8), (72 : UInt8)]) = true then
    some (tb_intaglio_verb_one.fst, tb_intaglio_verb_one.snd.fst, tb_intaglio_verb_one.snd.snd.fst, [], (3 : Int), (40 : Int), true, false, false, true)
  else
  if (s0 == [(82 : UInt8), (80 : UInt8), (85 : UInt8), (83 : UInt8), (72 : UInt8)]) = true then
    some (tb_intaglio_verb_one.fst, tb_intaglio_verb_one.snd.fst, tb_intaglio_verb_one.snd.snd.fst, [], (3 : Int), (40 : Int), true, false, false, true)
  else
  if (s0 == [(83 : UInt8), (65 : UInt8), (68 : UInt8), (68 : UInt8)]) = true then
    some (tb_intaglio_verb_one.fst, tb_intaglio_verb_one.snd.fst, tb_intaglio_verb_one.snd.snd.fst, [], (3 : Int), (40 : Int), true, false, false, true)
  else
  if (s0 == [(83 : UInt8), (82 : UInt8), (69 : UInt8), (77 : UInt8)]) = true then
    some (tb_intaglio_verb_one.fst, tb_intaglio_verb_one.snd.fst, tb_intaglio_verb_one.snd.snd.fst, [], (3 : Int), (40 : Int), true, false, false, true)
  else
  if (s0 == [(90 : UInt8), (82 : UInt8), (69 : UInt8), (77 : UInt8)]) = true then
    some (tb_intaglio_verb_one.fst, tb_intaglio_verb_one.snd.fst, tb_intaglio_verb_one.snd.snd.fst, [], (3 : Int), (40 : Int), true, false, false, true)
  else
  some ((0 : Int), (0 : Int), (0 : Int), [], (0 : Int), (0 : Int), false, false, false, false)
def verb_middle_P : (List UInt8) → Option (Int × Int × Int × (List UInt8) × Int × Int × Bool × Bool × Bool × Bool) := fun p => verb_middle_M p
def verb_middle_MM : HL [.str] → Option (SumL [[(.int .i64), (.int .i64), (.int .i64), .str, (.int .i64), (.int .i64), .bool, .bool, .bool, .bool]]) := fun p => verb_middle_M p
def verb_middle_C : Con := ⟨0, verb_middle_T, verb_middle_O, stdCn [.str] [[(.int .i64), (.int .i64), (.int .i64), .str, (.int .i64), (.int .i64), .bool, .bool, .bool, .bool]] verb_middle_MM⟩

def verb_wide_T : Tm := ⟨[(0, false, [.hole .str])], 1, []⟩
def verb_wide_O : List (Ex × Tm) := [(.ret, ⟨[(0, true, [.hole (.int .i64), .hole (.int .i64), .hole (.int .i64), .hole .str, .hole (.int .i64), .hole (.int .i64), .hole .bool, .hole .bool, .hole .bool]), (1, false, [.hole .bool])], 2, []⟩)]
def verb_wide_M (s0 : List UInt8) : Option (Int × Int × Int × (List UInt8) × Int × Int × Bool × Bool × Bool × Bool) :=
  if (s0 == [(71 : UInt8), (69 : UInt8), (84 : UInt8), (82 : UInt8), (65 : UInt8), (78 : UInt8), (71 : UInt8), (69 : UInt8)]) = true then
    some (tb_intaglio_verb_one.fst, tb_intaglio_verb_one.snd.fst, tb_intaglio_verb_one.snd.snd.fst, [], (4 : Int), (4 : Int), false, false, false, true)
  else
  if (s0 == [(76 : UInt8), (82 : UInt8), (65 : UInt8), (78 : UInt8), (71 : UInt8), (69 : UInt8)]) = true then
    some (tb_intaglio_verb_one.fst, tb_intaglio_verb_one.snd.fst, tb_intaglio_verb_one.snd.snd.fst, [], (4 : Int), (4 : Int), false, false, false, true)
  else
  if (s0 == [(90 : UInt8), (82 : UInt8), (69 : UInt8), (86 : UInt8), (82 : UInt8), (65 : UInt8), (78 : UInt8), (71 : UInt8), (69 : UInt8)]) = true then
    some (tb_intaglio_verb_one.fst, tb_intaglio_verb_one.snd.fst, tb_intaglio_verb_one.snd.snd.fst, [], (4 : Int), (4 : Int), false, false, false, true)
  else
  if (s0 == [(90 : UInt8), (82 : UInt8), (65 : UInt8), (78 : UInt8), (71 : UInt8), (69 : UInt8), (66 : UInt8), (89 : UInt8), (83 : UInt8), (67 : UInt8), (79 : UInt8), (82 : UInt8), (69 : UInt8)]) = true then
    some (tb_intaglio_verb_one.fst, tb_intaglio_verb_one.snd.fst, tb_intaglio_verb_one.snd.snd.fst, [], (4 : Int), (4 : Int), false, false, false, true)
  else
  if (s0 == [(90 : UInt8), (67 : UInt8), (79 : UInt8), (85 : UInt8), (78 : UInt8), (84 : UInt8)]) = true then
    some (tb_intaglio_verb_one.fst, tb_intaglio_verb_one.snd.fst, tb_intaglio_verb_one.snd.snd.fst, [], (4 : Int), (4 : Int), false, false, false, true)
  else
  if (s0 == [(83 : UInt8), (69 : UInt8), (84 : UInt8), (82 : UInt8), (65 : UInt8), (78 : UInt8), (71 : UInt8), (69 : UInt8)]) = true then
    some (tb_intaglio_verb_one.fst, tb_intaglio_verb_one.snd.fst, tb_intaglio_verb_one.snd.snd.fst, [], (4 : Int), (4 : Int), true, false, false, true)
  else
  if (s0 == [(72 : UInt8), (83 : UInt8), (69 : UInt8), (84 : UInt8), (78 : UInt8), (88 : UInt8)]) = true then
    some (tb_intaglio_verb_one.fst, tb_intaglio_verb_one.snd.fst, tb_intaglio_verb_one.snd.snd.fst, [], (4 : Int), (4 : Int), true, false, false, true)
  else
  if (s0 == [(72 : UInt8), (73 : UInt8), (78 : UInt8), (67 : UInt8), (82 : UInt8), (66 : UInt8), (89 : UInt8)]) = true then
    some (tb_intaglio_verb_one.fst, tb_intaglio_verb_one.snd.fst, tb_intaglio_verb_one.snd.snd.fst, [], (4 : Int), (4 : Int), true, false, false, true)
  else
  if (s0 == [(76 : UInt8), (83 : UInt8), (69 : UInt8), (84 : UInt8)]) = true then
    some (tb_intaglio_verb_one.fst, tb_intaglio_verb_one.snd.fst, tb_intaglio_verb_one.snd.snd.fst, [], (4 : Int), (4 : Int), true, false, false, true)
  else
  if (s0 == [(76 : UInt8), (84 : UInt8), (82 : UInt8), (73 : UInt8), (77 : UInt8)]) = true then
    some (tb_intaglio_verb_one.fst, tb_intaglio_verb_one.snd.fst, tb_intaglio_verb_one.snd.snd.fst, [], (4 : Int), (4 : Int), true, false, false, true)
  else
  if (s0 == [(76 : UInt8), (82 : UInt8), (69 : UInt8), (77 : UInt8)]) = true then
    some (tb_intaglio_verb_one.fst, tb_intaglio_verb_one.snd.fst, tb_intaglio_verb_one.snd.snd.fst, [], (4 : Int), (4 : Int), true, false, false, true)
  else
  if (s0 == [(90 : UInt8), (73 : UInt8), (78 : UInt8), (67 : UInt8), (82 : UInt8), (66 : UInt8), (89 : UInt8)]) = true then
    some (tb_intaglio_verb_one.fst, tb_intaglio_verb_one.snd.fst, tb_intaglio_verb_one.snd.snd.fst, [], (4 : Int), (4 : Int), true, false, false, true)
  else
  if (s0 == [(90 : UInt8), (82 : UInt8), (69 : UInt8), (77 : UInt8), (82 : UInt8), (65 : UInt8), (78 : UInt8), (71 : UInt8), (69 : UInt8), (66 : UInt8), (89 : UInt8), (83 : UInt8), (67 : UInt8), (79 : UInt8), (82 : UInt8), (69 : UInt8)]) = true then
    some (tb_intaglio_verb_one.fst, tb_intaglio_verb_one.snd.fst, tb_intaglio_verb_one.snd.snd.fst, [], (4 : Int), (4 : Int), true, false, false, true)
  else
  if (s0 == [(83 : UInt8), (77 : UInt8), (79 : UInt8), (86 : UInt8), (69 : UInt8)]) = true then
    some (tb_intaglio_verb_two.fst, tb_intaglio_verb_two.snd.fst, tb_intaglio_verb_two.snd.snd.fst, [], (4 : Int), (4 : Int), true, false, false, true)
  else
  if (s0 == [(90 : UInt8), (82 : UInt8), (65 : UInt8), (78 : UInt8), (71 : UInt8), (69 : UInt8)]) = true then
    some (tb_intaglio_verb_one.fst, tb_intaglio_verb_one.snd.fst, tb_intaglio_verb_one.snd.snd.fst, [], (4 : Int), (5 : Int), false, false, false, true)
  else
  if (s0 == [(72 : UInt8), (83 : UInt8), (69 : UInt8), (84 : UInt8)]) = true then
    some (tb_intaglio_verb_one.fst, tb_intaglio_verb_one.snd.fst, tb_intaglio_verb_one.snd.snd.fst, [], (4 : Int), (40 : Int), true, false, true, true)
  else
  if (s0 == [(90 : UInt8), (65 : UInt8), (68 : UInt8), (68 : UInt8)]) = true then
    some (tb_intaglio_verb_one.fst, tb_intaglio_verb_one.snd.fst, tb_intaglio_verb_one.snd.snd.fst, [], (4 : Int), (40 : Int), true, false, true, true)
  else
  some ((0 : Int), (0 : Int), (0 : Int), [], (0 : Int), (0 : Int), false, false, false, false)
def verb_wide_P : (List UInt8) → Option (Int × Int × Int × (List UInt8) × Int × Int × Bool × Bool × Bool × Bool) := fun p => verb_wide_M p
def verb_wide_MM : HL [.str] → Option (SumL [[(.int .i64), (.int .i64), (.int .i64), .str, (.int .i64), (.int .i64), .bool, .bool, .bool, .bool]]) := fun p => verb_wide_M p
def verb_wide_C : Con := ⟨0, verb_wide_T, verb_wide_O, stdCn [.str] [[(.int .i64), (.int .i64), (.int .i64), .str, (.int .i64), (.int .i64), .bool, .bool, .bool, .bool]] verb_wide_MM⟩

def verb_Find_T : Tm := ⟨[(0, false, [.hole .str])], 1, []⟩
def verb_Find_O : List (Ex × Tm) := [(.ret, ⟨[(0, true, [.hole (.int .i64), .hole (.int .i64), .hole (.int .i64), .hole .str, .hole (.int .i64), .hole (.int .i64), .hole .bool, .hole .bool, .hole .bool]), (1, false, [.hole .bool])], 2, []⟩)]
def verb_Find_M (s0 : List UInt8) : Option (Int × Int × Int × (List UInt8) × Int × Int × Bool × Bool × Bool × Bool) :=
  Option.bind (verb_Upper_P s0) fun (v0 : (List UInt8)) =>
  Option.bind (verb_short_P v0) fun (v1 : (Int × (Int × (Int × ((List UInt8) × (Int × (Int × (Bool × (Bool × (Bool × Bool)))))))))) =>
  if (!v1.snd.snd.snd.snd.snd.snd.snd.snd.snd) = true then
    Option.bind (verb_middle_P v0) fun (v2 : (Int × (Int × (Int × ((List UInt8) × (Int × (Int × (Bool × (Bool × (Bool × Bool)))))))))) =>
    if (!v2.snd.snd.snd.snd.snd.snd.snd.snd.snd) = true then
      Option.bind (verb_wide_P v0) fun (v3 : (Int × (Int × (Int × ((List UInt8) × (Int × (Int × (Bool × (Bool × (Bool × Bool)))))))))) =>
      if v3.snd.snd.snd.snd.snd.snd.snd.snd.snd = true then
        some (v3.fst, v3.snd.fst, v3.snd.snd.fst, v0, v3.snd.snd.snd.snd.fst, v3.snd.snd.snd.snd.snd.fst, v3.snd.snd.snd.snd.snd.snd.fst, v3.snd.snd.snd.snd.snd.snd.snd.fst, v3.snd.snd.snd.snd.snd.snd.snd.snd.fst, v3.snd.snd.snd.snd.snd.snd.snd.snd.snd)
      else
      some (v3.fst, v3.snd.fst, v3.snd.snd.fst, v3.snd.snd.snd.fst, v3.snd.snd.snd.snd.fst, v3.snd.snd.snd.snd.snd.fst, v3.snd.snd.snd.snd.snd.snd.fst, v3.snd.snd.snd.snd.snd.snd.snd.fst, v3.snd.snd.snd.snd.snd.snd.snd.snd.fst, v3.snd.snd.snd.snd.snd.snd.snd.snd.snd)
    else
    if v2.snd.snd.snd.snd.snd.snd.snd.snd.snd = true then
      some (v2.fst, v2.snd.fst, v2.snd.snd.fst, v0, v2.snd.snd.snd.snd.fst, v2.snd.snd.snd.snd.snd.fst, v2.snd.snd.snd.snd.snd.snd.fst, v2.snd.snd.snd.snd.snd.snd.snd.fst, v2.snd.snd.snd.snd.snd.snd.snd.snd.fst, v2.snd.snd.snd.snd.snd.snd.snd.snd.snd)
    else
    some (v2.fst, v2.snd.fst, v2.snd.snd.fst, v2.snd.snd.snd.fst, v2.snd.snd.snd.snd.fst, v2.snd.snd.snd.snd.snd.fst, v2.snd.snd.snd.snd.snd.snd.fst, v2.snd.snd.snd.snd.snd.snd.snd.fst, v2.snd.snd.snd.snd.snd.snd.snd.snd.fst, v2.snd.snd.snd.snd.snd.snd.snd.snd.snd)
  else
  if (!v1.snd.snd.snd.snd.snd.snd.snd.snd.snd) = true then
    Option.bind (verb_wide_P v0) fun (v4 : (Int × (Int × (Int × ((List UInt8) × (Int × (Int × (Bool × (Bool × (Bool × Bool)))))))))) =>
    if v4.snd.snd.snd.snd.snd.snd.snd.snd.snd = true then
      some (v4.fst, v4.snd.fst, v4.snd.snd.fst, v0, v4.snd.snd.snd.snd.fst, v4.snd.snd.snd.snd.snd.fst, v4.snd.snd.snd.snd.snd.snd.fst, v4.snd.snd.snd.snd.snd.snd.snd.fst, v4.snd.snd.snd.snd.snd.snd.snd.snd.fst, v4.snd.snd.snd.snd.snd.snd.snd.snd.snd)
    else
    some (v4.fst, v4.snd.fst, v4.snd.snd.fst, v4.snd.snd.snd.fst, v4.snd.snd.snd.snd.fst, v4.snd.snd.snd.snd.snd.fst, v4.snd.snd.snd.snd.snd.snd.fst, v4.snd.snd.snd.snd.snd.snd.snd.fst, v4.snd.snd.snd.snd.snd.snd.snd.snd.fst, v4.snd.snd.snd.snd.snd.snd.snd.snd.snd)
  else
  if v1.snd.snd.snd.snd.snd.snd.snd.snd.snd = true then
    some (v1.fst, v1.snd.fst, v1.snd.snd.fst, v0, v1.snd.snd.snd.snd.fst, v1.snd.snd.snd.snd.snd.fst, v1.snd.snd.snd.snd.snd.snd.fst, v1.snd.snd.snd.snd.snd.snd.snd.fst, v1.snd.snd.snd.snd.snd.snd.snd.snd.fst, v1.snd.snd.snd.snd.snd.snd.snd.snd.snd)
  else
  some (v1.fst, v1.snd.fst, v1.snd.snd.fst, v1.snd.snd.snd.fst, v1.snd.snd.snd.snd.fst, v1.snd.snd.snd.snd.snd.fst, v1.snd.snd.snd.snd.snd.snd.fst, v1.snd.snd.snd.snd.snd.snd.snd.fst, v1.snd.snd.snd.snd.snd.snd.snd.snd.fst, v1.snd.snd.snd.snd.snd.snd.snd.snd.snd)
def verb_Find_P : (List UInt8) → Option (Int × Int × Int × (List UInt8) × Int × Int × Bool × Bool × Bool × Bool) := fun p => verb_Find_M p
def verb_Find_MM : HL [.str] → Option (SumL [[(.int .i64), (.int .i64), (.int .i64), .str, (.int .i64), (.int .i64), .bool, .bool, .bool, .bool]]) := fun p => verb_Find_M p
def verb_Find_C : Con := ⟨0, verb_Find_T, verb_Find_O, stdCn [.str] [[(.int .i64), (.int .i64), (.int .i64), .str, (.int .i64), (.int .i64), .bool, .bool, .bool, .bool]] verb_Find_MM⟩

def strconv_Itoa_T : Tm := ⟨[(0, false, [.hole (.int .i64)])], 1, []⟩
def strconv_Itoa_O : List (Ex × Tm) := [(.ret, ⟨[(0, false, [.hole .str])], 1, []⟩)]
def strconv_Itoa_M (n : Int) : Option ((List UInt8)) :=
  if -9223372036854775808 ≤ n ∧ n ≤ 9223372036854775807 then some (Go.Lib.itoa n) else none
def strconv_Itoa_P : Int → Option ((List UInt8)) := fun p => strconv_Itoa_M p
def strconv_Itoa_MM : HL [(.int .i64)] → Option (SumL [[.str]]) := fun p => strconv_Itoa_M p
def strconv_Itoa_C : Con := ⟨0, strconv_Itoa_T, strconv_Itoa_O, stdCn [(.int .i64)] [[.str]] strconv_Itoa_MM⟩

def verb_Text_T : Tm := ⟨[(0, false, [.hole (.int .i64)])], 1, []⟩
def verb_Text_O : List (Ex × Tm) := [(.ret, ⟨[(0, false, [.hole .str])], 1, []⟩)]
def verb_Text_M (s0 : Int) : Option ((List UInt8)) :=
  Option.bind (strconv_Itoa_P s0) fun (v0 : (List UInt8)) =>
  some (v0)
def verb_Text_P : Int → Option ((List UInt8)) := fun p => verb_Text_M p
def verb_Text_MM : HL [(.int .i64)] → Option (SumL [[.str]]) := fun p => verb_Text_M p
def verb_Text_C : Con := ⟨0, verb_Text_T, verb_Text_O, stdCn [(.int .i64)] [[.str]] verb_Text_MM⟩

def strconv_ParseInt_T : Tm := ⟨[(0, false, [.hole .str]), (1, false, [.hole (.int .i64)]), (2, false, [.hole (.int .i64)])], 3, []⟩
def strconv_ParseInt_O : List (Ex × Tm) := [(.ret, ⟨[(0, false, [.hole (.int .i64)]), (1, false, [.hole .err])], 2, []⟩)]
def strconv_ParseInt_M (s : List UInt8) (b : Int) (k : Int) : Option (Int × Bool) :=
  if b = 10 ∧ k = 64 ∧ s.length ≤ 281474976710656 then some (sc_parse s) else none
def strconv_ParseInt_P : (List UInt8) × Int × Int → Option (Int × Bool) := fun p => strconv_ParseInt_M p.1 p.2.1 p.2.2
def strconv_ParseInt_MM : HL [.str, (.int .i64), (.int .i64)] → Option (SumL [[(.int .i64), .err]]) := fun p => strconv_ParseInt_M p.1 p.2.1 p.2.2
def strconv_ParseInt_C : Con := ⟨0, strconv_ParseInt_T, strconv_ParseInt_O, stdCn [.str, (.int .i64), (.int .i64)] [[(.int .i64), .err]] strconv_ParseInt_MM⟩

def verb_Int_T : Tm := ⟨[(0, false, [.hole .str])], 1, []⟩
def verb_Int_O : List (Ex × Tm) := [(.ret, ⟨[(0, false, [.hole (.int .i64)]), (1, false, [.hole .bool])], 2, []⟩)]
def verb_Int_M (s0 : List UInt8) : Option (Int × Bool) :=
  Option.bind (strconv_ParseInt_P (s0, (10 : Int), (64 : Int))) fun (v0 : (Int × Bool)) =>
  if (!!v0.snd) = true then
    some ((0 : Int), false)
  else
  Option.bind (verb_Text_P v0.fst) fun (v1 : (List UInt8)) =>
  if (!v1 == s0) = true then
    some ((0 : Int), false)
  else
  some (v0.fst, true)
def verb_Int_P : (List UInt8) → Option (Int × Bool) := fun p => verb_Int_M p
def verb_Int_MM : HL [.str] → Option (SumL [[(.int .i64), .bool]]) := fun p => verb_Int_M p
def verb_Int_C : Con := ⟨0, verb_Int_T, verb_Int_O, stdCn [.str] [[(.int .i64), .bool]] verb_Int_MM⟩

def verb_just_T : Tm := ⟨[(0, false, [.hole (.int .u8)])], 1, []⟩
def verb_just_O : List (Ex × Tm) := [(.ret, ⟨[(0, true, [.hole (.int .i64), .hole (.arr 256 .bool)])], 1, []⟩)]
def verb_just_M (s0 : Int) : Option (Int × (Arr 256 Bool)) :=
  Option.bind (inb (256 : Nat) s0) fun _ =>
  some ((2 : Int), Arr.set (Arr.rep (256 : Nat) false) (Int.toNat s0) true)
def verb_just_P : Int → Option (Int × (Arr 256 Bool)) := fun p => verb_just_M p
def verb_just_MM : HL [(.int .u8)] → Option (SumL [[(.int .i64), (.arr 256 .bool)]]) := fun p => verb_just_M p
def verb_just_C : Con := ⟨0, verb_just_T, verb_just_O, stdCn [(.int .u8)] [[(.int .i64), (.arr 256 .bool)]] verb_just_MM⟩

def stringslite_HasPrefix_T : Tm := ⟨[(0, false, [.hole .str]), (1, false, [.hole .str])], 2, []⟩
def stringslite_HasPrefix_O : List (Ex × Tm) := [(.ret, ⟨[(0, false, [.hole .bool])], 1, []⟩)]
def stringslite_HasPrefix_M (s0 : List UInt8) (s1 : List UInt8) : Option (Bool) :=
  if decide ((((List.length s0) : Nat) : Int) ≥ (((List.length s1) : Nat) : Int)) = true then
    Option.bind (sub s0 (0 : Int) (((List.length s1) : Nat) : Int)) fun (v0 : (List UInt8)) =>
    some (v0 == s1)
  else
  some (false)
def stringslite_HasPrefix_P : (List UInt8) × (List UInt8) → Option (Bool) := fun p => stringslite_HasPrefix_M p.1 p.2
def stringslite_HasPrefix_MM : HL [.str, .str] → Option (SumL [[.bool]]) := fun p => stringslite_HasPrefix_M p.1 p.2
def stringslite_HasPrefix_C : Con := ⟨0, stringslite_HasPrefix_T, stringslite_HasPrefix_O, stdCn [.str, .str] [[.bool]] stringslite_HasPrefix_MM⟩

def strings_HasPrefix_T : Tm := ⟨[(0, false, [.hole .str]), (1, false, [.hole .str])], 2, []⟩
def strings_HasPrefix_O : List (Ex × Tm) := [(.ret, ⟨[(0, false, [.hole .bool])], 1, []⟩)]
def strings_HasPrefix_M (s0 : List UInt8) (s1 : List UInt8) : Option (Bool) :=
  Option.bind (stringslite_HasPrefix_P (s0, s1)) fun (v0 : Bool) =>
  some (v0)
def strings_HasPrefix_P : (List UInt8) × (List UInt8) → Option (Bool) := fun p => strings_HasPrefix_M p.1 p.2
def strings_HasPrefix_MM : HL [.str, .str] → Option (SumL [[.bool]]) := fun p => strings_HasPrefix_M p.1 p.2
def strings_HasPrefix_C : Con := ⟨0, strings_HasPrefix_T, strings_HasPrefix_O, stdCn [.str, .str] [[.bool]] strings_HasPrefix_MM⟩

def strings_IndexByte_T : Tm := ⟨[(0, false, [.hole .str]), (1, false, [.hole (.int .u8)])], 2, []⟩
def strings_IndexByte_O : List (Ex × Tm) := [(.ret, ⟨[(0, false, [.hole (.int .i64)])], 1, []⟩)]
def strings_IndexByte_M (s : List UInt8) (c : Int) : Option (Int) :=
  some (Go.Lib.indexByte s c.toNat.toUInt8)
def strings_IndexByte_P : (List UInt8) × Int → Option (Int) := fun p => strings_IndexByte_M p.1 p.2
def strings_IndexByte_MM : HL [.str, (.int .u8)] → Option (SumL [[(.int .i64)]]) := fun p => strings_IndexByte_M p.1 p.2
def strings_IndexByte_C : Con := ⟨0, strings_IndexByte_T, strings_IndexByte_O, stdCn [.str, (.int .u8)] [[(.int .i64)]] strings_IndexByte_MM⟩

def verb_class_L2_T : Tm := ⟨[(0, false, [.hole .str]), (1, false, [.hole .bool]), (4, false, [.ptr 0 0]), (5, false, [.ptr 1 0]), (6, false, [.hole (.int .i64)]), (8, false, [.hole (.int .u8)]), (9, false, [.hole (.int .i64)])], 67, [.box [.hole (.int .i64), .hole (.arr 256 .bool)], .box [.hole (.int .i64), .hole (.arr 256 .bool)]]⟩
def verb_class_L2_O : List (Ex × Tm) := [(.exit 2, ⟨[(0, false, [.hole .str]), (1, false, [.hole .bool]), (4, false, [.ptr 0 0]), (5, false, [.ptr 1 0]), (6, false, [.hole (.int .i64)])], 67, [.box [.hole (.int .i64), .hole (.arr 256 .bool)], .box [.hole (.int .i64), .hole (.arr 256 .bool)]]⟩)]
def verb_class_L2 (s0 : List UInt8) (s1 : Bool) (s6 : Int) (s8 : Int) (s9 : Int) (m0_0 : Int) (m0_1 : Arr 256 Bool) (m1_0 : Int) (m1_1 : Arr 256 Bool) : Option (((List UInt8) × Bool × Int × Int × Int × Int × (Arr 256 Bool) × Int × (Arr 256 Bool)) ⊕ (((List UInt8) × Bool × Int × Int × (Arr 256 Bool) × Int × (Arr 256 Bool)))) :=
  if decide (s9 ≤ IntKind.wrap IntKind.i64 s8) = true then
    Option.bind (inb (256 : Nat) s9) fun _ =>
    some (.inl (s0, s1, s6, s8, IntKind.wrap IntKind.i64 (s9 + (1 : Int)), m0_0, m0_1, m1_0, Arr.set m1_1 (Int.toNat s9) true))
  else
  some (.inr (s0, s1, s6, m0_0, m0_1, m1_0, m1_1))
def verb_class_L2_P : (List UInt8) × Bool × Int × Int × Int × Int × (Arr 256 Bool) × Int × (Arr 256 Bool) → Option (((List UInt8) × Bool × Int × Int × Int × Int × (Arr 256 Bool) × Int × (Arr 256 Bool)) ⊕ (((List UInt8) × Bool × Int × Int × (Arr 256 Bool) × Int × (Arr 256 Bool)))) := fun p => verb_class_L2 p.1 p.2.1 p.2.2.1 p.2.2.2.1 p.2.2.2.2.1 p.2.2.2.2.2.1 p.2.2.2.2.2.2.1 p.2.2.2.2.2.2.2.1 p.2.2.2.2.2.2.2.2
def verb_class_L2_MM : HL [.str, .bool, (.int .i64), (.int .u8), (.int .i64), (.int .i64), (.arr 256 .bool), (.int .i64), (.arr 256 .bool)] → Option (HL [.str, .bool, (.int .i64), (.int .u8), (.int .i64), (.int .i64), (.arr 256 .bool), (.int .i64), (.arr 256 .bool)] ⊕ SumL [[.str, .bool, (.int .i64), (.int .i64), (.arr 256 .bool), (.int .i64), (.arr 256 .bool)]]) := fun p => verb_class_L2 p.1 p.2.1 p.2.2.1 p.2.2.2.1 p.2.2.2.2.1 p.2.2.2.2.2.1 p.2.2.2.2.2.2.1 p.2.2.2.2.2.2.2.1 p.2.2.2.2.2.2.2.2
def verb_class_L2_C : Con := ⟨2, verb_class_L2_T, verb_class_L2_O, stdCn [.str, .bool, (.int .i64), (.int .u8), (.int .i64), (.int .i64), (.arr 256 .bool), (.int .i64), (.arr 256 .bool)] [[.str, .bool, (.int .i64), (.int .i64), (.arr 256 .bool), (.int .i64), (.arr 256 .bool)]] (loop verb_class_L2_MM)⟩
def verb_class_L1_T : Tm := ⟨[(0, false, [.hole .str]), (1, false, [.hole .bool]), (4, false, [.ptr 0 0]), (5, false, [.ptr 1 0]), (6, false, [.hole (.int .i64)])], 67, [.box [.hole (.int .i64), .hole (.arr 256 .bool)], .box [.hole (.int .i64), .hole (.arr 256 .bool)]]⟩
def verb_class_L1_O : List (Ex × Tm) := [(.exit 0, ⟨[(1, false, [.hole .bool]), (4, false, [.ptr 0 0]), (5, false, [.ptr 1 0])], 67, [.box [.hole (.int .i64), .hole (.arr 256 .bool)], .box [.hole (.int .i64), .hole (.arr 256 .bool)]]⟩)]
def verb_class_L1 (s0 : List UInt8) (s1 : Bool) (s6 : Int) (m0_0 : Int) (m0_1 : Arr 256 Bool) (m1_0 : Int) (m1_1 : Arr 256 Bool) : Option (((List UInt8) × Bool × Int × Int × (Arr 256 Bool) × Int × (Arr 256 Bool)) ⊕ ((Bool × Int × (Arr 256 Bool) × Int × (Arr 256 Bool)))) :=
  if decide (s6 < (((List.length s0) : Nat) : Int)) = true then
    Option.bind (ix s0 s6) fun (v0 : UInt8) =>
    Option.bind (ix s0 s6) fun (v1 : UInt8) =>
    if decide (IntKind.wrap IntKind.i64 (s6 + (2 : Int)) < (((List.length s0) : Nat) : Int)) = true then
      Option.bind (ix s0 (IntKind.wrap IntKind.i64 (s6 + (1 : Int)))) fun (v2 : UInt8) =>
      if ((((UInt8.toNat v2) : Nat) : Int) == (45 : Int)) = true then
        Option.bind (ix s0 (IntKind.wrap IntKind.i64 (s6 + (2 : Int)))) fun (v3 : UInt8) =>
        Option.bind (loop verb_class_L2_P (s0, s1, IntKind.wrap IntKind.i64 (s6 + (2 : Int)), (((UInt8.toNat v3) : Nat) : Int), IntKind.wrap IntKind.i64 (((UInt8.toNat v0) : Nat) : Int), m0_0, m0_1, m1_0, m1_1)) fun (v4 : ((List UInt8) × (Bool × (Int × (Int × ((Arr (256 : Nat) Bool) × (Int × (Arr (256 : Nat) Bool)))))))) =>
        some (.inl (v4.fst, v4.snd.fst, IntKind.wrap IntKind.i64 (v4.snd.snd.fst + (1 : Int)), v4.snd.snd.snd.fst, v4.snd.snd.snd.snd.fst, v4.snd.snd.snd.snd.snd.fst, v4.snd.snd.snd.snd.snd.snd))
      else
      Option.bind (loop verb_class_L2_P (s0, s1, s6, (((UInt8.toNat v1) : Nat) : Int), IntKind.wrap IntKind.i64 (((UInt8.toNat v0) : Nat) : Int), m0_0, m0_1, m1_0, m1_1)) fun (v5 : ((List UInt8) × (Bool × (Int × (Int × ((Arr (256 : Nat) Bool) × (Int × (Arr (256 : Nat) Bool)))))))) =>
      some (.inl (v5.fst, v5.snd.fst, IntKind.wrap IntKind.i64 (v5.snd.snd.fst + (1 : Int)), v5.snd.snd.snd.fst, v5.snd.snd.snd.snd.fst, v5.snd.snd.snd.snd.snd.fst, v5.snd.snd.snd.snd.snd.snd))
    else
    Option.bind (loop verb_class_L2_P (s0, s1, s6, (((UInt8.toNat v1) : Nat) : Int), IntKind.wrap IntKind.i64 (((UInt8.toNat v0) : Nat) : Int), m0_0, m0_1, m1_0, m1_1)) fun (v6 : ((List UInt8) × (Bool × (Int × (Int × ((Arr (256 : Nat) Bool) × (Int × (Arr (256 : Nat) Bool)))))))) =>
    some (.inl (v6.fst, v6.snd.fst, IntKind.wrap IntKind.i64 (v6.snd.snd.fst + (1 : Int)), v6.snd.snd.snd.fst, v6.snd.snd.snd.snd.fst, v6.snd.snd.snd.snd.snd.fst, v6.snd.snd.snd.snd.snd.snd))
  else
  some (.inr (s1, m0_0, m0_1, m1_0, m1_1))
def verb_class_L1_P : (List UInt8) × Bool × Int × Int × (Arr 256 Bool) × Int × (Arr 256 Bool) → Option (((List UInt8) × Bool × Int × Int × (Arr 256 Bool) × Int × (Arr 256 Bool)) ⊕ ((Bool × Int × (Arr 256 Bool) × Int × (Arr 256 Bool)))) := fun p => verb_class_L1 p.1 p.2.1 p.2.2.1 p.2.2.2.1 p.2.2.2.2.1 p.2.2.2.2.2.1 p.2.2.2.2.2.2
def verb_class_L1_MM : HL [.str, .bool, (.int .i64), (.int .i64), (.arr 256 .bool), (.int .i64), (.arr 256 .bool)] → Option (HL [.str, .bool, (.int .i64), (.int .i64), (.arr 256 .bool), (.int .i64), (.arr 256 .bool)] ⊕ SumL [[.bool, (.int .i64), (.arr 256 .bool), (.int .i64), (.arr 256 .bool)]]) := fun p => verb_class_L1 p.1 p.2.1 p.2.2.1 p.2.2.2.1 p.2.2.2.2.1 p.2.2.2.2.2.1 p.2.2.2.2.2.2
def verb_class_L1_C : Con := ⟨2, verb_class_L1_T, verb_class_L1_O, stdCn [.str, .bool, (.int .i64), (.int .i64), (.arr 256 .bool), (.int .i64), (.arr 256 .bool)] [[.bool, (.int .i64), (.arr 256 .bool), (.int .i64), (.arr 256 .bool)]] (loop verb_class_L1_MM)⟩
def verb_class_L3_T : Tm := ⟨[(1, false, [.hole .bool]), (4, false, [.ptr 0 0]), (5, false, [.ptr 1 0]), (53, false, [.hole (.int .i64)])], 67, [.box [.hole (.int .i64), .hole (.arr 256 .bool)], .box [.hole (.int .i64), .hole (.arr 256 .bool)]]⟩
def verb_class_L3_O : List (Ex × Tm) := [(.exit 4, ⟨[(4, false, [.ptr 0 0]), (5, false, [.ptr 1 0])], 67, [.box [.hole (.int .i64), .hole (.arr 256 .bool)], .box [.hole (.int .i64), .hole (.arr 256 .bool)]]⟩)]
def verb_class_L3 (s1 : Bool) (s53 : Int) (m0_0 : Int) (m0_1 : Arr 256 Bool) (m1_0 : Int) (m1_1 : Arr 256 Bool) : Option ((Bool × Int × Int × (Arr 256 Bool) × Int × (Arr 256 Bool)) ⊕ ((Int × (Arr 256 Bool) × Int × (Arr 256 Bool)))) :=
  if decide (s53 < (256 : Int)) = true then
    Option.bind (inb (256 : Nat) s53) fun _ =>
    Option.bind (inb (256 : Nat) s53) fun _ =>
    some (.inl (s1, IntKind.wrap IntKind.i64 (s53 + (1 : Int)), m0_0, m0_1, m1_0, Arr.set m1_1 (Int.toNat s53) !List.getD m1_1.val (Int.toNat s53) false == s1))
  else
  some (.inr (m0_0, m0_1, m1_0, m1_1))
def verb_class_L3_P : Bool × Int × Int × (Arr 256 Bool) × Int × (Arr 256 Bool) → Option ((Bool × Int × Int × (Arr 256 Bool) × Int × (Arr 256 Bool)) ⊕ ((Int × (Arr 256 Bool) × Int × (Arr 256 Bool)))) := fun p => verb_class_L3 p.1 p.2.1 p.2.2.1 p.2.2.2.1 p.2.2.2.2.1 p.2.2.2.2.2
def verb_class_L3_MM : HL [.bool, (.int .i64), (.int .i64), (.arr 256 .bool), (.int .i64), (.arr 256 .bool)] → Option (HL [.bool, (.int .i64), (.int .i64), (.arr 256 .bool), (.int .i64), (.arr 256 .bool)] ⊕ SumL [[(.int .i64), (.arr 256 .bool), (.int .i64), (.arr 256 .bool)]]) := fun p => verb_class_L3 p.1 p.2.1 p.2.2.1 p.2.2.2.1 p.2.2.2.2.1 p.2.2.2.2.2
def verb_class_L3_C : Con := ⟨2, verb_class_L3_T, verb_class_L3_O, stdCn [.bool, (.int .i64), (.int .i64), (.arr 256 .bool), (.int .i64), (.arr 256 .bool)] [[(.int .i64), (.arr 256 .bool), (.int .i64), (.arr 256 .bool)]] (loop verb_class_L3_MM)⟩
def verb_class_T : Tm := ⟨[(0, false, [.hole .str]), (1, false, [.hole .bool])], 2, []⟩
def verb_class_O : List (Ex × Tm) := [(.ret, ⟨[(0, true, [.hole (.int .i64), .hole (.arr 256 .bool)])], 1, []⟩)]
def verb_class_M (s0 : List UInt8) (s1 : Bool) : Option (Int × (Arr 256 Bool)) :=
  Option.bind (loop verb_class_L1_P (s0, s1, (0 : Int), (0 : Int), Arr.rep (256 : Nat) false, (2 : Int), Arr.rep (256 : Nat) false)) fun (v0 : (Bool × (Int × ((Arr (256 : Nat) Bool) × (Int × (Arr (256 : Nat) Bool)))))) =>
  Option.bind (loop verb_class_L3_P (v0.fst, (0 : Int), v0.snd.fst, v0.snd.snd.fst, v0.snd.snd.snd.fst, v0.snd.snd.snd.snd)) fun (v1 : (Int × ((Arr (256 : Nat) Bool) × (Int × (Arr (256 : Nat) Bool))))) =>
  some (v1.snd.snd.fst, v1.snd.snd.snd)
def verb_class_P : (List UInt8) × Bool → Option (Int × (Arr 256 Bool)) := fun p => verb_class_M p.1 p.2
def verb_class_MM : HL [.str, .bool] → Option (SumL [[(.int .i64), (.arr 256 .bool)]]) := fun p => verb_class_M p.1 p.2
def verb_class_C : Con := ⟨0, verb_class_T, verb_class_O, stdCn [.str, .bool] [[(.int .i64), (.arr 256 .bool)]] verb_class_MM⟩

def verb_bracket_T : Tm := ⟨[(0, false, [.hole .str])], 1, []⟩
def verb_bracket_O : List (Ex × Tm) := [(.ret, ⟨[(0, true, [.hole (.int .i64), .hole (.arr 256 .bool)]), (1, false, [.hole (.int .i64)])], 2, []⟩)]
def verb_bracket_M (s0 : List UInt8) : Option (Int × (Arr 256 Bool) × Int) :=
  Option.bind (sub s0 (1 : Int) (((List.length s0) : Nat) : Int)) fun (v0 : (List UInt8)) =>
  Option.bind (strings_HasPrefix_P (v0, [(94 : UInt8)])) fun (v1 : Bool) =>
  if v1 = true then
    if decide ((3 : Int) > (((List.length s0) : Nat) : Int)) = true then
      Option.bind (verb_just_P (91 : Int)) fun (v2 : (Int × (Arr (256 : Nat) Bool))) =>
      some (v2.fst, v2.snd, (1 : Int))
    else
    Option.bind (sub s0 (3 : Int) (((List.length s0) : Nat) : Int)) fun (v3 : (List UInt8)) =>
    Option.bind (strings_IndexByte_P (v3, (93 : Int))) fun (v4 : Int) =>
    if decide (v4 < (0 : Int)) = true then
      Option.bind (verb_just_P (91 : Int)) fun (v5 : (Int × (Arr (256 : Nat) Bool))) =>
      some (v5.fst, v5.snd, (1 : Int))
    else
    Option.bind (sub s0 (2 : Int) (IntKind.wrap IntKind.i64 (v4 + (3 : Int)))) fun (v6 : (List UInt8)) =>
    Option.bind (verb_class_P (v6, v1)) fun (v7 : (Int × (Arr (256 : Nat) Bool))) =>
    some (v7.fst, v7.snd, IntKind.wrap IntKind.i64 (IntKind.wrap IntKind.i64 (v4 + (3 : Int)) + (1 : Int)))
  else
  if decide ((2 : Int) > (((List.length s0) : Nat) : Int)) = true then
    Option.bind (verb_just_P (91 : Int)) fun (v8 : (Int × (Arr (256 : Nat) Bool))) =>
    some (v8.fst, v8.snd, (1 : Int))
  else
  Option.bind (sub s0 (2 : Int) (((List.length s0) : Nat) : Int)) fun (v9 : (List UInt8)) =>
  Option.bind (strings_IndexByte_P (v9, (93 : Int))) fun (v10 : Int) =>
  if decide (v10 < (0 : Int)) = true then
    Option.bind (verb_just_P (91 : Int)) fun (v11 : (Int × (Arr (256 : Nat) Bool))) =>
    some (v11.fst, v11.snd, (1 : Int))
  else
  Option.bind (sub s0 (1 : Int) (IntKind.wrap IntKind.i64 (v10 + (2 : Int)))) fun (v12 : (List UInt8)) =>
  Option.bind (verb_class_P (v12, v1)) fun (v13 : (Int × (Arr (256 : Nat) Bool))) =>
  some (v13.fst, v13.snd, IntKind.wrap IntKind.i64 (IntKind.wrap IntKind.i64 (v10 + (2 : Int)) + (1 : Int)))
def verb_bracket_P : (List UInt8) → Option (Int × (Arr 256 Bool) × Int) := fun p => verb_bracket_M p
def verb_bracket_MM : HL [.str] → Option (SumL [[(.int .i64), (.arr 256 .bool), (.int .i64)]]) := fun p => verb_bracket_M p
def verb_bracket_C : Con := ⟨0, verb_bracket_T, verb_bracket_O, stdCn [.str] [[(.int .i64), (.arr 256 .bool), (.int .i64)]] verb_bracket_MM⟩

def verb_parts_L1_T : Tm := ⟨[(0, false, [.hole .str]), (3, false, [.row 0]), (4, false, [.hole (.int .i64)])], 64, [.row (.pair (.int .i64) (.pair (.arr 256 .bool) .unit))]⟩
def verb_parts_L1_O : List (Ex × Tm) := [(.exit 0, ⟨[(3, false, [.row 0])], 64, [.row (.pair (.int .i64) (.pair (.arr 256 .bool) .unit))]⟩)]
def verb_parts_L1 (s0 : List UInt8) (s4 : Int) (r0 : List (Int × (Arr 256 Bool) × Unit)) : Option (((List UInt8) × Int × (List (Int × (Arr 256 Bool) × Unit))) ⊕ (((List (Int × (Arr 256 Bool) × Unit))))) :=
  if decide (s4 < (((List.length s0) : Nat) : Int)) = true then
    Option.bind (ix s0 s4) fun (v0 : UInt8) =>
    Option.bind (verb_just_P (((UInt8.toNat v0) : Nat) : Int)) fun (v1 : (Int × (Arr (256 : Nat) Bool))) =>
    Option.bind (ix s0 s4) fun (v2 : UInt8) =>
    if ((((UInt8.toNat v2) : Nat) : Int) == (42 : Int)) = true then
      Option.bind (room (264 : Nat) (List.length r0 + (1 : Nat))) fun _ =>
      some (.inl (s0, IntKind.wrap IntKind.i64 (s4 + (1 : Int)), r0 ++ [((0 : Int), Arr.rep (256 : Nat) false, ())]))
    else
    Option.bind (ix s0 s4) fun (v4 : UInt8) =>
    if ((((UInt8.toNat v4) : Nat) : Int) == (63 : Int)) = true then
      Option.bind (room (264 : Nat) (List.length r0 + (1 : Nat))) fun _ =>
      some (.inl (s0, IntKind.wrap IntKind.i64 (s4 + (1 : Int)), r0 ++ [((1 : Int), Arr.rep (256 : Nat) false, ())]))
    else
    Option.bind (ix s0 s4) fun (v6 : UInt8) =>
    if ((((UInt8.toNat v6) : Nat) : Int) == (91 : Int)) = true then
      Option.bind (sub s0 s4 (((List.length s0) : Nat) : Int)) fun (v7 : (List UInt8)) =>
      Option.bind (verb_bracket_P v7) fun (v8 : (Int × ((Arr (256 : Nat) Bool) × Int))) =>
      Option.bind (room (264 : Nat) (List.length r0 + List.length [(v8.fst, v8.snd.fst, ())])) fun _ =>
      some (.inl (s0, IntKind.wrap IntKind.i64 (s4 + v8.snd.snd), r0 ++ [(v8.fst, v8.snd.fst, ())]))
    else
    Option.bind (ix s0 s4) fun (v10 : UInt8) =>
    if ((((UInt8.toNat v10) : Nat) : Int) == (92 : Int)) = true then
      if decide (IntKind.wrap IntKind.i64 (s4 + (1 : Int)) < (((List.length s0) : Nat) : Int)) = true then
        Option.bind (ix s0 (IntKind.wrap IntKind.i64 (s4 + (1 : Int)))) fun (v11 : UInt8) =>
        Option.bind (verb_just_P (((UInt8.toNat v11) : Nat) : Int)) fun (v12 : (Int × (Arr (256 : Nat) Bool))) =>
        Option.bind (room (264 : Nat) (List.length r0 + List.length [(v12.fst, v12.snd, ())])) fun _ =>
        some (.inl (s0, IntKind.wrap IntKind.i64 (s4 + (2 : Int)), r0 ++ [(v12.fst, v12.snd, ())]))
      else
      Option.bind (room (264 : Nat) (List.length r0 + List.length [(v1.fst, v1.snd, ())])) fun _ =>
      some (.inl (s0, IntKind.wrap IntKind.i64 (s4 + (1 : Int)), r0 ++ [(v1.fst, v1.snd, ())]))
    else
    Option.bind (room (264 : Nat) (List.length r0 + List.length [(v1.fst, v1.snd, ())])) fun _ =>
    some (.inl (s0, IntKind.wrap IntKind.i64 (s4 + (1 : Int)), r0 ++ [(v1.fst, v1.snd, ())]))
  else
  some (.inr (r0))
def verb_parts_L1_P : (List UInt8) × Int × (List (Int × (Arr 256 Bool) × Unit)) → Option (((List UInt8) × Int × (List (Int × (Arr 256 Bool) × Unit))) ⊕ (((List (Int × (Arr 256 Bool) × Unit))))) := fun p => verb_parts_L1 p.1 p.2.1 p.2.2
def verb_parts_L1_MM : HL [.str, (.int .i64), (.slc (.pair (.int .i64) (.pair (.arr 256 .bool) .unit)))] → Option (HL [.str, (.int .i64), (.slc (.pair (.int .i64) (.pair (.arr 256 .bool) .unit)))] ⊕ SumL [[(.slc (.pair (.int .i64) (.pair (.arr 256 .bool) .unit)))]]) := fun p => verb_parts_L1 p.1 p.2.1 p.2.2
def verb_parts_L1_C : Con := ⟨0, verb_parts_L1_T, verb_parts_L1_O, stdCn [.str, (.int .i64), (.slc (.pair (.int .i64) (.pair (.arr 256 .bool) .unit)))] [[(.slc (.pair (.int .i64) (.pair (.arr 256 .bool) .unit)))]] (loop verb_parts_L1_MM)⟩
def verb_parts_T : Tm := ⟨[(0, false, [.hole .str])], 1, []⟩
def verb_parts_O : List (Ex × Tm) := [(.ret, ⟨[(0, false, [.row 0])], 1, [.row (.pair (.int .i64) (.pair (.arr 256 .bool) .unit))]⟩)]
def verb_parts_M (s0 : List UInt8) : Option ((List (Int × (Arr 256 Bool) × Unit))) :=
  Option.bind (loop verb_parts_L1_P (s0, (0 : Int), [])) fun (v0 : (List (Int × ((Arr (256 : Nat) Bool) × Unit)))) =>
  some (v0)
def verb_parts_P : (List UInt8) → Option ((List (Int × (Arr 256 Bool) × Unit))) := fun p => verb_parts_M p
def verb_parts_MM : HL [.str] → Option (SumL [[(.slc (.pair (.int .i64) (.pair (.arr 256 .bool) .unit)))]]) := fun p => verb_parts_M p
def verb_parts_C : Con := ⟨0, verb_parts_T, verb_parts_O, stdCn [.str] [[(.slc (.pair (.int .i64) (.pair (.arr 256 .bool) .unit)))]] verb_parts_MM⟩

def verb_Match_L2_T : Tm := ⟨[(1, false, [.hole .str]), (5, false, [.row 1]), (7, false, [.ptr 0 0]), (8, false, [.row 2]), (17, false, [.row 3]), (18, false, [.hole (.int .i64)]), (19, false, [.hole (.int .i64)]), (28, false, [.hole (.int .i64)]), (29, false, [.hole (.int .i64)])], 108, [.box [.hole (.int .i64), .hole (.arr 256 .bool)], .row (.int .i64), .row (.int .i64), .row (.pair (.int .i64) (.pair (.arr 256 .bool) .unit))]⟩
def verb_Match_L2_O : List (Ex × Tm) := [(.exit 2, ⟨[(1, false, [.hole .str]), (8, false, [.row 1]), (17, false, [.row 2]), (18, false, [.hole (.int .i64)]), (19, false, [.hole (.int .i64)])], 108, [.box [.hole (.int .i64), .hole (.arr 256 .bool)], .row (.int .i64), .row (.pair (.int .i64) (.pair (.arr 256 .bool) .unit))]⟩)]
def verb_Match_L2 (s1 : List UInt8) (s18 : Int) (s19 : Int) (s28 : Int) (s29 : Int) (m0_0 : Int) (m0_1 : Arr 256 Bool) (r1 : List Int) (r2 : List Int) (r3 : List (Int × (Arr 256 Bool) × Unit)) : Option (((List UInt8) × Int × Int × Int × Int × Int × (Arr 256 Bool) × (List Int) × (List Int) × (List (Int × (Arr 256 Bool) × Unit))) ⊕ (((List UInt8) × Int × Int × Int × (Arr 256 Bool) × (List Int) × (List (Int × (Arr 256 Bool) × Unit))))) :=
  if decide (s29 < s28) = true then
    if (m0_0 == (0 : Int)) = true then
      Option.bind (inb (List.length r1) s29) fun _ =>
      if (List.getD r1 (Int.toNat s29) (0 : Int) == (1 : Int)) = true then
        Option.bind (inb (List.length r2) s29) fun _ =>
        some (.inl (s1, s18, s19, s28, IntKind.wrap IntKind.i64 (s29 + (1 : Int)), m0_0, m0_1, r1, List.set r2 (Int.toNat s29) (1 : Int), r3))
      else
      if decide (s29 > (0 : Int)) = true then
        Option.bind (inb (List.length r2) (IntKind.wrap IntKind.i64 (s29 - (1 : Int)))) fun _ =>
        if (List.getD r2 (Int.toNat (IntKind.wrap IntKind.i64 (s29 - (1 : Int)))) (0 : Int) == (1 : Int)) = true then
          Option.bind (inb (List.length r2) s29) fun _ =>
          some (.inl (s1, s18, s19, s28, IntKind.wrap IntKind.i64 (s29 + (1 : Int)), m0_0, m0_1, r1, List.set r2 (Int.toNat s29) (1 : Int), r3))
        else
        if (m0_0 == (1 : Int)) = true then
          if decide (s29 > (0 : Int)) = true then
            Option.bind (inb (List.length r1) (IntKind.wrap IntKind.i64 (s29 - (1 : Int)))) fun _ =>
            Option.bind (inb (List.length r2) s29) fun _ =>
            some (.inl (s1, s18, s19, s28, IntKind.wrap IntKind.i64 (s29 + (1 : Int)), m0_0, m0_1, r1, List.set r2 (Int.toNat s29) (List.getD r1 (Int.toNat (IntKind.wrap IntKind.i64 (s29 - (1 : Int)))) (0 : Int)), r3))
          else
          if (m0_0 == (2 : Int)) = true then
            if decide (s29 > (0 : Int)) = true then
              Option.bind (ix s1 (IntKind.wrap IntKind.i64 (s29 - (1 : Int)))) fun (v6 : UInt8) =>
              Option.bind (inb (256 : Nat) (((UInt8.toNat v6) : Nat) : Int)) fun _ =>
              if List.getD m0_1.val (Int.toNat (((UInt8.toNat v6) : Nat) : Int)) false = true then
                Option.bind (inb (List.length r1) (IntKind.wrap IntKind.i64 (s29 - (1 : Int)))) fun _ =>
                Option.bind (inb (List.length r2) s29) fun _ =>
                some (.inl (s1, s18, s19, s28, IntKind.wrap IntKind.i64 (s29 + (1 : Int)), m0_0, m0_1, r1, List.set r2 (Int.toNat s29) (List.getD r1 (Int.toNat (IntKind.wrap IntKind.i64 (s29 - (1 : Int)))) (0 : Int)), r3))
              else
              some (.inl (s1, s18, s19, s28, IntKind.wrap IntKind.i64 (s29 + (1 : Int)), m0_0, m0_1, r1, r2, r3))
            else
            some (.inl (s1, s18, s19, s28, IntKind.wrap IntKind.i64 (s29 + (1 : Int)), m0_0, m0_1, r1, r2, r3))
          else
          some (.inl (s1, s18, s19, s28, IntKind.wrap IntKind.i64 (s29 + (1 : Int)), m0_0, m0_1, r1, r2, r3))
        else
        if (m0_0 == (2 : Int)) = true then
          if decide (s29 > (0 : Int)) = true then
            Option.bind (ix s1 (IntKind.wrap IntKind.i64 (s29 - (1 : Int)))) fun (v10 : UInt8) =>
            Option.bind (inb (256 : Nat) (((UInt8.toNat v10) : Nat) : Int)) fun _ =>
            if List.getD m0_1.val (Int.toNat (((UInt8.toNat v10) : Nat) : Int)) false = true then
              Option.bind (inb (List.length r1) (IntKind.wrap IntKind.i64 (s29 - (1 : Int)))) fun _ =>
              Option.bind (inb (List.length r2) s29) fun _ =>
              some (.inl (s1, s18, s19, s28, IntKind.wrap IntKind.i64 (s29 + (1 : Int)), m0_0, m0_1, r1, List.set r2 (Int.toNat s29) (List.getD r1 (Int.toNat (IntKind.wrap IntKind.i64 (s29 - (1 : Int)))) (0 : Int)), r3))
            else
            some (.inl (s1, s18, s19, s28, IntKind.wrap IntKind.i64 (s29 + (1 : Int)), m0_0, m0_1, r1, r2, r3))
          else
          some (.inl (s1, s18, s19, s28, IntKind.wrap IntKind.i64 (s29 + (1 : Int)), m0_0, m0_1, r1, r2, r3))
        else
        some (.inl (s1, s18, s19, s28, IntKind.wrap IntKind.i64 (s29 + (1 : Int)), m0_0, m0_1, r1, r2, r3))
      else
      if (m0_0 == (1 : Int)) = true then
        if decide (s29 > (0 : Int)) = true then
          Option.bind (inb (List.length r1) (IntKind.wrap IntKind.i64 (s29 - (1 : Int)))) fun _ =>
          Option.bind (inb (List.length r2) s29) fun _ =>
          some (.inl (s1, s18, s19, s28, IntKind.wrap IntKind.i64 (s29 + (1 : Int)), m0_0, m0_1, r1, List.set r2 (Int.toNat s29) (List.getD r1 (Int.toNat (IntKind.wrap IntKind.i64 (s29 - (1 : Int)))) (0 : Int)), r3))
        else
        if (m0_0 == (2 : Int)) = true then
          if decide (s29 > (0 : Int)) = true then
            Option.bind (ix s1 (IntKind.wrap IntKind.i64 (s29 - (1 : Int)))) fun (v16 : UInt8) =>
            Option.bind (inb (256 : Nat) (((UInt8.toNat v16) : Nat) : Int)) fun _ =>
            if List.getD m0_1.val (Int.toNat (((UInt8.toNat v16) : Nat) : Int)) false = true then
              Option.bind (inb (List.length r1) (IntKind.wrap IntKind.i64 (s29 - (1 : Int)))) fun _ =>
              Option.bind (inb (List.length r2) s29) fun _ =>
              some (.inl (s1, s18, s19, s28, IntKind.wrap IntKind.i64 (s29 + (1 : Int)), m0_0, m0_1, r1, List.set r2 (Int.toNat s29) (List.getD r1 (Int.toNat (IntKind.wrap IntKind.i64 (s29 - (1 : Int)))) (0 : Int)), r3))
            else
            some (.inl (s1, s18, s19, s28, IntKind.wrap IntKind.i64 (s29 + (1 : Int)), m0_0, m0_1, r1, r2, r3))
          else
          some (.inl (s1, s18, s19, s28, IntKind.wrap IntKind.i64 (s29 + (1 : Int)), m0_0, m0_1, r1, r2, r3))
        else
        some (.inl (s1, s18, s19, s28, IntKind.wrap IntKind.i64 (s29 + (1 : Int)), m0_0, m0_1, r1, r2, r3))
      else
      if (m0_0 == (2 : Int)) = true then
        if decide (s29 > (0 : Int)) = true then
          Option.bind (ix s1 (IntKind.wrap IntKind.i64 (s29 - (1 : Int)))) fun (v20 : UInt8) =>
          Option.bind (inb (256 : Nat) (((UInt8.toNat v20) : Nat) : Int)) fun _ =>
          if List.getD m0_1.val (Int.toNat (((UInt8.toNat v20) : Nat) : Int)) false = true then
            Option.bind (inb (List.length r1) (IntKind.wrap IntKind.i64 (s29 - (1 : Int)))) fun _ =>
            Option.bind (inb (List.length r2) s29) fun _ =>
            some (.inl (s1, s18, s19, s28, IntKind.wrap IntKind.i64 (s29 + (1 : Int)), m0_0, m0_1, r1, List.set r2 (Int.toNat s29) (List.getD r1 (Int.toNat (IntKind.wrap IntKind.i64 (s29 - (1 : Int)))) (0 : Int)), r3))
          else
          some (.inl (s1, s18, s19, s28, IntKind.wrap IntKind.i64 (s29 + (1 : Int)), m0_0, m0_1, r1, r2, r3))
        else
        some (.inl (s1, s18, s19, s28, IntKind.wrap IntKind.i64 (s29 + (1 : Int)), m0_0, m0_1, r1, r2, r3))
      else
      some (.inl (s1, s18, s19, s28, IntKind.wrap IntKind.i64 (s29 + (1 : Int)), m0_0, m0_1, r1, r2, r3))
    else
    if (m0_0 == (1 : Int)) = true then
      if decide (s29 > (0 : Int)) = true then
        Option.bind (inb (List.length r1) (IntKind.wrap IntKind.i64 (s29 - (1 : Int)))) fun _ =>
        Option.bind (inb (List.length r2) s29) fun _ =>
        some (.inl (s1, s18, s19, s28, IntKind.wrap IntKind.i64 (s29 + (1 : Int)), m0_0, m0_1, r1, List.set r2 (Int.toNat s29) (List.getD r1 (Int.toNat (IntKind.wrap IntKind.i64 (s29 - (1 : Int)))) (0 : Int)), r3))
      else
      if (m0_0 == (2 : Int)) = true then
        if decide (s29 > (0 : Int)) = true then
          Option.bind (ix s1 (IntKind.wrap IntKind.i64 (s29 - (1 : Int)))) fun (v26 : UInt8) =>
          Option.bind (inb (256 : Nat) (((UInt8.toNat v26) : Nat) : Int)) fun _ =>
          if List.getD m0_1.val (Int.toNat (((UInt8.toNat v26) : Nat) : Int)) false = true then
            Option.bind (inb (List.length r1) (IntKind.wrap IntKind.i64 (s29 - (1 : Int)))) fun _ =>
            Option.bind (inb (List.length r2) s29) fun _ =>
            some (.inl (s1, s18, s19, s28, IntKind.wrap IntKind.i64 (s29 + (1 : Int)), m0_0, m0_1, r1, List.set r2 (Int.toNat s29) (List.getD r1 (Int.toNat (IntKind.wrap IntKind.i64 (s29 - (1 : Int)))) (0 : Int)), r3))
          else
          some (.inl (s1, s18, s19, s28, IntKind.wrap IntKind.i64 (s29 + (1 : Int)), m0_0, m0_1, r1, r2, r3))
        else
        some (.inl (s1, s18, s19, s28, IntKind.wrap IntKind.i64 (s29 + (1 : Int)), m0_0, m0_1, r1, r2, r3))
      else
      some (.inl (s1, s18, s19, s28, IntKind.wrap IntKind.i64 (s29 + (1 : Int)), m0_0, m0_1, r1, r2, r3))
    else
    if (m0_0 == (2 : Int)) = true then
      if decide (s29 > (0 : Int)) = true then
        Option.bind (ix s1 (IntKind.wrap IntKind.i64 (s29 - (1 : Int)))) fun (v30 : UInt8) =>
        Option.bind (inb (256 : Nat) (((UInt8.toNat v30) : Nat) : Int)) fun _ =>
        if List.getD m0_1.val (Int.toNat (((UInt8.toNat v30) : Nat) : Int)) false = true then
          Option.bind (inb (List.length r1) (IntKind.wrap IntKind.i64 (s29 - (1 : Int)))) fun _ =>
          Option.bind (inb (List.length r2) s29) fun _ =>
          some (.inl (s1, s18, s19, s28, IntKind.wrap IntKind.i64 (s29 + (1 : Int)), m0_0, m0_1, r1, List.set r2 (Int.toNat s29) (List.getD r1 (Int.toNat (IntKind.wrap IntKind.i64 (s29 - (1 : Int)))) (0 : Int)), r3))
        else
        some (.inl (s1, s18, s19, s28, IntKind.wrap IntKind.i64 (s29 + (1 : Int)), m0_0, m0_1, r1, r2, r3))
      else
      some (.inl (s1, s18, s19, s28, IntKind.wrap IntKind.i64 (s29 + (1 : Int)), m0_0, m0_1, r1, r2, r3))
    else
    some (.inl (s1, s18, s19, s28, IntKind.wrap IntKind.i64 (s29 + (1 : Int)), m0_0, m0_1, r1, r2, r3))
  else
  some (.inr (s1, s18, s19, m0_0, m0_1, r2, r3))
def verb_Match_L2_P : (List UInt8) × Int × Int × Int × Int × Int × (Arr 256 Bool) × (List Int) × (List Int) × (List (Int × (Arr 256 Bool) × Unit)) → Option (((List UInt8) × Int × Int × Int × Int × Int × (Arr 256 Bool) × (List Int) × (List Int) × (List (Int × (Arr 256 Bool) × Unit))) ⊕ (((List UInt8) × Int × Int × Int × (Arr 256 Bool) × (List Int) × (List (Int × (Arr 256 Bool) × Unit))))) := fun p => verb_Match_L2 p.1 p.2.1 p.2.2.1 p.2.2.2.1 p.2.2.2.2.1 p.2.2.2.2.2.1 p.2.2.2.2.2.2.1 p.2.2.2.2.2.2.2.1 p.2.2.2.2.2.2.2.2.1 p.2.2.2.2.2.2.2.2.2
def verb_Match_L2_MM : HL [.str, (.int .i64), (.int .i64), (.int .i64), (.int .i64), (.int .i64), (.arr 256 .bool), (.slc (.int .i64)), (.slc (.int .i64)), (.slc (.pair (.int .i64) (.pair (.arr 256 .bool) .unit)))] → Option (HL [.str, (.int .i64), (.int .i64), (.int .i64), (.int .i64), (.int .i64), (.arr 256 .bool), (.slc (.int .i64)), (.slc (.int .i64)), (.slc (.pair (.int .i64) (.pair (.arr 256 .bool) .unit)))] ⊕ SumL [[.str, (.int .i64), (.int .i64), (.int .i64), (.arr 256 .bool), (.slc (.int .i64)), (.slc (.pair (.int .i64) (.pair (.arr 256 .bool) .unit)))]]) := fun p => verb_Match_L2 p.1 p.2.1 p.2.2.1 p.2.2.2.1 p.2.2.2.2.1 p.2.2.2.2.2.1 p.2.2.2.2.2.2.1 p.2.2.2.2.2.2.2.1 p.2.2.2.2.2.2.2.2.1 p.2.2.2.2.2.2.2.2.2
def verb_Match_L2_C : Con := ⟨1, verb_Match_L2_T, verb_Match_L2_O, stdCn [.str, (.int .i64), (.int .i64), (.int .i64), (.int .i64), (.int .i64), (.arr 256 .bool), (.slc (.int .i64)), (.slc (.int .i64)), (.slc (.pair (.int .i64) (.pair (.arr 256 .bool) .unit)))] [[.str, (.int .i64), (.int .i64), (.int .i64), (.arr 256 .bool), (.slc (.int .i64)), (.slc (.pair (.int .i64) (.pair (.arr 256 .bool) .unit)))]] (loop verb_Match_L2_MM)⟩
def verb_Match_L1_T : Tm := ⟨[(1, false, [.hole .str]), (5, false, [.row 0]), (17, false, [.row 1]), (18, false, [.hole (.int .i64)]), (19, false, [.hole (.int .i64)])], 108, [.row (.int .i64), .row (.pair (.int .i64) (.pair (.arr 256 .bool) .unit))]⟩
def verb_Match_L1_O : List (Ex × Tm) := [(.exit 0, ⟨[(1, false, [.hole .str]), (5, false, [.row 0])], 108, [.row (.int .i64)]⟩)]
def verb_Match_L1 (s1 : List UInt8) (s18 : Int) (s19 : Int) (r0 : List Int) (r1 : List (Int × (Arr 256 Bool) × Unit)) : Option (((List UInt8) × Int × Int × (List Int) × (List (Int × (Arr 256 Bool) × Unit))) ⊕ (((List UInt8) × (List Int)))) :=
  if decide (s19 < s18) = true then
    Option.bind (inb (List.length r1) s19) fun _ =>
    Option.bind (mk2 (8 : Nat) (IntKind.wrap IntKind.i64 ((((List.length s1) : Nat) : Int) + (1 : Int))) (IntKind.wrap IntKind.i64 ((((List.length s1) : Nat) : Int) + (1 : Int)))) fun (v1 : Nat) =>
    Option.bind (loop verb_Match_L2_P (s1, s18, s19, (((List.length r0) : Nat) : Int), (0 : Int), (List.getD r1 (Int.toNat s19) (Ty.zero (Ty.pair (Ty.int IntKind.i64) (Ty.pair (Ty.arr (256 : Nat) Ty.bool) Ty.unit)))).fst, (List.getD r1 (Int.toNat s19) (Ty.zero (Ty.pair (Ty.int IntKind.i64) (Ty.pair (Ty.arr (256 : Nat) Ty.bool) Ty.unit)))).snd.fst, r0, List.replicate v1 (0 : Int), r1)) fun (v2 : ((List UInt8) × (Int × (Int × (Int × ((Arr (256 : Nat) Bool) × ((List Int) × (List (Int × ((Arr (256 : Nat) Bool) × Unit)))))))))) =>
    some (.inl (v2.fst, v2.snd.fst, IntKind.wrap IntKind.i64 (v2.snd.snd.fst + (1 : Int)), v2.snd.snd.snd.snd.snd.fst, v2.snd.snd.snd.snd.snd.snd))
  else
  some (.inr (s1, r0))
def verb_Match_L1_P : (List UInt8) × Int × Int × (List Int) × (List (Int × (Arr 256 Bool) × Unit)) → Option (((List UInt8) × Int × Int × (List Int) × (List (Int × (Arr 256 Bool) × Unit))) ⊕ (((List UInt8) × (List Int)))) := fun p => verb_Match_L1 p.1 p.2.1 p.2.2.1 p.2.2.2.1 p.2.2.2.2
def verb_Match_L1_MM : HL [.str, (.int .i64), (.int .i64), (.slc (.int .i64)), (.slc (.pair (.int .i64) (.pair (.arr 256 .bool) .unit)))] → Option (HL [.str, (.int .i64), (.int .i64), (.slc (.int .i64)), (.slc (.pair (.int .i64) (.pair (.arr 256 .bool) .unit)))] ⊕ SumL [[.str, (.slc (.int .i64))]]) := fun p => verb_Match_L1 p.1 p.2.1 p.2.2.1 p.2.2.2.1 p.2.2.2.2
def verb_Match_L1_C : Con := ⟨0, verb_Match_L1_T, verb_Match_L1_O, stdCn [.str, (.int .i64), (.int .i64), (.slc (.int .i64)), (.slc (.pair (.int .i64) (.pair (.arr 256 .bool) .unit)))] [[.str, (.slc (.int .i64))]] (loop verb_Match_L1_MM)⟩
def verb_Match_T : Tm := ⟨[(0, false, [.hole .str]), (1, false, [.hole .str])], 2, []⟩
def verb_Match_O : List (Ex × Tm) := [(.ret, ⟨[(0, false, [.hole .bool])], 1, []⟩)]
def verb_Match_M (s0 : List UInt8) (s1 : List UInt8) : Option (Bool) :=
  Option.bind (mk2 (8 : Nat) (IntKind.wrap IntKind.i64 ((((List.length s1) : Nat) : Int) + (1 : Int))) (IntKind.wrap IntKind.i64 ((((List.length s1) : Nat) : Int) + (1 : Int)))) fun (v0 : Nat) =>
  Option.bind (inb (List.length (List.replicate v0 (0 : Int))) (0 : Int)) fun _ =>
  Option.bind (verb_parts_P s0) fun (v2 : (List (Int × ((Arr (256 : Nat) Bool) × Unit)))) =>
  Option.bind (loop verb_Match_L1_P (s1, (((List.length v2) : Nat) : Int), (0 : Int), List.set (List.replicate v0 (0 : Int)) (nat_lit 0) (1 : Int), v2)) fun (v3 : ((List UInt8) × (List Int))) =>
  Option.bind (inb (List.length v3.snd) (((List.length v3.fst) : Nat) : Int)) fun _ =>
  some (List.getD v3.snd (Int.toNat (((List.length v3.fst) : Nat) : Int)) (0 : Int) == (1 : Int))
def verb_Match_P : (List UInt8) × (List UInt8) → Option (Bool) := fun p => verb_Match_M p.1 p.2
def verb_Match_MM : HL [.str, .str] → Option (SumL [[.bool]]) := fun p => verb_Match_M p.1 p.2
def verb_Match_C : Con := ⟨0, verb_Match_T, verb_Match_O, stdCn [.str, .str] [[.bool]] verb_Match_MM⟩

def intagliolaw17_awake_T : Tm := ⟨[], 0, []⟩
def intagliolaw17_awake_O : List (Ex × Tm) := [(.ret, ⟨[(0, false, [.hole .bool])], 1, []⟩)]
def intagliolaw17_awake_M  : Option (Bool) :=
  Option.bind (verb_Int_P [(48 : UInt8), (48 : UInt8), (55 : UInt8)]) fun (v0 : (Int × Bool)) =>
  Option.bind (verb_Find_P [(103 : UInt8), (101 : UInt8), (116 : UInt8)]) fun (v1 : (Int × (Int × (Int × ((List UInt8) × (Int × (Int × (Bool × (Bool × (Bool × Bool)))))))))) =>
  Option.bind (verb_Match_P ([(104 : UInt8), (91 : UInt8), (97 : UInt8), (45 : UInt8), (99 : UInt8), (93 : UInt8), (63 : UInt8), (42 : UInt8)], [(104 : UInt8), (98 : UInt8), (120 : UInt8)])) fun (v2 : Bool) =>
  if v2 = true then
    if (!v0.snd) = true then
      if v1.snd.snd.snd.snd.snd.snd.snd.snd.snd = true then
        if (v1.snd.snd.snd.fst == [(71 : UInt8), (69 : UInt8), (84 : UInt8)]) = true then
          if (v1.snd.snd.snd.snd.snd.fst == (2 : Int)) = true then
            some (!v1.snd.snd.snd.snd.snd.snd.fst)
          else
          some (false)
        else
        some (false)
      else
      some (false)
    else
    some (false)
  else
  some (false)
def intagliolaw17_awake_P : Unit → Option (Bool) := fun p => intagliolaw17_awake_M 
def intagliolaw17_awake_MM : HL [] → Option (SumL [[.bool]]) := fun p => intagliolaw17_awake_M 
def intagliolaw17_awake_C : Con := ⟨0, intagliolaw17_awake_T, intagliolaw17_awake_O, stdCn [] [[.bool]] intagliolaw17_awake_MM⟩

def intaglioref17_Upper_L1_T : Tm := ⟨[(0, false, [.hole .str]), (3, false, [.hole .str]), (4, false, [.hole (.int .i64)])], 29, []⟩
def intaglioref17_Upper_L1_O : List (Ex × Tm) := [(.exit 0, ⟨[(3, false, [.hole .str])], 29, []⟩)]
def intaglioref17_Upper_L1 (s0 : List UInt8) (s3 : List UInt8) (s4 : Int) : Option (((List UInt8) × (List UInt8) × Int) ⊕ (((List UInt8)))) :=
  if decide (s4 < (((List.length s0) : Nat) : Int)) = true then
    Option.bind (ix s0 s4) fun (v0 : UInt8) =>
    if decide ((((UInt8.toNat v0) : Nat) : Int) ≥ (97 : Int)) = true then
      if decide ((((UInt8.toNat v0) : Nat) : Int) ≤ (122 : Int)) = true then
        Option.bind (room (1 : Nat) (List.length s3 + List.length (b8 [IntKind.wrap IntKind.u8 ((((UInt8.toNat v0) : Nat) : Int) - (32 : Int))]))) fun _ =>
        some (.inl (s0, s3 ++ b8 [IntKind.wrap IntKind.u8 ((((UInt8.toNat v0) : Nat) : Int) - (32 : Int))], IntKind.wrap IntKind.i64 (s4 + (1 : Int))))
      else
      Option.bind (room (1 : Nat) (List.length s3 + List.length (b8 [(((UInt8.toNat v0) : Nat) : Int)]))) fun _ =>
      some (.inl (s0, s3 ++ b8 [(((UInt8.toNat v0) : Nat) : Int)], IntKind.wrap IntKind.i64 (s4 + (1 : Int))))
    else
    Option.bind (room (1 : Nat) (List.length s3 + List.length (b8 [(((UInt8.toNat v0) : Nat) : Int)]))) fun _ =>
    some (.inl (s0, s3 ++ b8 [(((UInt8.toNat v0) : Nat) : Int)], IntKind.wrap IntKind.i64 (s4 + (1 : Int))))
  else
  some (.inr (s3))
def intaglioref17_Upper_L1_P : (List UInt8) × (List UInt8) × Int → Option (((List UInt8) × (List UInt8) × Int) ⊕ (((List UInt8)))) := fun p => intaglioref17_Upper_L1 p.1 p.2.1 p.2.2
def intaglioref17_Upper_L1_MM : HL [.str, .str, (.int .i64)] → Option (HL [.str, .str, (.int .i64)] ⊕ SumL [[.str]]) := fun p => intaglioref17_Upper_L1 p.1 p.2.1 p.2.2
def intaglioref17_Upper_L1_C : Con := ⟨0, intaglioref17_Upper_L1_T, intaglioref17_Upper_L1_O, stdCn [.str, .str, (.int .i64)] [[.str]] (loop intaglioref17_Upper_L1_MM)⟩
def intaglioref17_Upper_T : Tm := ⟨[(0, false, [.hole .str])], 1, []⟩
def intaglioref17_Upper_O : List (Ex × Tm) := [(.ret, ⟨[(0, false, [.hole .str])], 1, []⟩)]
def intaglioref17_Upper_M (s0 : List UInt8) : Option ((List UInt8)) :=
  Option.bind (loop intaglioref17_Upper_L1_P (s0, [], (0 : Int))) fun (v0 : (List UInt8)) =>
  some (v0)
def intaglioref17_Upper_P : (List UInt8) → Option ((List UInt8)) := fun p => intaglioref17_Upper_M p
def intaglioref17_Upper_MM : HL [.str] → Option (SumL [[.str]]) := fun p => intaglioref17_Upper_M p
def intaglioref17_Upper_C : Con := ⟨0, intaglioref17_Upper_T, intaglioref17_Upper_O, stdCn [.str] [[.str]] intaglioref17_Upper_MM⟩

def intaglioref17_table_T : Tm := ⟨[], 0, []⟩
def intaglioref17_table_O : List (Ex × Tm) := [(.ret, ⟨[(0, false, [.row 0])], 1, [.row (.pair (.slc .str) (.pair (.int .i64) (.pair (.int .i64) (.pair .bool (.pair (.int .i64) (.pair (.int .i64) (.pair (.int .i64) (.pair .bool (.pair .bool .unit)))))))))]⟩)]
def intaglioref17_table_M  : Option ((List ((List (List UInt8)) × Int × Int × Bool × Int × Int × Int × Bool × Bool × Unit))) :=
  some ([([[(80 : UInt8), (73 : UInt8), (78 : UInt8), (71 : UInt8)]], (1 : Int), (2 : Int), false, (0 : Int), (0 : Int), (0 : Int), false, false, ()), ([[(69 : UInt8), (67 : UInt8), (72 : UInt8), (79 : UInt8)], [(75 : UInt8), (69 : UInt8), (89 : UInt8), (83 : UInt8)]], (2 : Int), (2 : Int), false, (0 : Int), (0 : Int), (0 : Int), false, false, ()), ([[(68 : UInt8), (66 : UInt8), (83 : UInt8), (73 : UInt8), (90 : UInt8), (69 : UInt8)], [(77 : UInt8), (85 : UInt8), (76 : UInt8), (84 : UInt8), (73 : UInt8)], [(69 : UInt8), (88 : UInt8), (69 : UInt8), (67 : UInt8)], [(68 : UInt8), (73 : UInt8), (83 : UInt8), (67 : UInt8), (65 : UInt8), (82 : UInt8), (68 : UInt8)], [(85 : UInt8), (78 : UInt8), (87 : UInt8), (65 : UInt8), (84 : UInt8), (67 : UInt8), (72 : UInt8)]], (1 : Int), (1 : Int), false, (0 : Int), (0 : Int), (0 : Int), false, false, ()), ([[(70 : UInt8), (76 : UInt8), (85 : UInt8), (83 : UInt8), (72 : UInt8), (65 : UInt8), (76 : UInt8), (76 : UInt8)]], (1 : Int), (1 : Int), true, (0 : Int), (0 : Int), (0 : Int), false, false, ()), ([[(87 : UInt8), (65 : UInt8), (84 : UInt8), (67 : UInt8), (72 : UInt8)], [(69 : UInt8), (88 : UInt8), (73 : UInt8), (83 : UInt8), (84 : UInt8), (83 : UInt8)], [(77 : UInt8), (71 : UInt8), (69 : UInt8), (84 : UInt8)], [(83 : UInt8), (73 : UInt8), (78 : UInt8), (84 : UInt8), (69 : UInt8), (82 : UInt8)], [(83 : UInt8), (85 : UInt8), (78 : UInt8), (73 : UInt8), (79 : UInt8), (78 : UInt8)], [(83 : UInt8), (68 : UInt8), (73 : UInt8), (70 : UInt8), (70 : UInt8)]], (2 : Int), (40 : Int), false, (1 : Int), (-1 : Int), (1 : Int), false, false, ()), ([[(68 : UInt8), (69 : UInt8), (76 : UInt8)]], (2 : Int), (40 : Int), true, (1 : Int), (-1 : Int), (1 : Int), false, false, ()), ([[(71 : UInt8), (69 : UInt8), (84 : UInt8)], [(83 : UInt8), (84 : UInt8), (82 : UInt8), (76 : UInt8), (69 : UInt8), (78 : UInt8)], [(84 : UInt8), (89 : UInt8), (80 : UInt8), (69 : UInt8)], [(84 : UInt8), (84 : UInt8), (76 : UInt8)], [(80 : UInt8), (84 : UInt8), (84 : UInt8), (76 : UInt8)], [(72 : UInt8), (76 : UInt8), (69 : UInt8), (78 : UInt8)], [(72 : UInt8), (71 : UInt8), (69 : UInt8), (84 : UInt8), (65 : UInt8), (76 : UInt8), (76 : UInt8)], [(72 : UInt8), (75 : UInt8), (69 : UInt8), (89 : UInt8), (83 : UInt8)], [(72 : UInt8), (86 : UInt8), (65 : UInt8), (76 : UInt8), (83 : UInt8)], [(76 : UInt8), (76 : UInt8), (69 : UInt8), (78 : UInt8)], [(83 : UInt8), (67 : UInt8), (65 : UInt8), (82 : UInt8), (68 : UInt8)], [(83 : UInt8), (77 : UInt8), (69 : UInt8), (77 : UInt8), (66 : UInt8), (69 : UInt8), (82 : UInt8), (83 : UInt8)], [(83 : UInt8), (82 : UInt8), (65 : UInt8), (78 : UInt8), (68 : UInt8), (77 : UInt8), (69 : UInt8), (77 : UInt8), (66 : UInt8), (69 : UInt8), (82 : UInt8)], [(90 : UInt8), (67 : UInt8), (65 : UInt8), (82 : UInt8), (68 : UInt8)]], (2 : Int), (2 : Int), false, (1 : Int), (1 : Int), (1 : Int), false, false, ()), ([[(73 : UInt8), (78 : UInt8), (67 : UInt8), (82 : UInt8)], [(68 : UInt8), (69 : UInt8), (67 : UInt8), (82 : UInt8)], [(80 : UInt8), (69 : UInt8), (82 : UInt8), (83 : UInt8), (73 : UInt8), (83 : UInt8), (84 : UInt8)], [(76 : UInt8), (80 : UInt8), (79 : UInt8), (80 : UInt8)], [(82 : UInt8), (80 : UInt8), (79 : UInt8), (80 : UInt8)], [(83 : UInt8), (80 : UInt8), (79 : UInt8), (80 : UInt8)]], (2 : Int), (2 : Int), true, (1 : Int), (1 : Int), (1 : Int), false, false, ()), ([[(83 : UInt8), (69 : UInt8), (84 : UInt8)]], (3 : Int), (7 : Int), true, (1 : Int), (1 : Int), (1 : Int), false, false, ()), ([[(71 : UInt8), (69 : UInt8), (84 : UInt8), (83 : UInt8), (69 : UInt8), (84 : UInt8)], [(83 : UInt8), (69 : UInt8), (84 : UInt8), (78 : UInt8), (88 : UInt8)], [(65 : UInt8), (80 : UInt8), (80 : UInt8), (69 : UInt8), (78 : UInt8), (68 : UInt8)], [(73 : UInt8), (78 : UInt8), (67 : UInt8), (82 : UInt8), (66 : UInt8), (89 : UInt8)], [(68 : UInt8), (69 : UInt8), (67 : UInt8), (82 : UInt8), (66 : UInt8), (89 : UInt8)], [(69 : UInt8), (88 : UInt8), (80 : UInt8), (73 : UInt8), (82 : UInt8), (69 : UInt8)], [(80 : UInt8), (69 : UInt8), (88 : UInt8), (80 : UInt8), (73 : UInt8), (82 : UInt8), (69 : UInt8)], [(80 : UInt8), (69 : UInt8), (88 : UInt8), (80 : UInt8), (73 : UInt8), (82 : UInt8), (69 : UInt8), (65 : UInt8), (84 : UInt8)]], (3 : Int), (3 : Int), true, (1 : Int), (1 : Int), (1 : Int), false, false, ()), ([[(82 : UInt8), (69 : UInt8), (78 : UInt8), (65 : UInt8), (77 : UInt8), (69 : UInt8)], [(82 : UInt8), (80 : UInt8), (79 : UInt8), (80 : UInt8), (76 : UInt8), (80 : UInt8), (85 : UInt8), (83 : UInt8), (72 : UInt8)]], (3 : Int), (3 : Int), true, (1 : Int), (2 : Int), (1 : Int), false, false, ()), ([[(77 : UInt8), (83 : UInt8), (69 : UInt8), (84 : UInt8)]], (3 : Int), (40 : Int), true, (1 : Int), (-1 : Int), (2 : Int), true, false, ()), ([[(72 : UInt8), (71 : UInt8), (69 : UInt8), (84 : UInt8)], [(72 : UInt8), (69 : UInt8), (88 : UInt8), (73 : UInt8), (83 : UInt8), (84 : UInt8), (83 : UInt8)], [(76 : UInt8), (73 : UInt8), (78 : UInt8), (68 : UInt8), (69 : UInt8), (88 : UInt8)], [(83 : UInt8), (73 : UInt8), (83 : UInt8), (77 : UInt8), (69 : UInt8), (77 : UInt8), (66 : UInt8), (69 : UInt8), (82 : UInt8)], [(90 : UInt8), (83 : UInt8), (67 : UInt8), (79 : UInt8), (82 : UInt8), (69 : UInt8)], [(90 : UInt8), (82 : UInt8), (65 : UInt8), (78 : UInt8), (75 : UInt8)], [(90 : UInt8), (82 : UInt8), (69 : UInt8), (86 : UInt8), (82 : UInt8), (65 : UInt8), (78 : UInt8), (75 : UInt8)]], (3 : Int), (3 : Int), false, (1 : Int), (1 : Int), (1 : Int), false, false, ()), ([[(72 : UInt8), (77 : UInt8), (71 : UInt8), (69 : UInt8), (84 : UInt8)]], (3 : Int), (40 : Int), false, (1 : Int), (1 : Int), (1 : Int), false, false, ()), ([[(72 : UInt8), (68 : UInt8), (69 : UInt8), (76 : UInt8)], [(76 : UInt8), (80 : UInt8), (85 : UInt8), (83 : UInt8), (72 : UInt8)], [(82 : UInt8), (80 : UInt8), (85 : UInt8), (83 : UInt8), (72 : UInt8)], [(83 : UInt8), (65 : UInt8), (68 : UInt8), (68 : UInt8)], [(83 : UInt8), (82 : UInt8), (69 : UInt8), (77 : UInt8)], [(90 : UInt8), (82 : UInt8), (69 : UInt8), (77 : UInt8)]], (3 : Int), (40 : Int), true, (1 : Int), (1 : Int), (1 : Int), false, false, ()), ([[(71 : UInt8), (69 : UInt8), (84 : UInt8), (82 : UInt8), (65 : UInt8), (78 : UInt8), (71 : UInt8), (69 : UInt8)], [(76 : UInt8), (82 : UInt8), (65 : UInt8), (78 : UInt8), (71 : UInt8), (69 : UInt8)], [(90 : UInt8), (82 : UInt8), (69 : UInt8), (86 : UInt8), (82 : UInt8), (65 : UInt8), (78 : UInt8), (71 : UInt8), (69 : UInt8)], [(90 : UInt8), (82 : UInt8), (65 : UInt8), (78 : UInt8), (71 : UInt8), (69 : UInt8), (66 : UInt8), (89 : UInt8), (83 : UInt8), (67 : UInt8), (79 : UInt8), (82 : UInt8), (69 : UInt8)], [(90 : UInt8), (67 : UInt8), (79 : UInt8), (85 : UInt8), (78 : UInt8), (84 : UInt8)]], (4 : Int), (4 : Int), false, (1 : Int), (1 : Int), (1 : Int), false, false, ()), ([[(83 : UInt8), (69 : UInt8), (84 : UInt8), (82 : UInt8), (65 : UInt8), (78 : UInt8), (71 : UInt8), (69 : UInt8)], [(72 : UInt8), (83 : UInt8), (69 : UInt8), (84 : UInt8), (78 : UInt8), (88 : UInt8)], [(72 : UInt8), (73 : UInt8), (78 : UInt8), (67 : UInt8), (82 : UInt8), (66 : UInt8), (89 : UInt8)], [(76 : UInt8), (83 : UInt8), (69 : UInt8), (84 : UInt8)], [(76 : UInt8), (84 : UInt8), (82 : UInt8), (73 : UInt8), (77 : UInt8)], [(76 : UInt8), (82 : UInt8), (69 : UInt8), (77 : UInt8)], [(90 : UInt8), (73 : UInt8), (78 : UInt8), (67 : UInt8), (82 : UInt8), (66 : UInt8), (89 : UInt8)], [(90 : UInt8), (82 : UInt8), (69 : UInt8), (77 : UInt8), (82 : UInt8), (65 : UInt8), (78 : UInt8), (71 : UInt8), (69 : UInt8), (66 : UInt8), (89 : UInt8), (83 : UInt8), (67 : UInt8), (79 : UInt8), (82 : UInt8), (69 : UInt8)]], (4 : Int), (4 : Int), true, (1 : Int), (1 : Int), (1 : Int), false, false, ()), ([[(83 : UInt8), (77 : UInt8), (79 : UInt8), (86 : UInt8), (69 : UInt8)]], (4 : Int), (4 : Int), true, (1 : Int), (2 : Int), (1 : Int), false, false, ()), ([[(90 : UInt8), (82 : UInt8), (65 : UInt8), (78 : UInt8), (71 : UInt8), (69 : UInt8)]], (4 : Int), (5 : Int), false, (1 : Int), (1 : Int), (1 : Int), false, false, ()), ([[(72 : UInt8), (83 : UInt8), (69 : UInt8), (84 : UInt8)], [(90 : UInt8), (65 : UInt8), (68 : UInt8), (68 : UInt8)]], (4 : Int), (40 : Int), true, (1 : Int), (1 : Int), (1 : Int), false, true, ())])
def intaglioref17_table_P : Unit → Option ((List ((List (List UInt8)) × Int × Int × Bool × Int × Int × Int × Bool × Bool × Unit))) := fun p => intaglioref17_table_M 
def intaglioref17_table_MM : HL [] → Option (SumL [[(.slc (.pair (.slc .str) (.pair (.int .i64) (.pair (.int .i64) (.pair .bool (.pair (.int .i64) (.pair (.int .i64) (.pair (.int .i64) (.pair .bool (.pair .bool .unit))))))))))]]) := fun p => intaglioref17_table_M 
def intaglioref17_table_C : Con := ⟨0, intaglioref17_table_T, intaglioref17_table_O, stdCn [] [[(.slc (.pair (.slc .str) (.pair (.int .i64) (.pair (.int .i64) (.pair .bool (.pair (.int .i64) (.pair (.int .i64) (.pair (.int .i64) (.pair .bool (.pair .bool .unit))))))))))]] intaglioref17_table_MM⟩

def intaglioref17_Find_L2_T : Tm := ⟨[(2, false, [.ptr 0 0]), (4, false, [.row 1]), (5, false, [.hole .str]), (6, false, [.hole (.int .i64)]), (7, false, [.hole (.int .i64)])], 61, [.box [.hole .str, .hole (.int .i64), .hole (.int .i64), .hole .bool, .hole (.int .i64), .hole (.int .i64), .hole (.int .i64), .hole .bool, .hole .bool], .row (.pair (.slc .str) (.pair (.int .i64) (.pair (.int .i64) (.pair .bool (.pair (.int .i64) (.pair (.int .i64) (.pair (.int .i64) (.pair .bool (.pair .bool .unit)))))))))]⟩
def intaglioref17_Find_L2_O : List (Ex × Tm) := [(.exit 2, ⟨[(2, false, [.ptr 0 0]), (4, false, [.row 1]), (5, false, [.hole .str]), (6, false, [.hole (.int .i64)])], 61, [.box [.hole .str, .hole (.int .i64), .hole (.int .i64), .hole .bool, .hole (.int .i64), .hole (.int .i64), .hole (.int .i64), .hole .bool, .hole .bool], .row (.pair (.slc .str) (.pair (.int .i64) (.pair (.int .i64) (.pair .bool (.pair (.int .i64) (.pair (.int .i64) (.pair (.int .i64) (.pair .bool (.pair .bool .unit)))))))))]⟩), (.ret, ⟨[(2, false, [.ptr 0 0]), (3, false, [.hole .bool])], 61, [.box [.hole .str, .hole (.int .i64), .hole (.int .i64), .hole .bool, .hole (.int .i64), .hole (.int .i64), .hole (.int .i64), .hole .bool, .hole .bool]]⟩)]
def intaglioref17_Find_L2 (s5 : List UInt8) (s6 : Int) (s7 : Int) (m0_0 : List UInt8) (m0_1 : Int) (m0_2 : Int) (m0_3 : Bool) (m0_4 : Int) (m0_5 : Int) (m0_6 : Int) (m0_7 : Bool) (m0_8 : Bool) (r1 : List ((List (List UInt8)) × Int × Int × Bool × Int × Int × Int × Bool × Bool × Unit)) : Option (((List UInt8) × Int × Int × (List UInt8) × Int × Int × Bool × Int × Int × Int × Bool × Bool × (List ((List (List UInt8)) × Int × Int × Bool × Int × Int × Int × Bool × Bool × Unit))) ⊕ (((List UInt8) × Int × (List UInt8) × Int × Int × Bool × Int × Int × Int × Bool × Bool × (List ((List (List UInt8)) × Int × Int × Bool × Int × Int × Int × Bool × Bool × Unit))) ⊕ (Bool × (List UInt8) × Int × Int × Bool × Int × Int × Int × Bool × Bool))) :=
  Option.bind (inb (List.length r1) s6) fun _ =>
  if decide (s7 < (((List.length (List.getD r1 (Int.toNat s6) (Ty.zero (Ty.pair (Ty.slc Ty.str) (Ty.pair (Ty.int IntKind.i64) (Ty.pair (Ty.int IntKind.i64) (Ty.pair Ty.bool (Ty.pair (Ty.int IntKind.i64) (Ty.pair (Ty.int IntKind.i64) (Ty.pair (Ty.int IntKind.i64) (Ty.pair Ty.bool (Ty.pair Ty.bool Ty.unit))))))))))).fst) : Nat) : Int)) = true then
    Option.bind (inb (List.length r1) s6) fun _ =>
    Option.bind (ix (List.getD r1 (Int.toNat s6) (Ty.zero (Ty.pair (Ty.slc Ty.str) (Ty.pair (Ty.int IntKind.i64) (Ty.pair (Ty.int IntKind.i64) (Ty.pair Ty.bool (Ty.pair (Ty.int IntKind.i64) (Ty.pair (Ty.int IntKind.i64) (Ty.pair (Ty.int IntKind.i64) (Ty.pair Ty.bool (Ty.pair Ty.bool Ty.unit))))))))))).fst s7) fun (v2 : (List UInt8)) =>
    if (v2 == s5) = true then
      Option.bind (inb (List.length r1) s6) fun _ =>
      some (.inr (.inr (true, s5, (List.getD r1 (Int.toNat s6) (Ty.zero (Ty.pair (Ty.slc Ty.str) (Ty.pair (Ty.int IntKind.i64) (Ty.pair (Ty.int IntKind.i64) (Ty.pair Ty.bool (Ty.pair (Ty.int IntKind.i64) (Ty.pair (Ty.int IntKind.i64) (Ty.pair (Ty.int IntKind.i64) (Ty.pair Ty.bool (Ty.pair Ty.bool Ty.unit))))))))))).snd.fst, (List.getD r1 (Int.toNat s6) (Ty.zero (Ty.pair (Ty.slc Ty.str) (Ty.pair (Ty.int IntKind.i64) (Ty.pair (Ty.int IntKind.i64) (Ty.pair Ty.bool (Ty.pair (Ty.int IntKind.i64) (Ty.pair (Ty.int IntKind.i64) (Ty.pair (Ty.int IntKind.i64) (Ty.pair Ty.bool (Ty.pair Ty.bool Ty.unit))))))))))).snd.snd.fst, (List.getD r1 (Int.toNat s6) (Ty.zero (Ty.pair (Ty.slc Ty.str) (Ty.pair (Ty.int IntKind.i64) (Ty.pair (Ty.int IntKind.i64) (Ty.pair Ty.bool (Ty.pair (Ty.int IntKind.i64) (Ty.pair (Ty.int IntKind.i64) (Ty.pair (Ty.int IntKind.i64) (Ty.pair Ty.bool (Ty.pair Ty.bool Ty.unit))))))))))).snd.snd.snd.fst, (List.getD r1 (Int.toNat s6) (Ty.zero (Ty.pair (Ty.slc Ty.str) (Ty.pair (Ty.int IntKind.i64) (Ty.pair (Ty.int IntKind.i64) (Ty.pair Ty.bool (Ty.pair (Ty.int IntKind.i64) (Ty.pair (Ty.int IntKind.i64) (Ty.pair (Ty.int IntKind.i64) (Ty.pair Ty.bool (Ty.pair Ty.bool Ty.unit))))))))))).snd.snd.snd.snd.fst, (List.getD r1 (Int.toNat s6) (Ty.zero (Ty.pair (Ty.slc Ty.str) (Ty.pair (Ty.int IntKind.i64) (Ty.pair (Ty.int IntKind.i64) (Ty.pair Ty.bool (Ty.pair (Ty.int IntKind.i64) (Ty.pair (Ty.int IntKind.i64) (Ty.pair (Ty.int IntKind.i64) (Ty.pair Ty.bool (Ty.pair Ty.bool Ty.unit))))))))))).snd.snd.snd.snd.snd.fst, (List.getD r1 (Int.toNat s6) (Ty.zero (Ty.pair (Ty.slc Ty.str) (Ty.pair (Ty.int IntKind.i64) (Ty.pair (Ty.int IntKind.i64) (Ty.pair Ty.bool (Ty.pair (Ty.int IntKind.i64) (Ty.pair (Ty.int IntKind.i64) (Ty.pair (Ty.int IntKind.i64) (Ty.pair Ty.bool (Ty.pair Ty.bool Ty.unit))))))))))).snd.snd.snd.snd.snd.snd.fst, (List.getD r1 (Int.toNat s6) (Ty.zero (Ty.pair (Ty.slc Ty.str) (Ty.pair (Ty.int IntKind.i64) (Ty.pair (Ty.int IntKind.i64) (Ty.pair Ty.bool (Ty.pair (Ty.int IntKind.i64) (Ty.pair (Ty.int IntKind.i64) (Ty.pair (Ty.int IntKind.i64) (Ty.pair Ty.bool (Ty.pair Ty.bool Ty.unit))))))))))).snd.snd.snd.snd.snd.snd.snd.fst, (List.getD r1 (Int.toNat s6) (Ty.zero (Ty.pair (Ty.slc Ty.str) (Ty.pair (Ty.int IntKind.i64) (Ty.pair (Ty.int IntKind.i64) (Ty.pair Ty.bool (Ty.pair (Ty.int IntKind.i64) (Ty.pair (Ty.int IntKind.i64) (Ty.pair (Ty.int IntKind.i64) (Ty.pair Ty.bool (Ty.pair Ty.bool Ty.unit))))))))))).snd.snd.snd.snd.snd.snd.snd.snd.fst)))
    else
    some (.inl (s5, s6, IntKind.wrap IntKind.i64 (s7 + (1 : Int)), m0_0, m0_1, m0_2, m0_3, m0_4, m0_5, m0_6, m0_7, m0_8, r1))
  else
  some (.inr (.inl (s5, s6, m0_0, m0_1, m0_2, m0_3, m0_4, m0_5, m0_6, m0_7, m0_8, r1)))
def intaglioref17_Find_L2_P : (List UInt8) × Int × Int × (List UInt8) × Int × Int × Bool × Int × Int × Int × Bool × Bool × (List ((List (List UInt8)) × Int × Int × Bool × Int × Int × Int × Bool × Bool × Unit)) → Option (((List UInt8) × Int × Int × (List UInt8) × Int × Int × Bool × Int × Int × Int × Bool × Bool × (List ((List (List UInt8)) × Int × Int × Bool × Int × Int × Int × Bool × Bool × Unit))) ⊕ (((List UInt8) × Int × (List UInt8) × Int × Int × Bool × Int × Int × Int × Bool × Bool × (List ((List (List UInt8)) × Int × Int × Bool × Int × Int × Int × Bool × Bool × Unit))) ⊕ (Bool × (List UInt8) × Int × Int × Bool × Int × Int × Int × Bool × Bool))) := fun p => intaglioref17_Find_L2 p.1 p.2.1 p.2.2.1 p.2.2.2.1 p.2.2.2.2.1 p.2.2.2.2.2.1 p.2.2.2.2.2.2.1 p.2.2.2.2.2.2.2.1 p.2.2.2.2.2.2.2.2.1 p.2.2.2.2.2.2.2.2.2.1 p.2.2.2.2.2.2.2.2.2.2.1 p.2.2.2.2.2.2.2.2.2.2.2.1 p.2.2.2.2.2.2.2.2.2.2.2.2
def intaglioref17_Find_L2_MM : HL [.str, (.int .i64), (.int .i64), .str, (.int .i64), (.int .i64), .bool, (.int .i64), (.int .i64), (.int .i64), .bool, .bool, (.slc (.pair (.slc .str) (.pair (.int .i64) (.pair (.int .i64) (.pair .bool (.pair (.int .i64) (.pair (.int .i64) (.pair (.int .i64) (.pair .bool (.pair .bool .unit))))))))))] → Option (HL [.str, (.int .i64), (.int .i64), .str, (.int .i64), (.int .i64), .bool, (.int .i64), (.int .i64), (.int .i64), .bool, .bool, (.slc (.pair (.slc .str) (.pair (.int .i64) (.pair (.int .i64) (.pair .bool (.pair (.int .i64) (.pair (.int .i64) (.pair (.int .i64) (.pair .bool (.pair .bool .unit))))))))))] ⊕ SumL [[.str, (.int .i64), .str, (.int .i64), (.int .i64), .bool, (.int .i64), (.int .i64), (.int .i64), .bool, .bool, (.slc (.pair (.slc .str) (.pair (.int .i64) (.pair (.int .i64) (.pair .bool (.pair (.int .i64) (.pair (.int .i64) (.pair (.int .i64) (.pair .bool (.pair .bool .unit))))))))))], [.bool, .str, (.int .i64), (.int .i64), .bool, (.int .i64), (.int .i64), (.int .i64), .bool, .bool]]) := fun p => intaglioref17_Find_L2 p.1 p.2.1 p.2.2.1 p.2.2.2.1 p.2.2.2.2.1 p.2.2.2.2.2.1 p.2.2.2.2.2.2.1 p.2.2.2.2.2.2.2.1 p.2.2.2.2.2.2.2.2.1 p.2.2.2.2.2.2.2.2.2.1 p.2.2.2.2.2.2.2.2.2.2.1 p.2.2.2.2.2.2.2.2.2.2.2.1 p.2.2.2.2.2.2.2.2.2.2.2.2
def intaglioref17_Find_L2_C : Con := ⟨1, intaglioref17_Find_L2_T, intaglioref17_Find_L2_O, stdCn [.str, (.int .i64), (.int .i64), .str, (.int .i64), (.int .i64), .bool, (.int .i64), (.int .i64), (.int .i64), .bool, .bool, (.slc (.pair (.slc .str) (.pair (.int .i64) (.pair (.int .i64) (.pair .bool (.pair (.int .i64) (.pair (.int .i64) (.pair (.int .i64) (.pair .bool (.pair .bool .unit))))))))))] [[.str, (.int .i64), .str, (.int .i64), (.int .i64), .bool, (.int .i64), (.int .i64), (.int .i64), .bool, .bool, (.slc (.pair (.slc .str) (.pair (.int .i64) (.pair (.int .i64) (.pair .bool (.pair (.int .i64) (.pair (.int .i64) (.pair (.int .i64) (.pair .bool (.pair .bool .unit))))))))))], [.bool, .str, (.int .i64), (.int .i64), .bool, (.int .i64), (.int .i64), (.int .i64), .bool, .bool]] (loop intaglioref17_Find_L2_MM)⟩
def intaglioref17_Find_L1_T : Tm := ⟨[(2, false, [.ptr 0 0]), (4, false, [.row 1]), (5, false, [.hole .str]), (6, false, [.hole (.int .i64)])], 61, [.box [.hole .str, .hole (.int .i64), .hole (.int .i64), .hole .bool, .hole (.int .i64), .hole (.int .i64), .hole (.int .i64), .hole .bool, .hole .bool], .row (.pair (.slc .str) (.pair (.int .i64) (.pair (.int .i64) (.pair .bool (.pair (.int .i64) (.pair (.int .i64) (.pair (.int .i64) (.pair .bool (.pair .bool .unit)))))))))]⟩
def intaglioref17_Find_L1_O : List (Ex × Tm) := [(.exit 0, ⟨[(2, false, [.ptr 0 0])], 61, [.box [.hole .str, .hole (.int .i64), .hole (.int .i64), .hole .bool, .hole (.int .i64), .hole (.int .i64), .hole (.int .i64), .hole .bool, .hole .bool]]⟩), (.ret, ⟨[(2, false, [.ptr 0 0]), (3, false, [.hole .bool])], 61, [.box [.hole .str, .hole (.int .i64), .hole (.int .i64), .hole .bool, .hole (.int .i64), .hole (.int .i64), .hole (.int .i64), .hole .bool, .hole .bool]]⟩)]
def intaglioref17_Find_L1 (s5 : List UInt8) (s6 : Int) (m0_0 : List UInt8) (m0_1 : Int) (m0_2 : Int) (m0_3 : Bool) (m0_4 : Int) (m0_5 : Int) (m0_6 : Int) (m0_7 : Bool) (m0_8 : Bool) (r1 : List ((List (List UInt8)) × Int × Int × Bool × Int × Int × Int × Bool × Bool × Unit)) : Option (((List UInt8) × Int × (List UInt8) × Int × Int × Bool × Int × Int × Int × Bool × Bool × (List ((List (List UInt8)) × Int × Int × Bool × Int × Int × Int × Bool × Bool × Unit))) ⊕ (((List UInt8) × Int × Int × Bool × Int × Int × Int × Bool × Bool) ⊕ (Bool × (List UInt8) × Int × Int × Bool × Int × Int × Int × Bool × Bool))) :=
  if decide (s6 < (((List.length r1) : Nat) : Int)) = true then
    Option.bind (loop intaglioref17_Find_L2_P (s5, s6, (0 : Int), m0_0, m0_1, m0_2, m0_3, m0_4, m0_5, m0_6, m0_7, m0_8, r1)) fun (v0 : (((List UInt8) × (Int × ((List UInt8) × (Int × (Int × (Bool × (Int × (Int × (Int × (Bool × (Bool × (List ((List (List UInt8)) × (Int × (Int × (Bool × (Int × (Int × (Int × (Bool × (Bool × Unit))))))))))))))))))))) ⊕ (Bool × ((List UInt8) × (Int × (Int × (Bool × (Int × (Int × (Int × (Bool × Bool))))))))))) =>
    Sum.elim (fun (v1 : ((List UInt8) × (Int × ((List UInt8) × (Int × (Int × (Bool × (Int × (Int × (Int × (Bool × (Bool × (List ((List (List UInt8)) × (Int × (Int × (Bool × (Int × (Int × (Int × (Bool × (Bool × Unit)))))))))))))))))))))) =>
        some (.inl (v1.fst, IntKind.wrap IntKind.i64 (v1.snd.fst + (1 : Int)), v1.snd.snd.fst, v1.snd.snd.snd.fst, v1.snd.snd.snd.snd.fst, v1.snd.snd.snd.snd.snd.fst, v1.snd.snd.snd.snd.snd.snd.fst, v1.snd.snd.snd.snd.snd.snd.snd.fst, v1.snd.snd.snd.snd.snd.snd.snd.snd.fst, v1.snd.snd.snd.snd.snd.snd.snd.snd.snd.fst, v1.snd.snd.snd.snd.snd.snd.snd.snd.snd.snd.fst, v1.snd.snd.snd.snd.snd.snd.snd.snd.snd.snd.snd))
      ) (fun (v2 : (Bool × ((List UInt8) × (Int × (Int × (Bool × (Int × (Int × (Int × (Bool × Bool)))))))))) =>
      some (.inr (.inr (v2.fst, v2.snd.fst, v2.snd.snd.fst, v2.snd.snd.snd.fst, v2.snd.snd.snd.snd.fst, v2.snd.snd.snd.snd.snd.fst, v2.snd.snd.snd.snd.snd.snd.fst, v2.snd.snd.snd.snd.snd.snd.snd.fst, v2.snd.snd.snd.snd.snd.snd.snd.snd.fst, v2.snd.snd.snd.snd.snd.snd.snd.snd.snd)))
    ) (v0)
  else
  some (.inr (.inl (m0_0, m0_1, m0_2, m0_3, m0_4, m0_5, m0_6, m0_7, m0_8)))
def intaglioref17_Find_L1_P : (List UInt8) × Int × (List UInt8) × Int × Int × Bool × Int × Int × Int × Bool × Bool × (List ((List (List UInt8)) × Int × Int × Bool × Int × Int × Int × Bool × Bool × Unit)) → Option (((List UInt8) × Int × (List UInt8) × Int × Int × Bool × Int × Int × Int × Bool × Bool × (List ((List (List UInt8)) × Int × Int × Bool × Int × Int × Int × Bool × Bool × Unit))) ⊕ (((List UInt8) × Int × Int × Bool × Int × Int × Int × Bool × Bool) ⊕ (Bool × (List UInt8) × Int × Int × Bool × Int × Int × Int × Bool × Bool))) := fun p => intaglioref17_Find_L1 p.1 p.2.1 p.2.2.1 p.2.2.2.1 p.2.2.2.2.1 p.2.2.2.2.2.1 p.2.2.2.2.2.2.1 p.2.2.2.2.2.2.2.1 p.2.2.2.2.2.2.2.2.1 p.2.2.2.2.2.2.2.2.2.1 p.2.2.2.2.2.2.2.2.2.2.1 p.2.2.2.2.2.2.2.2.2.2.2
def intaglioref17_Find_L1_MM : HL [.str, (.int .i64), .str, (.int .i64), (.int .i64), .bool, (.int .i64), (.int .i64), (.int .i64), .bool, .bool, (.slc (.pair (.slc .str) (.pair (.int .i64) (.pair (.int .i64) (.pair .bool (.pair (.int .i64) (.pair (.int .i64) (.pair (.int .i64) (.pair .bool (.pair .bool .unit))))))))))] → Option (HL [.str, (.int .i64), .str, (.int .i64), (.int .i64), .bool, (.int .i64), (.int .i64), (.int .i64), .bool, .bool, (.slc (.pair (.slc .str) (.pair (.int .i64) (.pair (.int .i64) (.pair .bool (.pair (.int .i64) (.pair (.int .i64) (.pair (.int .i64) (.pair .bool (.pair .bool .unit))))))))))] ⊕ SumL [[.str, (.int .i64), (.int .i64), .bool, (.int .i64), (.int .i64), (.int .i64), .bool, .bool], [.bool, .str, (.int .i64), (.int .i64), .bool, (.int .i64), (.int .i64), (.int .i64), .bool, .bool]]) := fun p => intaglioref17_Find_L1 p.1 p.2.1 p.2.2.1 p.2.2.2.1 p.2.2.2.2.1 p.2.2.2.2.2.1 p.2.2.2.2.2.2.1 p.2.2.2.2.2.2.2.1 p.2.2.2.2.2.2.2.2.1 p.2.2.2.2.2.2.2.2.2.1 p.2.2.2.2.2.2.2.2.2.2.1 p.2.2.2.2.2.2.2.2.2.2.2
def intaglioref17_Find_L1_C : Con := ⟨1, intaglioref17_Find_L1_T, intaglioref17_Find_L1_O, stdCn [.str, (.int .i64), .str, (.int .i64), (.int .i64), .bool, (.int .i64), (.int .i64), (.int .i64), .bool, .bool, (.slc (.pair (.slc .str) (.pair (.int .i64) (.pair (.int .i64) (.pair .bool (.pair (.int .i64) (.pair (.int .i64) (.pair (.int .i64) (.pair .bool (.pair .bool .unit))))))))))] [[.str, (.int .i64), (.int .i64), .bool, (.int .i64), (.int .i64), (.int .i64), .bool, .bool], [.bool, .str, (.int .i64), (.int .i64), .bool, (.int .i64), (.int .i64), (.int .i64), .bool, .bool]] (loop intaglioref17_Find_L1_MM)⟩
def intaglioref17_Find_T : Tm := ⟨[(0, false, [.hole .str])], 1, []⟩
def intaglioref17_Find_O : List (Ex × Tm) := [(.ret, ⟨[(0, true, [.hole .str, .hole (.int .i64), .hole (.int .i64), .hole .bool, .hole (.int .i64), .hole (.int .i64), .hole (.int .i64), .hole .bool, .hole .bool]), (1, false, [.hole .bool])], 2, []⟩)]
def intaglioref17_Find_M (s0 : List UInt8) : Option ((List UInt8) × Int × Int × Bool × Int × Int × Int × Bool × Bool × Bool) :=
  Option.bind (intaglioref17_table_P ()) fun (v0 : (List ((List (List UInt8)) × (Int × (Int × (Bool × (Int × (Int × (Int × (Bool × (Bool × Unit))))))))))) =>
  Option.bind (intaglioref17_Upper_P s0) fun (v1 : (List UInt8)) =>
  Option.bind (loop intaglioref17_Find_L1_P (v1, (0 : Int), [], (0 : Int), (0 : Int), false, (0 : Int), (0 : Int), (0 : Int), false, false, v0)) fun (v2 : (((List UInt8) × (Int × (Int × (Bool × (Int × (Int × (Int × (Bool × Bool)))))))) ⊕ (Bool × ((List UInt8) × (Int × (Int × (Bool × (Int × (Int × (Int × (Bool × Bool))))))))))) =>
  Sum.elim (fun (v3 : ((List UInt8) × (Int × (Int × (Bool × (Int × (Int × (Int × (Bool × Bool))))))))) =>
      some ([], (0 : Int), (0 : Int), false, (0 : Int), (0 : Int), (0 : Int), false, false, false)
    ) (fun (v4 : (Bool × ((List UInt8) × (Int × (Int × (Bool × (Int × (Int × (Int × (Bool × Bool)))))))))) =>
    some (v4.snd.fst, v4.snd.snd.fst, v4.snd.snd.snd.fst, v4.snd.snd.snd.snd.fst, v4.snd.snd.snd.snd.snd.fst, v4.snd.snd.snd.snd.snd.snd.fst, v4.snd.snd.snd.snd.snd.snd.snd.fst, v4.snd.snd.snd.snd.snd.snd.snd.snd.fst, v4.snd.snd.snd.snd.snd.snd.snd.snd.snd, v4.fst)
  ) (v2)
def intaglioref17_Find_P : (List UInt8) → Option ((List UInt8) × Int × Int × Bool × Int × Int × Int × Bool × Bool × Bool) := fun p => intaglioref17_Find_M p
def intaglioref17_Find_MM : HL [.str] → Option (SumL [[.str, (.int .i64), (.int .i64), .bool, (.int .i64), (.int .i64), (.int .i64), .bool, .bool, .bool]]) := fun p => intaglioref17_Find_M p
def intaglioref17_Find_C : Con := ⟨0, intaglioref17_Find_T, intaglioref17_Find_O, stdCn [.str] [[.str, (.int .i64), (.int .i64), .bool, (.int .i64), (.int .i64), (.int .i64), .bool, .bool, .bool]] intaglioref17_Find_MM⟩

def intagliolaw17_same_T : Tm := ⟨[(0, true, [.hole (.int .i64), .hole (.int .i64), .hole (.int .i64), .hole .str, .hole (.int .i64), .hole (.int .i64), .hole .bool, .hole .bool, .hole .bool]), (1, true, [.hole .str, .hole (.int .i64), .hole (.int .i64), .hole .bool, .hole (.int .i64), .hole (.int .i64), .hole (.int .i64), .hole .bool, .hole .bool])], 2, []⟩
def intagliolaw17_same_O : List (Ex × Tm) := [(.ret, ⟨[(0, false, [.hole .bool])], 1, []⟩)]
def intagliolaw17_same_M (s0_0 : Int) (s0_1 : Int) (s0_2 : Int) (s0_3 : List UInt8) (s0_4 : Int) (s0_5 : Int) (s0_6 : Bool) (s0_7 : Bool) (s0_8 : Bool) (s1_0 : List UInt8) (s1_1 : Int) (s1_2 : Int) (s1_3 : Bool) (s1_4 : Int) (s1_5 : Int) (s1_6 : Int) (s1_7 : Bool) (s1_8 : Bool) : Option (Bool) :=
  if (s0_3 == s1_0) = true then
    if (s0_4 == s1_1) = true then
      if (s0_5 == s1_2) = true then
        if (s0_6 == s1_3) = true then
          if (s0_0 == s1_4) = true then
            if (s0_1 == s1_5) = true then
              if (s0_2 == s1_6) = true then
                if (s0_7 == s1_7) = true then
                  some (s0_8 == s1_8)
                else
                some (false)
              else
              some (false)
            else
            some (false)
          else
          some (false)
        else
        some (false)
      else
      some (false)
    else
    some (false)
  else
  some (false)
def intagliolaw17_same_P : Int × Int × Int × (List UInt8) × Int × Int × Bool × Bool × Bool × (List UInt8) × Int × Int × Bool × Int × Int × Int × Bool × Bool → Option (Bool) := fun p => intagliolaw17_same_M p.1 p.2.1 p.2.2.1 p.2.2.2.1 p.2.2.2.2.1 p.2.2.2.2.2.1 p.2.2.2.2.2.2.1 p.2.2.2.2.2.2.2.1 p.2.2.2.2.2.2.2.2.1 p.2.2.2.2.2.2.2.2.2.1 p.2.2.2.2.2.2.2.2.2.2.1 p.2.2.2.2.2.2.2.2.2.2.2.1 p.2.2.2.2.2.2.2.2.2.2.2.2.1 p.2.2.2.2.2.2.2.2.2.2.2.2.2.1 p.2.2.2.2.2.2.2.2.2.2.2.2.2.2.1 p.2.2.2.2.2.2.2.2.2.2.2.2.2.2.2.1 p.2.2.2.2.2.2.2.2.2.2.2.2.2.2.2.2.1 p.2.2.2.2.2.2.2.2.2.2.2.2.2.2.2.2.2
def intagliolaw17_same_MM : HL [(.int .i64), (.int .i64), (.int .i64), .str, (.int .i64), (.int .i64), .bool, .bool, .bool, .str, (.int .i64), (.int .i64), .bool, (.int .i64), (.int .i64), (.int .i64), .bool, .bool] → Option (SumL [[.bool]]) := fun p => intagliolaw17_same_M p.1 p.2.1 p.2.2.1 p.2.2.2.1 p.2.2.2.2.1 p.2.2.2.2.2.1 p.2.2.2.2.2.2.1 p.2.2.2.2.2.2.2.1 p.2.2.2.2.2.2.2.2.1 p.2.2.2.2.2.2.2.2.2.1 p.2.2.2.2.2.2.2.2.2.2.1 p.2.2.2.2.2.2.2.2.2.2.2.1 p.2.2.2.2.2.2.2.2.2.2.2.2.1 p.2.2.2.2.2.2.2.2.2.2.2.2.2.1 p.2.2.2.2.2.2.2.2.2.2.2.2.2.2.1 p.2.2.2.2.2.2.2.2.2.2.2.2.2.2.2.1 p.2.2.2.2.2.2.2.2.2.2.2.2.2.2.2.2.1 p.2.2.2.2.2.2.2.2.2.2.2.2.2.2.2.2.2
def intagliolaw17_same_C : Con := ⟨0, intagliolaw17_same_T, intagliolaw17_same_O, stdCn [(.int .i64), (.int .i64), (.int .i64), .str, (.int .i64), (.int .i64), .bool, .bool, .bool, .str, (.int .i64), (.int .i64), .bool, (.int .i64), (.int .i64), (.int .i64), .bool, .bool] [[.bool]] intagliolaw17_same_MM⟩

def intagliolaw17_VerbSpecs_T : Tm := ⟨[(0, false, [.hole .str])], 1, []⟩
def intagliolaw17_VerbSpecs_O : List (Ex × Tm) := [(.ret, ⟨[(0, false, [.hole .bool])], 1, []⟩)]
def intagliolaw17_VerbSpecs_M (s0 : List UInt8) : Option (Bool) :=
  if decide ((((List.length s0) : Nat) : Int) > (200 : Int)) = true then
    Option.bind (intagliolaw17_awake_P ()) fun (v0 : Bool) =>
    some (v0)
  else
  Option.bind (verb_Find_P s0) fun (v1 : (Int × (Int × (Int × ((List UInt8) × (Int × (Int × (Bool × (Bool × (Bool × Bool)))))))))) =>
  Option.bind (intaglioref17_Find_P s0) fun (v2 : ((List UInt8) × (Int × (Int × (Bool × (Int × (Int × (Int × (Bool × (Bool × Bool)))))))))) =>
  if (v1.snd.snd.snd.snd.snd.snd.snd.snd.snd == v2.snd.snd.snd.snd.snd.snd.snd.snd.snd) = true then
    Option.bind (intagliolaw17_same_P (v1.fst, v1.snd.fst, v1.snd.snd.fst, v1.snd.snd.snd.fst, v1.snd.snd.snd.snd.fst, v1.snd.snd.snd.snd.snd.fst, v1.snd.snd.snd.snd.snd.snd.fst, v1.snd.snd.snd.snd.snd.snd.snd.fst, v1.snd.snd.snd.snd.snd.snd.snd.snd.fst, v2.fst, v2.snd.fst, v2.snd.snd.fst, v2.snd.snd.snd.fst, v2.snd.snd.snd.snd.fst, v2.snd.snd.snd.snd.snd.fst, v2.snd.snd.snd.snd.snd.snd.fst, v2.snd.snd.snd.snd.snd.snd.snd.fst, v2.snd.snd.snd.snd.snd.snd.snd.snd.fst)) fun (v3 : Bool) =>
    if v3 = true then
      Option.bind (verb_Upper_P s0) fun (v4 : (List UInt8)) =>
      Option.bind (intaglioref17_Upper_P s0) fun (v5 : (List UInt8)) =>
      if (v4 == v5) = true then
        Option.bind (intagliolaw17_awake_P ()) fun (v6 : Bool) =>
        some (v6)
      else
      some (false)
    else
    some (false)
  else
  some (false)
def intagliolaw17_VerbSpecs_P : (List UInt8) → Option (Bool) := fun p => intagliolaw17_VerbSpecs_M p
def intagliolaw17_VerbSpecs_MM : HL [.str] → Option (SumL [[.bool]]) := fun p => intagliolaw17_VerbSpecs_M p
def intagliolaw17_VerbSpecs_C : Con := ⟨0, intagliolaw17_VerbSpecs_T, intagliolaw17_VerbSpecs_O, stdCn [.str] [[.bool]] intagliolaw17_VerbSpecs_MM⟩

def intaglioref17_Text_T : Tm := ⟨[(0, false, [.hole (.int .i64)])], 1, []⟩
def intaglioref17_Text_O : List (Ex × Tm) := [(.ret, ⟨[(0, false, [.hole .str])], 1, []⟩)]
def intaglioref17_Text_S (self : Int → Option ((List UInt8))) (s0 : Int) : Option ((List UInt8)) :=
  if decide (s0 ≥ (0 : Int)) = true then
    if decide (s0 < (10 : Int)) = true then
      some (b8 [IntKind.wrap IntKind.u8 (IntKind.wrap IntKind.i64 ((48 : Int) + s0))])
    else
    if decide (s0 ≥ (0 : Int)) = true then
      Option.bind (gquo IntKind.i64 s0 (10 : Int)) fun (v0 : Int) =>
      Option.bind (self v0) fun (v1 : (List UInt8)) =>
      Option.bind (grem IntKind.i64 s0 (10 : Int)) fun (v2 : Int) =>
      Option.bind (self v2) fun (v3 : (List UInt8)) =>
      Option.bind (room (1 : Nat) (List.length v1 + List.length v3)) fun _ =>
      some (v1 ++ v3)
    else
    if decide (s0 > (-10 : Int)) = true then
      Option.bind (self (IntKind.wrap IntKind.i64 ((0 : Int) - s0))) fun (v5 : (List UInt8)) =>
      Option.bind (room (1 : Nat) ((1 : Nat) + List.length v5)) fun _ =>
      some ([(45 : UInt8)] ++ v5)
    else
    Option.bind (gquo IntKind.i64 s0 (10 : Int)) fun (v7 : Int) =>
    Option.bind (self v7) fun (v8 : (List UInt8)) =>
    Option.bind (grem IntKind.i64 s0 (10 : Int)) fun (v9 : Int) =>
    Option.bind (self (IntKind.wrap IntKind.i64 ((0 : Int) - v9))) fun (v10 : (List UInt8)) =>
    Option.bind (room (1 : Nat) (List.length v8 + List.length v10)) fun _ =>
    some (v8 ++ v10)
  else
  if decide (s0 ≥ (0 : Int)) = true then
    Option.bind (gquo IntKind.i64 s0 (10 : Int)) fun (v12 : Int) =>
    Option.bind (self v12) fun (v13 : (List UInt8)) =>
    Option.bind (grem IntKind.i64 s0 (10 : Int)) fun (v14 : Int) =>
    Option.bind (self v14) fun (v15 : (List UInt8)) =>
    Option.bind (room (1 : Nat) (List.length v13 + List.length v15)) fun _ =>
    some (v13 ++ v15)
  else
  if decide (s0 > (-10 : Int)) = true then
    Option.bind (self (IntKind.wrap IntKind.i64 ((0 : Int) - s0))) fun (v17 : (List UInt8)) =>
    Option.bind (room (1 : Nat) ((1 : Nat) + List.length v17)) fun _ =>
    some ([(45 : UInt8)] ++ v17)
  else
  Option.bind (gquo IntKind.i64 s0 (10 : Int)) fun (v19 : Int) =>
  Option.bind (self v19) fun (v20 : (List UInt8)) =>
  Option.bind (grem IntKind.i64 s0 (10 : Int)) fun (v21 : Int) =>
  Option.bind (self (IntKind.wrap IntKind.i64 ((0 : Int) - v21))) fun (v22 : (List UInt8)) =>
  Option.bind (room (1 : Nat) (List.length v20 + List.length v22)) fun _ =>
  some (v20 ++ v22)
def intaglioref17_Text_F : Nat → Int → Option ((List UInt8))
  | 0 => fun _ => none
  | n + 1 => fun p => intaglioref17_Text_S (intaglioref17_Text_F n) p
def intaglioref17_Text_MF (n : Nat) : HL [(.int .i64)] → Option (SumL [[.str]]) := fun p => intaglioref17_Text_F n p
def intaglioref17_Text_CF (n : Nat) : Con := ⟨0, intaglioref17_Text_T, intaglioref17_Text_O, stdCn [(.int .i64)] [[.str]] (intaglioref17_Text_MF n)⟩
def intaglioref17_Text_M (s0 : Int) : Option ((List UInt8)) := intaglioref17_Text_F fuel s0
def intaglioref17_Text_P : Int → Option ((List UInt8)) := fun p => intaglioref17_Text_M p
def intaglioref17_Text_MM : HL [(.int .i64)] → Option (SumL [[.str]]) := fun p => intaglioref17_Text_M p
def intaglioref17_Text_C : Con := ⟨0, intaglioref17_Text_T, intaglioref17_Text_O, stdCn [(.int .i64)] [[.str]] intaglioref17_Text_MM⟩

def intaglioref17_Int_L1_T : Tm := ⟨[(0, false, [.hole .str]), (4, false, [.hole (.int .i64)]), (5, false, [.hole (.int .i64)]), (6, false, [.hole (.int .i64)])], 65, []⟩
def intaglioref17_Int_L1_O : List (Ex × Tm) := [(.exit 0, ⟨[(0, false, [.hole .str]), (4, false, [.hole (.int .i64)]), (5, false, [.hole (.int .i64)])], 65, []⟩), (.ret, ⟨[(2, false, [.hole (.int .i64)]), (3, false, [.hole .bool])], 65, []⟩)]
def intaglioref17_Int_L1 (s0 : List UInt8) (s4 : Int) (s5 : Int) (s6 : Int) : Option (((List UInt8) × Int × Int × Int) ⊕ (((List UInt8) × Int × Int) ⊕ (Int × Bool))) :=
  if decide (s6 < (((List.length s0) : Nat) : Int)) = true then
    Option.bind (ix s0 s6) fun (v0 : UInt8) =>
    if decide (IntKind.wrap IntKind.i64 (IntKind.wrap IntKind.i64 (((UInt8.toNat v0) : Nat) : Int) - (48 : Int)) < (0 : Int)) = true then
      some (.inr (.inr ((0 : Int), false)))
    else
    if decide (IntKind.wrap IntKind.i64 (IntKind.wrap IntKind.i64 (((UInt8.toNat v0) : Nat) : Int) - (48 : Int)) > (9 : Int)) = true then
      some (.inr (.inr ((0 : Int), false)))
    else
    Option.bind (gquo IntKind.i64 (IntKind.wrap IntKind.i64 ((-9223372036854775808 : Int) + IntKind.wrap IntKind.i64 (IntKind.wrap IntKind.i64 (((UInt8.toNat v0) : Nat) : Int) - (48 : Int)))) (10 : Int)) fun (v1 : Int) =>
    if decide (s5 < v1) = true then
      some (.inr (.inr ((0 : Int), false)))
    else
    some (.inl (s0, s4, IntKind.wrap IntKind.i64 (IntKind.wrap IntKind.i64 ((10 : Int) * s5) - IntKind.wrap IntKind.i64 (IntKind.wrap IntKind.i64 (((UInt8.toNat v0) : Nat) : Int) - (48 : Int))), IntKind.wrap IntKind.i64 (s6 + (1 : Int))))
  else
  some (.inr (.inl (s0, s4, s5)))
def intaglioref17_Int_L1_P : (List UInt8) × Int × Int × Int → Option (((List UInt8) × Int × Int × Int) ⊕ (((List UInt8) × Int × Int) ⊕ (Int × Bool))) := fun p => intaglioref17_Int_L1 p.1 p.2.1 p.2.2.1 p.2.2.2
def intaglioref17_Int_L1_MM : HL [.str, (.int .i64), (.int .i64), (.int .i64)] → Option (HL [.str, (.int .i64), (.int .i64), (.int .i64)] ⊕ SumL [[.str, (.int .i64), (.int .i64)], [(.int .i64), .bool]]) := fun p => intaglioref17_Int_L1 p.1 p.2.1 p.2.2.1 p.2.2.2
def intaglioref17_Int_L1_C : Con := ⟨0, intaglioref17_Int_L1_T, intaglioref17_Int_L1_O, stdCn [.str, (.int .i64), (.int .i64), (.int .i64)] [[.str, (.int .i64), (.int .i64)], [(.int .i64), .bool]] (loop intaglioref17_Int_L1_MM)⟩
def intaglioref17_Int_T : Tm := ⟨[(0, false, [.hole .str])], 1, []⟩
def intaglioref17_Int_O : List (Ex × Tm) := [(.ret, ⟨[(0, false, [.hole (.int .i64)]), (1, false, [.hole .bool])], 2, []⟩)]
def intaglioref17_Int_M (s0 : List UInt8) : Option (Int × Bool) :=
  if decide ((((List.length s0) : Nat) : Int) > (0 : Int)) = true then
    Option.bind (ix s0 (0 : Int)) fun (v0 : UInt8) =>
    if ((((UInt8.toNat v0) : Nat) : Int) == (45 : Int)) = true then
      if ((((List.length s0) : Nat) : Int) == (1 : Int)) = true then
        some ((0 : Int), false)
      else
      if decide ((((List.length s0) : Nat) : Int) > (20 : Int)) = true then
        some ((0 : Int), false)
      else
      Option.bind (loop intaglioref17_Int_L1_P (s0, (1 : Int), (0 : Int), (1 : Int))) fun (v1 : (((List UInt8) × (Int × Int)) ⊕ (Int × Bool))) =>
      Sum.elim (fun (v2 : ((List UInt8) × (Int × Int))) =>
          if (v2.snd.fst == (0 : Int)) = true then
            if (v2.snd.snd == (-9223372036854775808 : Int)) = true then
              some ((0 : Int), false)
            else
            Option.bind (intaglioref17_Text_P (IntKind.wrap IntKind.i64 ((0 : Int) - v2.snd.snd))) fun (v4 : (List UInt8)) =>
            if (!v4 == v2.fst) = true then
              some ((0 : Int), false)
            else
            some (IntKind.wrap IntKind.i64 ((0 : Int) - v2.snd.snd), true)
          else
          Option.bind (intaglioref17_Text_P v2.snd.snd) fun (v5 : (List UInt8)) =>
          if (!v5 == v2.fst) = true then
            some ((0 : Int), false)
          else
          some (v2.snd.snd, true)
        ) (fun (v3 : (Int × Bool)) =>
        some (v3.fst, v3.snd)
      ) (v1)
    else
    if ((((List.length s0) : Nat) : Int) == (0 : Int)) = true then
      some ((0 : Int), false)
    else
    if decide ((((List.length s0) : Nat) : Int) > (20 : Int)) = true then
      some ((0 : Int), false)
    else
    Option.bind (loop intaglioref17_Int_L1_P (s0, (0 : Int), (0 : Int), (0 : Int))) fun (v6 : (((List UInt8) × (Int × Int)) ⊕ (Int × Bool))) =>
    Sum.elim (fun (v7 : ((List UInt8) × (Int × Int))) =>
        if (v7.snd.fst == (0 : Int)) = true then
          if (v7.snd.snd == (-9223372036854775808 : Int)) = true then
            some ((0 : Int), false)
          else
          Option.bind (intaglioref17_Text_P (IntKind.wrap IntKind.i64 ((0 : Int) - v7.snd.snd))) fun (v9 : (List UInt8)) =>
          if (!v9 == v7.fst) = true then
            some ((0 : Int), false)
          else
          some (IntKind.wrap IntKind.i64 ((0 : Int) - v7.snd.snd), true)
        else
        Option.bind (intaglioref17_Text_P v7.snd.snd) fun (v10 : (List UInt8)) =>
        if (!v10 == v7.fst) = true then
          some ((0 : Int), false)
        else
        some (v7.snd.snd, true)
      ) (fun (v8 : (Int × Bool)) =>
      some (v8.fst, v8.snd)
    ) (v6)
  else
  if ((((List.length s0) : Nat) : Int) == (0 : Int)) = true then
    some ((0 : Int), false)
  else
  if decide ((((List.length s0) : Nat) : Int) > (20 : Int)) = true then
    some ((0 : Int), false)
  else
  Option.bind (loop intaglioref17_Int_L1_P (s0, (0 : Int), (0 : Int), (0 : Int))) fun (v11 : (((List UInt8) × (Int × Int)) ⊕ (Int × Bool))) =>
  Sum.elim (fun (v12 : ((List UInt8) × (Int × Int))) =>
      if (v12.snd.fst == (0 : Int)) = true then
        if (v12.snd.snd == (-9223372036854775808 : Int)) = true then
          some ((0 : Int), false)
        else
        Option.bind (intaglioref17_Text_P (IntKind.wrap IntKind.i64 ((0 : Int) - v12.snd.snd))) fun (v14 : (List UInt8)) =>
        if (!v14 == v12.fst) = true then
          some ((0 : Int), false)
        else
        some (IntKind.wrap IntKind.i64 ((0 : Int) - v12.snd.snd), true)
      else
      Option.bind (intaglioref17_Text_P v12.snd.snd) fun (v15 : (List UInt8)) =>
      if (!v15 == v12.fst) = true then
        some ((0 : Int), false)
      else
      some (v12.snd.snd, true)
    ) (fun (v13 : (Int × Bool)) =>
    some (v13.fst, v13.snd)
  ) (v11)
def intaglioref17_Int_P : (List UInt8) → Option (Int × Bool) := fun p => intaglioref17_Int_M p
def intaglioref17_Int_MM : HL [.str] → Option (SumL [[(.int .i64), .bool]]) := fun p => intaglioref17_Int_M p
def intaglioref17_Int_C : Con := ⟨0, intaglioref17_Int_T, intaglioref17_Int_O, stdCn [.str] [[(.int .i64), .bool]] intaglioref17_Int_MM⟩

def intagliolaw17_VerbInts_T : Tm := ⟨[(0, false, [.hole .str])], 1, []⟩
def intagliolaw17_VerbInts_O : List (Ex × Tm) := [(.ret, ⟨[(0, false, [.hole .bool])], 1, []⟩)]
def intagliolaw17_VerbInts_M (s0 : List UInt8) : Option (Bool) :=
  if decide ((((List.length s0) : Nat) : Int) > (200 : Int)) = true then
    Option.bind (intagliolaw17_awake_P ()) fun (v0 : Bool) =>
    some (v0)
  else
  Option.bind (verb_Int_P s0) fun (v1 : (Int × Bool)) =>
  Option.bind (intaglioref17_Int_P s0) fun (v2 : (Int × Bool)) =>
  if (v1.fst == v2.fst) = true then
    if (v1.snd == v2.snd) = true then
      Option.bind (intagliolaw17_awake_P ()) fun (v3 : Bool) =>
      some (v3)
    else
    some (false)
  else
  some (false)
def intagliolaw17_VerbInts_P : (List UInt8) → Option (Bool) := fun p => intagliolaw17_VerbInts_M p
def intagliolaw17_VerbInts_MM : HL [.str] → Option (SumL [[.bool]]) := fun p => intagliolaw17_VerbInts_M p
def intagliolaw17_VerbInts_C : Con := ⟨0, intagliolaw17_VerbInts_T, intagliolaw17_VerbInts_O, stdCn [.str] [[.bool]] intagliolaw17_VerbInts_MM⟩

def intagliolaw17_VerbNumbers_T : Tm := ⟨[(0, false, [.hole (.int .i64)])], 1, []⟩
def intagliolaw17_VerbNumbers_O : List (Ex × Tm) := [(.ret, ⟨[(0, false, [.hole .bool])], 1, []⟩)]
def intagliolaw17_VerbNumbers_M (s0 : Int) : Option (Bool) :=
  Option.bind (verb_Text_P s0) fun (v0 : (List UInt8)) =>
  Option.bind (verb_Int_P v0) fun (v1 : (Int × Bool)) =>
  Option.bind (intaglioref17_Text_P s0) fun (v2 : (List UInt8)) =>
  if (v0 == v2) = true then
    if v1.snd = true then
      if (v1.fst == s0) = true then
        Option.bind (intagliolaw17_awake_P ()) fun (v3 : Bool) =>
        some (v3)
      else
      some (false)
    else
    some (false)
  else
  some (false)
def intagliolaw17_VerbNumbers_P : Int → Option (Bool) := fun p => intagliolaw17_VerbNumbers_M p
def intagliolaw17_VerbNumbers_MM : HL [(.int .i64)] → Option (SumL [[.bool]]) := fun p => intagliolaw17_VerbNumbers_M p
def intagliolaw17_VerbNumbers_C : Con := ⟨0, intagliolaw17_VerbNumbers_T, intagliolaw17_VerbNumbers_O, stdCn [(.int .i64)] [[.bool]] intagliolaw17_VerbNumbers_MM⟩

def intaglioref17_end_L1_T : Tm := ⟨[(0, false, [.hole .str]), (4, false, [.hole (.int .i64)])], 26, []⟩
def intaglioref17_end_L1_O : List (Ex × Tm) := [(.exit 0, ⟨[], 26, []⟩), (.ret, ⟨[(2, false, [.hole (.int .i64)])], 26, []⟩)]
def intaglioref17_end_L1 (s0 : List UInt8) (s4 : Int) : Option (((List UInt8) × Int) ⊕ ((Unit) ⊕ (Int))) :=
  if decide (s4 < (((List.length s0) : Nat) : Int)) = true then
    Option.bind (ix s0 s4) fun (v0 : UInt8) =>
    if ((((UInt8.toNat v0) : Nat) : Int) == (93 : Int)) = true then
      some (.inr (.inr (s4)))
    else
    some (.inl (s0, IntKind.wrap IntKind.i64 (s4 + (1 : Int))))
  else
  some (.inr (.inl (())))
def intaglioref17_end_L1_P : (List UInt8) × Int → Option (((List UInt8) × Int) ⊕ ((Unit) ⊕ (Int))) := fun p => intaglioref17_end_L1 p.1 p.2
def intaglioref17_end_L1_MM : HL [.str, (.int .i64)] → Option (HL [.str, (.int .i64)] ⊕ SumL [[], [(.int .i64)]]) := fun p => intaglioref17_end_L1 p.1 p.2
def intaglioref17_end_L1_C : Con := ⟨0, intaglioref17_end_L1_T, intaglioref17_end_L1_O, stdCn [.str, (.int .i64)] [[], [(.int .i64)]] (loop intaglioref17_end_L1_MM)⟩
def intaglioref17_end_T : Tm := ⟨[(0, false, [.hole .str])], 1, []⟩
def intaglioref17_end_O : List (Ex × Tm) := [(.ret, ⟨[(0, false, [.hole (.int .i64)])], 1, []⟩)]
def intaglioref17_end_M (s0 : List UInt8) : Option (Int) :=
  if decide ((((List.length s0) : Nat) : Int) > (1 : Int)) = true then
    Option.bind (ix s0 (1 : Int)) fun (v0 : UInt8) =>
    if ((((UInt8.toNat v0) : Nat) : Int) == (94 : Int)) = true then
      Option.bind (loop intaglioref17_end_L1_P (s0, (3 : Int))) fun (v1 : (Unit ⊕ Int)) =>
      Sum.elim (fun _ =>
          some ((0 : Int))
        ) (fun (v3 : Int) =>
        some (v3)
      ) (v1)
    else
    Option.bind (loop intaglioref17_end_L1_P (s0, (2 : Int))) fun (v4 : (Unit ⊕ Int)) =>
    Sum.elim (fun _ =>
        some ((0 : Int))
      ) (fun (v6 : Int) =>
      some (v6)
    ) (v4)
  else
  Option.bind (loop intaglioref17_end_L1_P (s0, (2 : Int))) fun (v7 : (Unit ⊕ Int)) =>
  Sum.elim (fun _ =>
      some ((0 : Int))
    ) (fun (v9 : Int) =>
    some (v9)
  ) (v7)
def intaglioref17_end_P : (List UInt8) → Option (Int) := fun p => intaglioref17_end_M p
def intaglioref17_end_MM : HL [.str] → Option (SumL [[(.int .i64)]]) := fun p => intaglioref17_end_M p
def intaglioref17_end_C : Con := ⟨0, intaglioref17_end_T, intaglioref17_end_O, stdCn [.str] [[(.int .i64)]] intaglioref17_end_MM⟩

def intaglioref17_in_L1_T : Tm := ⟨[(0, false, [.hole .str]), (1, false, [.hole (.int .u8)]), (5, false, [.hole .bool]), (6, false, [.hole (.int .i64)]), (7, false, [.hole (.int .i64)])], 55, []⟩
def intaglioref17_in_L1_O : List (Ex × Tm) := [(.exit 0, ⟨[(5, false, [.hole .bool])], 55, []⟩)]
def intaglioref17_in_L1 (s0 : List UInt8) (s1 : Int) (s5 : Bool) (s6 : Int) (s7 : Int) : Option (((List UInt8) × Int × Bool × Int × Int) ⊕ ((Bool))) :=
  if decide (s7 < (((List.length s0) : Nat) : Int)) = true then
    if decide (s6 > (0 : Int)) = true then
      some (.inl (s0, s1, s5, IntKind.wrap IntKind.i64 (s6 - (1 : Int)), IntKind.wrap IntKind.i64 (s7 + (1 : Int))))
    else
    if decide (IntKind.wrap IntKind.i64 (s7 + (2 : Int)) < (((List.length s0) : Nat) : Int)) = true then
      Option.bind (ix s0 (IntKind.wrap IntKind.i64 (s7 + (1 : Int)))) fun (v0 : UInt8) =>
      if ((((UInt8.toNat v0) : Nat) : Int) == (45 : Int)) = true then
        if s5 = true then
          some (.inl (s0, s1, true, (2 : Int), IntKind.wrap IntKind.i64 (s7 + (1 : Int))))
        else
        Option.bind (ix s0 s7) fun (v1 : UInt8) =>
        if decide ((((UInt8.toNat v1) : Nat) : Int) ≤ s1) = true then
          Option.bind (ix s0 (IntKind.wrap IntKind.i64 (s7 + (2 : Int)))) fun (v2 : UInt8) =>
          some (.inl (s0, s1, decide (s1 ≤ (((UInt8.toNat v2) : Nat) : Int)), (2 : Int), IntKind.wrap IntKind.i64 (s7 + (1 : Int))))
        else
        some (.inl (s0, s1, false, (2 : Int), IntKind.wrap IntKind.i64 (s7 + (1 : Int))))
      else
      if s5 = true then
        some (.inl (s0, s1, true, s6, IntKind.wrap IntKind.i64 (s7 + (1 : Int))))
      else
      Option.bind (ix s0 s7) fun (v3 : UInt8) =>
      some (.inl (s0, s1, (((UInt8.toNat v3) : Nat) : Int) == s1, s6, IntKind.wrap IntKind.i64 (s7 + (1 : Int))))
    else
    if s5 = true then
      some (.inl (s0, s1, true, s6, IntKind.wrap IntKind.i64 (s7 + (1 : Int))))
    else
    Option.bind (ix s0 s7) fun (v4 : UInt8) =>
    some (.inl (s0, s1, (((UInt8.toNat v4) : Nat) : Int) == s1, s6, IntKind.wrap IntKind.i64 (s7 + (1 : Int))))
  else
  some (.inr (s5))
def intaglioref17_in_L1_P : (List UInt8) × Int × Bool × Int × Int → Option (((List UInt8) × Int × Bool × Int × Int) ⊕ ((Bool))) := fun p => intaglioref17_in_L1 p.1 p.2.1 p.2.2.1 p.2.2.2.1 p.2.2.2.2
def intaglioref17_in_L1_MM : HL [.str, (.int .u8), .bool, (.int .i64), (.int .i64)] → Option (HL [.str, (.int .u8), .bool, (.int .i64), (.int .i64)] ⊕ SumL [[.bool]]) := fun p => intaglioref17_in_L1 p.1 p.2.1 p.2.2.1 p.2.2.2.1 p.2.2.2.2
def intaglioref17_in_L1_C : Con := ⟨0, intaglioref17_in_L1_T, intaglioref17_in_L1_O, stdCn [.str, (.int .u8), .bool, (.int .i64), (.int .i64)] [[.bool]] (loop intaglioref17_in_L1_MM)⟩
def intaglioref17_in_T : Tm := ⟨[(0, false, [.hole .str]), (1, false, [.hole (.int .u8)])], 2, []⟩
def intaglioref17_in_O : List (Ex × Tm) := [(.ret, ⟨[(0, false, [.hole .bool])], 1, []⟩)]
def intaglioref17_in_M (s0 : List UInt8) (s1 : Int) : Option (Bool) :=
  Option.bind (loop intaglioref17_in_L1_P (s0, s1, false, (0 : Int), (0 : Int))) fun (v0 : Bool) =>
  some (v0)
def intaglioref17_in_P : (List UInt8) × Int → Option (Bool) := fun p => intaglioref17_in_M p.1 p.2
def intaglioref17_in_MM : HL [.str, (.int .u8)] → Option (SumL [[.bool]]) := fun p => intaglioref17_in_M p.1 p.2
def intaglioref17_in_C : Con := ⟨0, intaglioref17_in_T, intaglioref17_in_O, stdCn [.str, (.int .u8)] [[.bool]] intaglioref17_in_MM⟩

def intaglioref17_first_T : Tm := ⟨[(0, false, [.hole .str]), (1, false, [.hole (.int .u8)])], 2, []⟩
def intaglioref17_first_O : List (Ex × Tm) := [(.ret, ⟨[(0, false, [.hole .bool]), (1, false, [.hole (.int .i64)])], 2, []⟩)]
def intaglioref17_first_M (s0 : List UInt8) (s1 : Int) : Option (Bool × Int) :=
  Option.bind (ix s0 (0 : Int)) fun (v0 : UInt8) =>
  if ((((UInt8.toNat v0) : Nat) : Int) == (63 : Int)) = true then
    some (true, (1 : Int))
  else
  Option.bind (ix s0 (0 : Int)) fun (v1 : UInt8) =>
  if ((((UInt8.toNat v1) : Nat) : Int) == (92 : Int)) = true then
    if decide ((((List.length s0) : Nat) : Int) > (1 : Int)) = true then
      Option.bind (ix s0 (1 : Int)) fun (v2 : UInt8) =>
      some ((((UInt8.toNat v2) : Nat) : Int) == s1, (2 : Int))
    else
    Option.bind (ix s0 (0 : Int)) fun (v3 : UInt8) =>
    if ((((UInt8.toNat v3) : Nat) : Int) == (91 : Int)) = true then
      Option.bind (intaglioref17_end_P s0) fun (v4 : Int) =>
      if (v4 == (0 : Int)) = true then
        Option.bind (ix s0 (0 : Int)) fun (v5 : UInt8) =>
        some ((((UInt8.toNat v5) : Nat) : Int) == s1, (1 : Int))
      else
      Option.bind (ix s0 (1 : Int)) fun (v6 : UInt8) =>
      if ((((UInt8.toNat v6) : Nat) : Int) == (94 : Int)) = true then
        Option.bind (sub s0 (2 : Int) v4) fun (v7 : (List UInt8)) =>
        Option.bind (intaglioref17_in_P (v7, s1)) fun (v8 : Bool) =>
        some (!v8, IntKind.wrap IntKind.i64 (v4 + (1 : Int)))
      else
      Option.bind (sub s0 (1 : Int) v4) fun (v9 : (List UInt8)) =>
      Option.bind (intaglioref17_in_P (v9, s1)) fun (v10 : Bool) =>
      some (v10, IntKind.wrap IntKind.i64 (v4 + (1 : Int)))
    else
    Option.bind (ix s0 (0 : Int)) fun (v11 : UInt8) =>
    some ((((UInt8.toNat v11) : Nat) : Int) == s1, (1 : Int))
  else
  Option.bind (ix s0 (0 : Int)) fun (v12 : UInt8) =>
  if ((((UInt8.toNat v12) : Nat) : Int) == (91 : Int)) = true then
    Option.bind (intaglioref17_end_P s0) fun (v13 : Int) =>
    if (v13 == (0 : Int)) = true then
      Option.bind (ix s0 (0 : Int)) fun (v14 : UInt8) =>
      some ((((UInt8.toNat v14) : Nat) : Int) == s1, (1 : Int))
    else
    Option.bind (ix s0 (1 : Int)) fun (v15 : UInt8) =>
    if ((((UInt8.toNat v15) : Nat) : Int) == (94 : Int)) = true then
      Option.bind (sub s0 (2 : Int) v13) fun (v16 : (List UInt8)) =>
      Option.bind (intaglioref17_in_P (v16, s1)) fun (v17 : Bool) =>
      some (!v17, IntKind.wrap IntKind.i64 (v13 + (1 : Int)))
    else
    Option.bind (sub s0 (1 : Int) v13) fun (v18 : (List UInt8)) =>
    Option.bind (intaglioref17_in_P (v18, s1)) fun (v19 : Bool) =>
    some (v19, IntKind.wrap IntKind.i64 (v13 + (1 : Int)))
  else
  Option.bind (ix s0 (0 : Int)) fun (v20 : UInt8) =>
  some ((((UInt8.toNat v20) : Nat) : Int) == s1, (1 : Int))
def intaglioref17_first_P : (List UInt8) × Int → Option (Bool × Int) := fun p => intaglioref17_first_M p.1 p.2
def intaglioref17_first_MM : HL [.str, (.int .u8)] → Option (SumL [[.bool, (.int .i64)]]) := fun p => intaglioref17_first_M p.1 p.2
def intaglioref17_first_C : Con := ⟨0, intaglioref17_first_T, intaglioref17_first_O, stdCn [.str, (.int .u8)] [[.bool, (.int .i64)]] intaglioref17_first_MM⟩

def intaglioref17_Match_L1_T : Tm := ⟨[(0, false, [.hole .str]), (1, false, [.hole .str]), (5, false, [.row 0]), (6, false, [.hole (.int .i64)])], 122, [.row (.slc .bool)]⟩
def intaglioref17_Match_L1_O : List (Ex × Tm) := [(.exit 0, ⟨[(0, false, [.hole .str]), (1, false, [.hole .str]), (5, false, [.row 0])], 122, [.row (.slc .bool)]⟩)]
def intaglioref17_Match_L1 (s0 : List UInt8) (s1 : List UInt8) (s6 : Int) (r0 : List (List Bool)) : Option (((List UInt8) × (List UInt8) × Int × (List (List Bool))) ⊕ (((List UInt8) × (List UInt8) × (List (List Bool))))) :=
  if decide (s6 ≤ (((List.length s0) : Nat) : Int)) = true then
    Option.bind (mk2 (1 : Nat) (IntKind.wrap IntKind.i64 ((((List.length s1) : Nat) : Int) + (1 : Int))) (IntKind.wrap IntKind.i64 ((((List.length s1) : Nat) : Int) + (1 : Int)))) fun (v0 : Nat) =>
    Option.bind (room (24 : Nat) (List.length r0 + List.length [List.replicate v0 false])) fun _ =>
    some (.inl (s0, s1, IntKind.wrap IntKind.i64 (s6 + (1 : Int)), r0 ++ [List.replicate v0 false]))
  else
  some (.inr (s0, s1, r0))
def intaglioref17_Match_L1_P : (List UInt8) × (List UInt8) × Int × (List (List Bool)) → Option (((List UInt8) × (List UInt8) × Int × (List (List Bool))) ⊕ (((List UInt8) × (List UInt8) × (List (List Bool))))) := fun p => intaglioref17_Match_L1 p.1 p.2.1 p.2.2.1 p.2.2.2
def intaglioref17_Match_L1_MM : HL [.str, .str, (.int .i64), (.slc (.slc .bool))] → Option (HL [.str, .str, (.int .i64), (.slc (.slc .bool))] ⊕ SumL [[.str, .str, (.slc (.slc .bool))]]) := fun p => intaglioref17_Match_L1 p.1 p.2.1 p.2.2.1 p.2.2.2
def intaglioref17_Match_L1_C : Con := ⟨0, intaglioref17_Match_L1_T, intaglioref17_Match_L1_O, stdCn [.str, .str, (.int .i64), (.slc (.slc .bool))] [[.str, .str, (.slc (.slc .bool))]] (loop intaglioref17_Match_L1_MM)⟩
def intaglioref17_Match_L3_T : Tm := ⟨[(0, false, [.hole .str]), (1, false, [.hole .str]), (5, false, [.row 0]), (7, false, [.hole (.int .i64)]), (8, false, [.hole (.int .i64)])], 122, [.row (.slc .bool)]⟩
def intaglioref17_Match_L3_O : List (Ex × Tm) := [(.exit 4, ⟨[(0, false, [.hole .str]), (1, false, [.hole .str]), (5, false, [.row 0]), (7, false, [.hole (.int .i64)])], 122, [.row (.slc .bool)]⟩)]
def intaglioref17_Match_L3 (s0 : List UInt8) (s1 : List UInt8) (s7 : Int) (s8 : Int) (r0 : List (List Bool)) : Option (((List UInt8) × (List UInt8) × Int × Int × (List (List Bool))) ⊕ (((List UInt8) × (List UInt8) × Int × (List (List Bool))))) :=
  if decide (s8 ≥ (0 : Int)) = true then
    if (s7 == (((List.length s0) : Nat) : Int)) = true then
      Option.bind (inb (List.length r0) s7) fun _ =>
      Option.bind (ix (List.getD r0 (Int.toNat s7) []) s8) fun (v1 : Bool) =>
      none -- STUCK after t_ store
    else
    Option.bind (ix s0 s7) fun (v2 : UInt8) =>
    if ((((UInt8.toNat v2) : Nat) : Int) == (42 : Int)) = true then
      Option.bind (inb (List.length r0) s7) fun _ =>
      Option.bind (inb (List.length r0) (IntKind.wrap IntKind.i64 (s7 + (1 : Int)))) fun _ =>
      Option.bind (ix (List.getD r0 (Int.toNat (IntKind.wrap IntKind.i64 (s7 + (1 : Int)))) []) s8) fun (v5 : Bool) =>
      if v5 = true then
        Option.bind (ix (List.getD r0 (Int.toNat s7) []) s8) fun (v6 : Bool) =>
        none -- STUCK after walk op 30
      else
      if decide (s8 < (((List.length s1) : Nat) : Int)) = true then
        Option.bind (inb (List.length r0) s7) fun _ =>
        Option.bind (ix (List.getD r0 (Int.toNat s7) []) (IntKind.wrap IntKind.i64 (s8 + (1 : Int)))) fun (v8 : Bool) =>
        Option.bind (ix (List.getD r0 (Int.toNat s7) []) s8) fun (v9 : Bool) =>
        none -- STUCK after walk op 30
      else
      Option.bind (ix (List.getD r0 (Int.toNat s7) []) s8) fun (v10 : Bool) =>
      none -- STUCK after walk op 30
    else
    if decide (s8 < (((List.length s1) : Nat) : Int)) = true then
      Option.bind (sub s0 s7 (((List.length s0) : Nat) : Int)) fun (v11 : (List UInt8)) =>
      Option.bind (ix s1 s8) fun (v12 : UInt8) =>
      Option.bind (intaglioref17_first_P (v11, (((UInt8.toNat v12) : Nat) : Int))) fun (v13 : (Bool × Int)) =>
      Option.bind (inb (List.length r0) s7) fun _ =>
      if v13.fst = true then
        Option.bind (inb (List.length r0) (IntKind.wrap IntKind.i64 (s7 + v13.snd))) fun _ =>
        Option.bind (ix (List.getD r0 (Int.toNat (IntKind.wrap IntKind.i64 (s7 + v13.snd))) []) (IntKind.wrap IntKind.i64 (s8 + (1 : Int)))) fun (v16 : Bool) =>
        Option.bind (ix (List.getD r0 (Int.toNat s7) []) s8) fun (v17 : Bool) =>
        none -- STUCK after walk op 19
      else
      Option.bind (ix (List.getD r0 (Int.toNat s7) []) s8) fun (v18 : Bool) =>
      none -- STUCK after walk op 19
    else
    some (.inl (s0, s1, s7, IntKind.wrap IntKind.i64 (s8 - (1 : Int)), r0))
  else
  some (.inr (s0, s1, s7, r0))
def intaglioref17_Match_L3_P : (List UInt8) × (List UInt8) × Int × Int × (List (List Bool)) → Option (((List UInt8) × (List UInt8) × Int × Int × (List (List Bool))) ⊕ (((List UInt8) × (List UInt8) × Int × (List (List Bool))))) := fun p => intaglioref17_Match_L3 p.1 p.2.1 p.2.2.1 p.2.2.2.1 p.2.2.2.2
def intaglioref17_Match_L3_MM : HL [.str, .str, (.int .i64), (.int .i64), (.slc (.slc .bool))] → Option (HL [.str, .str, (.int .i64), (.int .i64), (.slc (.slc .bool))] ⊕ SumL [[.str, .str, (.int .i64), (.slc (.slc .bool))]]) := fun p => intaglioref17_Match_L3 p.1 p.2.1 p.2.2.1 p.2.2.2.1 p.2.2.2.2
def intaglioref17_Match_L3_C : Con := ⟨0, intaglioref17_Match_L3_T, intaglioref17_Match_L3_O, stdCn [.str, .str, (.int .i64), (.int .i64), (.slc (.slc .bool))] [[.str, .str, (.int .i64), (.slc (.slc .bool))]] (loop intaglioref17_Match_L3_MM)⟩
def intaglioref17_Match_L2_T : Tm := ⟨[(0, false, [.hole .str]), (1, false, [.hole .str]), (5, false, [.row 0]), (7, false, [.hole (.int .i64)])], 122, [.row (.slc .bool)]⟩
def intaglioref17_Match_L2_O : List (Ex × Tm) := [(.exit 2, ⟨[(5, false, [.row 0])], 122, [.row (.slc .bool)]⟩)]
def intaglioref17_Match_L2 (s0 : List UInt8) (s1 : List UInt8) (s7 : Int) (r0 : List (List Bool)) : Option (((List UInt8) × (List UInt8) × Int × (List (List Bool))) ⊕ (((List (List Bool))))) :=
  if decide (s7 ≥ (0 : Int)) = true then
    Option.bind (loop intaglioref17_Match_L3_P (s0, s1, s7, (((List.length s1) : Nat) : Int), r0)) fun (v0 : ((List UInt8) × ((List UInt8) × (Int × (List (List Bool)))))) =>
    some (.inl (v0.fst, v0.snd.fst, IntKind.wrap IntKind.i64 (v0.snd.snd.fst - (1 : Int)), v0.snd.snd.snd))
  else
  some (.inr (r0))
def intaglioref17_Match_L2_P : (List UInt8) × (List UInt8) × Int × (List (List Bool)) → Option (((List UInt8) × (List UInt8) × Int × (List (List Bool))) ⊕ (((List (List Bool))))) := fun p => intaglioref17_Match_L2 p.1 p.2.1 p.2.2.1 p.2.2.2
def intaglioref17_Match_L2_MM : HL [.str, .str, (.int .i64), (.slc (.slc .bool))] → Option (HL [.str, .str, (.int .i64), (.slc (.slc .bool))] ⊕ SumL [[(.slc (.slc .bool))]]) := fun p => intaglioref17_Match_L2 p.1 p.2.1 p.2.2.1 p.2.2.2
def intaglioref17_Match_L2_C : Con := ⟨0, intaglioref17_Match_L2_T, intaglioref17_Match_L2_O, stdCn [.str, .str, (.int .i64), (.slc (.slc .bool))] [[(.slc (.slc .bool))]] (loop intaglioref17_Match_L2_MM)⟩
def intaglioref17_Match_T : Tm := ⟨[(0, false, [.hole .str]), (1, false, [.hole .str])], 2, []⟩
def intaglioref17_Match_O : List (Ex × Tm) := [(.ret, ⟨[(0, false, [.hole .bool])], 1, []⟩)]
def intaglioref17_Match_M (s0 : List UInt8) (s1 : List UInt8) : Option (Bool) :=
  Option.bind (loop intaglioref17_Match_L1_P (s0, s1, (0 : Int), [])) fun (v0 : ((List UInt8) × ((List UInt8) × (List (List Bool))))) =>
  Option.bind (loop intaglioref17_Match_L2_P (v0.fst, v0.snd.fst, (((List.length v0.fst) : Nat) : Int), v0.snd.snd)) fun (v1 : (List (List Bool))) =>
  Option.bind (inb (List.length v1) (0 : Int)) fun _ =>
  Option.bind (ix (List.getD v1 (nat_lit 0) []) (0 : Int)) fun (v3 : Bool) =>
  some (v3)
def intaglioref17_Match_P : (List UInt8) × (List UInt8) → Option (Bool) := fun p => intaglioref17_Match_M p.1 p.2
def intaglioref17_Match_MM : HL [.str, .str] → Option (SumL [[.bool]]) := fun p => intaglioref17_Match_M p.1 p.2
def intaglioref17_Match_C : Con := ⟨0, intaglioref17_Match_T, intaglioref17_Match_O, stdCn [.str, .str] [[.bool]] intaglioref17_Match_MM⟩

def intagliolaw17_VerbMatches_T : Tm := ⟨[(0, false, [.hole .str]), (1, false, [.hole .str])], 2, []⟩
def intagliolaw17_VerbMatches_O : List (Ex × Tm) := [(.ret, ⟨[(0, false, [.hole .bool])], 1, []⟩)]
def intagliolaw17_VerbMatches_M (s0 : List UInt8) (s1 : List UInt8) : Option (Bool) :=
  if decide ((((List.length s0) : Nat) : Int) > (80 : Int)) = true then
    Option.bind (intagliolaw17_awake_P ()) fun (v0 : Bool) =>
    some (v0)
  else
  if decide ((((List.length s1) : Nat) : Int) > (80 : Int)) = true then
    Option.bind (intagliolaw17_awake_P ()) fun (v1 : Bool) =>
    some (v1)
  else
  Option.bind (verb_Match_P (s0, s1)) fun (v2 : Bool) =>
  Option.bind (intaglioref17_Match_P (s0, s1)) fun (v3 : Bool) =>
  if (v2 == v3) = true then
    Option.bind (intagliolaw17_awake_P ()) fun (v4 : Bool) =>
    some (v4)
  else
  some (false)
def intagliolaw17_VerbMatches_P : (List UInt8) × (List UInt8) → Option (Bool) := fun p => intagliolaw17_VerbMatches_M p.1 p.2
def intagliolaw17_VerbMatches_MM : HL [.str, .str] → Option (SumL [[.bool]]) := fun p => intagliolaw17_VerbMatches_M p.1 p.2
def intagliolaw17_VerbMatches_C : Con := ⟨0, intagliolaw17_VerbMatches_T, intagliolaw17_VerbMatches_O, stdCn [.str, .str] [[.bool]] intagliolaw17_VerbMatches_MM⟩

def intagliolaw17_VerbPlain_L1_T : Tm := ⟨[(0, false, [.hole .str]), (1, false, [.hole .str]), (5, false, [.hole .str]), (6, false, [.hole (.int .i64)])], 61, []⟩
def intagliolaw17_VerbPlain_L1_O : List (Ex × Tm) := [(.exit 0, ⟨[(0, false, [.hole .str]), (1, false, [.hole .str]), (5, false, [.hole .str])], 61, []⟩)]
def intagliolaw17_VerbPlain_L1 (s0 : List UInt8) (s1 : List UInt8) (s5 : List UInt8) (s6 : Int) : Option (((List UInt8) × (List UInt8) × (List UInt8) × Int) ⊕ (((List UInt8) × (List UInt8) × (List UInt8)))) :=
  if decide (s6 < (((List.length s0) : Nat) : Int)) = true then
    Option.bind (sub s0 s6 (IntKind.wrap IntKind.i64 (s6 + (1 : Int)))) fun (v0 : (List UInt8)) =>
    Option.bind (room (1 : Nat) ((1 : Nat) + List.length v0)) fun _ =>
    Option.bind (room (1 : Nat) (List.length s5 + List.length ([(92 : UInt8)] ++ v0))) fun _ =>
    some (.inl (s0, s1, s5 ++ ([(92 : UInt8)] ++ v0), IntKind.wrap IntKind.i64 (s6 + (1 : Int))))
  else
  some (.inr (s0, s1, s5))
def intagliolaw17_VerbPlain_L1_P : (List UInt8) × (List UInt8) × (List UInt8) × Int → Option (((List UInt8) × (List UInt8) × (List UInt8) × Int) ⊕ (((List UInt8) × (List UInt8) × (List UInt8)))) := fun p => intagliolaw17_VerbPlain_L1 p.1 p.2.1 p.2.2.1 p.2.2.2
def intagliolaw17_VerbPlain_L1_MM : HL [.str, .str, .str, (.int .i64)] → Option (HL [.str, .str, .str, (.int .i64)] ⊕ SumL [[.str, .str, .str]]) := fun p => intagliolaw17_VerbPlain_L1 p.1 p.2.1 p.2.2.1 p.2.2.2
def intagliolaw17_VerbPlain_L1_C : Con := ⟨0, intagliolaw17_VerbPlain_L1_T, intagliolaw17_VerbPlain_L1_O, stdCn [.str, .str, .str, (.int .i64)] [[.str, .str, .str]] (loop intagliolaw17_VerbPlain_L1_MM)⟩
def intagliolaw17_VerbPlain_T : Tm := ⟨[(0, false, [.hole .str]), (1, false, [.hole .str])], 2, []⟩
def intagliolaw17_VerbPlain_O : List (Ex × Tm) := [(.ret, ⟨[(0, false, [.hole .bool])], 1, []⟩)]
def intagliolaw17_VerbPlain_M (s0 : List UInt8) (s1 : List UInt8) : Option (Bool) :=
  if decide ((((List.length s0) : Nat) : Int) > (80 : Int)) = true then
    Option.bind (intagliolaw17_awake_P ()) fun (v0 : Bool) =>
    some (v0)
  else
  if decide ((((List.length s1) : Nat) : Int) > (80 : Int)) = true then
    Option.bind (intagliolaw17_awake_P ()) fun (v1 : Bool) =>
    some (v1)
  else
  Option.bind (loop intagliolaw17_VerbPlain_L1_P (s0, s1, [], (0 : Int))) fun (v2 : ((List UInt8) × ((List UInt8) × (List UInt8)))) =>
  Option.bind (verb_Match_P (v2.snd.snd, v2.snd.fst)) fun (v3 : Bool) =>
  if (v3 == (v2.fst == v2.snd.fst)) = true then
    Option.bind (verb_Match_P (v2.snd.snd, v2.fst)) fun (v4 : Bool) =>
    if v4 = true then
      Option.bind (room (1 : Nat) (List.length v2.snd.snd + (1 : Nat))) fun _ =>
      Option.bind (room (1 : Nat) (List.length v2.fst + List.length v2.snd.fst)) fun _ =>
      Option.bind (verb_Match_P (v2.snd.snd ++ [(42 : UInt8)], v2.fst ++ v2.snd.fst)) fun (v7 : Bool) =>
      if v7 = true then
        Option.bind (room (1 : Nat) ((1 : Nat) + List.length v2.snd.snd)) fun _ =>
        Option.bind (room (1 : Nat) (List.length v2.snd.fst + List.length v2.fst)) fun _ =>
        Option.bind (verb_Match_P ([(42 : UInt8)] ++ v2.snd.snd, v2.snd.fst ++ v2.fst)) fun (v10 : Bool) =>
        if v10 = true then
          Option.bind (intagliolaw17_awake_P ()) fun (v11 : Bool) =>
          some (v11)
        else
        some (false)
      else
      some (false)
    else
    some (false)
  else
  some (false)
def intagliolaw17_VerbPlain_P : (List UInt8) × (List UInt8) → Option (Bool) := fun p => intagliolaw17_VerbPlain_M p.1 p.2
def intagliolaw17_VerbPlain_MM : HL [.str, .str] → Option (SumL [[.bool]]) := fun p => intagliolaw17_VerbPlain_M p.1 p.2
def intagliolaw17_VerbPlain_C : Con := ⟨0, intagliolaw17_VerbPlain_T, intagliolaw17_VerbPlain_O, stdCn [.str, .str] [[.bool]] intagliolaw17_VerbPlain_MM⟩

def intagliolaw17_light_L1_T : Tm := ⟨[(0, false, [.hole (.slc .str)]), (3, false, [.hole (.int .i64)])], 19, []⟩
def intagliolaw17_light_L1_O : List (Ex × Tm) := [(.exit 0, ⟨[], 19, []⟩), (.ret, ⟨[(2, false, [.hole .bool])], 19, []⟩)]
def intagliolaw17_light_L1 (s0 : List (List UInt8)) (s3 : Int) : Option (((List (List UInt8)) × Int) ⊕ ((Unit) ⊕ (Bool))) :=
  if decide (s3 < (((List.length s0) : Nat) : Int)) = true then
    Option.bind (ix s0 s3) fun (v0 : (List UInt8)) =>
    if decide ((((List.length v0) : Nat) : Int) > (600 : Int)) = true then
      some (.inr (.inr (false)))
    else
    some (.inl (s0, IntKind.wrap IntKind.i64 (s3 + (1 : Int))))
  else
  some (.inr (.inl (())))
def intagliolaw17_light_L1_P : (List (List UInt8)) × Int → Option (((List (List UInt8)) × Int) ⊕ ((Unit) ⊕ (Bool))) := fun p => intagliolaw17_light_L1 p.1 p.2
def intagliolaw17_light_L1_MM : HL [(.slc .str), (.int .i64)] → Option (HL [(.slc .str), (.int .i64)] ⊕ SumL [[], [.bool]]) := fun p => intagliolaw17_light_L1 p.1 p.2
def intagliolaw17_light_L1_C : Con := ⟨0, intagliolaw17_light_L1_T, intagliolaw17_light_L1_O, stdCn [(.slc .str), (.int .i64)] [[], [.bool]] (loop intagliolaw17_light_L1_MM)⟩
def intagliolaw17_light_T : Tm := ⟨[(0, false, [.hole (.slc .str)])], 1, []⟩
def intagliolaw17_light_O : List (Ex × Tm) := [(.ret, ⟨[(0, false, [.hole .bool])], 1, []⟩)]
def intagliolaw17_light_M (s0 : List (List UInt8)) : Option (Bool) :=
  if decide ((((List.length s0) : Nat) : Int) > (60 : Int)) = true then
    some (false)
  else
  Option.bind (loop intagliolaw17_light_L1_P (s0, (0 : Int))) fun (v0 : (Unit ⊕ Bool)) =>
  Sum.elim (fun _ =>
      some (true)
    ) (fun (v2 : Bool) =>
    some (v2)
  ) (v0)
def intagliolaw17_light_P : (List (List UInt8)) → Option (Bool) := fun p => intagliolaw17_light_M p
def intagliolaw17_light_MM : HL [(.slc .str)] → Option (SumL [[.bool]]) := fun p => intagliolaw17_light_M p
def intagliolaw17_light_C : Con := ⟨0, intagliolaw17_light_T, intagliolaw17_light_O, stdCn [(.slc .str)] [[.bool]] intagliolaw17_light_MM⟩

def verb_Keys_L1_T : Tm := ⟨[(0, false, [.hole (.slc .str)]), (3, false, [.row 1]), (4, false, [.ptr 0 0]), (6, false, [.hole (.int .i64)]), (7, false, [.hole (.int .i64)])], 61, [.box [.hole (.int .i64), .hole (.int .i64), .hole (.int .i64), .hole .str, .hole (.int .i64), .hole (.int .i64), .hole .bool, .hole .bool, .hole .bool], .row .str]⟩
def verb_Keys_L1_O : List (Ex × Tm) := [(.exit 0, ⟨[(3, false, [.row 1])], 61, [.box [.hole (.int .i64), .hole (.int .i64), .hole (.int .i64), .hole .str, .hole (.int .i64), .hole (.int .i64), .hole .bool, .hole .bool, .hole .bool], .row .str]⟩)]
def verb_Keys_L1 (s0 : List (List UInt8)) (s6 : Int) (s7 : Int) (m0_0 : Int) (m0_1 : Int) (m0_2 : Int) (m0_3 : List UInt8) (m0_4 : Int) (m0_5 : Int) (m0_6 : Bool) (m0_7 : Bool) (m0_8 : Bool) (r1 : List (List UInt8)) : Option (((List (List UInt8)) × Int × Int × Int × Int × Int × (List UInt8) × Int × Int × Bool × Bool × Bool × (List (List UInt8))) ⊕ ((Int × Int × Int × (List UInt8) × Int × Int × Bool × Bool × Bool × (List (List UInt8))))) :=
  if decide (s7 ≤ s6) = true then
    Option.bind (ix s0 s7) fun (v0 : (List UInt8)) =>
    Option.bind (room (16 : Nat) (List.length r1 + List.length [v0])) fun _ =>
    some (.inl (s0, s6, IntKind.wrap IntKind.i64 (s7 + m0_2), m0_0, m0_1, m0_2, m0_3, m0_4, m0_5, m0_6, m0_7, m0_8, r1 ++ [v0]))
  else
  some (.inr (m0_0, m0_1, m0_2, m0_3, m0_4, m0_5, m0_6, m0_7, m0_8, r1))
def verb_Keys_L1_P : (List (List UInt8)) × Int × Int × Int × Int × Int × (List UInt8) × Int × Int × Bool × Bool × Bool × (List (List UInt8)) → Option (((List (List UInt8)) × Int × Int × Int × Int × Int × (List UInt8) × Int × Int × Bool × Bool × Bool × (List (List UInt8))) ⊕ ((Int × Int × Int × (List UInt8) × Int × Int × Bool × Bool × Bool × (List (List UInt8))))) := fun p => verb_Keys_L1 p.1 p.2.1 p.2.2.1 p.2.2.2.1 p.2.2.2.2.1 p.2.2.2.2.2.1 p.2.2.2.2.2.2.1 p.2.2.2.2.2.2.2.1 p.2.2.2.2.2.2.2.2.1 p.2.2.2.2.2.2.2.2.2.1 p.2.2.2.2.2.2.2.2.2.2.1 p.2.2.2.2.2.2.2.2.2.2.2.1 p.2.2.2.2.2.2.2.2.2.2.2.2
def verb_Keys_L1_MM : HL [(.slc .str), (.int .i64), (.int .i64), (.int .i64), (.int .i64), (.int .i64), .str, (.int .i64), (.int .i64), .bool, .bool, .bool, (.slc .str)] → Option (HL [(.slc .str), (.int .i64), (.int .i64), (.int .i64), (.int .i64), (.int .i64), .str, (.int .i64), (.int .i64), .bool, .bool, .bool, (.slc .str)] ⊕ SumL [[(.int .i64), (.int .i64), (.int .i64), .str, (.int .i64), (.int .i64), .bool, .bool, .bool, (.slc .str)]]) := fun p => verb_Keys_L1 p.1 p.2.1 p.2.2.1 p.2.2.2.1 p.2.2.2.2.1 p.2.2.2.2.2.1 p.2.2.2.2.2.2.1 p.2.2.2.2.2.2.2.1 p.2.2.2.2.2.2.2.2.1 p.2.2.2.2.2.2.2.2.2.1 p.2.2.2.2.2.2.2.2.2.2.1 p.2.2.2.2.2.2.2.2.2.2.2.1 p.2.2.2.2.2.2.2.2.2.2.2.2
def verb_Keys_L1_C : Con := ⟨1, verb_Keys_L1_T, verb_Keys_L1_O, stdCn [(.slc .str), (.int .i64), (.int .i64), (.int .i64), (.int .i64), (.int .i64), .str, (.int .i64), (.int .i64), .bool, .bool, .bool, (.slc .str)] [[(.int .i64), (.int .i64), (.int .i64), .str, (.int .i64), (.int .i64), .bool, .bool, .bool, (.slc .str)]] (loop verb_Keys_L1_MM)⟩
def verb_Keys_T : Tm := ⟨[(0, false, [.hole (.slc .str)])], 1, []⟩
def verb_Keys_O : List (Ex × Tm) := [(.ret, ⟨[(0, false, [.row 0])], 1, [.row .str]⟩)]
def verb_Keys_M (s0 : List (List UInt8)) : Option ((List (List UInt8))) :=
  if ((((List.length s0) : Nat) : Int) == (0 : Int)) = true then
    some ([])
  else
  Option.bind (ix s0 (0 : Int)) fun (v0 : (List UInt8)) =>
  Option.bind (verb_Find_P v0) fun (v1 : (Int × (Int × (Int × ((List UInt8) × (Int × (Int × (Bool × (Bool × (Bool × Bool)))))))))) =>
  if (!v1.snd.snd.snd.snd.snd.snd.snd.snd.snd) = true then
    some ([])
  else
  if (v1.fst == (0 : Int)) = true then
    some ([])
  else
  if decide (v1.snd.fst < (0 : Int)) = true then
    Option.bind (loop verb_Keys_L1_P (s0, IntKind.wrap IntKind.i64 ((((List.length s0) : Nat) : Int) - (1 : Int)), v1.fst, v1.fst, v1.snd.fst, v1.snd.snd.fst, v1.snd.snd.snd.fst, v1.snd.snd.snd.snd.fst, v1.snd.snd.snd.snd.snd.fst, v1.snd.snd.snd.snd.snd.snd.fst, v1.snd.snd.snd.snd.snd.snd.snd.fst, v1.snd.snd.snd.snd.snd.snd.snd.snd.fst, [])) fun (v2 : (Int × (Int × (Int × ((List UInt8) × (Int × (Int × (Bool × (Bool × (Bool × (List (List UInt8)))))))))))) =>
    some (v2.snd.snd.snd.snd.snd.snd.snd.snd.snd)
  else
  if decide (v1.snd.fst ≥ (((List.length s0) : Nat) : Int)) = true then
    Option.bind (loop verb_Keys_L1_P (s0, IntKind.wrap IntKind.i64 ((((List.length s0) : Nat) : Int) - (1 : Int)), v1.fst, v1.fst, v1.snd.fst, v1.snd.snd.fst, v1.snd.snd.snd.fst, v1.snd.snd.snd.snd.fst, v1.snd.snd.snd.snd.snd.fst, v1.snd.snd.snd.snd.snd.snd.fst, v1.snd.snd.snd.snd.snd.snd.snd.fst, v1.snd.snd.snd.snd.snd.snd.snd.snd.fst, [])) fun (v3 : (Int × (Int × (Int × ((List UInt8) × (Int × (Int × (Bool × (Bool × (Bool × (List (List UInt8)))))))))))) =>
    some (v3.snd.snd.snd.snd.snd.snd.snd.snd.snd)
  else
  Option.bind (loop verb_Keys_L1_P (s0, v1.snd.fst, v1.fst, v1.fst, v1.snd.fst, v1.snd.snd.fst, v1.snd.snd.snd.fst, v1.snd.snd.snd.snd.fst, v1.snd.snd.snd.snd.snd.fst, v1.snd.snd.snd.snd.snd.snd.fst, v1.snd.snd.snd.snd.snd.snd.snd.fst, v1.snd.snd.snd.snd.snd.snd.snd.snd.fst, [])) fun (v4 : (Int × (Int × (Int × ((List UInt8) × (Int × (Int × (Bool × (Bool × (Bool × (List (List UInt8)))))))))))) =>
  some (v4.snd.snd.snd.snd.snd.snd.snd.snd.snd)
def verb_Keys_P : (List (List UInt8)) → Option ((List (List UInt8))) := fun p => verb_Keys_M p
def verb_Keys_MM : HL [(.slc .str)] → Option (SumL [[(.slc .str)]]) := fun p => verb_Keys_M p
def verb_Keys_C : Con := ⟨0, verb_Keys_T, verb_Keys_O, stdCn [(.slc .str)] [[(.slc .str)]] verb_Keys_MM⟩

def verb_Spec_fits_T : Tm := ⟨[(0, true, [.hole (.int .i64), .hole (.int .i64), .hole (.int .i64), .hole .str, .hole (.int .i64), .hole (.int .i64), .hole .bool, .hole .bool, .hole .bool]), (1, false, [.hole (.int .i64)])], 2, []⟩
def verb_Spec_fits_O : List (Ex × Tm) := [(.ret, ⟨[(0, false, [.hole .bool])], 1, []⟩)]
def verb_Spec_fits_M (s0_0 : Int) (s0_1 : Int) (s0_2 : Int) (s0_3 : List UInt8) (s0_4 : Int) (s0_5 : Int) (s0_6 : Bool) (s0_7 : Bool) (s0_8 : Bool) (s1 : Int) : Option (Bool) :=
  if decide (s1 ≥ s0_4) = true then
    if decide (s1 ≤ s0_5) = true then
      if (!s0_7) = true then
        if (!s0_8) = true then
          some (true)
        else
        Option.bind (grem IntKind.i64 s1 (2 : Int)) fun (v0 : Int) =>
        some (v0 == (0 : Int))
      else
      Option.bind (grem IntKind.i64 s1 (2 : Int)) fun (v1 : Int) =>
      if (v1 == (1 : Int)) = true then
        if (!s0_8) = true then
          some (true)
        else
        Option.bind (grem IntKind.i64 s1 (2 : Int)) fun (v2 : Int) =>
        some (v2 == (0 : Int))
      else
      some (false)
    else
    some (false)
  else
  some (false)
def verb_Spec_fits_P : Int × Int × Int × (List UInt8) × Int × Int × Bool × Bool × Bool × Int → Option (Bool) := fun p => verb_Spec_fits_M p.1 p.2.1 p.2.2.1 p.2.2.2.1 p.2.2.2.2.1 p.2.2.2.2.2.1 p.2.2.2.2.2.2.1 p.2.2.2.2.2.2.2.1 p.2.2.2.2.2.2.2.2.1 p.2.2.2.2.2.2.2.2.2
def verb_Spec_fits_MM : HL [(.int .i64), (.int .i64), (.int .i64), .str, (.int .i64), (.int .i64), .bool, .bool, .bool, (.int .i64)] → Option (SumL [[.bool]]) := fun p => verb_Spec_fits_M p.1 p.2.1 p.2.2.1 p.2.2.2.1 p.2.2.2.2.1 p.2.2.2.2.2.1 p.2.2.2.2.2.2.1 p.2.2.2.2.2.2.2.1 p.2.2.2.2.2.2.2.2.1 p.2.2.2.2.2.2.2.2.2
def verb_Spec_fits_C : Con := ⟨0, verb_Spec_fits_T, verb_Spec_fits_O, stdCn [(.int .i64), (.int .i64), (.int .i64), .str, (.int .i64), (.int .i64), .bool, .bool, .bool, (.int .i64)] [[.bool]] verb_Spec_fits_MM⟩

def verb_Check_1_T : Tm := ⟨[(0, false, [.hole .str])], 1, []⟩
def verb_Check_1_O : List (Ex × Tm) := [(.ret, ⟨[(0, false, [.hole .bool])], 1, []⟩)]
def verb_Check_1_M (s0 : List UInt8) : Option (Bool) :=
  some (decide ((((List.length s0) : Nat) : Int) > (512 : Int)))
def verb_Check_1_P : (List UInt8) → Option (Bool) := fun p => verb_Check_1_M p
def verb_Check_1_MM : HL [.str] → Option (SumL [[.bool]]) := fun p => verb_Check_1_M p
def verb_Check_1_C : Con := ⟨0, verb_Check_1_T, verb_Check_1_O, stdCn [.str] [[.bool]] verb_Check_1_MM⟩

def slices_IndexFunc_string_string_a_L1_T : Tm := ⟨[(0, false, [.hole (.slc .str)]), (1, false, [.fn 37]), (7, false, [.hole (.int .i64)]), (8, false, [.hole (.int .i64)])], 19, []⟩
def slices_IndexFunc_string_string_a_L1_O : List (Ex × Tm) := [(.exit 0, ⟨[], 19, []⟩), (.ret, ⟨[(4, false, [.hole (.int .i64)])], 19, []⟩)]
def slices_IndexFunc_string_string_a_L1 (s0 : List (List UInt8)) (s7 : Int) (s8 : Int) : Option (((List (List UInt8)) × Int × Int) ⊕ ((Unit) ⊕ (Int))) :=
  if decide (s8 < s7) = true then
    Option.bind (ix s0 s8) fun (v0 : (List UInt8)) =>
    Option.bind (verb_Check_1_P v0) fun (v1 : Bool) =>
    if v1 = true then
      some (.inr (.inr (s8)))
    else
    some (.inl (s0, s7, IntKind.wrap IntKind.i64 (s8 + (1 : Int))))
  else
  some (.inr (.inl (())))
def slices_IndexFunc_string_string_a_L1_P : (List (List UInt8)) × Int × Int → Option (((List (List UInt8)) × Int × Int) ⊕ ((Unit) ⊕ (Int))) := fun p => slices_IndexFunc_string_string_a_L1 p.1 p.2.1 p.2.2
def slices_IndexFunc_string_string_a_L1_MM : HL [(.slc .str), (.int .i64), (.int .i64)] → Option (HL [(.slc .str), (.int .i64), (.int .i64)] ⊕ SumL [[], [(.int .i64)]]) := fun p => slices_IndexFunc_string_string_a_L1 p.1 p.2.1 p.2.2
def slices_IndexFunc_string_string_a_L1_C : Con := ⟨0, slices_IndexFunc_string_string_a_L1_T, slices_IndexFunc_string_string_a_L1_O, stdCn [(.slc .str), (.int .i64), (.int .i64)] [[], [(.int .i64)]] (loop slices_IndexFunc_string_string_a_L1_MM)⟩
def slices_IndexFunc_string_string_a_T : Tm := ⟨[(0, false, [.hole (.slc .str)]), (1, false, [.fn 37])], 2, []⟩
def slices_IndexFunc_string_string_a_O : List (Ex × Tm) := [(.ret, ⟨[(0, false, [.hole (.int .i64)])], 1, []⟩)]
def slices_IndexFunc_string_string_a_M (s0 : List (List UInt8)) : Option (Int) :=
  Option.bind (loop slices_IndexFunc_string_string_a_L1_P (s0, (((List.length s0) : Nat) : Int), (0 : Int))) fun (v0 : (Unit ⊕ Int)) =>
  Sum.elim (fun _ =>
      some ((-1 : Int))
    ) (fun (v2 : Int) =>
    some (v2)
  ) (v0)
def slices_IndexFunc_string_string_a_P : (List (List UInt8)) → Option (Int) := fun p => slices_IndexFunc_string_string_a_M p
def slices_IndexFunc_string_string_a_MM : HL [(.slc .str)] → Option (SumL [[(.int .i64)]]) := fun p => slices_IndexFunc_string_string_a_M p
def slices_IndexFunc_string_string_a_C : Con := ⟨0, slices_IndexFunc_string_string_a_T, slices_IndexFunc_string_string_a_O, stdCn [(.slc .str)] [[(.int .i64)]] slices_IndexFunc_string_string_a_MM⟩

def verb_Check_2_T : Tm := ⟨[(0, false, [.hole .str])], 1, []⟩
def verb_Check_2_O : List (Ex × Tm) := [(.ret, ⟨[(0, false, [.hole .bool])], 1, []⟩)]
def verb_Check_2_M (s0 : List UInt8) : Option (Bool) :=
  if (s0 == []) = true then
    some (true)
  else
  some (decide ((((List.length s0) : Nat) : Int) > (64 : Int)))
def verb_Check_2_P : (List UInt8) → Option (Bool) := fun p => verb_Check_2_M p
def verb_Check_2_MM : HL [.str] → Option (SumL [[.bool]]) := fun p => verb_Check_2_M p
def verb_Check_2_C : Con := ⟨0, verb_Check_2_T, verb_Check_2_O, stdCn [.str] [[.bool]] verb_Check_2_MM⟩

def slices_IndexFunc_string_string_b_L1_T : Tm := ⟨[(0, false, [.hole (.slc .str)]), (1, false, [.fn 38]), (7, false, [.hole (.int .i64)]), (8, false, [.hole (.int .i64)])], 19, []⟩
def slices_IndexFunc_string_string_b_L1_O : List (Ex × Tm) := [(.exit 0, ⟨[], 19, []⟩), (.ret, ⟨[(4, false, [.hole (.int .i64)])], 19, []⟩)]
def slices_IndexFunc_string_string_b_L1 (s0 : List (List UInt8)) (s7 : Int) (s8 : Int) : Option (((List (List UInt8)) × Int × Int) ⊕ ((Unit) ⊕ (Int))) :=
  if decide (s8 < s7) = true then
    Option.bind (ix s0 s8) fun (v0 : (List UInt8)) =>
    Option.bind (verb_Check_2_P v0) fun (v1 : Bool) =>
    if v1 = true then
      some (.inr (.inr (s8)))
    else
    some (.inl (s0, s7, IntKind.wrap IntKind.i64 (s8 + (1 : Int))))
  else
  some (.inr (.inl (())))
def slices_IndexFunc_string_string_b_L1_P : (List (List UInt8)) × Int × Int → Option (((List (List UInt8)) × Int × Int) ⊕ ((Unit) ⊕ (Int))) := fun p => slices_IndexFunc_string_string_b_L1 p.1 p.2.1 p.2.2
def slices_IndexFunc_string_string_b_L1_MM : HL [(.slc .str), (.int .i64), (.int .i64)] → Option (HL [(.slc .str), (.int .i64), (.int .i64)] ⊕ SumL [[], [(.int .i64)]]) := fun p => slices_IndexFunc_string_string_b_L1 p.1 p.2.1 p.2.2
def slices_IndexFunc_string_string_b_L1_C : Con := ⟨0, slices_IndexFunc_string_string_b_L1_T, slices_IndexFunc_string_string_b_L1_O, stdCn [(.slc .str), (.int .i64), (.int .i64)] [[], [(.int .i64)]] (loop slices_IndexFunc_string_string_b_L1_MM)⟩
def slices_IndexFunc_string_string_b_T : Tm := ⟨[(0, false, [.hole (.slc .str)]), (1, false, [.fn 38])], 2, []⟩
def slices_IndexFunc_string_string_b_O : List (Ex × Tm) := [(.ret, ⟨[(0, false, [.hole (.int .i64)])], 1, []⟩)]
def slices_IndexFunc_string_string_b_M (s0 : List (List UInt8)) : Option (Int) :=
  Option.bind (loop slices_IndexFunc_string_string_b_L1_P (s0, (((List.length s0) : Nat) : Int), (0 : Int))) fun (v0 : (Unit ⊕ Int)) =>
  Sum.elim (fun _ =>
      some ((-1 : Int))
    ) (fun (v2 : Int) =>
    some (v2)
  ) (v0)
def slices_IndexFunc_string_string_b_P : (List (List UInt8)) → Option (Int) := fun p => slices_IndexFunc_string_string_b_M p
def slices_IndexFunc_string_string_b_MM : HL [(.slc .str)] → Option (SumL [[(.int .i64)]]) := fun p => slices_IndexFunc_string_string_b_M p
def slices_IndexFunc_string_string_b_C : Con := ⟨0, slices_IndexFunc_string_string_b_T, slices_IndexFunc_string_string_b_O, stdCn [(.slc .str)] [[(.int .i64)]] slices_IndexFunc_string_string_b_MM⟩

def slices_ContainsFunc_string_string_a_T : Tm := ⟨[(0, false, [.hole (.slc .str)]), (1, false, [.fn 37])], 2, []⟩
def slices_ContainsFunc_string_string_a_O : List (Ex × Tm) := [(.ret, ⟨[(0, false, [.hole .bool])], 1, []⟩)]
def slices_ContainsFunc_string_string_a_M (s0 : List (List UInt8)) : Option (Bool) :=
  Option.bind (slices_IndexFunc_string_string_a_P s0) fun (v0 : Int) =>
  some (decide (v0 ≥ (0 : Int)))
def slices_ContainsFunc_string_string_a_P : (List (List UInt8)) → Option (Bool) := fun p => slices_ContainsFunc_string_string_a_M p
def slices_ContainsFunc_string_string_a_MM : HL [(.slc .str)] → Option (SumL [[.bool]]) := fun p => slices_ContainsFunc_string_string_a_M p
def slices_ContainsFunc_string_string_a_C : Con := ⟨0, slices_ContainsFunc_string_string_a_T, slices_ContainsFunc_string_string_a_O, stdCn [(.slc .str)] [[.bool]] slices_ContainsFunc_string_string_a_MM⟩

def slices_ContainsFunc_string_string_b_T : Tm := ⟨[(0, false, [.hole (.slc .str)]), (1, false, [.fn 38])], 2, []⟩
def slices_ContainsFunc_string_string_b_O : List (Ex × Tm) := [(.ret, ⟨[(0, false, [.hole .bool])], 1, []⟩)]
def slices_ContainsFunc_string_string_b_M (s0 : List (List UInt8)) : Option (Bool) :=
  Option.bind (slices_IndexFunc_string_string_b_P s0) fun (v0 : Int) =>
  some (decide (v0 ≥ (0 : Int)))
def slices_ContainsFunc_string_string_b_P : (List (List UInt8)) → Option (Bool) := fun p => slices_ContainsFunc_string_string_b_M p
def slices_ContainsFunc_string_string_b_MM : HL [(.slc .str)] → Option (SumL [[.bool]]) := fun p => slices_ContainsFunc_string_string_b_M p
def slices_ContainsFunc_string_string_b_C : Con := ⟨0, slices_ContainsFunc_string_string_b_T, slices_ContainsFunc_string_string_b_O, stdCn [(.slc .str)] [[.bool]] slices_ContainsFunc_string_string_b_MM⟩

def verb_Check_T : Tm := ⟨[(0, false, [.hole (.slc .str)])], 1, []⟩
def verb_Check_O : List (Ex × Tm) := [(.ret, ⟨[(0, true, [.hole (.int .i64), .hole (.int .i64), .hole (.int .i64), .hole .str, .hole (.int .i64), .hole (.int .i64), .hole .bool, .hole .bool, .hole .bool]), (1, false, [.hole .str])], 2, []⟩)]
def verb_Check_M (s0 : List (List UInt8)) : Option (Int × Int × Int × (List UInt8) × Int × Int × Bool × Bool × Bool × (List UInt8)) :=
  if ((((List.length s0) : Nat) : Int) == (0 : Int)) = true then
    some ((0 : Int), (0 : Int), (0 : Int), [], (0 : Int), (0 : Int), false, false, false, [(69 : UInt8), (82 : UInt8), (82 : UInt8), (32 : UInt8), (117 : UInt8), (110 : UInt8), (107 : UInt8), (110 : UInt8), (111 : UInt8), (119 : UInt8), (110 : UInt8), (32 : UInt8), (99 : UInt8), (111 : UInt8), (109 : UInt8), (109 : UInt8), (97 : UInt8), (110 : UInt8), (100 : UInt8)])
  else
  Option.bind (ix s0 (0 : Int)) fun (v0 : (List UInt8)) =>
  Option.bind (verb_Find_P v0) fun (v1 : (Int × (Int × (Int × ((List UInt8) × (Int × (Int × (Bool × (Bool × (Bool × Bool)))))))))) =>
  if (!v1.snd.snd.snd.snd.snd.snd.snd.snd.snd) = true then
    some ((0 : Int), (0 : Int), (0 : Int), [], (0 : Int), (0 : Int), false, false, false, [(69 : UInt8), (82 : UInt8), (82 : UInt8), (32 : UInt8), (117 : UInt8), (110 : UInt8), (107 : UInt8), (110 : UInt8), (111 : UInt8), (119 : UInt8), (110 : UInt8), (32 : UInt8), (99 : UInt8), (111 : UInt8), (109 : UInt8), (109 : UInt8), (97 : UInt8), (110 : UInt8), (100 : UInt8)])
  else
  Option.bind (verb_Spec_fits_P (v1.fst, v1.snd.fst, v1.snd.snd.fst, v1.snd.snd.snd.fst, v1.snd.snd.snd.snd.fst, v1.snd.snd.snd.snd.snd.fst, v1.snd.snd.snd.snd.snd.snd.fst, v1.snd.snd.snd.snd.snd.snd.snd.fst, v1.snd.snd.snd.snd.snd.snd.snd.snd.fst, (((List.length s0) : Nat) : Int))) fun (v2 : Bool) =>
  if (!v2) = true then
    some ((0 : Int), (0 : Int), (0 : Int), [], (0 : Int), (0 : Int), false, false, false, [(69 : UInt8), (82 : UInt8), (82 : UInt8), (32 : UInt8), (119 : UInt8), (114 : UInt8), (111 : UInt8), (110 : UInt8), (103 : UInt8), (32 : UInt8), (110 : UInt8), (117 : UInt8), (109 : UInt8), (98 : UInt8), (101 : UInt8), (114 : UInt8), (32 : UInt8), (111 : UInt8), (102 : UInt8), (32 : UInt8), (97 : UInt8), (114 : UInt8), (103 : UInt8), (117 : UInt8), (109 : UInt8), (101 : UInt8), (110 : UInt8), (116 : UInt8), (115 : UInt8)])
  else
  Option.bind (slices_ContainsFunc_string_string_a_P s0) fun (v3 : Bool) =>
  if v3 = true then
    some ((0 : Int), (0 : Int), (0 : Int), [], (0 : Int), (0 : Int), false, false, false, [(69 : UInt8), (82 : UInt8), (82 : UInt8), (32 : UInt8), (116 : UInt8), (111 : UInt8), (111 : UInt8), (32 : UInt8), (108 : UInt8), (111 : UInt8), (110 : UInt8), (103 : UInt8)])
  else
  Option.bind (verb_Keys_P s0) fun (v4 : (List (List UInt8))) =>
  Option.bind (slices_ContainsFunc_string_string_b_P v4) fun (v5 : Bool) =>
  if v5 = true then
    some ((0 : Int), (0 : Int), (0 : Int), [], (0 : Int), (0 : Int), false, false, false, [(69 : UInt8), (82 : UInt8), (82 : UInt8), (32 : UInt8), (98 : UInt8), (97 : UInt8), (100 : UInt8), (32 : UInt8), (107 : UInt8), (101 : UInt8), (121 : UInt8)])
  else
  some (v1.fst, v1.snd.fst, v1.snd.snd.fst, v1.snd.snd.snd.fst, v1.snd.snd.snd.snd.fst, v1.snd.snd.snd.snd.snd.fst, v1.snd.snd.snd.snd.snd.snd.fst, v1.snd.snd.snd.snd.snd.snd.snd.fst, v1.snd.snd.snd.snd.snd.snd.snd.snd.fst, [])
def verb_Check_P : (List (List UInt8)) → Option (Int × Int × Int × (List UInt8) × Int × Int × Bool × Bool × Bool × (List UInt8)) := fun p => verb_Check_M p
def verb_Check_MM : HL [(.slc .str)] → Option (SumL [[(.int .i64), (.int .i64), (.int .i64), .str, (.int .i64), (.int .i64), .bool, .bool, .bool, .str]]) := fun p => verb_Check_M p
def verb_Check_C : Con := ⟨0, verb_Check_T, verb_Check_O, stdCn [(.slc .str)] [[(.int .i64), (.int .i64), (.int .i64), .str, (.int .i64), (.int .i64), .bool, .bool, .bool, .str]] verb_Check_MM⟩

def intaglioref17_Keys_L1_T : Tm := ⟨[(0, false, [.hole (.slc .str)]), (3, false, [.row 1]), (4, false, [.ptr 0 0]), (5, false, [.hole .bool]), (6, false, [.hole (.int .i64)])], 59, [.box [.hole .str, .hole (.int .i64), .hole (.int .i64), .hole .bool, .hole (.int .i64), .hole (.int .i64), .hole (.int .i64), .hole .bool, .hole .bool], .row .str]⟩
def intaglioref17_Keys_L1_O : List (Ex × Tm) := [(.exit 0, ⟨[(3, false, [.row 1])], 59, [.box [.hole .str, .hole (.int .i64), .hole (.int .i64), .hole .bool, .hole (.int .i64), .hole (.int .i64), .hole (.int .i64), .hole .bool, .hole .bool], .row .str]⟩)]
def intaglioref17_Keys_L1 (s0 : List (List UInt8)) (s5 : Bool) (s6 : Int) (m0_0 : List UInt8) (m0_1 : Int) (m0_2 : Int) (m0_3 : Bool) (m0_4 : Int) (m0_5 : Int) (m0_6 : Int) (m0_7 : Bool) (m0_8 : Bool) (r1 : List (List UInt8)) : Option (((List (List UInt8)) × Bool × Int × (List UInt8) × Int × Int × Bool × Int × Int × Int × Bool × Bool × (List (List UInt8))) ⊕ (((List UInt8) × Int × Int × Bool × Int × Int × Int × Bool × Bool × (List (List UInt8))))) :=
  if s5 = true then
    if decide (m0_4 > (0 : Int)) = true then
      if decide (s6 < (((List.length s0) : Nat) : Int)) = true then
        Option.bind (grem IntKind.i64 (IntKind.wrap IntKind.i64 (s6 - m0_4)) m0_6) fun (v0 : Int) =>
        if (v0 == (0 : Int)) = true then
          if decide (m0_5 < (0 : Int)) = true then
            Option.bind (ix s0 s6) fun (v1 : (List UInt8)) =>
            Option.bind (room (16 : Nat) (List.length r1 + List.length [v1])) fun _ =>
            some (.inl (s0, s5, IntKind.wrap IntKind.i64 (s6 + (1 : Int)), m0_0, m0_1, m0_2, m0_3, m0_4, m0_5, m0_6, m0_7, m0_8, r1 ++ [v1]))
          else
          if decide (s6 ≤ m0_5) = true then
            Option.bind (ix s0 s6) fun (v3 : (List UInt8)) =>
            Option.bind (room (16 : Nat) (List.length r1 + List.length [v3])) fun _ =>
            some (.inl (s0, s5, IntKind.wrap IntKind.i64 (s6 + (1 : Int)), m0_0, m0_1, m0_2, m0_3, m0_4, m0_5, m0_6, m0_7, m0_8, r1 ++ [v3]))
          else
          some (.inl (s0, s5, IntKind.wrap IntKind.i64 (s6 + (1 : Int)), m0_0, m0_1, m0_2, m0_3, m0_4, m0_5, m0_6, m0_7, m0_8, r1))
        else
        some (.inl (s0, s5, IntKind.wrap IntKind.i64 (s6 + (1 : Int)), m0_0, m0_1, m0_2, m0_3, m0_4, m0_5, m0_6, m0_7, m0_8, r1))
      else
      some (.inr (m0_0, m0_1, m0_2, m0_3, m0_4, m0_5, m0_6, m0_7, m0_8, r1))
    else
    some (.inr (m0_0, m0_1, m0_2, m0_3, m0_4, m0_5, m0_6, m0_7, m0_8, r1))
  else
  some (.inr (m0_0, m0_1, m0_2, m0_3, m0_4, m0_5, m0_6, m0_7, m0_8, r1))
def intaglioref17_Keys_L1_P : (List (List UInt8)) × Bool × Int × (List UInt8) × Int × Int × Bool × Int × Int × Int × Bool × Bool × (List (List UInt8)) → Option (((List (List UInt8)) × Bool × Int × (List UInt8) × Int × Int × Bool × Int × Int × Int × Bool × Bool × (List (List UInt8))) ⊕ (((List UInt8) × Int × Int × Bool × Int × Int × Int × Bool × Bool × (List (List UInt8))))) := fun p => intaglioref17_Keys_L1 p.1 p.2.1 p.2.2.1 p.2.2.2.1 p.2.2.2.2.1 p.2.2.2.2.2.1 p.2.2.2.2.2.2.1 p.2.2.2.2.2.2.2.1 p.2.2.2.2.2.2.2.2.1 p.2.2.2.2.2.2.2.2.2.1 p.2.2.2.2.2.2.2.2.2.2.1 p.2.2.2.2.2.2.2.2.2.2.2.1 p.2.2.2.2.2.2.2.2.2.2.2.2
def intaglioref17_Keys_L1_MM : HL [(.slc .str), .bool, (.int .i64), .str, (.int .i64), (.int .i64), .bool, (.int .i64), (.int .i64), (.int .i64), .bool, .bool, (.slc .str)] → Option (HL [(.slc .str), .bool, (.int .i64), .str, (.int .i64), (.int .i64), .bool, (.int .i64), (.int .i64), (.int .i64), .bool, .bool, (.slc .str)] ⊕ SumL [[.str, (.int .i64), (.int .i64), .bool, (.int .i64), (.int .i64), (.int .i64), .bool, .bool, (.slc .str)]]) := fun p => intaglioref17_Keys_L1 p.1 p.2.1 p.2.2.1 p.2.2.2.1 p.2.2.2.2.1 p.2.2.2.2.2.1 p.2.2.2.2.2.2.1 p.2.2.2.2.2.2.2.1 p.2.2.2.2.2.2.2.2.1 p.2.2.2.2.2.2.2.2.2.1 p.2.2.2.2.2.2.2.2.2.2.1 p.2.2.2.2.2.2.2.2.2.2.2.1 p.2.2.2.2.2.2.2.2.2.2.2.2
def intaglioref17_Keys_L1_C : Con := ⟨1, intaglioref17_Keys_L1_T, intaglioref17_Keys_L1_O, stdCn [(.slc .str), .bool, (.int .i64), .str, (.int .i64), (.int .i64), .bool, (.int .i64), (.int .i64), (.int .i64), .bool, .bool, (.slc .str)] [[.str, (.int .i64), (.int .i64), .bool, (.int .i64), (.int .i64), (.int .i64), .bool, .bool, (.slc .str)]] (loop intaglioref17_Keys_L1_MM)⟩
def intaglioref17_Keys_T : Tm := ⟨[(0, false, [.hole (.slc .str)])], 1, []⟩
def intaglioref17_Keys_O : List (Ex × Tm) := [(.ret, ⟨[(0, false, [.row 0])], 1, [.row .str]⟩)]
def intaglioref17_Keys_M (s0 : List (List UInt8)) : Option ((List (List UInt8))) :=
  if ((((List.length s0) : Nat) : Int) == (0 : Int)) = true then
    some ([])
  else
  Option.bind (ix s0 (0 : Int)) fun (v0 : (List UInt8)) =>
  Option.bind (intaglioref17_Find_P v0) fun (v1 : ((List UInt8) × (Int × (Int × (Bool × (Int × (Int × (Int × (Bool × (Bool × Bool)))))))))) =>
  Option.bind (loop intaglioref17_Keys_L1_P (s0, v1.snd.snd.snd.snd.snd.snd.snd.snd.snd, (1 : Int), v1.fst, v1.snd.fst, v1.snd.snd.fst, v1.snd.snd.snd.fst, v1.snd.snd.snd.snd.fst, v1.snd.snd.snd.snd.snd.fst, v1.snd.snd.snd.snd.snd.snd.fst, v1.snd.snd.snd.snd.snd.snd.snd.fst, v1.snd.snd.snd.snd.snd.snd.snd.snd.fst, [])) fun (v2 : ((List UInt8) × (Int × (Int × (Bool × (Int × (Int × (Int × (Bool × (Bool × (List (List UInt8)))))))))))) =>
  some (v2.snd.snd.snd.snd.snd.snd.snd.snd.snd)
def intaglioref17_Keys_P : (List (List UInt8)) → Option ((List (List UInt8))) := fun p => intaglioref17_Keys_M p
def intaglioref17_Keys_MM : HL [(.slc .str)] → Option (SumL [[(.slc .str)]]) := fun p => intaglioref17_Keys_M p
def intaglioref17_Keys_C : Con := ⟨0, intaglioref17_Keys_T, intaglioref17_Keys_O, stdCn [(.slc .str)] [[(.slc .str)]] intaglioref17_Keys_MM⟩

def intaglioref17_Check_L1_T : Tm := ⟨[(0, false, [.hole (.slc .str)]), (2, false, [.ptr 0 0]), (4, false, [.ptr 1 0]), (6, false, [.hole (.int .i64)]), (7, false, [.hole (.int .i64)])], 91, [.box [.hole .str, .hole (.int .i64), .hole (.int .i64), .hole .bool, .hole (.int .i64), .hole (.int .i64), .hole (.int .i64), .hole .bool, .hole .bool], .box [.hole .str, .hole (.int .i64), .hole (.int .i64), .hole .bool, .hole (.int .i64), .hole (.int .i64), .hole (.int .i64), .hole .bool, .hole .bool]]⟩
def intaglioref17_Check_L1_O : List (Ex × Tm) := [(.exit 0, ⟨[(0, false, [.hole (.slc .str)]), (2, false, [.ptr 0 0]), (4, false, [.ptr 1 0])], 91, [.box [.hole .str, .hole (.int .i64), .hole (.int .i64), .hole .bool, .hole (.int .i64), .hole (.int .i64), .hole (.int .i64), .hole .bool, .hole .bool], .box [.hole .str, .hole (.int .i64), .hole (.int .i64), .hole .bool, .hole (.int .i64), .hole (.int .i64), .hole (.int .i64), .hole .bool, .hole .bool]]⟩), (.ret, ⟨[(2, false, [.ptr 0 0]), (3, false, [.hole .str])], 91, [.box [.hole .str, .hole (.int .i64), .hole (.int .i64), .hole .bool, .hole (.int .i64), .hole (.int .i64), .hole (.int .i64), .hole .bool, .hole .bool], .box [.hole .str, .hole (.int .i64), .hole (.int .i64), .hole .bool, .hole (.int .i64), .hole (.int .i64), .hole (.int .i64), .hole .bool, .hole .bool]]⟩)]
def intaglioref17_Check_L1 (s0 : List (List UInt8)) (s6 : Int) (s7 : Int) (m0_0 : List UInt8) (m0_1 : Int) (m0_2 : Int) (m0_3 : Bool) (m0_4 : Int) (m0_5 : Int) (m0_6 : Int) (m0_7 : Bool) (m0_8 : Bool) (m1_0 : List UInt8) (m1_1 : Int) (m1_2 : Int) (m1_3 : Bool) (m1_4 : Int) (m1_5 : Int) (m1_6 : Int) (m1_7 : Bool) (m1_8 : Bool) : Option (((List (List UInt8)) × Int × Int × (List UInt8) × Int × Int × Bool × Int × Int × Int × Bool × Bool × (List UInt8) × Int × Int × Bool × Int × Int × Int × Bool × Bool) ⊕ (((List (List UInt8)) × (List UInt8) × Int × Int × Bool × Int × Int × Int × Bool × Bool × (List UInt8) × Int × Int × Bool × Int × Int × Int × Bool × Bool) ⊕ ((List UInt8) × (List UInt8) × Int × Int × Bool × Int × Int × Int × Bool × Bool × (List UInt8) × Int × Int × Bool × Int × Int × Int × Bool × Bool))) :=
  if decide (s7 < s6) = true then
    Option.bind (ix s0 s7) fun (v0 : (List UInt8)) =>
    if decide ((((List.length v0) : Nat) : Int) > (512 : Int)) = true then
      some (.inr (.inr ([(69 : UInt8), (82 : UInt8), (82 : UInt8), (32 : UInt8), (116 : UInt8), (111 : UInt8), (111 : UInt8), (32 : UInt8), (108 : UInt8), (111 : UInt8), (110 : UInt8), (103 : UInt8)], [], (0 : Int), (0 : Int), false, (0 : Int), (0 : Int), (0 : Int), false, false, m1_0, m1_1, m1_2, m1_3, m1_4, m1_5, m1_6, m1_7, m1_8)))
    else
    some (.inl (s0, s6, IntKind.wrap IntKind.i64 (s7 + (1 : Int)), m0_0, m0_1, m0_2, m0_3, m0_4, m0_5, m0_6, m0_7, m0_8, m1_0, m1_1, m1_2, m1_3, m1_4, m1_5, m1_6, m1_7, m1_8))
  else
  some (.inr (.inl (s0, m0_0, m0_1, m0_2, m0_3, m0_4, m0_5, m0_6, m0_7, m0_8, m1_0, m1_1, m1_2, m1_3, m1_4, m1_5, m1_6, m1_7, m1_8)))
def intaglioref17_Check_L1_P : (List (List UInt8)) × Int × Int × (List UInt8) × Int × Int × Bool × Int × Int × Int × Bool × Bool × (List UInt8) × Int × Int × Bool × Int × Int × Int × Bool × Bool → Option (((List (List UInt8)) × Int × Int × (List UInt8) × Int × Int × Bool × Int × Int × Int × Bool × Bool × (List UInt8) × Int × Int × Bool × Int × Int × Int × Bool × Bool) ⊕ (((List (List UInt8)) × (List UInt8) × Int × Int × Bool × Int × Int × Int × Bool × Bool × (List UInt8) × Int × Int × Bool × Int × Int × Int × Bool × Bool) ⊕ ((List UInt8) × (List UInt8) × Int × Int × Bool × Int × Int × Int × Bool × Bool × (List UInt8) × Int × Int × Bool × Int × Int × Int × Bool × Bool))) := fun p => intaglioref17_Check_L1 p.1 p.2.1 p.2.2.1 p.2.2.2.1 p.2.2.2.2.1 p.2.2.2.2.2.1 p.2.2.2.2.2.2.1 p.2.2.2.2.2.2.2.1 p.2.2.2.2.2.2.2.2.1 p.2.2.2.2.2.2.2.2.2.1 p.2.2.2.2.2.2.2.2.2.2.1 p.2.2.2.2.2.2.2.2.2.2.2.1 p.2.2.2.2.2.2.2.2.2.2.2.2.1 p.2.2.2.2.2.2.2.2.2.2.2.2.2.1 p.2.2.2.2.2.2.2.2.2.2.2.2.2.2.1 p.2.2.2.2.2.2.2.2.2.2.2.2.2.2.2.1 p.2.2.2.2.2.2.2.2.2.2.2.2.2.2.2.2.1 p.2.2.2.2.2.2.2.2.2.2.2.2.2.2.2.2.2.1 p.2.2.2.2.2.2.2.2.2.2.2.2.2.2.2.2.2.2.1 p.2.2.2.2.2.2.2.2.2.2.2.2.2.2.2.2.2.2.2.1 p.2.2.2.2.2.2.2.2.2.2.2.2.2.2.2.2.2.2.2.2
def intaglioref17_Check_L1_MM : HL [(.slc .str), (.int .i64), (.int .i64), .str, (.int .i64), (.int .i64), .bool, (.int .i64), (.int .i64), (.int .i64), .bool, .bool, .str, (.int .i64), (.int .i64), .bool, (.int .i64), (.int .i64), (.int .i64), .bool, .bool] → Option (HL [(.slc .str), (.int .i64), (.int .i64), .str, (.int .i64), (.int .i64), .bool, (.int .i64), (.int .i64), (.int .i64), .bool, .bool, .str, (.int .i64), (.int .i64), .bool, (.int .i64), (.int .i64), (.int .i64), .bool, .bool] ⊕ SumL [[(.slc .str), .str, (.int .i64), (.int .i64), .bool, (.int .i64), (.int .i64), (.int .i64), .bool, .bool, .str, (.int .i64), (.int .i64), .bool, (.int .i64), (.int .i64), (.int .i64), .bool, .bool], [.str, .str, (.int .i64), (.int .i64), .bool, (.int .i64), (.int .i64), (.int .i64), .bool, .bool, .str, (.int .i64), (.int .i64), .bool, (.int .i64), (.int .i64), (.int .i64), .bool, .bool]]) := fun p => intaglioref17_Check_L1 p.1 p.2.1 p.2.2.1 p.2.2.2.1 p.2.2.2.2.1 p.2.2.2.2.2.1 p.2.2.2.2.2.2.1 p.2.2.2.2.2.2.2.1 p.2.2.2.2.2.2.2.2.1 p.2.2.2.2.2.2.2.2.2.1 p.2.2.2.2.2.2.2.2.2.2.1 p.2.2.2.2.2.2.2.2.2.2.2.1 p.2.2.2.2.2.2.2.2.2.2.2.2.1 p.2.2.2.2.2.2.2.2.2.2.2.2.2.1 p.2.2.2.2.2.2.2.2.2.2.2.2.2.2.1 p.2.2.2.2.2.2.2.2.2.2.2.2.2.2.2.1 p.2.2.2.2.2.2.2.2.2.2.2.2.2.2.2.2.1 p.2.2.2.2.2.2.2.2.2.2.2.2.2.2.2.2.2.1 p.2.2.2.2.2.2.2.2.2.2.2.2.2.2.2.2.2.2.1 p.2.2.2.2.2.2.2.2.2.2.2.2.2.2.2.2.2.2.2.1 p.2.2.2.2.2.2.2.2.2.2.2.2.2.2.2.2.2.2.2.2
def intaglioref17_Check_L1_C : Con := ⟨2, intaglioref17_Check_L1_T, intaglioref17_Check_L1_O, stdCn [(.slc .str), (.int .i64), (.int .i64), .str, (.int .i64), (.int .i64), .bool, (.int .i64), (.int .i64), (.int .i64), .bool, .bool, .str, (.int .i64), (.int .i64), .bool, (.int .i64), (.int .i64), (.int .i64), .bool, .bool] [[(.slc .str), .str, (.int .i64), (.int .i64), .bool, (.int .i64), (.int .i64), (.int .i64), .bool, .bool, .str, (.int .i64), (.int .i64), .bool, (.int .i64), (.int .i64), (.int .i64), .bool, .bool], [.str, .str, (.int .i64), (.int .i64), .bool, (.int .i64), (.int .i64), (.int .i64), .bool, .bool, .str, (.int .i64), (.int .i64), .bool, (.int .i64), (.int .i64), (.int .i64), .bool, .bool]] (loop intaglioref17_Check_L1_MM)⟩
def intaglioref17_Check_L2_T : Tm := ⟨[(2, false, [.ptr 0 0]), (4, false, [.ptr 1 0]), (8, false, [.row 2]), (9, false, [.hole (.int .i64)])], 91, [.box [.hole .str, .hole (.int .i64), .hole (.int .i64), .hole .bool, .hole (.int .i64), .hole (.int .i64), .hole (.int .i64), .hole .bool, .hole .bool], .box [.hole .str, .hole (.int .i64), .hole (.int .i64), .hole .bool, .hole (.int .i64), .hole (.int .i64), .hole (.int .i64), .hole .bool, .hole .bool], .row .str]⟩
def intaglioref17_Check_L2_O : List (Ex × Tm) := [(.exit 2, ⟨[(2, false, [.ptr 0 0]), (4, false, [.ptr 1 0])], 91, [.box [.hole .str, .hole (.int .i64), .hole (.int .i64), .hole .bool, .hole (.int .i64), .hole (.int .i64), .hole (.int .i64), .hole .bool, .hole .bool], .box [.hole .str, .hole (.int .i64), .hole (.int .i64), .hole .bool, .hole (.int .i64), .hole (.int .i64), .hole (.int .i64), .hole .bool, .hole .bool]]⟩), (.ret, ⟨[(2, false, [.ptr 0 0]), (3, false, [.hole .str])], 91, [.box [.hole .str, .hole (.int .i64), .hole (.int .i64), .hole .bool, .hole (.int .i64), .hole (.int .i64), .hole (.int .i64), .hole .bool, .hole .bool], .box [.hole .str, .hole (.int .i64), .hole (.int .i64), .hole .bool, .hole (.int .i64), .hole (.int .i64), .hole (.int .i64), .hole .bool, .hole .bool]]⟩)]
def intaglioref17_Check_L2 (s9 : Int) (m0_0 : List UInt8) (m0_1 : Int) (m0_2 : Int) (m0_3 : Bool) (m0_4 : Int) (m0_5 : Int) (m0_6 : Int) (m0_7 : Bool) (m0_8 : Bool) (m1_0 : List UInt8) (m1_1 : Int) (m1_2 : Int) (m1_3 : Bool) (m1_4 : Int) (m1_5 : Int) (m1_6 : Int) (m1_7 : Bool) (m1_8 : Bool) (r2 : List (List UInt8)) : Option ((Int × (List UInt8) × Int × Int × Bool × Int × Int × Int × Bool × Bool × (List UInt8) × Int × Int × Bool × Int × Int × Int × Bool × Bool × (List (List UInt8))) ⊕ (((List UInt8) × Int × Int × Bool × Int × Int × Int × Bool × Bool × (List UInt8) × Int × Int × Bool × Int × Int × Int × Bool × Bool) ⊕ ((List UInt8) × (List UInt8) × Int × Int × Bool × Int × Int × Int × Bool × Bool × (List UInt8) × Int × Int × Bool × Int × Int × Int × Bool × Bool))) :=
  if decide (s9 < (((List.length r2) : Nat) : Int)) = true then
    Option.bind (inb (List.length r2) s9) fun _ =>
    if decide ((((List.length (List.getD r2 (Int.toNat s9) (Ty.zero Ty.str))) : Nat) : Int) < (1 : Int)) = true then
      some (.inr (.inr ([(69 : UInt8), (82 : UInt8), (82 : UInt8), (32 : UInt8), (98 : UInt8), (97 : UInt8), (100 : UInt8), (32 : UInt8), (107 : UInt8), (101 : UInt8), (121 : UInt8)], [], (0 : Int), (0 : Int), false, (0 : Int), (0 : Int), (0 : Int), false, false, m1_0, m1_1, m1_2, m1_3, m1_4, m1_5, m1_6, m1_7, m1_8)))
    else
    Option.bind (inb (List.length r2) s9) fun _ =>
    if decide ((((List.length (List.getD r2 (Int.toNat s9) (Ty.zero Ty.str))) : Nat) : Int) > (64 : Int)) = true then
      some (.inr (.inr ([(69 : UInt8), (82 : UInt8), (82 : UInt8), (32 : UInt8), (98 : UInt8), (97 : UInt8), (100 : UInt8), (32 : UInt8), (107 : UInt8), (101 : UInt8), (121 : UInt8)], [], (0 : Int), (0 : Int), false, (0 : Int), (0 : Int), (0 : Int), false, false, m1_0, m1_1, m1_2, m1_3, m1_4, m1_5, m1_6, m1_7, m1_8)))
    else
    some (.inl (IntKind.wrap IntKind.i64 (s9 + (1 : Int)), m0_0, m0_1, m0_2, m0_3, m0_4, m0_5, m0_6, m0_7, m0_8, m1_0, m1_1, m1_2, m1_3, m1_4, m1_5, m1_6, m1_7, m1_8, r2))
  else
  some (.inr (.inl (m0_0, m0_1, m0_2, m0_3, m0_4, m0_5, m0_6, m0_7, m0_8, m1_0, m1_1, m1_2, m1_3, m1_4, m1_5, m1_6, m1_7, m1_8)))
def intaglioref17_Check_L2_P : Int × (List UInt8) × Int × Int × Bool × Int × Int × Int × Bool × Bool × (List UInt8) × Int × Int × Bool × Int × Int × Int × Bool × Bool × (List (List UInt8)) → Option ((Int × (List UInt8) × Int × Int × Bool × Int × Int × Int × Bool × Bool × (List UInt8) × Int × Int × Bool × Int × Int × Int × Bool × Bool × (List (List UInt8))) ⊕ (((List UInt8) × Int × Int × Bool × Int × Int × Int × Bool × Bool × (List UInt8) × Int × Int × Bool × Int × Int × Int × Bool × Bool) ⊕ ((List UInt8) × (List UInt8) × Int × Int × Bool × Int × Int × Int × Bool × Bool × (List UInt8) × Int × Int × Bool × Int × Int × Int × Bool × Bool))) := fun p => intaglioref17_Check_L2 p.1 p.2.1 p.2.2.1 p.2.2.2.1 p.2.2.2.2.1 p.2.2.2.2.2.1 p.2.2.2.2.2.2.1 p.2.2.2.2.2.2.2.1 p.2.2.2.2.2.2.2.2.1 p.2.2.2.2.2.2.2.2.2.1 p.2.2.2.2.2.2.2.2.2.2.1 p.2.2.2.2.2.2.2.2.2.2.2.1 p.2.2.2.2.2.2.2.2.2.2.2.2.1 p.2.2.2.2.2.2.2.2.2.2.2.2.2.1 p.2.2.2.2.2.2.2.2.2.2.2.2.2.2.1 p.2.2.2.2.2.2.2.2.2.2.2.2.2.2.2.1 p.2.2.2.2.2.2.2.2.2.2.2.2.2.2.2.2.1 p.2.2.2.2.2.2.2.2.2.2.2.2.2.2.2.2.2.1 p.2.2.2.2.2.2.2.2.2.2.2.2.2.2.2.2.2.2.1 p.2.2.2.2.2.2.2.2.2.2.2.2.2.2.2.2.2.2.2
def intaglioref17_Check_L2_MM : HL [(.int .i64), .str, (.int .i64), (.int .i64), .bool, (.int .i64), (.int .i64), (.int .i64), .bool, .bool, .str, (.int .i64), (.int .i64), .bool, (.int .i64), (.int .i64), (.int .i64), .bool, .bool, (.slc .str)] → Option (HL [(.int .i64), .str, (.int .i64), (.int .i64), .bool, (.int .i64), (.int .i64), (.int .i64), .bool, .bool, .str, (.int .i64), (.int .i64), .bool, (.int .i64), (.int .i64), (.int .i64), .bool, .bool, (.slc .str)] ⊕ SumL [[.str, (.int .i64), (.int .i64), .bool, (.int .i64), (.int .i64), (.int .i64), .bool, .bool, .str, (.int .i64), (.int .i64), .bool, (.int .i64), (.int .i64), (.int .i64), .bool, .bool], [.str, .str, (.int .i64), (.int .i64), .bool, (.int .i64), (.int .i64), (.int .i64), .bool, .bool, .str, (.int .i64), (.int .i64), .bool, (.int .i64), (.int .i64), (.int .i64), .bool, .bool]]) := fun p => intaglioref17_Check_L2 p.1 p.2.1 p.2.2.1 p.2.2.2.1 p.2.2.2.2.1 p.2.2.2.2.2.1 p.2.2.2.2.2.2.1 p.2.2.2.2.2.2.2.1 p.2.2.2.2.2.2.2.2.1 p.2.2.2.2.2.2.2.2.2.1 p.2.2.2.2.2.2.2.2.2.2.1 p.2.2.2.2.2.2.2.2.2.2.2.1 p.2.2.2.2.2.2.2.2.2.2.2.2.1 p.2.2.2.2.2.2.2.2.2.2.2.2.2.1 p.2.2.2.2.2.2.2.2.2.2.2.2.2.2.1 p.2.2.2.2.2.2.2.2.2.2.2.2.2.2.2.1 p.2.2.2.2.2.2.2.2.2.2.2.2.2.2.2.2.1 p.2.2.2.2.2.2.2.2.2.2.2.2.2.2.2.2.2.1 p.2.2.2.2.2.2.2.2.2.2.2.2.2.2.2.2.2.2.1 p.2.2.2.2.2.2.2.2.2.2.2.2.2.2.2.2.2.2.2
def intaglioref17_Check_L2_C : Con := ⟨2, intaglioref17_Check_L2_T, intaglioref17_Check_L2_O, stdCn [(.int .i64), .str, (.int .i64), (.int .i64), .bool, (.int .i64), (.int .i64), (.int .i64), .bool, .bool, .str, (.int .i64), (.int .i64), .bool, (.int .i64), (.int .i64), (.int .i64), .bool, .bool, (.slc .str)] [[.str, (.int .i64), (.int .i64), .bool, (.int .i64), (.int .i64), (.int .i64), .bool, .bool, .str, (.int .i64), (.int .i64), .bool, (.int .i64), (.int .i64), (.int .i64), .bool, .bool], [.str, .str, (.int .i64), (.int .i64), .bool, (.int .i64), (.int .i64), (.int .i64), .bool, .bool, .str, (.int .i64), (.int .i64), .bool, (.int .i64), (.int .i64), (.int .i64), .bool, .bool]] (loop intaglioref17_Check_L2_MM)⟩
def intaglioref17_Check_T : Tm := ⟨[(0, false, [.hole (.slc .str)])], 1, []⟩
def intaglioref17_Check_O : List (Ex × Tm) := [(.ret, ⟨[(0, true, [.hole .str, .hole (.int .i64), .hole (.int .i64), .hole .bool, .hole (.int .i64), .hole (.int .i64), .hole (.int .i64), .hole .bool, .hole .bool]), (1, false, [.hole .str])], 2, []⟩)]
def intaglioref17_Check_M (s0 : List (List UInt8)) : Option ((List UInt8) × Int × Int × Bool × Int × Int × Int × Bool × Bool × (List UInt8)) :=
  if ((((List.length s0) : Nat) : Int) == (0 : Int)) = true then
    some ([], (0 : Int), (0 : Int), false, (0 : Int), (0 : Int), (0 : Int), false, false, [(69 : UInt8), (82 : UInt8), (82 : UInt8), (32 : UInt8), (117 : UInt8), (110 : UInt8), (107 : UInt8), (110 : UInt8), (111 : UInt8), (119 : UInt8), (110 : UInt8), (32 : UInt8), (99 : UInt8), (111 : UInt8), (109 : UInt8), (109 : UInt8), (97 : UInt8), (110 : UInt8), (100 : UInt8)])
  else
  Option.bind (ix s0 (0 : Int)) fun (v0 : (List UInt8)) =>
  Option.bind (intaglioref17_Find_P v0) fun (v1 : ((List UInt8) × (Int × (Int × (Bool × (Int × (Int × (Int × (Bool × (Bool × Bool)))))))))) =>
  if (!v1.snd.snd.snd.snd.snd.snd.snd.snd.snd) = true then
    some ([], (0 : Int), (0 : Int), false, (0 : Int), (0 : Int), (0 : Int), false, false, [(69 : UInt8), (82 : UInt8), (82 : UInt8), (32 : UInt8), (117 : UInt8), (110 : UInt8), (107 : UInt8), (110 : UInt8), (111 : UInt8), (119 : UInt8), (110 : UInt8), (32 : UInt8), (99 : UInt8), (111 : UInt8), (109 : UInt8), (109 : UInt8), (97 : UInt8), (110 : UInt8), (100 : UInt8)])
  else
  if decide ((((List.length s0) : Nat) : Int) < v1.snd.fst) = true then
    some ([], (0 : Int), (0 : Int), false, (0 : Int), (0 : Int), (0 : Int), false, false, [(69 : UInt8), (82 : UInt8), (82 : UInt8), (32 : UInt8), (119 : UInt8), (114 : UInt8), (111 : UInt8), (110 : UInt8), (103 : UInt8), (32 : UInt8), (110 : UInt8), (117 : UInt8), (109 : UInt8), (98 : UInt8), (101 : UInt8), (114 : UInt8), (32 : UInt8), (111 : UInt8), (102 : UInt8), (32 : UInt8), (97 : UInt8), (114 : UInt8), (103 : UInt8), (117 : UInt8), (109 : UInt8), (101 : UInt8), (110 : UInt8), (116 : UInt8), (115 : UInt8)])
  else
  if decide ((((List.length s0) : Nat) : Int) > v1.snd.snd.fst) = true then
    some ([], (0 : Int), (0 : Int), false, (0 : Int), (0 : Int), (0 : Int), false, false, [(69 : UInt8), (82 : UInt8), (82 : UInt8), (32 : UInt8), (119 : UInt8), (114 : UInt8), (111 : UInt8), (110 : UInt8), (103 : UInt8), (32 : UInt8), (110 : UInt8), (117 : UInt8), (109 : UInt8), (98 : UInt8), (101 : UInt8), (114 : UInt8), (32 : UInt8), (111 : UInt8), (102 : UInt8), (32 : UInt8), (97 : UInt8), (114 : UInt8), (103 : UInt8), (117 : UInt8), (109 : UInt8), (101 : UInt8), (110 : UInt8), (116 : UInt8), (115 : UInt8)])
  else
  if v1.snd.snd.snd.snd.snd.snd.snd.fst = true then
    Option.bind (grem IntKind.i64 (((List.length s0) : Nat) : Int) (2 : Int)) fun (v2 : Int) =>
    if (v2 == (0 : Int)) = true then
      some ([], (0 : Int), (0 : Int), false, (0 : Int), (0 : Int), (0 : Int), false, false, [(69 : UInt8), (82 : UInt8), (82 : UInt8), (32 : UInt8), (119 : UInt8), (114 : UInt8), (111 : UInt8), (110 : UInt8), (103 : UInt8), (32 : UInt8), (110 : UInt8), (117 : UInt8), (109 : UInt8), (98 : UInt8), (101 : UInt8), (114 : UInt8), (32 : UInt8), (111 : UInt8), (102 : UInt8), (32 : UInt8), (97 : UInt8), (114 : UInt8), (103 : UInt8), (117 : UInt8), (109 : UInt8), (101 : UInt8), (110 : UInt8), (116 : UInt8), (115 : UInt8)])
    else
    if v1.snd.snd.snd.snd.snd.snd.snd.snd.fst = true then
      Option.bind (grem IntKind.i64 (((List.length s0) : Nat) : Int) (2 : Int)) fun (v3 : Int) =>
      if (v3 == (1 : Int)) = true then
        some ([], (0 : Int), (0 : Int), false, (0 : Int), (0 : Int), (0 : Int), false, false, [(69 : UInt8), (82 : UInt8), (82 : UInt8), (32 : UInt8), (119 : UInt8), (114 : UInt8), (111 : UInt8), (110 : UInt8), (103 : UInt8), (32 : UInt8), (110 : UInt8), (117 : UInt8), (109 : UInt8), (98 : UInt8), (101 : UInt8), (114 : UInt8), (32 : UInt8), (111 : UInt8), (102 : UInt8), (32 : UInt8), (97 : UInt8), (114 : UInt8), (103 : UInt8), (117 : UInt8), (109 : UInt8), (101 : UInt8), (110 : UInt8), (116 : UInt8), (115 : UInt8)])
      else
      Option.bind (loop intaglioref17_Check_L1_P (s0, (((List.length s0) : Nat) : Int), (0 : Int), [], (0 : Int), (0 : Int), false, (0 : Int), (0 : Int), (0 : Int), false, false, v1.fst, v1.snd.fst, v1.snd.snd.fst, v1.snd.snd.snd.fst, v1.snd.snd.snd.snd.fst, v1.snd.snd.snd.snd.snd.fst, v1.snd.snd.snd.snd.snd.snd.fst, v1.snd.snd.snd.snd.snd.snd.snd.fst, v1.snd.snd.snd.snd.snd.snd.snd.snd.fst)) fun (v4 : (((List (List UInt8)) × ((List UInt8) × (Int × (Int × (Bool × (Int × (Int × (Int × (Bool × (Bool × ((List UInt8) × (Int × (Int × (Bool × (Int × (Int × (Int × (Bool × Bool)))))))))))))))))) ⊕ ((List UInt8) × ((List UInt8) × (Int × (Int × (Bool × (Int × (Int × (Int × (Bool × (Bool × ((List UInt8) × (Int × (Int × (Bool × (Int × (Int × (Int × (Bool × Bool)))))))))))))))))))) =>
      Sum.elim (fun (v5 : ((List (List UInt8)) × ((List UInt8) × (Int × (Int × (Bool × (Int × (Int × (Int × (Bool × (Bool × ((List UInt8) × (Int × (Int × (Bool × (Int × (Int × (Int × (Bool × Bool))))))))))))))))))) =>
          Option.bind (intaglioref17_Keys_P v5.fst) fun (v7 : (List (List UInt8))) =>
          Option.bind (loop intaglioref17_Check_L2_P ((0 : Int), v5.snd.fst, v5.snd.snd.fst, v5.snd.snd.snd.fst, v5.snd.snd.snd.snd.fst, v5.snd.snd.snd.snd.snd.fst, v5.snd.snd.snd.snd.snd.snd.fst, v5.snd.snd.snd.snd.snd.snd.snd.fst, v5.snd.snd.snd.snd.snd.snd.snd.snd.fst, v5.snd.snd.snd.snd.snd.snd.snd.snd.snd.fst, v5.snd.snd.snd.snd.snd.snd.snd.snd.snd.snd.fst, v5.snd.snd.snd.snd.snd.snd.snd.snd.snd.snd.snd.fst, v5.snd.snd.snd.snd.snd.snd.snd.snd.snd.snd.snd.snd.fst, v5.snd.snd.snd.snd.snd.snd.snd.snd.snd.snd.snd.snd.snd.fst, v5.snd.snd.snd.snd.snd.snd.snd.snd.snd.snd.snd.snd.snd.snd.fst, v5.snd.snd.snd.snd.snd.snd.snd.snd.snd.snd.snd.snd.snd.snd.snd.fst, v5.snd.snd.snd.snd.snd.snd.snd.snd.snd.snd.snd.snd.snd.snd.snd.snd.fst, v5.snd.snd.snd.snd.snd.snd.snd.snd.snd.snd.snd.snd.snd.snd.snd.snd.snd.fst, v5.snd.snd.snd.snd.snd.snd.snd.snd.snd.snd.snd.snd.snd.snd.snd.snd.snd.snd, v7)) fun (v8 : (((List UInt8) × (Int × (Int × (Bool × (Int × (Int × (Int × (Bool × (Bool × ((List UInt8) × (Int × (Int × (Bool × (Int × (Int × (Int × (Bool × Bool))))))))))))))))) ⊕ ((List UInt8) × ((List UInt8) × (Int × (Int × (Bool × (Int × (Int × (Int × (Bool × (Bool × ((List UInt8) × (Int × (Int × (Bool × (Int × (Int × (Int × (Bool × Bool)))))))))))))))))))) =>
          Sum.elim (fun (v9 : ((List UInt8) × (Int × (Int × (Bool × (Int × (Int × (Int × (Bool × (Bool × ((List UInt8) × (Int × (Int × (Bool × (Int × (Int × (Int × (Bool × Bool)))))))))))))))))) =>
              some (v9.snd.snd.snd.snd.snd.snd.snd.snd.snd.fst, v9.snd.snd.snd.snd.snd.snd.snd.snd.snd.snd.fst, v9.snd.snd.snd.snd.snd.snd.snd.snd.snd.snd.snd.fst, v9.snd.snd.snd.snd.snd.snd.snd.snd.snd.snd.snd.snd.fst, v9.snd.snd.snd.snd.snd.snd.snd.snd.snd.snd.snd.snd.snd.fst, v9.snd.snd.snd.snd.snd.snd.snd.snd.snd.snd.snd.snd.snd.snd.fst, v9.snd.snd.snd.snd.snd.snd.snd.snd.snd.snd.snd.snd.snd.snd.snd.fst, v9.snd.snd.snd.snd.snd.snd.snd.snd.snd.snd.snd.snd.snd.snd.snd.snd.fst, v9.snd.snd.snd.snd.snd.snd.snd.snd.snd.snd.snd.snd.snd.snd.snd.snd.snd, [])
            ) (fun (v10 : ((List UInt8) × ((List UInt8) × (Int × (Int × (Bool × (Int × (Int × (Int × (Bool × (Bool × ((List UInt8) × (Int × (Int × (Bool × (Int × (Int × (Int × (Bool × Bool))))))))))))))))))) =>
            some (v10.snd.fst, v10.snd.snd.fst, v10.snd.snd.snd.fst, v10.snd.snd.snd.snd.fst, v10.snd.snd.snd.snd.snd.fst, v10.snd.snd.snd.snd.snd.snd.fst, v10.snd.snd.snd.snd.snd.snd.snd.fst, v10.snd.snd.snd.snd.snd.snd.snd.snd.fst, v10.snd.snd.snd.snd.snd.snd.snd.snd.snd.fst, v10.fst)
          ) (v8)
        ) (fun (v6 : ((List UInt8) × ((List UInt8) × (Int × (Int × (Bool × (Int × (Int × (Int × (Bool × (Bool × ((List UInt8) × (Int × (Int × (Bool × (Int × (Int × (Int × (Bool × Bool))))))))))))))))))) =>
        some (v6.snd.fst, v6.snd.snd.fst, v6.snd.snd.snd.fst, v6.snd.snd.snd.snd.fst, v6.snd.snd.snd.snd.snd.fst, v6.snd.snd.snd.snd.snd.snd.fst, v6.snd.snd.snd.snd.snd.snd.snd.fst, v6.snd.snd.snd.snd.snd.snd.snd.snd.fst, v6.snd.snd.snd.snd.snd.snd.snd.snd.snd.fst, v6.fst)
      ) (v4)
    else
    Option.bind (loop intaglioref17_Check_L1_P (s0, (((List.length s0) : Nat) : Int), (0 : Int), [], (0 : Int), (0 : Int), false, (0 : Int), (0 : Int), (0 : Int), false, false, v1.fst, v1.snd.fst, v1.snd.snd.fst, v1.snd.snd.snd.fst, v1.snd.snd.snd.snd.fst, v1.snd.snd.snd.snd.snd.fst, v1.snd.snd.snd.snd.snd.snd.fst, v1.snd.snd.snd.snd.snd.snd.snd.fst, v1.snd.snd.snd.snd.snd.snd.snd.snd.fst)) fun (v11 : (((List (List UInt8)) × ((List UInt8) × (Int × (Int × (Bool × (Int × (Int × (Int × (Bool × (Bool × ((List UInt8) × (Int × (Int × (Bool × (Int × (Int × (Int × (Bool × Bool)))))))))))))))))) ⊕ ((List UInt8) × ((List UInt8) × (Int × (Int × (Bool × (Int × (Int × (Int × (Bool × (Bool × ((List UInt8) × (Int × (Int × (Bool × (Int × (Int × (Int × (Bool × Bool)))))))))))))))))))) =>
    Sum.elim (fun (v12 : ((List (List UInt8)) × ((List UInt8) × (Int × (Int × (Bool × (Int × (Int × (Int × (Bool × (Bool × ((List UInt8) × (Int × (Int × (Bool × (Int × (Int × (Int × (Bool × Bool))))))))))))))))))) =>
        Option.bind (intaglioref17_Keys_P v12.fst) fun (v14 : (List (List UInt8))) =>
        Option.bind (loop intaglioref17_Check_L2_P ((0 : Int), v12.snd.fst, v12.snd.snd.fst, v12.snd.snd.snd.fst, v12.snd.snd.snd.snd.fst, v12.snd.snd.snd.snd.snd.fst, v12.snd.snd.snd.snd.snd.snd.fst, v12.snd.snd.snd.snd.snd.snd.snd.fst, v12.snd.snd.snd.snd.snd.snd.snd.snd.fst, v12.snd.snd.snd.snd.snd.snd.snd.snd.snd.fst, v12.snd.snd.snd.snd.snd.snd.snd.snd.snd.snd.fst, v12.snd.snd.snd.snd.snd.snd.snd.snd.snd.snd.snd.fst, v12.snd.snd.snd.snd.snd.snd.snd.snd.snd.snd.snd.snd.fst, v12.snd.snd.snd.snd.snd.snd.snd.snd.snd.snd.snd.snd.snd.fst, v12.snd.snd.snd.snd.snd.snd.snd.snd.snd.snd.snd.snd.snd.snd.fst, v12.snd.snd.snd.snd.snd.snd.snd.snd.snd.snd.snd.snd.snd.snd.snd.fst, v12.snd.snd.snd.snd.snd.snd.snd.snd.snd.snd.snd.snd.snd.snd.snd.snd.fst, v12.snd.snd.snd.snd.snd.snd.snd.snd.snd.snd.snd.snd.snd.snd.snd.snd.snd.fst, v12.snd.snd.snd.snd.snd.snd.snd.snd.snd.snd.snd.snd.snd.snd.snd.snd.snd.snd, v14)) fun (v15 : (((List UInt8) × (Int × (Int × (Bool × (Int × (Int × (Int × (Bool × (Bool × ((List UInt8) × (Int × (Int × (Bool × (Int × (Int × (Int × (Bool × Bool))))))))))))))))) ⊕ ((List UInt8) × ((List UInt8) × (Int × (Int × (Bool × (Int × (Int × (Int × (Bool × (Bool × ((List UInt8) × (Int × (Int × (Bool × (Int × (Int × (Int × (Bool × Bool)))))))))))))))))))) =>
        Sum.elim (fun (v16 : ((List UInt8) × (Int × (Int × (Bool × (Int × (Int × (Int × (Bool × (Bool × ((List UInt8) × (Int × (Int × (Bool × (Int × (Int × (Int × (Bool × Bool)))))))))))))))))) =>
            some (v16.snd.snd.snd.snd.snd.snd.snd.snd.snd.fst, v16.snd.snd.snd.snd.snd.snd.snd.snd.snd.snd.fst, v16.snd.snd.snd.snd.snd.snd.snd.snd.snd.snd.snd.fst, v16.snd.snd.snd.snd.snd.snd.snd.snd.snd.snd.snd.snd.fst, v16.snd.snd.snd.snd.snd.snd.snd.snd.snd.snd.snd.snd.snd.fst, v16.snd.snd.snd.snd.snd.snd.snd.snd.snd.snd.snd.snd.snd.snd.fst, v16.snd.snd.snd.snd.snd.snd.snd.snd.snd.snd.snd.snd.snd.snd.snd.fst, v16.snd.snd.snd.snd.snd.snd.snd.snd.snd.snd.snd.snd.snd.snd.snd.snd.fst, v16.snd.snd.snd.snd.snd.snd.snd.snd.snd.snd.snd.snd.snd.snd.snd.snd.snd, [])
          ) (fun (v17 : ((List UInt8) × ((List UInt8) × (Int × (Int × (Bool × (Int × (Int × (Int × (Bool × (Bool × ((List UInt8) × (Int × (Int × (Bool × (Int × (Int × (Int × (Bool × Bool))))))))))))))))))) =>
          some (v17.snd.fst, v17.snd.snd.fst, v17.snd.snd.snd.fst, v17.snd.snd.snd.snd.fst, v17.snd.snd.snd.snd.snd.fst, v17.snd.snd.snd.snd.snd.snd.fst, v17.snd.snd.snd.snd.snd.snd.snd.fst, v17.snd.snd.snd.snd.snd.snd.snd.snd.fst, v17.snd.snd.snd.snd.snd.snd.snd.snd.snd.fst, v17.fst)
        ) (v15)
      ) (fun (v13 : ((List UInt8) × ((List UInt8) × (Int × (Int × (Bool × (Int × (Int × (Int × (Bool × (Bool × ((List UInt8) × (Int × (Int × (Bool × (Int × (Int × (Int × (Bool × Bool))))))))))))))))))) =>
      some (v13.snd.fst, v13.snd.snd.fst, v13.snd.snd.snd.fst, v13.snd.snd.snd.snd.fst, v13.snd.snd.snd.snd.snd.fst, v13.snd.snd.snd.snd.snd.snd.fst, v13.snd.snd.snd.snd.snd.snd.snd.fst, v13.snd.snd.snd.snd.snd.snd.snd.snd.fst, v13.snd.snd.snd.snd.snd.snd.snd.snd.snd.fst, v13.fst)
    ) (v11)
  else
  if v1.snd.snd.snd.snd.snd.snd.snd.snd.fst = true then
    Option.bind (grem IntKind.i64 (((List.length s0) : Nat) : Int) (2 : Int)) fun (v18 : Int) =>
    if (v18 == (1 : Int)) = true then
      some ([], (0 : Int), (0 : Int), false, (0 : Int), (0 : Int), (0 : Int), false, false, [(69 : UInt8), (82 : UInt8), (82 : UInt8), (32 : UInt8), (119 : UInt8), (114 : UInt8), (111 : UInt8), (110 : UInt8), (103 : UInt8), (32 : UInt8), (110 : UInt8), (117 : UInt8), (109 : UInt8), (98 : UInt8), (101 : UInt8), (114 : UInt8), (32 : UInt8), (111 : UInt8), (102 : UInt8), (32 : UInt8), (97 : UInt8), (114 : UInt8), (103 : UInt8), (117 : UInt8), (109 : UInt8), (101 : UInt8), (110 : UInt8), (116 : UInt8), (115 : UInt8)])
    else
    Option.bind (loop intaglioref17_Check_L1_P (s0, (((List.length s0) : Nat) : Int), (0 : Int), [], (0 : Int), (0 : Int), false, (0 : Int), (0 : Int), (0 : Int), false, false, v1.fst, v1.snd.fst, v1.snd.snd.fst, v1.snd.snd.snd.fst, v1.snd.snd.snd.snd.fst, v1.snd.snd.snd.snd.snd.fst, v1.snd.snd.snd.snd.snd.snd.fst, v1.snd.snd.snd.snd.snd.snd.snd.fst, v1.snd.snd.snd.snd.snd.snd.snd.snd.fst)) fun (v19 : (((List (List UInt8)) × ((List UInt8) × (Int × (Int × (Bool × (Int × (Int × (Int × (Bool × (Bool × ((List UInt8) × (Int × (Int × (Bool × (Int × (Int × (Int × (Bool × Bool)))))))))))))))))) ⊕ ((List UInt8) × ((List UInt8) × (Int × (Int × (Bool × (Int × (Int × (Int × (Bool × (Bool × ((List UInt8) × (Int × (Int × (Bool × (Int × (Int × (Int × (Bool × Bool)))))))))))))))))))) =>
    Sum.elim (fun (v20 : ((List (List UInt8)) × ((List UInt8) × (Int × (Int × (Bool × (Int × (Int × (Int × (Bool × (Bool × ((List UInt8) × (Int × (Int × (Bool × (Int × (Int × (Int × (Bool × Bool))))))))))))))))))) =>
        Option.bind (intaglioref17_Keys_P v20.fst) fun (v22 : (List (List UInt8))) =>
        Option.bind (loop intaglioref17_Check_L2_P ((0 : Int), v20.snd.fst, v20.snd.snd.fst, v20.snd.snd.snd.fst, v20.snd.snd.snd.snd.fst, v20.snd.snd.snd.snd.snd.fst, v20.snd.snd.snd.snd.snd.snd.fst, v20.snd.snd.snd.snd.snd.snd.snd.fst, v20.snd.snd.snd.snd.snd.snd.snd.snd.fst, v20.snd.snd.snd.snd.snd.snd.snd.snd.snd.fst, v20.snd.snd.snd.snd.snd.snd.snd.snd.snd.snd.fst, v20.snd.snd.snd.snd.snd.snd.snd.snd.snd.snd.snd.fst, v20.snd.snd.snd.snd.snd.snd.snd.snd.snd.snd.snd.snd.fst, v20.snd.snd.snd.snd.snd.snd.snd.snd.snd.snd.snd.snd.snd.fst, v20.snd.snd.snd.snd.snd.snd.snd.snd.snd.snd.snd.snd.snd.snd.fst, v20.snd.snd.snd.snd.snd.snd.snd.snd.snd.snd.snd.snd.snd.snd.snd.fst, v20.snd.snd.snd.snd.snd.snd.snd.snd.snd.snd.snd.snd.snd.snd.snd.snd.fst, v20.snd.snd.snd.snd.snd.snd.snd.snd.snd.snd.snd.snd.snd.snd.snd.snd.snd.fst, v20.snd.snd.snd.snd.snd.snd.snd.snd.snd.snd.snd.snd.snd.snd.snd.snd.snd.snd, v22)) fun (v23 : (((List UInt8) × (Int × (Int × (Bool × (Int × (Int × (Int × (Bool × (Bool × ((List UInt8) × (Int × (Int × (Bool × (Int × (Int × (Int × (Bool × Bool))))))))))))))))) ⊕ ((List UInt8) × ((List UInt8) × (Int × (Int × (Bool × (Int × (Int × (Int × (Bool × (Bool × ((List UInt8) × (Int × (Int × (Bool × (Int × (Int × (Int × (Bool × Bool)))))))))))))))))))) =>
        Sum.elim (fun (v24 : ((List UInt8) × (Int × (Int × (Bool × (Int × (Int × (Int × (Bool × (Bool × ((List UInt8) × (Int × (Int × (Bool × (Int × (Int × (Int × (Bool × Bool)))))))))))))))))) =>
            some (v24.snd.snd.snd.snd.snd.snd.snd.snd.snd.fst, v24.snd.snd.snd.snd.snd.snd.snd.snd.snd.snd.fst, v24.snd.snd.snd.snd.snd.snd.snd.snd.snd.snd.snd.fst, v24.snd.snd.snd.snd.snd.snd.snd.snd.snd.snd.snd.snd.fst, v24.snd.snd.snd.snd.snd.snd.snd.snd.snd.snd.snd.snd.snd.fst, v24.snd.snd.snd.snd.snd.snd.snd.snd.snd.snd.snd.snd.snd.snd.fst, v24.snd.snd.snd.snd.snd.snd.snd.snd.snd.snd.snd.snd.snd.snd.snd.fst, v24.snd.snd.snd.snd.snd.snd.snd.snd.snd.snd.snd.snd.snd.snd.snd.snd.fst, v24.snd.snd.snd.snd.snd.snd.snd.snd.snd.snd.snd.snd.snd.snd.snd.snd.snd, [])
          ) (fun (v25 : ((List UInt8) × ((List UInt8) × (Int × (Int × (Bool × (Int × (Int × (Int × (Bool × (Bool × ((List UInt8) × (Int × (Int × (Bool × (Int × (Int × (Int × (Bool × Bool))))))))))))))))))) =>
          some (v25.snd.fst, v25.snd.snd.fst, v25.snd.snd.snd.fst, v25.snd.snd.snd.snd.fst, v25.snd.snd.snd.snd.snd.fst, v25.snd.snd.snd.snd.snd.snd.fst, v25.snd.snd.snd.snd.snd.snd.snd.fst, v25.snd.snd.snd.snd.snd.snd.snd.snd.fst, v25.snd.snd.snd.snd.snd.snd.snd.snd.snd.fst, v25.fst)
        ) (v23)
      ) (fun (v21 : ((List UInt8) × ((List UInt8) × (Int × (Int × (Bool × (Int × (Int × (Int × (Bool × (Bool × ((List UInt8) × (Int × (Int × (Bool × (Int × (Int × (Int × (Bool × Bool))))))))))))))))))) =>
      some (v21.snd.fst, v21.snd.snd.fst, v21.snd.snd.snd.fst, v21.snd.snd.snd.snd.fst, v21.snd.snd.snd.snd.snd.fst, v21.snd.snd.snd.snd.snd.snd.fst, v21.snd.snd.snd.snd.snd.snd.snd.fst, v21.snd.snd.snd.snd.snd.snd.snd.snd.fst, v21.snd.snd.snd.snd.snd.snd.snd.snd.snd.fst, v21.fst)
    ) (v19)
  else
  Option.bind (loop intaglioref17_Check_L1_P (s0, (((List.length s0) : Nat) : Int), (0 : Int), [], (0 : Int), (0 : Int), false, (0 : Int), (0 : Int), (0 : Int), false, false, v1.fst, v1.snd.fst, v1.snd.snd.fst, v1.snd.snd.snd.fst, v1.snd.snd.snd.snd.fst, v1.snd.snd.snd.snd.snd.fst, v1.snd.snd.snd.snd.snd.snd.fst, v1.snd.snd.snd.snd.snd.snd.snd.fst, v1.snd.snd.snd.snd.snd.snd.snd.snd.fst)) fun (v26 : (((List (List UInt8)) × ((List UInt8) × (Int × (Int × (Bool × (Int × (Int × (Int × (Bool × (Bool × ((List UInt8) × (Int × (Int × (Bool × (Int × (Int × (Int × (Bool × Bool)))))))))))))))))) ⊕ ((List UInt8) × ((List UInt8) × (Int × (Int × (Bool × (Int × (Int × (Int × (Bool × (Bool × ((List UInt8) × (Int × (Int × (Bool × (Int × (Int × (Int × (Bool × Bool)))))))))))))))))))) =>
  Sum.elim (fun (v27 : ((List (List UInt8)) × ((List UInt8) × (Int × (Int × (Bool × (Int × (Int × (Int × (Bool × (Bool × ((List UInt8) × (Int × (Int × (Bool × (Int × (Int × (Int × (Bool × Bool))))))))))))))))))) =>
      Option.bind (intaglioref17_Keys_P v27.fst) fun (v29 : (List (List UInt8))) =>
      Option.bind (loop intaglioref17_Check_L2_P ((0 : Int), v27.snd.fst, v27.snd.snd.fst, v27.snd.snd.snd.fst, v27.snd.snd.snd.snd.fst, v27.snd.snd.snd.snd.snd.fst, v27.snd.snd.snd.snd.snd.snd.fst, v27.snd.snd.snd.snd.snd.snd.snd.fst, v27.snd.snd.snd.snd.snd.snd.snd.snd.fst, v27.snd.snd.snd.snd.snd.snd.snd.snd.snd.fst, v27.snd.snd.snd.snd.snd.snd.snd.snd.snd.snd.fst, v27.snd.snd.snd.snd.snd.snd.snd.snd.snd.snd.snd.fst, v27.snd.snd.snd.snd.snd.snd.snd.snd.snd.snd.snd.snd.fst, v27.snd.snd.snd.snd.snd.snd.snd.snd.snd.snd.snd.snd.snd.fst, v27.snd.snd.snd.snd.snd.snd.snd.snd.snd.snd.snd.snd.snd.snd.fst, v27.snd.snd.snd.snd.snd.snd.snd.snd.snd.snd.snd.snd.snd.snd.snd.fst, v27.snd.snd.snd.snd.snd.snd.snd.snd.snd.snd.snd.snd.snd.snd.snd.snd.fst, v27.snd.snd.snd.snd.snd.snd.snd.snd.snd.snd.snd.snd.snd.snd.snd.snd.snd.fst, v27.snd.snd.snd.snd.snd.snd.snd.snd.snd.snd.snd.snd.snd.snd.snd.snd.snd.snd, v29)) fun (v30 : (((List UInt8) × (Int × (Int × (Bool × (Int × (Int × (Int × (Bool × (Bool × ((List UInt8) × (Int × (Int × (Bool × (Int × (Int × (Int × (Bool × Bool))))))))))))))))) ⊕ ((List UInt8) × ((List UInt8) × (Int × (Int × (Bool × (Int × (Int × (Int × (Bool × (Bool × ((List UInt8) × (Int × (Int × (Bool × (Int × (Int × (Int × (Bool × Bool)))))))))))))))))))) =>
      Sum.elim (fun (v31 : ((List UInt8) × (Int × (Int × (Bool × (Int × (Int × (Int × (Bool × (Bool × ((List UInt8) × (Int × (Int × (Bool × (Int × (Int × (Int × (Bool × Bool)))))))))))))))))) =>
          some (v31.snd.snd.snd.snd.snd.snd.snd.snd.snd.fst, v31.snd.snd.snd.snd.snd.snd.snd.snd.snd.snd.fst, v31.snd.snd.snd.snd.snd.snd.snd.snd.snd.snd.snd.fst, v31.snd.snd.snd.snd.snd.snd.snd.snd.snd.snd.snd.snd.fst, v31.snd.snd.snd.snd.snd.snd.snd.snd.snd.snd.snd.snd.snd.fst, v31.snd.snd.snd.snd.snd.snd.snd.snd.snd.snd.snd.snd.snd.snd.fst, v31.snd.snd.snd.snd.snd.snd.snd.snd.snd.snd.snd.snd.snd.snd.snd.fst, v31.snd.snd.snd.snd.snd.snd.snd.snd.snd.snd.snd.snd.snd.snd.snd.snd.fst, v31.snd.snd.snd.snd.snd.snd.snd.snd.snd.snd.snd.snd.snd.snd.snd.snd.snd, [])
        ) (fun (v32 : ((List UInt8) × ((List UInt8) × (Int × (Int × (Bool × (Int × (Int × (Int × (Bool × (Bool × ((List UInt8) × (Int × (Int × (Bool × (Int × (Int × (Int × (Bool × Bool))))))))))))))))))) =>
        some (v32.snd.fst, v32.snd.snd.fst, v32.snd.snd.snd.fst, v32.snd.snd.snd.snd.fst, v32.snd.snd.snd.snd.snd.fst, v32.snd.snd.snd.snd.snd.snd.fst, v32.snd.snd.snd.snd.snd.snd.snd.fst, v32.snd.snd.snd.snd.snd.snd.snd.snd.fst, v32.snd.snd.snd.snd.snd.snd.snd.snd.snd.fst, v32.fst)
      ) (v30)
    ) (fun (v28 : ((List UInt8) × ((List UInt8) × (Int × (Int × (Bool × (Int × (Int × (Int × (Bool × (Bool × ((List UInt8) × (Int × (Int × (Bool × (Int × (Int × (Int × (Bool × Bool))))))))))))))))))) =>
    some (v28.snd.fst, v28.snd.snd.fst, v28.snd.snd.snd.fst, v28.snd.snd.snd.snd.fst, v28.snd.snd.snd.snd.snd.fst, v28.snd.snd.snd.snd.snd.snd.fst, v28.snd.snd.snd.snd.snd.snd.snd.fst, v28.snd.snd.snd.snd.snd.snd.snd.snd.fst, v28.snd.snd.snd.snd.snd.snd.snd.snd.snd.fst, v28.fst)
  ) (v26)
def intaglioref17_Check_P : (List (List UInt8)) → Option ((List UInt8) × Int × Int × Bool × Int × Int × Int × Bool × Bool × (List UInt8)) := fun p => intaglioref17_Check_M p
def intaglioref17_Check_MM : HL [(.slc .str)] → Option (SumL [[.str, (.int .i64), (.int .i64), .bool, (.int .i64), (.int .i64), (.int .i64), .bool, .bool, .str]]) := fun p => intaglioref17_Check_M p
def intaglioref17_Check_C : Con := ⟨0, intaglioref17_Check_T, intaglioref17_Check_O, stdCn [(.slc .str)] [[.str, (.int .i64), (.int .i64), .bool, (.int .i64), (.int .i64), (.int .i64), .bool, .bool, .str]] intaglioref17_Check_MM⟩

def intaglioref17_Same_L1_T : Tm := ⟨[(0, false, [.hole (.slc .str)]), (1, false, [.hole (.slc .str)]), (5, false, [.hole (.int .i64)])], 26, []⟩
def intaglioref17_Same_L1_O : List (Ex × Tm) := [(.exit 0, ⟨[], 26, []⟩), (.ret, ⟨[(4, false, [.hole .bool])], 26, []⟩)]
def intaglioref17_Same_L1 (s0 : List (List UInt8)) (s1 : List (List UInt8)) (s5 : Int) : Option (((List (List UInt8)) × (List (List UInt8)) × Int) ⊕ ((Unit) ⊕ (Bool))) :=
  if decide (s5 < (((List.length s0) : Nat) : Int)) = true then
    Option.bind (ix s0 s5) fun (v0 : (List UInt8)) =>
    Option.bind (ix s1 s5) fun (v1 : (List UInt8)) =>
    if (!v0 == v1) = true then
      some (.inr (.inr (false)))
    else
    some (.inl (s0, s1, IntKind.wrap IntKind.i64 (s5 + (1 : Int))))
  else
  some (.inr (.inl (())))
def intaglioref17_Same_L1_P : (List (List UInt8)) × (List (List UInt8)) × Int → Option (((List (List UInt8)) × (List (List UInt8)) × Int) ⊕ ((Unit) ⊕ (Bool))) := fun p => intaglioref17_Same_L1 p.1 p.2.1 p.2.2
def intaglioref17_Same_L1_MM : HL [(.slc .str), (.slc .str), (.int .i64)] → Option (HL [(.slc .str), (.slc .str), (.int .i64)] ⊕ SumL [[], [.bool]]) := fun p => intaglioref17_Same_L1 p.1 p.2.1 p.2.2
def intaglioref17_Same_L1_C : Con := ⟨0, intaglioref17_Same_L1_T, intaglioref17_Same_L1_O, stdCn [(.slc .str), (.slc .str), (.int .i64)] [[], [.bool]] (loop intaglioref17_Same_L1_MM)⟩
def intaglioref17_Same_T : Tm := ⟨[(0, false, [.hole (.slc .str)]), (1, false, [.hole (.slc .str)])], 2, []⟩
def intaglioref17_Same_O : List (Ex × Tm) := [(.ret, ⟨[(0, false, [.hole .bool])], 1, []⟩)]
def intaglioref17_Same_M (s0 : List (List UInt8)) (s1 : List (List UInt8)) : Option (Bool) :=
  if ((((List.length s0) : Nat) : Int) != (((List.length s1) : Nat) : Int)) = true then
    some (false)
  else
  Option.bind (loop intaglioref17_Same_L1_P (s0, s1, (0 : Int))) fun (v0 : (Unit ⊕ Bool)) =>
  Sum.elim (fun _ =>
      some (true)
    ) (fun (v2 : Bool) =>
    some (v2)
  ) (v0)
def intaglioref17_Same_P : (List (List UInt8)) × (List (List UInt8)) → Option (Bool) := fun p => intaglioref17_Same_M p.1 p.2
def intaglioref17_Same_MM : HL [(.slc .str), (.slc .str)] → Option (SumL [[.bool]]) := fun p => intaglioref17_Same_M p.1 p.2
def intaglioref17_Same_C : Con := ⟨0, intaglioref17_Same_T, intaglioref17_Same_O, stdCn [(.slc .str), (.slc .str)] [[.bool]] intaglioref17_Same_MM⟩

def intagliolaw17_VerbChecks_T : Tm := ⟨[(0, false, [.hole (.slc .str)])], 1, []⟩
def intagliolaw17_VerbChecks_O : List (Ex × Tm) := [(.ret, ⟨[(0, false, [.hole .bool])], 1, []⟩)]
def intagliolaw17_VerbChecks_M (s0 : List (List UInt8)) : Option (Bool) :=
  Option.bind (intagliolaw17_light_P s0) fun (v0 : Bool) =>
  if (!v0) = true then
    Option.bind (intagliolaw17_awake_P ()) fun (v1 : Bool) =>
    some (v1)
  else
  Option.bind (verb_Check_P s0) fun (v2 : (Int × (Int × (Int × ((List UInt8) × (Int × (Int × (Bool × (Bool × (Bool × (List UInt8))))))))))) =>
  Option.bind (intaglioref17_Check_P s0) fun (v3 : ((List UInt8) × (Int × (Int × (Bool × (Int × (Int × (Int × (Bool × (Bool × (List UInt8))))))))))) =>
  Option.bind (intagliolaw17_same_P (v2.fst, v2.snd.fst, v2.snd.snd.fst, v2.snd.snd.snd.fst, v2.snd.snd.snd.snd.fst, v2.snd.snd.snd.snd.snd.fst, v2.snd.snd.snd.snd.snd.snd.fst, v2.snd.snd.snd.snd.snd.snd.snd.fst, v2.snd.snd.snd.snd.snd.snd.snd.snd.fst, v3.fst, v3.snd.fst, v3.snd.snd.fst, v3.snd.snd.snd.fst, v3.snd.snd.snd.snd.fst, v3.snd.snd.snd.snd.snd.fst, v3.snd.snd.snd.snd.snd.snd.fst, v3.snd.snd.snd.snd.snd.snd.snd.fst, v3.snd.snd.snd.snd.snd.snd.snd.snd.fst)) fun (v4 : Bool) =>
  if v4 = true then
    if (v2.snd.snd.snd.snd.snd.snd.snd.snd.snd == v3.snd.snd.snd.snd.snd.snd.snd.snd.snd) = true then
      Option.bind (verb_Keys_P s0) fun (v5 : (List (List UInt8))) =>
      Option.bind (intaglioref17_Keys_P s0) fun (v6 : (List (List UInt8))) =>
      Option.bind (intaglioref17_Same_P (v5, v6)) fun (v7 : Bool) =>
      if v7 = true then
        Option.bind (intagliolaw17_awake_P ()) fun (v8 : Bool) =>
        some (v8)
      else
      some (false)
    else
    some (false)
  else
  some (false)
def intagliolaw17_VerbChecks_P : (List (List UInt8)) → Option (Bool) := fun p => intagliolaw17_VerbChecks_M p
def intagliolaw17_VerbChecks_MM : HL [(.slc .str)] → Option (SumL [[.bool]]) := fun p => intagliolaw17_VerbChecks_M p
def intagliolaw17_VerbChecks_C : Con := ⟨0, intagliolaw17_VerbChecks_T, intagliolaw17_VerbChecks_O, stdCn [(.slc .str)] [[.bool]] intagliolaw17_VerbChecks_MM⟩
end
end Go.Proofs.YtekofbmeofhejaaDoor
