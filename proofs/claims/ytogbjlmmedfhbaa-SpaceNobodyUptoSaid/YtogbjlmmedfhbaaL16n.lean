/- The law SpaceNobody of chapter 16: what its model answers, where what it reads is at most 1048576 long. -/
import Derived.Test.YtogbjlmmedfhbaaGMAll
import Derived.Test.YtogbjlmmedfhbaaP1
import Derived.Test.YtogbjlmmedfhbaaYu
namespace Go.Proofs.Ytogbjlmmedfhbaa
open Go Go.Lift
set_option maxRecDepth 100000
set_option maxHeartbeats 4000000
set_option linter.unusedVariables false

theorem cl_str : slices_Clone_string_string_M [] = some [] := by
  unfold slices_Clone_string_string_M
  rw [if_pos (by rfl : List.isEmpty _ = true), show (Option.bind (room 16 (0 + ([] : List (List UInt8)).length)) fun _ => some ([] ++ ([] : List (List UInt8)))) = some [] from by rw [room_ok (by decide) (by decide)]; rfl, agree_self]
theorem cl_unit : slices_Clone_struct_struct_M [] = some [] := by
  unfold slices_Clone_struct_struct_M
  rw [if_pos (by rfl : List.isEmpty _ = true), show (Option.bind (room 0 (0 + ([] : List Unit).length)) fun _ => some ([] ++ ([] : List Unit))) = some [] from by rw [room_ok (by decide) (by decide)]; rfl, agree_self]
abbrev exV : Option (Int × (List UInt8) × ((List (List UInt8)) × (List (List UInt8)) × Unit) × (List (List UInt8)) × ((List (List UInt8)) × (List Unit) × Unit) × (Option ((Option Nat) × Unit × Unit)) × Unit) :=
  some ((1 : Int), [(120 : UInt8)], ([], [], ()), [], ([], [], ()), none, ())
theorem ex_clone : value_Value_Clone_M exV = some exV := by
  unfold value_Value_Clone_M
  simp only [slices_Clone_string_string_P, slices_Clone_struct_struct_P, cl_str, cl_unit, Option.bind_some]
  kernel_rfl
theorem aw16 : intagliolaw16_awake_M = some true := by
  unfold intagliolaw16_awake_M
  rw [show value_Check_P ((1 : Int), [(120 : UInt8)], [], [], []) = some 0 from by kernel_rfl, Option.bind_some, if_neg (by decide), show value_Value_Clone_P (some ((1 : Int), [(120 : UInt8)], ([], [], ()), [], ([], [], ()), none, ())) = some exV from ex_clone, Option.bind_some]
  kernel_rfl

abbrev PairT := List UInt8 × List UInt8 × Unit
abbrev ScoreT := List UInt8 × Int × Unit
theorem room16 {n : Nat} (h : n ≤ 8000000) : room 16 n = some () := room_ok (by omega) (by unfold maxLen; omega)

theorem tx_is {k : Int} {t : List UInt8} {ps : List PairT} {ls : List (List UInt8)} {ss : List ScoreT} (hp : ps.length ≤ 1048576) (hl : ls.length ≤ 1048576) (hs : ss.length ≤ 1048576) :
    ∃ r, intaglioref15_Texts_M k t ps ls ss = some r ∧ r.length ≤ 6000000 := by
  unfold intaglioref15_Texts_M
  obtain ⟨q, hq, r, rfl, hr⟩ := loop_meas (body := intaglioref15_Texts_L1_P) (s := ((0 : Int), k, t, ps, ls, ss, [t])) (fun s => ∃ (i : Nat) (r : List (List UInt8)), i ≤ ps.length ∧ s = ((i : Int), k, t, ps, ls, ss, r) ∧ r.length = 1 + 2 * i)
    (fun s => ps.length - s.1.toNat) (fun q => ∃ r : List (List UInt8), q = (k, t, ps, ls, ss, r) ∧ r.length ≤ 1 + 2 * ps.length) ⟨0, [t], Nat.zero_le _, rfl, rfl⟩ (by show ps.length - 0 < _; omega) (by
      rintro s ⟨i, r, hi, rfl, hr⟩
      show (∃ s', intaglioref15_Texts_L1 (i : Int) k t ps ls ss r = _ ∧ _) ∨ ∃ q, intaglioref15_Texts_L1 (i : Int) k t ps ls ss r = _ ∧ _
      unfold intaglioref15_Texts_L1
      by_cases h : i < ps.length
      · rw [if_pos (by simpa using h), ix_nat h, Option.bind_some, Option.bind_some, room16 (by simp only [List.length_cons, List.length_nil]; omega), Option.bind_some, i64_succ (by omega)]
        exact .inl ⟨_, rfl, ⟨i + 1, _, h, rfl, by simp; omega⟩, by show ps.length - ((i + 1 : Nat) : Int).toNat < ps.length - (i : Int).toNat; omega⟩
      · rw [if_neg (by simpa using h)]
        exact .inr ⟨_, rfl, r, rfl, by omega⟩)
  rw [hq, Option.bind_some]
  dsimp only
  rw [room16 (by omega), Option.bind_some]
  obtain ⟨q2, hq2, r2, rfl, hr2⟩ := loop_meas (body := intaglioref15_Texts_L2_P) (s := ((0 : Int), k, t, ps, ls, ss, r ++ ls)) (fun s => ∃ (i : Nat) (r' : List (List UInt8)), i ≤ ss.length ∧ s = ((i : Int), k, t, ps, ls, ss, r') ∧ r'.length = (r ++ ls).length + i)
    (fun s => ss.length - s.1.toNat) (fun q => ∃ r' : List (List UInt8), q = (k, t, ps, ls, ss, r') ∧ r'.length ≤ (r ++ ls).length + ss.length) ⟨0, _, Nat.zero_le _, rfl, rfl⟩ (by show ss.length - 0 < _; omega) (by
      rintro s ⟨i, r', hi, rfl, hr'⟩
      show (∃ s', intaglioref15_Texts_L2 (i : Int) k t ps ls ss r' = _ ∧ _) ∨ ∃ q, intaglioref15_Texts_L2 (i : Int) k t ps ls ss r' = _ ∧ _
      unfold intaglioref15_Texts_L2
      rw [List.length_append] at hr'
      by_cases h : i < ss.length
      · rw [if_pos (by simpa using h), ix_nat h, Option.bind_some, room16 (by simp only [List.length_cons, List.length_nil]; omega), Option.bind_some, i64_succ (by omega)]
        exact .inl ⟨_, rfl, ⟨i + 1, _, h, rfl, by simp; omega⟩, by show ss.length - ((i + 1 : Nat) : Int).toNat < ss.length - (i : Int).toNat; omega⟩
      · rw [if_neg (by simpa using h)]
        exact .inr ⟨_, rfl, r', rfl, by rw [List.length_append]; omega⟩)
  rw [hq2, Option.bind_some]
  exact ⟨r2, rfl, by rw [List.length_append] at hr2; omega⟩

theorem lt_is {k : Int} {t : List UInt8} {ps : List PairT} {ls : List (List UInt8)} {ss : List ScoreT} (hp : ps.length ≤ 1048576) (hl : ls.length ≤ 1048576) (hs : ss.length ≤ 1048576) : ∃ q, intaglioref15_Light_M k t ps ls ss = some q := by
  unfold intaglioref15_Light_M
  rw [show intaglioref15_count_P (k, t, ps, ls, ss) = intaglioref15_count_M k t ps ls ss from rfl]
  unfold intaglioref15_count_M
  rw [Option.bind_some]
  split
  · exact ⟨_, rfl⟩
  · obtain ⟨r, hr, hrl⟩ := tx_is (k := k) (t := t) hp hl hs
    rw [show intaglioref15_Texts_P (k, t, ps, ls, ss) = intaglioref15_Texts_M k t ps ls ss from rfl, hr, Option.bind_some]
    obtain ⟨q, hq, _⟩ := loop_meas (body := intaglioref15_Light_L1_P) (s := ((0 : Int), (0 : Int), r)) (fun s => ∃ (i : Nat) (a : Int), i ≤ r.length ∧ s = (a, (i : Int), r)) (fun s => r.length - s.2.1.toNat) (fun _ => True) ⟨0, 0, Nat.zero_le _, rfl⟩ (by show r.length - 0 < _; omega) (by
      rintro s ⟨i, a, hi, rfl⟩
      show (∃ s', intaglioref15_Light_L1 a (i : Int) r = _ ∧ _) ∨ ∃ q, intaglioref15_Light_L1 a (i : Int) r = _ ∧ _
      unfold intaglioref15_Light_L1
      by_cases h : i < r.length
      · rw [if_pos (by simpa using h), inb_ok h, Option.bind_some, i64_succ (by omega)]
        exact .inl ⟨_, rfl, ⟨i + 1, _, h, rfl⟩, by show r.length - ((i + 1 : Nat) : Int).toNat < r.length - (i : Int).toNat; omega⟩
      · rw [if_neg (by simpa using h)]
        exact .inr ⟨_, rfl, trivial⟩)
    rw [hq, Option.bind_some]
    exact ⟨_, rfl⟩

theorem few16 {c : Int} {key : List UInt8} {k : Int} {t : List UInt8} {ps : List PairT} {ls : List (List UInt8)} {ss : List ScoreT} {a : Int} (hp : ps.length ≤ 1048576) (hl : ls.length ≤ 1048576) (hs : ss.length ≤ 1048576) :
    ∃ q, intagliolaw16_few_M [(c, key, (k, t, ps, ls, ss, ()), a, ())] = some q := by
  unfold intagliolaw16_few_M
  rw [if_neg (by simp)]
  have key : ∃ r, loop intagliolaw16_few_L1_P ([(c, key, (k, t, ps, ls, ss, ()), a, ())], (0 : Int)) = some r ∧ True := by
    refine loop_meas (fun s => ∃ i : Nat, i ≤ 1 ∧ s = ([(c, key, (k, t, ps, ls, ss, ()), a, ())], (i : Int))) (fun s => 1 - s.2.toNat) _ ⟨0, Nat.zero_le _, rfl⟩ (by show 1 - 0 < _; omega) ?_
    rintro s ⟨i, hi, rfl⟩
    have h0 : ix [(c, key, (k, t, ps, ls, ss, ()), a, ())] 0 = some (c, key, (k, t, ps, ls, ss, ()), a, ()) := rfl
    show (∃ s', intagliolaw16_few_L1 [(c, key, (k, t, ps, ls, ss, ()), a, ())] (i : Int) = _ ∧ _) ∨ ∃ r, intagliolaw16_few_L1 [(c, key, (k, t, ps, ls, ss, ()), a, ())] (i : Int) = _ ∧ _
    unfold intagliolaw16_few_L1
    obtain rfl | rfl : i = 0 ∨ i = 1 := by omega
    · rw [if_pos (by simp), show ((0 : Nat) : Int) = 0 from rfl, h0, Option.bind_some]
      dsimp only
      split
      · exact .inr ⟨_, rfl, trivial⟩
      · obtain ⟨r, hr, _⟩ := tx_is (k := k) (t := t) hp hl hs
        rw [Option.bind_some, show intaglioref15_Texts_P (k, t, ps, ls, ss) = intaglioref15_Texts_M k t ps ls ss from rfl, hr, Option.bind_some]
        split
        · exact .inr ⟨_, rfl, trivial⟩
        · obtain ⟨q, hq⟩ := lt_is (k := k) (t := t) hp hl hs
          rw [Option.bind_some, show intaglioref15_Light_P (k, t, ps, ls, ss) = intaglioref15_Light_M k t ps ls ss from rfl, hq, Option.bind_some]
          split
          · exact .inr ⟨_, rfl, trivial⟩
          · exact .inl ⟨_, rfl, ⟨1, Nat.le_refl _, rfl⟩, by show 1 - (IntKind.i64.wrap (0 + 1)).toNat < 1 - 0; rw [i64_id (by omega) (by omega)]; decide⟩
    · rw [if_neg (by simp)]
      exact .inr ⟨_, rfl, trivial⟩
  obtain ⟨r, hr, _⟩ := key
  rw [hr, Option.bind_some]
  cases r with
  | inl u => exact ⟨_, rfl⟩
  | inr q => exact ⟨_, rfl⟩

theorem intagliolaw16_SpaceNobody_pure (c : Int) (key : List UInt8) (k : Int) (t : List UInt8) (ps : List PairT) (ls : List (List UInt8)) (ss : List ScoreT) (a : Int)
    (o : Ty.okN 1048576 (.pair (.int .u8) (.pair .str (.pair (.pair (.int .i64) (.pair .str (.pair (.slc (.pair .str (.pair .str .unit))) (.pair (.slc .str) (.pair (.slc (.pair .str (.pair (.int .i64) .unit))) .unit))))) (.pair (.int .i64) .unit)))) (c, key, (k, t, ps, ls, ss, ()), a, ())) :
    intagliolaw16_SpaceNobody_M c key k t ps ls ss a = some true := by
  obtain ⟨_, _, ⟨_, _, ⟨o1, _⟩, ⟨o2, _⟩, ⟨o3, _⟩, _⟩, _⟩ := o
  unfold intagliolaw16_SpaceNobody_M
  simp only [intagliolaw16_few_P, intagliolaw16_awake_P, aw16, Option.bind_some]
  obtain ⟨q, hq⟩ := few16 (c := c) (key := key) (k := k) (t := t) (a := a) o1 o2 o3
  rw [hq, Option.bind_some]
  cases q with
  | false => rfl
  | true =>
    rw [if_neg (by decide)]
    rfl
end Go.Proofs.Ytogbjlmmedfhbaa
