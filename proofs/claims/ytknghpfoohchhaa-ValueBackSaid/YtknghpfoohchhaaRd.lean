/- What the reader of the package pack comes to, in plain words. -/
import Derived.Test.YtknghpfoohchhaaPk
namespace Go.Proofs.Ytknghpfoohchhaa
open Go Go.Lift
set_option maxRecDepth 100000
set_option maxHeartbeats 4000000
set_option linter.unusedVariables false

theorem bor_join {x y : Int} (hx : 0 ≤ x) (hx' : x < 72057594037927936) (hy : 0 ≤ y) (hy' : y ≤ 255) :
    bor .u64 (IntKind.u64.wrap (x * 2 ^ 8)) (IntKind.u64.wrap y) = x * 256 + y := by
  rw [u64_id (by omega) (by omega), u64_id (by omega) (by omega)]
  have h := bits_join .u64 64 (by decide) (fun n h h' => u64_id h (by simpa using h')) 8 (x * 2 ^ 8) y (by omega) (by omega) (by omega) hy (by omega) (by omega)
  have e : bits .or .u64 (x * 2 ^ 8) y = bor .u64 (x * 2 ^ 8) y := rfl
  rw [← e, h]; omega
theorem pow_small : ∀ i : Nat, i < 8 → (256 : Int) ^ i ≤ 72057594037927936 := by decide
theorem num_range {l : List Int} (hb : By l) : ∀ i, i ≤ l.length → 0 ≤ num (l.take i) ∧ num (l.take i) < 256 ^ i
  | 0, _ => by simp [num]
  | i + 1, hi => by
    have h := num_range hb i (by omega)
    have hy := hb l[i] (List.getElem_mem (by omega))
    rw [List.take_succ_eq_append_getElem (by omega), num_snoc, Int.pow_succ]
    omega

theorem number_loop {l : List Int} (hb : By l) (hl : l.length ≤ 8) :
    loop pack_Reader_number_L1_P (0, l, (l.length : Int), 0) = some (num l) := by
  have h := loop_count (body := pack_Reader_number_L1_P) (T := Unit) l.length (fun i _ => (num (l.take i), l, (l.length : Int), (i : Int))) (fun _ _ => ()) (fun _ => num l) (fun _ _ => True) (i := 0) (t := ()) ?_ ?_ (by omega) (by omega) trivial
  · simpa [num] using h.1
  · intro i t hi _
    refine ⟨?_, trivial⟩
    have hy := hb.get i hi
    have hp := pow_small i (by omega)
    have hr := num_range hb i (by omega)
    simp only [pack_Reader_number_L1_P, pack_Reader_number_L1]
    rw [if_pos (by simpa using hi), ix_nat hi, Option.bind_some, gshl_ok (by decide), Option.bind_some]
    rw [show (IntKind.u64.wrap (num (List.take i l) * 2 ^ min (Int.toNat 8) IntKind.u64.bits)) = IntKind.u64.wrap (num (List.take i l) * 2 ^ 8) from rfl, bor_join hr.1 (by omega) hy.1 hy.2, i64_succ (by omega), List.take_succ_eq_append_getElem hi, num_snoc]
  · intro t _
    simp only [pack_Reader_number_L1_P, pack_Reader_number_L1]
    rw [if_neg (by simp), List.take_length]
theorem next_ok {l : List Int} {n : Int} (h0 : 0 ≤ n) (h : n ≤ l.length) : pack_Reader_next_M n l 0 true = some (l.take n.toNat, true, l.drop n.toNat, 0, true) := by
  unfold pack_Reader_next_M
  simp only [pack_Reader_ok_P, pack_Reader_ok_M, if_true, Option.bind_some]
  rw [if_neg (by simp), if_neg (by simp; omega), sub_ok (by omega) h0 h, sub_ok h0 (by omega) (by omega)]
  simp only [Option.bind_some]
  simp
theorem next_short {l : List Int} {n : Int} (h : n > l.length) : pack_Reader_next_M n l 0 true = some ([], false, [], 4, true) := by
  unfold pack_Reader_next_M
  simp only [pack_Reader_ok_P, pack_Reader_ok_M, if_true, Option.bind_some]
  rw [if_neg (by simp), if_pos (by simp; omega)]; rfl
theorem next_err {l : List Int} {n e : Int} (h : e ≠ 0) : pack_Reader_next_M n l e true = some ([], false, l, e, true) := by
  unfold pack_Reader_next_M
  simp only [pack_Reader_ok_P, pack_Reader_ok_M, if_true, Option.bind_some]
  rw [if_pos (by simp [h])]

/-- A number of so many bytes: what is told, what is left, the state then. -/
def uM (l : List Int) (e : Int) (n : Nat) : Int × List Int × Int :=
  if e = 0 then (if n ≤ l.length then (num (l.take n), l.drop n, 0) else (0, [], 4)) else (0, l, e)
theorem uM_ok {l : List Int} {n : Nat} (h : n ≤ l.length) : uM l 0 n = (num (l.take n), l.drop n, 0) := by
  unfold uM; rw [if_pos rfl, if_pos h]
theorem uM_range {l : List Int} {e : Int} (hb : By l) (n : Nat) : 0 ≤ (uM l e n).1 ∧ (uM l e n).1 < 256 ^ n := by
  have hp : (0 : Int) < 256 ^ n := Int.pow_pos (by decide)
  unfold uM
  by_cases he : e = 0
  · rw [if_pos he]
    by_cases hl : n ≤ l.length
    · rw [if_pos hl]; exact num_range hb n hl
    · rw [if_neg hl]; exact ⟨Int.le_refl 0, hp⟩
  · rw [if_neg he]; exact ⟨Int.le_refl 0, hp⟩
theorem number_is {l : List Int} {e : Int} (hb : By l) (n : Nat) (hn : n ≤ 8) : pack_Reader_number_M (n : Int) l e true = some ((uM l e n).1, (uM l e n).2.1, (uM l e n).2.2, true) := by
  unfold pack_Reader_number_M uM
  simp only [pack_Reader_next_P]
  by_cases he : e = 0
  · subst he
    rw [if_pos rfl]
    by_cases hl : n ≤ l.length
    · rw [if_pos hl, next_ok (by omega) (by omega)]
      simp only [Option.bind_some, Int.toNat_natCast]
      rw [number_loop (hb.take n) (by simp; omega)]
      rfl
    · rw [if_neg hl, next_short (by omega)]
      simp only [Option.bind_some]
      have := number_loop By.nil (by simp)
      simp only [List.length_nil] at this ⊢
      rw [this]; rfl
  · rw [if_neg he, next_err he]
    simp only [Option.bind_some]
    have := number_loop By.nil (by simp)
    simp only [List.length_nil] at this ⊢
    rw [this]; rfl
theorem U32_is {l : List Int} {e : Int} (hb : By l) : pack_Reader_U32_M l e true = some ((uM l e 4).1, (uM l e 4).2.1, (uM l e 4).2.2, true) := by
  unfold pack_Reader_U32_M
  simp only [pack_Reader_number_P]
  have h := number_is (e := e) hb 4 (by decide)
  rw [show ((4 : Nat) : Int) = 4 from rfl] at h
  have r := uM_range (e := e) hb 4
  rw [h]; simp only [Option.bind_some]; rw [u32_id r.1 (by have := r.2; simpa using this)]
end Go.Proofs.Ytknghpfoohchhaa
