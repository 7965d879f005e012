/- Turned from another seat of mine. -/
import Derived.Test.YtcpddgjmopdlbaaNums
import Derived.Test.YtcpddgjmopdlbaaMReader
import Derived.Test.YtcpddgjmopdlbaaMIn
namespace Go.Proofs.Ytcpddgjmopdlbaa
open Go Go.Lift
set_option maxRecDepth 100000
set_option maxHeartbeats 4000000
set_option linter.unusedVariables false

def num (l : List Int) : Int := l.foldl (fun a b => a * 256 + b) 0
def By (l : List Int) : Prop := ∀ n ∈ l, 0 ≤ n ∧ n ≤ 255
theorem By.take {l : List Int} (h : By l) (n : Nat) : By (l.take n) := fun x hx => h x (List.mem_of_mem_take hx)
theorem By.drop {l : List Int} (h : By l) (n : Nat) : By (l.drop n) := fun x hx => h x (List.mem_of_mem_drop hx)
theorem By.nil : By [] := fun x hx => by cases hx
theorem By.app {l m : List Int} (h : By l) (h' : By m) : By (l ++ m) := fun x hx => (List.mem_append.1 hx).elim (h x) (h' x)
theorem By.be8 (x : Int) : By (be8 x) := by
  intro n hn
  simp only [Ytcpddgjmopdlbaa.be8, List.mem_cons, List.not_mem_nil, or_false] at hn
  rcases hn with h | h | h | h | h | h | h | h <;> subst h <;> omega
theorem num_be8 {x : Int} (h : 0 ≤ x) (h' : x < 18446744073709551616) : num (be8 x) = x := by simp [num, be8]; omega
theorem num_snoc (l : List Int) (b : Int) : num (l ++ [b]) = num l * 256 + b := by simp [num]
theorem bor_join {x y : Int} (hx : 0 ≤ x) (hx' : x < 72057594037927936) (hy : 0 ≤ y) (hy' : y ≤ 255) :
    bor .u64 (IntKind.u64.wrap (x * 2 ^ 8)) (IntKind.u64.wrap y) = x * 256 + y := by
  rw [u64_id (by omega) (by omega), u64_id (by omega) (by omega)]
  have h := bits_join .u64 64 (by decide) (fun n h h' => u64_id h (by simpa using h')) 8 (x * 2 ^ 8) y (by omega) (by omega) (by omega) hy (by omega) (by omega)
  have e : bits .or .u64 (x * 2 ^ 8) y = bor .u64 (x * 2 ^ 8) y := rfl
  rw [← e, h]; omega
theorem pow_small : ∀ i : Nat, i < 8 → (256 : Int) ^ i ≤ 72057594037927936 := by decide
theorem number_loop {l : List Int} (hb : By l) (hl : l.length ≤ 8) :
    loop (fun (s : (Int × Int)) => pack_Reader_number_L1 l s.1 s.2) (0, 0) = some (num l) := by
  refine loop_is (fun s => ∃ i : Nat, i ≤ l.length ∧ s = (num (l.take i), (i : Int)) ∧ 0 ≤ s.1 ∧ s.1 < 256 ^ i) (fun s => l.length - s.2.toNat) ⟨0, by omega, by simp [num], by simp, by simp⟩ (by simp; omega) ?_
  rintro _ ⟨i, hi, rfl, h0, h1⟩
  simp only at h0 h1
  unfold pack_Reader_number_L1
  by_cases hi' : i < l.length
  · refine .inl ⟨(num (l.take (i + 1)), ((i + 1 : Nat) : Int)), ?_, ⟨i + 1, by omega, rfl, ?_⟩, by simp; omega⟩
    · rw [if_pos (by simp; omega)]
      have hy := hb l[i] (List.getElem_mem hi')
      have := pow_small i (by omega)
      simp only [ix_nat hi', Option.bind_some]
      rw [bor_join h0 (by omega) hy.1 hy.2, i64_id (by omega) (by omega), List.take_succ_eq_append_getElem hi', num_snoc]
      rfl
    · have hy := hb l[i] (List.getElem_mem hi')
      simp only [List.take_succ_eq_append_getElem hi', num_snoc, Int.pow_succ]
      omega
  · have : i = l.length := by omega
    subst this
    refine .inr ?_
    rw [if_neg (by simp)]; simp
theorem num_range {l : List Int} (hb : By l) : ∀ i, i ≤ l.length → 0 ≤ num (l.take i) ∧ num (l.take i) < 256 ^ i
  | 0, _ => by simp [num]
  | i + 1, hi => by
    have h := num_range hb i (by omega)
    have hy := hb l[i] (List.getElem_mem (by omega))
    rw [List.take_succ_eq_append_getElem (by omega), num_snoc, Int.pow_succ]
    omega
theorem next_ok {l : List Int} {n : Int} (h0 : 0 ≤ n) (h : n ≤ l.length) : pack_Reader_next_M l 0 true n = some (l.take n.toNat, true, l.drop n.toNat, 0, true) := by
  unfold pack_Reader_next_M pack_Reader_ok_M
  simp only [if_true, Option.bind_some]
  rw [if_neg (by simp), if_neg (by simp; omega), sub_ok (by omega) h0 h, sub_ok h0 (by omega) (by omega)]
  simp only [Option.bind_some]
  simp
theorem next_short {l : List Int} {n : Int} (h : n > l.length) : pack_Reader_next_M l 0 true n = some ([], false, [], 4, true) := by
  unfold pack_Reader_next_M pack_Reader_ok_M
  simp only [if_true, Option.bind_some]
  rw [if_neg (by simp), if_pos (by simp; omega)]; rfl
theorem next_err {l : List Int} {n e : Int} (h : e ≠ 0) : pack_Reader_next_M l e true n = some ([], false, l, e, true) := by
  unfold pack_Reader_next_M pack_Reader_ok_M
  simp only [if_true, Option.bind_some]
  rw [if_pos (by simp [h])]

/-- A number of so many bytes: what is told, what is left, the state then. -/
def uM (l : List Int) (e : Int) (n : Nat) : Int × List Int × Int :=
  if e = 0 then (if n ≤ l.length then (num (l.take n), l.drop n, 0) else (0, [], 4)) else (0, l, e)
theorem number_is {l : List Int} {e : Int} (hb : By l) (n : Nat) (hn : n ≤ 8) : pack_Reader_number_M l e true (n : Int) = some ((uM l e n).1, (uM l e n).2.1, (uM l e n).2.2, true) := by
  unfold pack_Reader_number_M uM
  by_cases he : e = 0
  · subst he
    rw [if_pos rfl]
    by_cases hl : n ≤ l.length
    · rw [if_pos hl, next_ok (by omega) (by omega)]
      simp only [Option.bind_some, Int.toNat_natCast]
      rw [number_loop (hb.take n) (by simp; omega)]
      rfl
    · rw [if_neg hl, next_short (by omega)]
      simp only [Option.bind_some]
      rw [number_loop By.nil (by simp)]
      rfl
  · rw [if_neg he, next_err he]
    simp only [Option.bind_some]
    rw [number_loop By.nil (by simp)]
    rfl
theorem uM_ok {l : List Int} {n : Nat} (h : n ≤ l.length) : uM l 0 n = (num (l.take n), l.drop n, 0) := by
  unfold uM; rw [if_pos rfl, if_pos h]
theorem U64_is {l : List Int} {e : Int} (hb : By l) : pack_Reader_U64_M l e true = some ((uM l e 8).1, (uM l e 8).2.1, (uM l e 8).2.2, true) := by
  unfold pack_Reader_U64_M
  have h := number_is (e := e) hb 8 (by decide)
  rw [show ((8 : Nat) : Int) = 8 from rfl] at h
  rw [h]; rfl
theorem uM_range {l : List Int} {e : Int} (hb : By l) (n : Nat) : 0 ≤ (uM l e n).1 ∧ (uM l e n).1 < 256 ^ n := by
  have hp : (0 : Int) < 256 ^ n := Int.pow_pos (by decide)
  unfold uM
  by_cases he : e = 0
  · rw [if_pos he]
    by_cases hl : n ≤ l.length
    · rw [if_pos hl]; exact num_range hb n hl
    · rw [if_neg hl]; exact ⟨Int.le_refl 0, hp⟩
  · rw [if_neg he]; exact ⟨Int.le_refl 0, hp⟩
structure Fine (l : List Int) (e : Int) : Prop where
  by_ : By l
  len : l.length ≤ 5000
  err : e ≠ 0 → l = []
theorem Fine.err0 {e : Int} : Fine [] e := ⟨By.nil, by simp, fun _ => rfl⟩
theorem Fine.uM {l : List Int} {e : Int} (h : Fine l e) (n : Nat) : Fine (uM l e n).2.1 (uM l e n).2.2 := by
  unfold Ytcpddgjmopdlbaa.uM
  split
  · split
    · exact ⟨h.by_.drop n, by simp; have := h.len; omega, fun he => absurd rfl he⟩
    · exact Fine.err0
  · exact h
theorem uM_zero {l : List Int} {e : Int} {n : Nat} (h : (uM l e n).2.2 ≠ 0) : (uM l e n).1 = 0 := by
  unfold uM at h ⊢
  split
  · split
    · rename_i h1 h2; rw [if_pos h1, if_pos h2] at h; exact absurd rfl h
    · rfl
  · rfl
theorem failIn {l : List Int} {e p : Int} : intaglioref01_In_fail_M l e p = some ([], if e = 0 then p else e) := by
  unfold intaglioref01_In_fail_M
  by_cases h : e = 0
  · rw [if_pos (by simpa using h), if_pos h]
  · rw [if_neg (by simpa using h), if_neg h]
theorem refU_loop {l : List Int} (hb : By l) (n : Nat) (hn : n ≤ 8) (hl : n ≤ l.length) :
    loop (fun (s : (Int × Int)) => intaglioref01_In_U_L1 l n s.1 s.2) (0, 0) = some (num (l.take n)) := by
  refine loop_is (fun s => ∃ i : Nat, i ≤ n ∧ s = (num (l.take i), (i : Int)) ∧ 0 ≤ s.1 ∧ s.1 < 256 ^ i) (fun s => n - s.2.toNat) ⟨0, by omega, by simp [num], by simp, by simp⟩ (by simp; omega) ?_
  rintro _ ⟨i, hi, rfl, h0, h1⟩
  simp only at h0 h1
  unfold intaglioref01_In_U_L1
  by_cases hi' : i < n
  · have hil : i < l.length := by omega
    have hy := hb l[i] (List.getElem_mem hil)
    refine .inl ⟨(num (l.take (i + 1)), ((i + 1 : Nat) : Int)), ?_, ⟨i + 1, by omega, rfl, ?_⟩, by simp; omega⟩
    · rw [if_pos (by simp; omega)]
      have := pow_small i (by omega)
      simp only [ix_nat hil, Option.bind_some]
      rw [u64_id (n := l[i]) (by omega) (by omega), u64_id (n := 256 * _) (by omega) (by omega), u64_id (by omega) (by omega), i64_id (by omega) (by omega), List.take_succ_eq_append_getElem hil, num_snoc, Int.mul_comm 256]
      rfl
    · simp only [List.take_succ_eq_append_getElem hil, num_snoc, Int.pow_succ]
      omega
  · have : i = n := by omega
    subst this
    refine .inr ?_
    rw [if_neg (by simp)]
theorem refU_is {l : List Int} {e : Int} (h : Fine l e) (n : Nat) (hn : n ≤ 8) (hp : 0 < n) : intaglioref01_In_U_M l e (n : Int) = some ((uM l e n).1, (uM l e n).2.1, (uM l e n).2.2) := by
  unfold intaglioref01_In_U_M uM
  by_cases hl : n ≤ l.length
  · have he : e = 0 := by
      by_cases he : e = 0
      · exact he
      · have := h.err he; subst this; simp at hl; omega
    subst he
    rw [if_neg (by simp; omega), refU_loop h.by_ n hn hl, if_pos rfl, if_pos hl]
    simp only [Option.bind_some]
    unfold intaglioref01_In_U_J1
    rw [sub_ok (by omega) (by omega) (by omega)]
    simp
  · rw [if_pos (by simp; omega), failIn]
    simp only [Option.bind_some]
    by_cases he : e = 0
    · subst he; rw [if_pos rfl, if_pos rfl, if_neg hl]
    · rw [if_neg he, if_neg he, h.err he]
def numM (l : List Int) (e mx : Int) : Int × List Int × Int :=
  if (uM l e 8).2.2 = 0 then (if (uM l e 8).1 ≥ 9223372036854775808 ∨ (uM l e 8).1 > mx then (0, [], 5) else uM l e 8) else (0, (uM l e 8).2.1, (uM l e 8).2.2)
theorem Fine.numM {l : List Int} {e : Int} (h : Fine l e) (mx : Int) : Fine (numM l e mx).2.1 (numM l e mx).2.2 := by
  unfold Ytcpddgjmopdlbaa.numM
  split
  · split
    · exact Fine.err0
    · exact h.uM 8
  · exact h.uM 8
theorem Num_is {l : List Int} {e : Int} (h : Fine l e) (mx : Int) : pack_Reader_Num_M l e true mx = some ((numM l e mx).1, (numM l e mx).2.1, (numM l e mx).2.2, true) := by
  have hr := uM_range (e := e) h.by_ 8
  have h2 : (uM l e 8).1 < 18446744073709551616 := by simpa using hr.2
  have h1 := hr.1
  unfold pack_Reader_Num_M numM
  rw [U64_is h.by_]
  simp only [Option.bind_some, pack_Reader_ok_M, if_true]
  generalize uM l e 8 = u at *
  by_cases he : u.2.2 = 0
  · rw [if_neg (by simpa using he), if_pos he]
    by_cases hb : u.1 ≥ 9223372036854775808
    · rw [if_pos, if_pos (.inl hb)]
      · rfl
      · rw [Int.fdiv_eq_ediv_of_nonneg _ (by decide)]; simp only [beq_iff_eq]; omega
    · rw [if_neg, i64_id (by omega) (by omega)]
      · by_cases hm : u.1 > mx
        · rw [if_pos (by simpa using hm), if_pos (.inr hm)]; rfl
        · rw [if_neg (by simpa using hm), if_neg (by omega)]
      · rw [Int.fdiv_eq_ediv_of_nonneg _ (by decide)]; simp only [beq_iff_eq]; omega
  · rw [if_pos (by simpa using he), if_neg he]
theorem refNum_is {l : List Int} {e : Int} (h : Fine l e) (mx : Int) : intaglioref01_In_Num_M l e mx = some ((numM l e mx).1, (numM l e mx).2.1, (numM l e mx).2.2) := by
  have hr := uM_range (e := e) h.by_ 8
  have h2 : (uM l e 8).1 < 18446744073709551616 := by simpa using hr.2
  have h1 := hr.1
  have hz := uM_zero (l := l) (e := e) (n := 8)
  unfold intaglioref01_In_Num_M numM
  have hU := refU_is h 8 (by decide) (by decide)
  rw [show ((8 : Nat) : Int) = 8 from rfl] at hU
  rw [hU]
  simp only [Option.bind_some]
  generalize uM l e 8 = u at *
  by_cases he : u.2.2 = 0
  · rw [if_pos (by simpa using he), if_pos he]
    by_cases hb : u.1 ≥ 9223372036854775808
    · rw [if_pos (by simpa using hb), if_pos (.inl hb), failIn, if_pos he]; rfl
    · rw [if_neg (by simpa using hb), i64_id (by omega) (by omega)]
      by_cases hm : u.1 > mx
      · rw [if_pos (by simpa using hm), if_pos (.inr hm), failIn, if_pos he]; rfl
      · rw [if_neg (by simpa using hm), if_neg (by omega)]
  · rw [if_neg (by simpa using he), if_neg he, hz he]; rfl
end Go.Proofs.Ytcpddgjmopdlbaa
