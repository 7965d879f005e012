/- Words and keys: what the package's Check and Keys, and the document's, come to. -/
import Derived.Test.YtekofbmeofhejaaDoorFd
namespace Go.Proofs.YtekofbmeofhejaaDoor
open Go Go.Lift Go.Lib
set_option maxRecDepth 100000
set_option maxHeartbeats 4000000
set_option linter.unusedVariables false

/-! ### Is there one such? -/

theorem find_a {l : List (List UInt8)} (hl : l.length ≤ 100000) : slices_ContainsFunc_string_string_a_M l = some (l.any fun w => decide (512 < w.length)) := by
  unfold slices_ContainsFunc_string_string_a_M slices_IndexFunc_string_string_a_P slices_IndexFunc_string_string_a_M
  refine Exists.elim (loop_meas (body := slices_IndexFunc_string_string_a_L1_P) (fun (x : List (List UInt8) × Int × Int) => ∃ k : Nat, k ≤ l.length ∧ x = (l, (l.length : Int), (k : Int)) ∧ (l.take k).any (fun w => decide (512 < w.length)) = false)
    (fun x => l.length - x.2.2.toNat) (fun (y : Unit ⊕ Int) => (y = .inl () ∧ l.any (fun w => decide (512 < w.length)) = false) ∨ (∃ k : Nat, y = .inr (k : Int) ∧ l.any (fun w => decide (512 < w.length)) = true))
    (s := (l, (l.length : Int), 0)) ⟨0, Nat.zero_le _, rfl, rfl⟩ (by simp only [Int.toNat_zero]; omega) ?_) ?_
  · rintro x ⟨k, hk, rfl, hn⟩
    simp only [slices_IndexFunc_string_string_a_L1_P, slices_IndexFunc_string_string_a_L1, verb_Check_1_P, verb_Check_1_M]
    by_cases hlt : k < l.length
    · rw [if_pos (decide_eq_true (by omega)), ix_nat hlt, Option.bind_some, Option.bind_some]
      by_cases hb : 512 < (l[k]).length
      · right
        rw [if_pos (decide_eq_true (by omega))]
        exact ⟨_, rfl, .inr ⟨k, rfl, List.any_eq_true.2 ⟨l[k], List.getElem_mem hlt, decide_eq_true hb⟩⟩⟩
      · left
        rw [if_neg (by simp; omega)]
        refine ⟨_, rfl, ⟨k + 1, hlt, by rw [i64_succ (by omega)], ?_⟩, by simp only; rw [i64_succ (by omega)]; simp only [Int.toNat_natCast]; omega⟩
        rw [List.take_succ_eq_append_getElem hlt, List.any_append, hn]
        simp; omega
    · right
      obtain rfl : k = l.length := by omega
      rw [if_neg (by simp)]
      rw [List.take_length] at hn
      exact ⟨_, rfl, .inl ⟨rfl, hn⟩⟩
  · rintro q ⟨hq, h⟩
    rw [hq]
    rcases h with ⟨rfl, h⟩ | ⟨k, rfl, h⟩
    · rw [h]; rfl
    · rw [h]
      show some (decide ((k : Int) ≥ 0)) = _
      rw [decide_eq_true (by omega)]

def badKey (w : List UInt8) : Bool := w == [] || decide (64 < w.length)
theorem find_b {l : List (List UInt8)} (hl : l.length ≤ 100000) : slices_ContainsFunc_string_string_b_M l = some (l.any badKey) := by
  unfold slices_ContainsFunc_string_string_b_M slices_IndexFunc_string_string_b_P slices_IndexFunc_string_string_b_M
  refine Exists.elim (loop_meas (body := slices_IndexFunc_string_string_b_L1_P) (fun (x : List (List UInt8) × Int × Int) => ∃ k : Nat, k ≤ l.length ∧ x = (l, (l.length : Int), (k : Int)) ∧ (l.take k).any badKey = false)
    (fun x => l.length - x.2.2.toNat) (fun (y : Unit ⊕ Int) => (y = .inl () ∧ l.any badKey = false) ∨ (∃ k : Nat, y = .inr (k : Int) ∧ l.any badKey = true))
    (s := (l, (l.length : Int), 0)) ⟨0, Nat.zero_le _, rfl, rfl⟩ (by simp only [Int.toNat_zero]; omega) ?_) ?_
  · rintro x ⟨k, hk, rfl, hn⟩
    have h2 : ∀ w, verb_Check_2_M w = some (badKey w) := by
      intro w
      unfold verb_Check_2_M badKey
      by_cases h : (w == []) = true
      · rw [if_pos h, h]; rfl
      · rw [if_neg h, Bool.eq_false_iff.2 h, Bool.false_or]
        exact congrArg some (by apply Bool.eq_iff_iff.2; simp; omega)
    simp only [slices_IndexFunc_string_string_b_L1_P, slices_IndexFunc_string_string_b_L1, verb_Check_2_P, h2]
    by_cases hlt : k < l.length
    · rw [if_pos (decide_eq_true (by omega)), ix_nat hlt, Option.bind_some, Option.bind_some]
      by_cases hb : badKey l[k] = true
      · right
        rw [if_pos hb]
        exact ⟨_, rfl, .inr ⟨k, rfl, List.any_eq_true.2 ⟨l[k], List.getElem_mem hlt, hb⟩⟩⟩
      · left
        rw [if_neg hb]
        refine ⟨_, rfl, ⟨k + 1, hlt, by rw [i64_succ (by omega)], ?_⟩, by simp only; rw [i64_succ (by omega)]; simp only [Int.toNat_natCast]; omega⟩
        rw [List.take_succ_eq_append_getElem hlt, List.any_append, hn]
        simp [hb]
    · right
      obtain rfl : k = l.length := by omega
      rw [if_neg (by simp)]
      rw [List.take_length] at hn
      exact ⟨_, rfl, .inl ⟨rfl, hn⟩⟩
  · rintro q ⟨hq, h⟩
    rw [hq]
    rcases h with ⟨rfl, h⟩ | ⟨k, rfl, h⟩
    · rw [h]; rfl
    · rw [h]
      show some (decide ((k : Int) ≥ 0)) = _
      rw [decide_eq_true (by omega)]

/-! ### Keys -/

/-- Is the word at that place a key? -/
def keyAt (n : Nat) (last : Int) (st i : Nat) : Bool := decide (1 ≤ i) && decide ((i - 1) % st = 0) && (decide (last < 0) || decide ((i : Int) ≤ last)) && decide (i < n)
def keysTo (args : List (List UInt8)) (last : Int) (st : Nat) : Nat → List (List UInt8)
  | 0 => []
  | i + 1 => keysTo args last st i ++ (if keyAt args.length last st i = true then [args.getD i []] else [])
theorem keysTo_len (args : List (List UInt8)) (last : Int) (st : Nat) : ∀ i, (keysTo args last st i).length ≤ i
  | 0 => Nat.le_refl _
  | i + 1 => by
    have := keysTo_len args last st i
    show (keysTo args last st i ++ _).length ≤ _
    split <;> simp <;> omega
theorem keysTo_end {args : List (List UInt8)} {last : Int} {st i : Nat} (h : ∀ j, i ≤ j → keyAt args.length last st j = false) : ∀ d, keysTo args last st (i + d) = keysTo args last st i
  | 0 => rfl
  | d + 1 => by
    show keysTo args last st (i + d) ++ (if keyAt args.length last st (i + d) = true then _ else _) = _
    rw [h (i + d) (by omega), if_neg (by decide), List.append_nil, keysTo_end h d]

theorem vKeys_loop {args : List (List UInt8)} {last hi : Int} {st : Nat} (hn : args.length ≤ 100000) (h1 : 1 ≤ args.length) (hst : st = 1 ∨ st = 2) (hlast : last ≤ 100000)
    (hhi : hi = if last < 0 ∨ (args.length : Int) ≤ last then (args.length : Int) - 1 else last) (a : Int) (b : List UInt8) (c d : Int) (e f g : Bool) :
    loop verb_Keys_L1_P (args, hi, 1, 1, a, (st : Int), b, c, d, e, f, g, []) = some (1, a, (st : Int), b, c, d, e, f, g, keysTo args last st args.length) := by
  have hkey : ∀ i : Nat, 1 ≤ i → (i - 1) % st = 0 → (keyAt args.length last st i = true ↔ (i : Int) ≤ hi) := by
    intro i hi1 hm
    unfold keyAt
    simp only [Bool.and_eq_true, Bool.or_eq_true, decide_eq_true_eq]
    split at hhi <;> constructor <;> intro h <;> omega
  have hno : ∀ j : Nat, hi < (j : Int) → keyAt args.length last st j = false := by
    intro j hj
    unfold keyAt
    rw [Bool.eq_false_iff]
    simp only [ne_eq, Bool.and_eq_true, Bool.or_eq_true, decide_eq_true_eq]
    split at hhi <;> omega
  refine loop_is (fun (x : List (List UInt8) × Int × Int × Int × Int × Int × List UInt8 × Int × Int × Bool × Bool × Bool × List (List UInt8)) => ∃ i : Nat, 1 ≤ i ∧ (i - 1) % st = 0 ∧ i ≤ args.length + 1 ∧ x = (args, hi, (i : Int), 1, a, (st : Int), b, c, d, e, f, g, keysTo args last st i))
    (fun x => args.length + 2 - x.2.2.1.toNat) ⟨1, Nat.le_refl _, by simp, by omega, ?_⟩ (by simp only [Int.toNat_one]; omega) ?_
  · have : keysTo args last st 1 = [] := by
      show [] ++ (if keyAt args.length last st 0 = true then _ else _) = []
      rw [show keyAt args.length last st 0 = false from rfl, if_neg (by decide)]; rfl
    rw [this]; rfl
  · rintro x ⟨i, hi1, him, hil, rfl⟩
    simp only [verb_Keys_L1_P, verb_Keys_L1]
    by_cases hle : (i : Int) ≤ hi
    · left
      have hkl := keysTo_len args last st i
      have hin : i < args.length := by split at hhi <;> omega
      have hk : keyAt args.length last st i = true := (hkey i hi1 him).2 hle
      rw [if_pos (decide_eq_true (by omega)), ix_nat hin, Option.bind_some, room_ok (by simp; omega) (by unfold maxLen; simp; omega), Option.bind_some]
      have hnext : keysTo args last st (i + st) = keysTo args last st i ++ [args[i]] := by
        have e1 : keysTo args last st (i + 1) = keysTo args last st i ++ [args[i]] := by
          show keysTo args last st i ++ (if keyAt args.length last st i = true then [args.getD i []] else []) = _
          rw [if_pos hk]
          simp [List.getD, List.getElem?_eq_getElem hin]
        rcases hst with rfl | rfl
        · exact e1
        · show keysTo args last 2 (i + 1) ++ (if keyAt args.length last 2 (i + 1) = true then _ else _) = _
          have : keyAt args.length last 2 (i + 1) = false := by
            unfold keyAt
            rw [Bool.eq_false_iff]
            simp only [ne_eq, Bool.and_eq_true, decide_eq_true_eq]
            omega
          rw [this, if_neg (by decide), List.append_nil, e1]
      refine ⟨_, rfl, ⟨i + st, by omega, ?_, by rcases hst with rfl | rfl <;> omega, ?_⟩, ?_⟩
      · rcases hst with rfl | rfl <;> omega
      · rw [hnext, i64_id (by rcases hst with rfl | rfl <;> omega) (by rcases hst with rfl | rfl <;> omega)]
        congr 3
      · simp only
        rw [i64_id (by rcases hst with rfl | rfl <;> omega) (by rcases hst with rfl | rfl <;> omega)]
        simp only [Int.toNat_natCast]
        rcases hst with rfl | rfl <;> omega
    · right
      rw [if_neg (by simp; omega)]
      have hend : ∀ m, i ≤ m → keysTo args last st m = keysTo args last st i := by
        intro m hm
        obtain ⟨dd, rfl⟩ : ∃ dd, m = i + dd := ⟨m - i, by omega⟩
        exact keysTo_end (fun j hj => hno j (by omega)) dd
      by_cases hia : i ≤ args.length
      · rw [hend _ hia]
      · obtain rfl : i = args.length + 1 := by omega
        have : keysTo args last st (args.length + 1) = keysTo args last st args.length := by
          show keysTo args last st args.length ++ (if keyAt args.length last st args.length = true then _ else _) = _
          have : keyAt args.length last st args.length = false := by
            unfold keyAt
            rw [Bool.eq_false_iff]
            simp only [ne_eq, Bool.and_eq_true, decide_eq_true_eq]
            omega
          rw [this, if_neg (by decide), List.append_nil]
        rw [this]
end Go.Proofs.YtekofbmeofhejaaDoor
