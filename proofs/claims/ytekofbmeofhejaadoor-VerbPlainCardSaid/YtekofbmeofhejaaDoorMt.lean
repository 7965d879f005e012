/- Patterns of plain bytes and stars: what the package's Match comes to. -/
import Derived.Test.YtekofbmeofhejaaDoorP1
import Derived.Test.YtekofbmeofhejaaDoorGMAll
namespace Go.Proofs.YtekofbmeofhejaaDoor
open Go Go.Lift Go.Lib
set_option maxRecDepth 100000
set_option maxHeartbeats 4000000
set_option linter.unusedVariables false

abbrev PtT : Type := Int × Arr 256 Bool × Unit
def starP : PtT := (0, Arr.rep 256 false, ())
def justP (c : UInt8) : PtT := (2, Arr.set (Arr.rep 256 false) c.toNat true, ())

/-! ### The parts of a pattern that is written out of stars and bytes behind backslashes -/

def tokE : Option UInt8 → List UInt8
  | none => [42]
  | some c => [92, c]
def tokP : Option UInt8 → PtT
  | none => starP
  | some c => justP c
def encT (ts : List (Option UInt8)) : List UInt8 := ts.flatMap tokE
theorem encT_app (a b : List (Option UInt8)) : encT (a ++ b) = encT a ++ encT b := List.flatMap_append ..
theorem encT_len : ∀ ts : List (Option UInt8), (encT ts).length ≤ 2 * ts.length
  | [] => Nat.le_refl _
  | t :: ts => by
    have := encT_len ts
    show (tokE t ++ encT ts).length ≤ _
    rw [List.length_append, List.length_cons]
    cases t <;> simp [tokE] <;> omega
theorem ix_at (A C : List UInt8) (b : UInt8) : ix (A ++ b :: C) (A.length : Int) = some b := by rw [ix_nat (by simp)]; simp
theorem ix_at1 (A C : List UInt8) (a b : UInt8) : ix (A ++ a :: b :: C) ((A.length + 1 : Nat) : Int) = some b := by
  rw [ix_nat (by simp)]
  simp
theorem just_is (c : UInt8) : verb_just_M (c.toNat : Int) = some (2, Arr.set (Arr.rep 256 false) c.toNat true) := by
  have := c.toNat_lt
  unfold verb_just_M
  rw [inb_ok (by omega)]; rfl
theorem room264 {n : Nat} (h : n ≤ 100000) : room 264 n = some () := room_ok (by omega) (by unfold maxLen; omega)

theorem parts_is {ts : List (Option UInt8)} (hl : ts.length ≤ 1000) : verb_parts_M (encT ts) = some (ts.map tokP) := by
  unfold verb_parts_M
  have hlen := encT_len ts
  rw [loop_is (r := ts.map tokP) (s := (encT ts, 0, [])) (fun (x : List UInt8 × Int × List PtT) => ∃ k : Nat, k ≤ ts.length ∧ x = (encT ts, ((encT (ts.take k)).length : Int), (ts.take k).map tokP)) (fun x => ts.length - x.2.2.length)
    ⟨0, Nat.zero_le _, rfl⟩ (by simp only [List.length_nil]; omega) ?_]
  · rfl
  · rintro x ⟨k, hk, rfl⟩
    simp only [verb_parts_L1_P, verb_parts_L1, verb_just_P]
    by_cases hlt : k < ts.length
    · left
      have hE : encT ts = encT (ts.take k) ++ (tokE ts[k] ++ encT (ts.drop (k + 1))) := by
        conv => lhs; rw [← List.take_append_drop k ts, encT_app, List.drop_eq_getElem_cons hlt]
        rfl
      have hT : ts.take (k + 1) = ts.take k ++ [ts[k]] := List.take_succ_eq_append_getElem hlt
      have hTk : (ts.take k).length = k := by rw [List.length_take]; omega
      have hnext : encT (ts.take (k + 1)) = encT (ts.take k) ++ tokE ts[k] := by rw [hT, encT_app]; simp [encT]
      have hA : (encT (ts.take k)).length ≤ 2000 := by have := encT_len (ts.take k); omega
      have hroom : ∀ p : PtT, room 264 (((ts.take k).map tokP).length + [p].length) = some () := fun p => room264 (by rw [List.length_map, hTk]; simp; omega)
      have hroom1 : room 264 (((ts.take k).map tokP).length + 1) = some () := room264 (by rw [List.length_map, hTk]; omega)
      have fin : ∀ (n : Int) (p : PtT), n = ((encT (ts.take (k + 1))).length : Int) → p = tokP ts[k] → ∃ s', (some (Sum.inl (encT ts, n, (ts.take k).map tokP ++ [p])) : Option ((List UInt8 × Int × List PtT) ⊕ List PtT)) = some (.inl s') ∧ (∃ k : Nat, k ≤ ts.length ∧ s' = (encT ts, ((encT (ts.take k)).length : Int), (ts.take k).map tokP)) ∧ ts.length - s'.2.2.length < ts.length - ((ts.take k).map tokP).length := by
        intro n p h1 h2
        refine ⟨_, rfl, ⟨k + 1, hlt, ?_⟩, ?_⟩
        · rw [h1, h2, hT, List.map_append]; rfl
        · simp only [List.length_append, List.length_map, hTk, List.length_cons, List.length_nil]; omega
      rw [if_pos (decide_eq_true (by rw [hE]; cases ts[k] <;> simp [tokE] <;> omega))]
      cases htk : ts[k] with
      | none =>
        rw [htk] at hE hnext fin
        have hE : encT ts = encT (ts.take k) ++ 42 :: encT (ts.drop (k + 1)) := hE
        have hi : ix (encT ts) ((encT (ts.take k)).length : Int) = some 42 := by rw [hE]; exact ix_at ..
        rw [hi, Option.bind_some, just_is, Option.bind_some, Option.bind_some, if_pos (by decide), hroom1, Option.bind_some]
        exact fin _ _ (by rw [i64_succ (by omega), hnext]; simp [tokE]) rfl
      | some c =>
        rw [htk] at hE hnext fin
        have hE : encT ts = encT (ts.take k) ++ 92 :: c :: encT (ts.drop (k + 1)) := hE
        have hi : ix (encT ts) ((encT (ts.take k)).length : Int) = some 92 := by rw [hE]; exact ix_at ..
        have hi1 : ix (encT ts) (((encT (ts.take k)).length + 1 : Nat) : Int) = some c := by rw [hE]; exact ix_at1 ..
        have hL : (encT ts).length = (encT (ts.take k)).length + 2 + (encT (ts.drop (k + 1))).length := by rw [hE]; simp; omega
        rw [hi, Option.bind_some, just_is, Option.bind_some]
        simp only [Option.bind_some]
        rw [if_neg (by decide), if_neg (by decide), if_neg (by decide), if_pos (by decide), i64_succ (by omega), if_pos (decide_eq_true (by omega)), hi1, Option.bind_some, just_is, Option.bind_some, hroom, Option.bind_some]
        exact fin _ _ (by rw [i64_id (by omega) (by omega), hnext]; simp [tokE]) rfl
    · right
      obtain rfl : k = ts.length := by omega
      rw [List.take_length, if_neg (by simp)]

/-! ### Row by row -/

def starF (f : Nat → Bool) : Nat → Bool
  | 0 => f 0
  | i + 1 => f (i + 1) || starF f i
def someF (t : List UInt8) (a : Arr 256 Bool) (f : Nat → Bool) : Nat → Bool
  | 0 => false
  | i + 1 => a.val.getD (t.getD i 0).toNat false && f i
def stp (t : List UInt8) (f : Nat → Bool) (p : PtT) : Nat → Bool := if p.1 = 0 then starF f else someF t p.2.1 f
def b2i (b : Bool) : Int := if b = true then 1 else 0
def rowB (f : Nat → Bool) (n : Nat) : List Int := (List.range n).map fun i => b2i (f i)
def rowP (f : Nat → Bool) (n k : Nat) : List Int := (List.range n).map fun i => if i < k then b2i (f i) else 0
theorem rowB_get {f : Nat → Bool} {n i : Nat} (h : i < n) (d : Int) : (rowB f n).getD i d = b2i (f i) := by simp [rowB, List.getD, h]
theorem rowP_get {f : Nat → Bool} {n k i : Nat} (h : i < n) (hk : i < k) (d : Int) : (rowP f n k).getD i d = b2i (f i) := by simp [rowP, List.getD, h, hk]
theorem rowP_set {f : Nat → Bool} {n k : Nat} (h : k < n) {v : Int} (hv : v = b2i (f k)) : (rowP f n k).set k v = rowP f n (k + 1) := by
  subst hv
  apply List.ext_getElem
  · simp [rowP]
  · intro i h1 h2
    rw [List.getElem_set]
    simp only [rowP, List.getElem_map, List.getElem_range]
    by_cases e : k = i
    · subst e; rw [if_pos rfl, if_pos (by omega)]
    · rw [if_neg e]
      by_cases hi : i < k
      · rw [if_pos hi, if_pos (by omega)]
      · rw [if_neg hi, if_neg (by omega)]
theorem rowP_skip {f : Nat → Bool} {n k : Nat} (hv : f k = false) : rowP f n k = rowP f n (k + 1) := by
  unfold rowP
  refine List.map_congr_left fun i _ => ?_
  by_cases e : i = k
  · subst e; rw [if_neg (by omega), if_pos (by omega), hv]; rfl
  · by_cases hi : i < k
    · rw [if_pos hi, if_pos (by omega)]
    · rw [if_neg hi, if_neg (by omega)]
theorem rowP_zero (f : Nat → Bool) (n : Nat) : rowP f n 0 = List.replicate n 0 := by
  unfold rowP
  apply List.ext_getElem
  · simp
  · intro i h1 h2
    simp
theorem rowP_all (f : Nat → Bool) (n : Nat) : rowP f n n = rowB f n := by
  unfold rowP rowB
  exact List.map_congr_left fun i hi => if_pos (List.mem_range.1 hi)
theorem b2i_one (b : Bool) : (b2i b == 1) = b := by cases b <;> rfl

theorem match_L2 {t : List UInt8} {f : Nat → Bool} {p : PtT} (hp : p.1 = 0 ∨ p.1 = 2) (hl : t.length ≤ 1000) (a b : Int) (r3 : List PtT) :
    loop verb_Match_L2_P (t, a, b, ((t.length + 1 : Nat) : Int), 0, p.1, p.2.1, rowB f (t.length + 1), List.replicate (t.length + 1) 0, r3) = some (t, a, b, p.1, p.2.1, rowB (stp t f p) (t.length + 1), r3) := by
  obtain ⟨kd, arr, u⟩ := p
  simp only at hp ⊢
  rw [← rowP_zero (stp t f (kd, arr, u))]
  generalize hn : t.length + 1 = n
  generalize hg : stp t f (kd, arr, u) = g
  refine loop_is (fun (x : List UInt8 × Int × Int × Int × Int × Int × Arr 256 Bool × List Int × List Int × List PtT) => ∃ k : Nat, k ≤ n ∧ x = (t, a, b, (n : Int), (k : Int), kd, arr, rowB f n, rowP g n k, r3)) (fun x => n - x.2.2.2.2.1.toNat) ⟨0, Nat.zero_le _, rfl⟩ (by simp only [Int.toNat_zero]; omega) ?_
  rintro x ⟨k, hk, rfl⟩
  simp only [verb_Match_L2_P, verb_Match_L2]
  by_cases hlt : k < n
  · left
    have hlB : (rowB f n).length = n := by simp [rowB]
    have hlP : (rowP g n k).length = n := by simp [rowP]
    have fin : ∀ r : List Int, r = rowP g n (k + 1) → ∃ s', (some (Sum.inl (t, a, b, (n : Int), IntKind.i64.wrap ((k : Int) + 1), kd, arr, rowB f n, r, r3)) : Option ((List UInt8 × Int × Int × Int × Int × Int × Arr 256 Bool × List Int × List Int × List PtT) ⊕ (List UInt8 × Int × Int × Int × Arr 256 Bool × List Int × List PtT))) = some (.inl s') ∧
        (∃ k : Nat, k ≤ n ∧ s' = (t, a, b, (n : Int), (k : Int), kd, arr, rowB f n, rowP g n k, r3)) ∧ n - s'.2.2.2.2.1.toNat < n - (k : Int).toNat := by
      intro r hr
      refine ⟨_, rfl, ⟨k + 1, hlt, by rw [hr, i64_succ (by omega)]⟩, by simp only; rw [i64_succ (by omega)]; simp only [Int.toNat_natCast]; omega⟩
    rw [if_pos (decide_eq_true (by omega))]
    rcases hp with rfl | rfl
    · -- a star
      have hg0 : g = starF f := by rw [← hg]; rfl
      rw [if_pos (by decide), inb_ok (by omega), Option.bind_some, Int.toNat_natCast, rowB_get hlt, b2i_one]
      by_cases hf : f k = true
      · have hgk : g k = true := by rw [hg0]; cases k <;> simp [starF, hf]
        rw [if_pos hf, inb_ok (by omega), Option.bind_some]
        exact fin _ (rowP_set hlt (by rw [hgk]; rfl))
      · rw [if_neg hf]
        cases k with
        | zero =>
          have hgk : g 0 = false := by rw [hg0]; simpa [starF] using hf
          rw [if_neg (by simp), if_neg (by decide), if_neg (by decide)]
          exact fin _ (rowP_skip hgk)
        | succ k =>
          have hgk : g (k + 1) = g k := by rw [hg0]; simp [starF, hf]
          rw [if_pos (decide_eq_true (by omega)), i64_id (by omega) (by omega), show (((k + 1 : Nat) : Int) - 1) = (k : Int) by omega, inb_ok (by omega), Option.bind_some, Int.toNat_natCast, rowP_get (by omega) (by omega), b2i_one]
          by_cases hgg : g k = true
          · rw [if_pos hgg, inb_ok (by omega), Option.bind_some]
            exact fin _ (rowP_set hlt (by rw [hgk, hgg]; rfl))
          · rw [if_neg hgg, if_neg (by decide), if_neg (by decide)]
            exact fin _ (rowP_skip (by rw [hgk]; simpa using hgg))
    · -- one of some bytes
      have hg0 : g = someF t arr f := by rw [← hg]; rfl
      rw [if_neg (by decide), if_neg (by decide), if_pos (by decide)]
      cases k with
      | zero =>
        rw [if_neg (by simp)]
        exact fin _ (rowP_skip (by rw [hg0]; rfl))
      | succ k =>
        have hkt : k < t.length := by omega
        have h8 := (t[k]).toNat_lt
        have hgk : g (k + 1) = (arr.val.getD (t[k]).toNat false && f k) := by rw [hg0]; simp [someF, List.getD, List.getElem?_eq_getElem hkt]
        rw [if_pos (decide_eq_true (by omega)), i64_id (by omega) (by omega), show (((k + 1 : Nat) : Int) - 1) = (k : Int) by omega, ix_nat hkt, Option.bind_some, inb_ok (by omega), Option.bind_some, Int.toNat_natCast]
        by_cases hin : arr.val.getD (t[k]).toNat false = true
        · rw [if_pos hin, inb_ok (by omega), Option.bind_some, inb_ok (by omega), Option.bind_some, Int.toNat_natCast, Int.toNat_natCast, rowB_get (by omega)]
          exact fin _ (rowP_set hlt (by rw [hgk, hin, Bool.true_and]))
        · rw [if_neg hin]
          exact fin _ (rowP_skip (by rw [hgk, Bool.eq_false_iff.2 hin, Bool.false_and]))
  · right
    obtain rfl : k = n := by omega
    rw [if_neg (by simp), rowP_all]

theorem match_is {pat t : List UInt8} {ps : List PtT} (hps : verb_parts_M pat = some ps) (hk : ∀ p ∈ ps, p.1 = 0 ∨ p.1 = 2) (hl : t.length ≤ 1000) (hpl : ps.length ≤ 1000) :
    verb_Match_M pat t = some (ps.foldl (stp t) (fun i => i == 0) t.length) := by
  unfold verb_Match_M
  simp only [verb_parts_P]
  have hn : IntKind.i64.wrap (((t.length : Nat) : Int) + 1) = ((t.length + 1 : Nat) : Int) := i64_succ (by omega)
  rw [hn, mk2_ok (by omega) (by omega) (by omega), Option.bind_some, Int.toNat_natCast, inb_ok' (by decide) (by simp), Option.bind_some, hps, Option.bind_some]
  have h0 : List.set (List.replicate (t.length + 1) (0 : Int)) (nat_lit 0) 1 = rowB (fun i => i == 0) (t.length + 1) := by
    apply List.ext_getElem
    · simp [rowB]
    · intro i h1 h2
      show (List.set (List.replicate (t.length + 1) (0 : Int)) 0 1)[i] = _
      rw [List.getElem_set]
      simp only [rowB, List.getElem_map, List.getElem_range, List.getElem_replicate]
      cases i <;> rfl
  rw [h0]
  rw [loop_is (r := (t, rowB (ps.foldl (stp t) (fun i => i == 0)) (t.length + 1))) (s := (t, (ps.length : Int), 0, rowB (fun i => i == 0) (t.length + 1), ps)) (fun (x : List UInt8 × Int × Int × List Int × List PtT) => ∃ k : Nat, k ≤ ps.length ∧ x = (t, (ps.length : Int), (k : Int), rowB ((ps.take k).foldl (stp t) (fun i => i == 0)) (t.length + 1), ps)) (fun x => ps.length - x.2.2.1.toNat)
    ⟨0, Nat.zero_le _, rfl⟩ (by simp only [Int.toNat_zero]; omega) ?_]
  · rw [Option.bind_some]
    simp only
    rw [inb_ok (by simp [rowB]), Option.bind_some, Int.toNat_natCast, rowB_get (by omega), b2i_one]
  · rintro x ⟨k, hk', rfl⟩
    simp only [verb_Match_L1_P, verb_Match_L1]
    by_cases hlt : k < ps.length
    · left
      have hg : ∀ d : PtT, List.getD ps k d = ps[k] := fun d => by simp [List.getD, List.getElem?_eq_getElem hlt]
      rw [if_pos (decide_eq_true (by omega)), inb_ok hlt, Option.bind_some, hn, mk2_ok (by omega) (by omega) (by omega), Option.bind_some]
      simp only [Int.toNat_natCast]
      erw [hg]
      have hlB : (rowB ((ps.take k).foldl (stp t) (fun i => i == 0)) (t.length + 1)).length = t.length + 1 := by simp [rowB]
      rw [hlB, match_L2 (hk _ (List.getElem_mem hlt)) hl, Option.bind_some]
      refine ⟨_, rfl, ⟨k + 1, hlt, ?_⟩, by simp only; rw [i64_succ (by omega)]; simp only [Int.toNat_natCast]; omega⟩
      rw [List.take_succ_eq_append_getElem hlt, List.foldl_append, i64_succ (by omega)]; rfl
    · right
      obtain rfl : k = ps.length := by omega
      rw [if_neg (by simp), List.take_length]

/-! ### What such patterns describe -/

theorem just_in (c b : UInt8) : (justP c).2.1.val.getD b.toNat false = (b == c) := by
  show (List.set (List.replicate 256 false) c.toNat true).getD b.toNat false = _
  have h1 := c.toNat_lt
  have h2 := b.toNat_lt
  simp only [List.getD, List.getElem?_set, List.getElem?_replicate, List.length_replicate]
  by_cases e : c = b
  · subst e; rw [if_pos rfl, if_pos (by omega)]; simp
  · rw [if_neg (fun h => e (UInt8.toNat_inj.1 h)), if_pos (by omega)]
    simp only [Option.getD_some]
    exact (beq_eq_false_iff_ne.2 fun h => e h.symm).symm

theorem fold_just (t : List UInt8) : ∀ (l : List UInt8) (f : Nat → Bool) (i : Nat), i ≤ t.length →
    ((l.map justP).foldl (stp t) f i = true ↔ l.length ≤ i ∧ (t.take i).drop (i - l.length) = l ∧ f (i - l.length) = true)
  | [], f, i, hi => by
    show f i = true ↔ _
    exact ⟨fun h => ⟨Nat.zero_le _, List.drop_of_length_le (by simp; omega), h⟩, fun h => h.2.2⟩
  | c :: l, f, i, hi => by
    show (l.map justP).foldl (stp t) (stp t f (justP c)) i = true ↔ _
    rw [fold_just t l (stp t f (justP c)) i hi]
    rw [List.length_cons]
    constructor
    · rintro ⟨h1, h2, h3⟩
      have h3 : someF t (justP c).2.1 f (i - l.length) = true := h3
      cases hj : i - l.length with
      | zero => rw [hj] at h3; cases h3
      | succ j =>
        rw [hj] at h3 h2
        have h3 : ((justP c).2.1.val.getD (t.getD j 0).toNat false && f j) = true := h3
        rw [just_in, Bool.and_eq_true] at h3
        have hjt : j < t.length := by omega
        have hc : t[j] = c := by have := eq_of_beq h3.1; simpa [List.getD, List.getElem?_eq_getElem hjt] using this
        refine ⟨by omega, ?_, by rw [show i - (l.length + 1) = j by omega]; exact h3.2⟩
        rw [show i - (l.length + 1) = j by omega, List.drop_eq_getElem_cons (by simp; omega), h2]
        simp [hc]
    · rintro ⟨h1, h2, h3⟩
      have hj : i - l.length = (i - (l.length + 1)) + 1 := by omega
      generalize hjj : i - (l.length + 1) = j at h2 h3 hj
      have hjt : j < t.length := by omega
      rw [List.drop_eq_getElem_cons (by simp; omega)] at h2
      injection h2 with h4 h5
      refine ⟨by omega, by rw [hj]; exact h5, ?_⟩
      show someF t (justP c).2.1 f (i - l.length) = true
      rw [hj]
      show ((justP c).2.1.val.getD (t.getD j 0).toNat false && f j) = true
      rw [just_in, Bool.and_eq_true]
      refine ⟨?_, h3⟩
      simp only [List.getElem_take] at h4
      simp [List.getD, List.getElem?_eq_getElem hjt, h4]
theorem star_up {f : Nat → Bool} {j : Nat} (h : f j = true) : ∀ d, starF f (j + d) = true
  | 0 => by cases j <;> simp [starF, h]
  | d + 1 => by
    show (f (j + d + 1) || starF f (j + d)) = true
    rw [star_up h d]; simp

def esc (s : List UInt8) : List UInt8 := encT (s.map some)
theorem map_tok (s : List UInt8) : (s.map some).map tokP = s.map justP := by rw [List.map_map]; rfl
theorem kinds_ok (ts : List (Option UInt8)) : ∀ p ∈ ts.map tokP, p.1 = 0 ∨ p.1 = 2 := by
  intro p hp
  obtain ⟨t, _, rfl⟩ := List.mem_map.1 hp
  cases t
  · exact .inl rfl
  · exact .inr rfl
theorem match_tok {ts : List (Option UInt8)} {t : List UInt8} (h : ts.length ≤ 1000) (hl : t.length ≤ 1000) : verb_Match_M (encT ts) t = some ((ts.map tokP).foldl (stp t) (fun i => i == 0) t.length) :=
  match_is (parts_is h) (kinds_ok ts) hl (by rw [List.length_map]; exact h)

theorem match_plain {s t : List UInt8} (hs : s.length ≤ 900) (ht : t.length ≤ 1000) : verb_Match_M (esc s) t = some (s == t) := by
  unfold esc
  rw [match_tok (by rw [List.length_map]; omega) ht, map_tok]
  refine congrArg some ?_
  have h := fold_just t s (fun i => i == 0) t.length (Nat.le_refl _)
  rw [List.take_length] at h
  by_cases e : s = t
  · subst e
    rw [h.2 ⟨Nat.le_refl _, by simp, by simp⟩]; simp
  · have hn : (s.map justP).foldl (stp t) (fun i => i == 0) t.length = false := by
      rw [Bool.eq_false_iff]
      intro hh
      obtain ⟨h1, h2, h3⟩ := h.1 hh
      have h3 : t.length - s.length = 0 := by simpa using h3
      rw [h3, List.drop_zero] at h2
      exact e h2.symm
    rw [hn]
    exact (beq_eq_false_iff_ne.2 e).symm
theorem match_ahead {s t : List UInt8} (hs : s.length ≤ 400) (ht : t.length ≤ 400) : verb_Match_M (esc s ++ [42]) (s ++ t) = some true := by
  have e : esc s ++ [42] = encT (s.map some ++ [none]) := by rw [encT_app]; rfl
  rw [e, match_tok (by simp; omega) (by simp; omega), List.map_append, map_tok, List.foldl_append]
  refine congrArg some ?_
  show starF ((s.map justP).foldl (stp (s ++ t)) (fun i => i == 0)) (s ++ t).length = true
  rw [List.length_append]
  refine star_up ?_ t.length
  exact (fold_just (s ++ t) s _ s.length (by simp)).2 ⟨Nat.le_refl _, by simp, by simp⟩
theorem match_behind {s t : List UInt8} (hs : s.length ≤ 400) (ht : t.length ≤ 400) : verb_Match_M ([42] ++ esc s) (t ++ s) = some true := by
  have e : [42] ++ esc s = encT (none :: s.map some) := rfl
  rw [e, match_tok (by simp; omega) (by simp; omega)]
  refine congrArg some ?_
  show ((s.map some).map tokP).foldl (stp (t ++ s)) (starF fun i => i == 0) (t ++ s).length = true
  rw [map_tok]
  refine (fold_just (t ++ s) s _ _ (Nat.le_refl _)).2 ⟨by simp, by rw [List.length_append, Nat.add_sub_cancel, List.take_of_length_le (by simp), List.drop_left], ?_⟩
  have := star_up (f := fun i => i == 0) (j := 0) rfl ((t ++ s).length - s.length)
  rwa [Nat.zero_add] at this

theorem plain_loop {s t : List UInt8} (hs : s.length ≤ 80) : loop intagliolaw17_VerbPlain_L1_P (s, t, [], 0) = some (s, t, esc s) := by
  refine loop_is (fun (x : List UInt8 × List UInt8 × List UInt8 × Int) => ∃ k : Nat, k ≤ s.length ∧ x = (s, t, esc (s.take k), (k : Int))) (fun x => s.length - x.2.2.2.toNat) ⟨0, Nat.zero_le _, rfl⟩ (by simp only [Int.toNat_zero]; omega) ?_
  rintro x ⟨k, hk, rfl⟩
  simp only [intagliolaw17_VerbPlain_L1_P, intagliolaw17_VerbPlain_L1]
  by_cases hlt : k < s.length
  · left
    have hsub : (s.take (k + 1)).drop k = [s[k]] := by rw [List.take_succ_eq_append_getElem hlt, List.drop_append_of_le_length (by simp; omega), List.drop_of_length_le (by simp; omega)]; rfl
    have hel : (esc (s.take k)).length ≤ 200 := by have := encT_len ((s.take k).map some); unfold esc; rw [List.length_map, List.length_take] at this; omega
    rw [if_pos (decide_eq_true (by omega)), i64_succ (by omega), sub_ok (by omega) (by omega) (by omega), Option.bind_some, Int.toNat_natCast, Int.toNat_natCast, hsub, room_one (by simp), Option.bind_some, room_one (by simp; omega), Option.bind_some]
    refine ⟨_, rfl, ⟨k + 1, hlt, ?_⟩, by simp only [Int.toNat_natCast]; omega⟩
    rw [List.take_succ_eq_append_getElem hlt]
    unfold esc
    rw [List.map_append, encT_app]; rfl
  · right
    obtain rfl : k = s.length := by omega
    rw [if_neg (by simp), List.take_length]
end Go.Proofs.YtekofbmeofhejaaDoor
