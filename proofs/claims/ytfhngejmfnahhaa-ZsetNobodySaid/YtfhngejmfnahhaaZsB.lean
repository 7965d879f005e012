/- A skip list: how members stand, a member's height, the way to a place. -/
import Derived.Test.YtfhngejmfnahhaaZsA
import Derived.Test.YtfhngejmfnahhaaGMAll
namespace Go.Proofs.Ytfhngejmfnahhaa
open Go Go.Lift Go.Lib
set_option maxRecDepth 100000
set_option maxHeartbeats 4000000
set_option linter.unusedVariables false

def less14 (x y : Sc) : Bool := if (x.2.1 != y.2.1) = true then decide (x.2.1 < y.2.1) else Op.bytesLess x.1 y.1
theorem less_is (x y : Sc) : zset_Less_M x.1 x.2.1 y.1 y.2.1 = some (less14 x y) := by
  unfold zset_Less_M less14
  split <;> rfl
theorem less_irr (x : Sc) : less14 x x = false := by
  unfold less14
  rw [if_neg (by simp), bytesLess_eq]
  exact decide_eq_false (List.lt_irrefl _)
theorem less_trans {x y z : Sc} (h : less14 x y = true) (h' : less14 y z = true) : less14 x z = true := by
  unfold less14 at *
  simp only [bne_iff_ne, ne_eq, bytesLess_eq] at *
  by_cases e1 : x.2.1 = y.2.1 <;> by_cases e2 : y.2.1 = z.2.1 <;> by_cases e3 : x.2.1 = z.2.1 <;> simp_all <;> first | omega | exact List.lt_trans h h' | skip
theorem less_total (x y : Sc) : less14 x y = true ∨ x = y ∨ less14 y x = true := by
  unfold less14
  simp only [bne_iff_ne, ne_eq, bytesLess_eq]
  by_cases e : x.2.1 = y.2.1
  · rw [if_neg (by simpa using e), if_neg (by simpa using e.symm)]
    by_cases h1 : x.1 < y.1
    · exact .inl (decide_eq_true h1)
    · by_cases h2 : y.1 < x.1
      · exact .inr (.inr (decide_eq_true h2))
      · refine .inr (.inl ?_)
        obtain ⟨x1, x2, _⟩ := x
        obtain ⟨y1, y2, _⟩ := y
        have : x1 = y1 := List.le_antisymm (List.not_lt.1 h2) (List.not_lt.1 h1)
        simp at e
        rw [this, e]
  · rw [if_pos e, if_pos (fun h => e h.symm)]
    rcases Int.lt_or_gt_of_ne e with h | h
    · exact .inl (decide_eq_true h)
    · exact .inr (.inr (decide_eq_true h))
theorem less_asym {x y : Sc} (h : less14 x y = true) : less14 y x = false := by
  cases h' : less14 y x with
  | false => rfl
  | true => have := less_trans h h'; rw [less_irr] at this; cases this

theorem lnk_fold (a : AR) (p j : Nat) : List.getD (ndR a p) j ((none : Option Nat), (0 : Int), ()) = lnk a p j := rfl
theorem key_fold (a : AR) (p : Nat) : ndX (([] : List UInt8), (0 : Int), ()) a p = key a p := rfl
theorem ht_fold (a : AR) (p : Nat) : List.length (ndR a p) = ht a p := rfl

/-! ### The height of a member's node -/
theorem u64_wf (v : Int) : 0 ≤ IntKind.wrap IntKind.u64 v ∧ IntKind.wrap IntKind.u64 v < 18446744073709551616 := by
  constructor
  · exact Int.emod_nonneg _ (by decide)
  · exact Int.emod_lt_of_pos _ (by decide)
theorem height_is {m : List UInt8} (hm : m.length ≤ 140737488355328) : ∃ n : Nat, zset_height_M m = some (n : Int) ∧ 1 ≤ n ∧ n ≤ 12 := by
  unfold zset_height_M
  refine Exists.elim (loop_meas (body := zset_height_L1_P) (s := (m, 14695981039346656037, ((m.length : Nat) : Int), 0))
    (fun x => ∃ (k : Nat) (v : Int), k ≤ m.length ∧ x = (m, v, ((m.length : Nat) : Int), (k : Int))) (fun x => m.length - x.2.2.2.toNat) (fun _ => True) ⟨0, _, Nat.zero_le _, rfl⟩ (by simp only [Int.toNat_zero]; omega) ?_) ?_
  · rintro x ⟨k, v, hk, rfl⟩
    simp only [zset_height_L1_P, zset_height_L1]
    by_cases hlt : k < m.length
    · left
      rw [if_pos (decide_eq_true (by omega)), ix_nat hlt, Option.bind_some, i64_succ (by omega)]
      exact ⟨_, rfl, ⟨k + 1, _, hlt, rfl⟩, by simp only [Int.toNat_natCast]; omega⟩
    · right
      rw [if_neg (by simp; omega)]
      exact ⟨_, rfl, trivial⟩
  · rintro q ⟨hq, _⟩
    rw [hq, Option.bind_some]
    have g1 : ∀ (v : Int) (n : Nat), gshr IntKind.u64 v (n : Int) = some (IntKind.wrap IntKind.u64 (v >>> n)) ∨ ∃ y, gshr IntKind.u64 v (n : Int) = some y := fun v n => .inr ⟨_, rfl⟩
    obtain ⟨y, hy⟩ := (g1 q 29).elim (fun h => ⟨_, h⟩) id
    rw [show gshr IntKind.u64 q (29 : Int) = some y from hy, Option.bind_some]
    refine Exists.elim (loop_meas (body := zset_height_L2_P) (s := (bxor IntKind.u64 q y, 1))
      (fun x => ∃ (k : Nat) (v : Int), 1 ≤ k ∧ k ≤ 12 ∧ x = (v, (k : Int))) (fun x => 12 - x.2.toNat) (fun r => ∃ k : Nat, 1 ≤ k ∧ k ≤ 12 ∧ r = (k : Int)) ⟨1, _, by omega, by omega, rfl⟩ (by simp only; omega) ?_) ?_
    · rintro x ⟨k, v, h1, h12, rfl⟩
      simp only [zset_height_L2_P, zset_height_L2]
      by_cases hlt : k < 12
      · rw [if_pos (decide_eq_true (by omega))]
        split
        · left
          obtain ⟨z, hz⟩ := (g1 v 2).elim (fun h => ⟨_, h⟩) id
          rw [show gshr IntKind.u64 v (2 : Int) = some z from hz, Option.bind_some, i64_succ (by omega)]
          exact ⟨_, rfl, ⟨k + 1, _, by omega, by omega, rfl⟩, by simp only [Int.toNat_natCast]; omega⟩
        · right
          exact ⟨_, rfl, k, h1, h12, rfl⟩
      · right
        rw [if_neg (by simp; omega)]
        exact ⟨_, rfl, k, h1, h12, rfl⟩
    · rintro r ⟨hr, k, h1, h12, rfl⟩
      rw [hr, Option.bind_some]
      exact ⟨k, rfl, h1, h12⟩

/-! ### The way to a place -/
theorem tail_mem {h x q : Nat} {A P1 A2 : List Nat} (e : h :: A = P1 ++ x :: A2) (hq : q ∈ A2) : q ∈ A := by
  cases P1 with
  | nil => injection e with _ e; rw [e]; exact hq
  | cons y P1 => injection e with _ e; rw [e]; simp [hq]
theorem tail_len {h x : Nat} {A P1 A2 : List Nat} (e : h :: A = P1 ++ x :: A2) : P1.length + A2.length = A.length := by
  have := congrArg List.length e; simp at this; omega

theorem ahead_L2_eq (x : Nat) (n : Int) (i : Nat) (m : List UInt8) (s : Int) (w0 : Arr 12 (Option Nat)) (w1 : Arr 12 Int) (w2 : Arr 12 (Option Nat)) (w3 : Arr 12 Int) (a : AR) :
    zset_Set_ahead_L2_P (some x, n, (i : Int), m, s, w0, w1, w2, w3, a) = Option.bind (inb (ht a x) (i : Int)) fun _ =>
      if (!Option.isNone (lnk a x i).1) = true then
        Option.bind (inb (ht a x) (i : Int)) fun _ => Option.bind (lnk a x i).1 fun v4 => Option.bind (zset_Less_M (key a v4).1 (key a v4).2.1 m s) fun v5 =>
        if v5 = true then Option.bind (inb (ht a x) (i : Int)) fun _ => Option.bind (inb (ht a x) (i : Int)) fun _ =>
          some (.inl ((lnk a x i).1, IntKind.wrap IntKind.i64 (n + (lnk a x i).2.1), (i : Int), m, s, w0, w1, w2, w3, a))
        else some (.inr (some x, n, (i : Int), m, s, w0, w1, w2, w3, a))
      else some (.inr (some x, n, (i : Int), m, s, w0, w1, w2, w3, a)) := rfl
theorem ahead_L2 {a : AR} {h : Nat} {A B : List Nat} {m : List UInt8} {s : Int} (hok : Ok14 a (h :: A ++ B)) (hA : ∀ p ∈ A, less14 (key a p) (m, s, ()) = true) (hB : ∀ p ∈ B, less14 (key a p) (m, s, ()) = false) (hlen : A.length + B.length ≤ 100000)
    {i : Nat} {P1 A2 : List Nat} {x : Nat} (e : h :: A = P1 ++ x :: A2) (hx : i < ht a x) (w0 : Arr 12 (Option Nat)) (w1 : Arr 12 Int) (w2 : Arr 12 (Option Nat)) (w3 : Arr 12 Int) :
    ∃ P1' x' A2', Last14 a (h :: A) i P1' x' A2' ∧ loop zset_Set_ahead_L2_P (some x, (P1.length : Int), (i : Int), m, s, w0, w1, w2, w3, a) = some (some x', (P1'.length : Int), (i : Int), m, s, w0, w1, w2, w3, a) := by
  refine Exists.elim (loop_meas (body := zset_Set_ahead_L2_P) (s := (some x, (P1.length : Int), (i : Int), m, s, w0, w1, w2, w3, a))
    (fun st => ∃ P1 x A2, h :: A = P1 ++ x :: A2 ∧ i < ht a x ∧ st = (some x, (P1.length : Int), (i : Int), m, s, w0, w1, w2, w3, a))
    (fun st => A.length - st.2.1.toNat) (fun st => ∃ P1 x A2, Last14 a (h :: A) i P1 x A2 ∧ st = (some x, (P1.length : Int), (i : Int), m, s, w0, w1, w2, w3, a))
    ⟨P1, x, A2, e, hx, rfl⟩ (by simp only; omega) ?_) ?_
  · rintro st ⟨P1, x, A2, e, hx, rfl⟩
    have hl := tail_len e
    have hat : lnk a x i = ((lk14 a i (A2 ++ B)).1, (((lk14 a i (A2 ++ B)).2 : Nat) : Int), ()) := by
      rw [e] at hok
      exact Ok14.at (A := P1) (by simpa using hok) hx
    rw [ahead_L2_eq, inb_ok hx, Option.bind_some]
    have hn : (lnk a x i).1 = (lk14 a i (A2 ++ B)).1 := by rw [hat]
    have hs : (lnk a x i).2.1 = (((lk14 a i (A2 ++ B)).2 : Nat) : Int) := by rw [hat]
    rcases split14 a i A2 with h1 | ⟨C, p, D, rfl, h1, h2⟩
    · right
      rw [lk14_low h1] at hn
      rcases split14 a i B with h3 | ⟨E, p, F, rfl, h3, h4⟩
      · have : (lk14 a i B).1 = none := by
          have := lk14_low (B := []) h3
          rw [List.append_nil] at this; rw [this]; rfl
        replace hn : (lnk a x i).1 = none := hn.trans this
        rw [if_neg (by rw [hn]; decide)]
        exact ⟨_, rfl, P1, x, A2, ⟨e, hx, h1⟩, rfl⟩
      · rw [lk14_high h3 h4] at hn
        replace hn : (lnk a x i).1 = some p := hn
        rw [if_pos (by rw [hn]; rfl), Option.bind_some, hn, Option.bind_some]
        rw [show zset_Less_M (key a p).1 (key a p).2.1 m s = zset_Less_M (key a p).1 (key a p).2.1 (m, s, ()).1 (m, s, ()).2.1 from rfl, less_is, hB p (by simp), Option.bind_some, if_neg (by decide)]
        exact ⟨_, rfl, P1, x, A2, ⟨e, hx, h1⟩, rfl⟩
    · left
      have e1 : lk14 a i ((C ++ p :: D) ++ B) = (some p, C.length + 1) := by rw [List.append_assoc]; exact lk14_high h1 h2
      rw [e1] at hn hs
      replace hn : (lnk a x i).1 = some p := hn
      rw [if_pos (by rw [hn]; rfl), Option.bind_some, hn, Option.bind_some]
      rw [show zset_Less_M (key a p).1 (key a p).2.1 m s = zset_Less_M (key a p).1 (key a p).2.1 (m, s, ()).1 (m, s, ()).2.1 from rfl, less_is, hA p (tail_mem e (by simp)), Option.bind_some, if_pos rfl]
      rw [Option.bind_some, Option.bind_some, hs]
      simp only [List.length_append, List.length_cons] at hl
      have e2 : IntKind.wrap IntKind.i64 ((P1.length : Int) + ((C.length + 1 : Nat) : Int)) = ((P1 ++ x :: C).length : Int) := by
        rw [i64_id (by omega) (by omega)]; simp <;> omega
      rw [e2]
      refine ⟨_, rfl, ⟨P1 ++ x :: C, p, D, by rw [e]; simp, h2, rfl⟩, ?_⟩
      simp only [Int.toNat_natCast, List.length_append, List.length_cons]; omega
  · rintro q ⟨hq, P1', x', A2', h1, rfl⟩
    exact ⟨P1', x', A2', h1, hq⟩

/-- What the way says of a level. -/
def Way14 (a : AR) (P : List Nat) (w : Arr 12 (Option Nat)) (r : Arr 12 Int) (k : Nat) : Prop := ∃ P1 x A2, Last14 a P k P1 x A2 ∧ w.1.getD k none = some x ∧ r.1.getD k 0 = (P1.length : Int)

theorem ahead_is {a : AR} {h : Nat} {A B : List Nat} {m : List UInt8} {s : Int} (hok : Ok14 a (h :: A ++ B)) (hh : ht a h = 12) (hA : ∀ p ∈ A, less14 (key a p) (m, s, ()) = true) (hB : ∀ p ∈ B, less14 (key a p) (m, s, ()) = false) (hlen : A.length + B.length ≤ 100000) (d : List (List UInt8 × Int)) :
    ∃ w r, zset_Set_ahead_M m s (some h) d a = some (w, r, some h, d, a) ∧ ∀ k, k < 12 → Way14 a (h :: A) w r k := by
  unfold zset_Set_ahead_M
  refine Exists.elim (loop_meas (body := zset_Set_ahead_L1_P) (s := (some h, 0, 11, m, s, Arr.rep 12 none, Arr.rep 12 0, Arr.rep 12 none, Arr.rep 12 0, a))
    (fun st => ∃ (i : Nat) (P1 : List Nat) (x : Nat) (A2 : List Nat) (w : Arr 12 (Option Nat)) (r : Arr 12 Int), i ≤ 12 ∧ h :: A = P1 ++ x :: A2 ∧ i ≤ ht a x ∧ (∀ k, i ≤ k → k < 12 → Way14 a (h :: A) w r k) ∧ st = (some x, (P1.length : Int), (i : Int) - 1, m, s, Arr.rep 12 none, Arr.rep 12 0, w, r, a))
    (fun st => (st.2.2.1 + 1).toNat) (fun q => ∃ w r, (∀ k, k < 12 → Way14 a (h :: A) w r k) ∧ q = (m, s, Arr.rep 12 none, Arr.rep 12 0, w, r, a))
    ⟨12, [], h, A, _, _, Nat.le_refl _, rfl, Nat.le_of_eq hh.symm, fun k h1 h2 => by omega, rfl⟩ (by simp only; omega) ?_) ?_
  · rintro st ⟨i, P1, x, A2, w, r, hi, e, hx, hw, rfl⟩
    simp only [zset_Set_ahead_L1_P, zset_Set_ahead_L1]
    cases i with
    | zero =>
      right
      rw [if_neg (by simp)]
      exact ⟨_, rfl, w, r, fun k hk => hw k (Nat.zero_le _) hk, rfl⟩
    | succ i =>
      left
      rw [show (((i + 1 : Nat) : Int) - 1) = (i : Int) by omega, if_pos (decide_eq_true (by omega))]
      obtain ⟨P1', x', A2', h1, h2⟩ := ahead_L2 hok hA hB hlen e (show i < ht a x by omega) (Arr.rep 12 none) (Arr.rep 12 0) w r
      rw [h2, Option.bind_some]
      simp only
      rw [inb_ok (show i < 12 by omega), Option.bind_some, Option.bind_some, Int.toNat_natCast, i64_id (by omega) (by omega)]
      refine ⟨_, rfl, ⟨i, P1', x', A2', _, _, by omega, h1.1, Nat.le_of_lt h1.2.1, fun k hk hk2 => ?_, rfl⟩, by simp only; omega⟩
      by_cases hki : k = i
      · subst hki
        refine ⟨P1', x', A2', h1, ?_, ?_⟩
        · show (w.1.set k (some x')).getD k none = _
          rw [List.getD_eq_getElem?_getD, List.getElem?_set, if_pos rfl, if_pos (by rw [w.2]; omega)]; rfl
        · show (r.1.set k (P1'.length : Int)).getD k 0 = _
          rw [List.getD_eq_getElem?_getD, List.getElem?_set, if_pos rfl, if_pos (by rw [r.2]; omega)]; rfl
      · obtain ⟨Q1, y, Q2, h3, h4, h5⟩ := hw k (by omega) hk2
        refine ⟨Q1, y, Q2, h3, ?_, ?_⟩
        · show (w.1.set i (some x')).getD k none = _
          rw [List.getD_eq_getElem?_getD, List.getElem?_set_ne (fun e => hki e.symm), ← List.getD_eq_getElem?_getD, h4]
        · show (r.1.set i (P1'.length : Int)).getD k 0 = _
          rw [List.getD_eq_getElem?_getD, List.getElem?_set_ne (fun e => hki e.symm), ← List.getD_eq_getElem?_getD, h5]
  · rintro q ⟨hq, w, r, hw, rfl⟩
    rw [hq, Option.bind_some]
    exact ⟨w, r, rfl, hw⟩
end Go.Proofs.Ytfhngejmfnahhaa
