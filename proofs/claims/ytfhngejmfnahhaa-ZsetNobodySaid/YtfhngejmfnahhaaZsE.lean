/- A skip list: places, and what stands between. -/
import Derived.Test.YtfhngejmfnahhaaZsD
namespace Go.Proofs.Ytfhngejmfnahhaa
open Go Go.Lift Go.Lib
set_option maxRecDepth 100000
set_option maxHeartbeats 4000000
set_option linter.unusedVariables false

/-- Within an int's bounds. -/
def I64z (v : Int) : Prop := -9223372036854775808 ≤ v ∧ v ≤ 9223372036854775807
/-- A set in the table: its first node, and the others in order. -/
structure Set14 (a : AR) (h : Nat) (ns : List Nat) : Prop where
  ok : Ok14 a (h :: ns)
  hh : ht a h = 12
  hs : ∀ p ∈ ns, 1 ≤ ht a p ∧ ht a p ≤ 12
  nd : (h :: ns).Nodup
  srt : ns.Pairwise fun p q => less14 (key a p) (key a q) = true

theorem Set14.lt {a : AR} {h : Nat} {ns : List Nat} (S : Set14 a h ns) : ∀ p ∈ h :: ns, p < a.length := by
  intro p hp
  rcases List.mem_cons.1 hp with rfl | hp
  · exact ht_lt (j := 0) (by rw [S.hh]; omega)
  · exact ht_lt (j := 0) (by have := (S.hs p hp).1; omega)
theorem Set14.pos {a : AR} {h : Nat} {ns : List Nat} (S : Set14 a h ns) {p : Nat} (hp : p ∈ h :: ns) : 0 < ht a p := by
  rcases List.mem_cons.1 hp with rfl | hp
  · rw [S.hh]; omega
  · have := (S.hs p hp).1; omega
/-- The next node. -/
theorem lk0 {a : AR} : ∀ {l : List Nat}, (∀ p ∈ l, 0 < ht a p) → (lk14 a 0 l).1 = l.head?
  | [], _ => rfl
  | p :: l, h => by rw [lk14_cons, if_pos (h p (by simp))]; rfl
theorem Set14.next {a : AR} {h : Nat} {ns P R : List Nat} {x : Nat} (S : Set14 a h ns) (e : h :: ns = P ++ x :: R) : (lnk a x 0).1 = R.head? := by
  have hx : x ∈ h :: ns := by rw [e]; simp
  have := S.ok
  rw [e] at this
  rw [Ok14.at this (S.pos hx)]
  exact lk0 fun p hp => S.pos (by rw [e]; simp [hp])

/-! ### The node of a place -/
theorem place_L2_eq (x i : Nat) (left : Int) (a : AR) : zset_Set_place_L2_P (some x, left, (i : Int), a) = Option.bind (inb (ht a x) (i : Int)) fun _ =>
    if (!Option.isNone (lnk a x i).1) = true then
      Option.bind (inb (ht a x) (i : Int)) fun _ =>
      if decide ((lnk a x i).2.1 ≤ left) = true then Option.bind (inb (ht a x) (i : Int)) fun _ => Option.bind (inb (ht a x) (i : Int)) fun _ =>
        some (.inl ((lnk a x i).1, IntKind.wrap IntKind.i64 (left - (lnk a x i).2.1), (i : Int), a))
      else some (.inr (some x, left, (i : Int), a))
    else some (.inr (some x, left, (i : Int), a)) := rfl

theorem place_L2 {a : AR} {P : List Nat} (hok : Ok14 a P) {t : Nat} (htp : t < P.length) (hlen : P.length ≤ 90000) {i : Nat} {P1 R : List Nat} {x : Nat} (e : P = P1 ++ x :: R) (hx : i < ht a x) (ht1 : P1.length ≤ t) :
    ∃ P1' x' R', P = P1' ++ x' :: R' ∧ i < ht a x' ∧ P1'.length ≤ t ∧ (∀ q ∈ R'.take (t - P1'.length), ht a q ≤ i) ∧ loop zset_Set_place_L2_P (some x, ((t - P1.length : Nat) : Int), (i : Int), a) = some (some x', ((t - P1'.length : Nat) : Int), (i : Int), a) := by
  refine Exists.elim (loop_meas (body := zset_Set_place_L2_P) (s := (some x, ((t - P1.length : Nat) : Int), (i : Int), a))
    (fun st => ∃ P1 x R, P = P1 ++ x :: R ∧ i < ht a x ∧ P1.length ≤ t ∧ st = (some x, ((t - P1.length : Nat) : Int), (i : Int), a))
    (fun st => st.2.1.toNat) (fun st => ∃ P1 x R, P = P1 ++ x :: R ∧ i < ht a x ∧ P1.length ≤ t ∧ (∀ q ∈ R.take (t - P1.length), ht a q ≤ i) ∧ st = (some x, ((t - P1.length : Nat) : Int), (i : Int), a))
    ⟨P1, x, R, e, hx, ht1, rfl⟩ (by simp only [Int.toNat_natCast]; omega) ?_) ?_
  · rintro st ⟨P1, x, R, e, hx, ht1, rfl⟩
    have hat : lnk a x i = ((lk14 a i R).1, (((lk14 a i R).2 : Nat) : Int), ()) := by
      rw [e] at hok; exact Ok14.at (A := P1) hok hx
    have hn : (lnk a x i).1 = (lk14 a i R).1 := by rw [hat]
    have hs : (lnk a x i).2.1 = (((lk14 a i R).2 : Nat) : Int) := by rw [hat]
    have hl : P1.length + 1 + R.length = P.length := by rw [e]; simp; omega
    rw [place_L2_eq, inb_ok hx, Option.bind_some]
    rcases split14 a i R with h1 | ⟨C, p, D, rfl, h1, h2⟩
    · right
      have : (lk14 a i R).1 = none := by
        have := lk14_low (B := []) h1
        rw [List.append_nil] at this; rw [this]; rfl
      rw [this] at hn
      rw [if_neg (by rw [hn]; decide)]
      exact ⟨_, rfl, P1, x, R, e, hx, ht1, fun q hq => h1 q (List.mem_of_mem_take hq), rfl⟩
    · rw [lk14_high h1 h2] at hn hs
      replace hn : (lnk a x i).1 = some p := hn
      simp only at hs
      simp only [List.length_append, List.length_cons] at hl
      rw [if_pos (by rw [hn]; rfl), Option.bind_some]
      by_cases hle : C.length + 1 ≤ t - P1.length
      · left
        rw [if_pos (decide_eq_true (by rw [hs]; omega)), Option.bind_some, Option.bind_some, hn, hs, i64_id (by omega) (by omega)]
        refine ⟨_, rfl, ⟨P1 ++ x :: C, p, D, by rw [e]; simp, h2, by simp; omega, ?_⟩, by simp only [Int.toNat_natCast]; omega⟩
        rw [show (((t - P1.length : Nat) : Int) - ((C.length + 1 : Nat) : Int)) = ((t - (P1 ++ x :: C).length : Nat) : Int) by simp; omega]
      · right
        rw [if_neg (by rw [hs]; simp; omega)]
        refine ⟨_, rfl, P1, x, C ++ p :: D, e, hx, ht1, fun q hq => ?_, rfl⟩
        rw [List.take_append_of_le_length (by omega)] at hq
        exact h1 q (List.mem_of_mem_take hq)
  · rintro q ⟨hq, P1', x', R', h1, h2, h3, h4, rfl⟩
    exact ⟨P1', x', R', h1, h2, h3, h4, hq⟩

theorem place_is {a : AR} {h : Nat} {ns : List Nat} (S : Set14 a h ns) (hlen : ns.length ≤ 80000) {d : List (List UInt8 × Int)} (hd : d.length = ns.length) (i : Int) :
    zset_Set_place_M i (some h) d a = some (if 0 ≤ i then ns[i.toNat]? else none, some h, d, a) := by
  unfold zset_Set_place_M
  by_cases h0 : i < 0
  · rw [if_pos (decide_eq_true h0), if_neg (by omega)]
  · rw [if_neg (by simpa using h0), if_pos (by omega)]
    rw [show zset_Set_Len_P (some h, d, a) = some (((d.length : Nat) : Int), some h, d, a) from rfl, Option.bind_some]
    simp only
    by_cases hge : i ≥ ((d.length : Nat) : Int)
    · rw [if_pos (decide_eq_true hge), List.getElem?_eq_none (by omega)]
    · rw [if_neg (by simpa using hge)]
      obtain ⟨k, rfl⟩ := Int.eq_ofNat_of_zero_le (show 0 ≤ i by omega)
      have hk : k < ns.length := by omega
      refine Exists.elim (loop_meas (body := zset_Set_place_L1_P) (s := (some h, IntKind.wrap IntKind.i64 ((k : Int) + 1), 11, a))
        (fun st => ∃ (i : Nat) (P1 : List Nat) (x : Nat) (R : List Nat), i ≤ 12 ∧ h :: ns = P1 ++ x :: R ∧ i ≤ ht a x ∧ P1.length ≤ k + 1 ∧ (i < 12 → ∀ q ∈ R.take (k + 1 - P1.length), ht a q ≤ i) ∧ st = (some x, ((k + 1 - P1.length : Nat) : Int), (i : Int) - 1, a))
        (fun st => (st.2.2.1 + 1).toNat) (fun q => q = (some ns[k], a))
        ⟨12, [], h, ns, Nat.le_refl _, rfl, Nat.le_of_eq S.hh.symm, Nat.zero_le _, fun h => absurd h (Nat.lt_irrefl _), by rw [i64_succ (by omega)]; rfl⟩ (by simp only; omega) ?_) ?_
      · rintro st ⟨i, P1, x, R, hi, e, hx, hP, hw, rfl⟩
        simp only [zset_Set_place_L1_P, zset_Set_place_L1]
        cases i with
        | zero =>
          right
          rw [if_neg (by simp)]
          refine ⟨_, rfl, ?_⟩
          have hl : P1.length + 1 + R.length = ns.length + 1 := by have := congrArg List.length e; simp at this; omega
          have h0 : k + 1 - P1.length = 0 := by
            rcases Nat.eq_zero_or_pos (k + 1 - P1.length) with h0 | h0
            · exact h0
            · exfalso
              cases R with
              | nil => simp at hl; omega
              | cons q R =>
                have h1 := hw (by omega) q (by
                  obtain ⟨m, hm⟩ : ∃ m, k + 1 - P1.length = m + 1 := ⟨k - P1.length, by omega⟩
                  rw [hm]; simp)
                have h2 := S.pos (p := q) (by rw [e]; simp)
                omega
          have hx2 : (h :: ns)[k + 1]? = some x := by
            rw [e, List.getElem?_append_right (by omega), show k + 1 - P1.length = 0 from h0]; rfl
          rw [List.getElem?_cons_succ, List.getElem?_eq_getElem hk] at hx2
          injection hx2 with hx2
          rw [hx2]
        | succ i =>
          left
          rw [show (((i + 1 : Nat) : Int) - 1) = (i : Int) by omega, if_pos (decide_eq_true (by omega))]
          obtain ⟨P1', x', R', h1, h2, h3, h4, h5⟩ := place_L2 S.ok (t := k + 1) (by simp; omega) (by simp; omega) e (show i < ht a x by omega) hP
          rw [h5, Option.bind_some]
          simp only
          rw [i64_id (by omega) (by omega)]
          exact ⟨_, rfl, ⟨i, P1', x', R', by omega, h1, Nat.le_of_lt h2, h3, fun _ => h4, rfl⟩, by simp only; omega⟩
      · rintro q ⟨hq, rfl⟩
        rw [hq, Option.bind_some]
        simp only
        show some (some ns[k], some h, d, a) = some (ns[k]?, some h, d, a)
        rw [List.getElem?_eq_getElem hk]

/-! ### The members of some places -/
theorem Range_L1_eq (s1 s2 : Int) (x : Nat) (a : AR) (r : List Sc) : zset_Set_Range_L1_P (s1, s2, some x, a, r) =
    if decide (((r.length : Nat) : Int) < IntKind.wrap IntKind.i64 (s2 - s1)) = true then
      Option.bind (room 24 (r.length + 1)) fun _ => Option.bind (inb (ht a x) 0) fun _ => some (.inl (s1, s2, (lnk a x 0).1, a, r ++ [key a x]))
    else some (.inr (a, r)) := rfl

theorem Range_loop {a : AR} {h : Nat} {ns : List Nat} (S : Set14 a h ns) (hlen : ns.length ≤ 80000) {s1 s2 : Int} (hs : I64z (s2 - s1)) {P R : List Nat} (e : ns = P ++ R) :
    loop zset_Set_Range_L1_P (s1, s2, R.head?, a, []) = some (a, (R.take (s2 - s1).toNat).map (key a)) := by
  refine loop_is (r := (a, (R.take (s2 - s1).toNat).map (key a))) (s := (s1, s2, R.head?, a, [])) (fun st => ∃ k, k ≤ R.length ∧ k ≤ (s2 - s1).toNat ∧ st = (s1, s2, (R.drop k).head?, a, (R.take k).map (key a)))
    (fun st => R.length - st.2.2.2.2.length) ⟨0, Nat.zero_le _, Nat.zero_le _, by simp⟩ (by
      simp only [List.length_nil]
      have := congrArg List.length e
      simp at this; omega) ?_
  rintro st ⟨k, hk, hk2, rfl⟩
  have hRl : R.length ≤ 80000 := by have := congrArg List.length e; simp at this; omega
  by_cases hlt : k < R.length
  · have hd : R.drop k = R[k] :: R.drop (k + 1) := List.drop_eq_getElem_cons hlt
    have hmem : R[k] ∈ h :: ns := by rw [e]; simp
    rw [hd]
    show (∃ s', zset_Set_Range_L1_P (s1, s2, some R[k], a, _) = _ ∧ _) ∨ zset_Set_Range_L1_P (s1, s2, some R[k], a, _) = _
    rw [Range_L1_eq]
    have hkl : ((R.take k).map (key a)).length = k := by simp; omega
    rw [hkl, i64_id hs.1 (by have := hs.2; omega)]
    by_cases hl2 : (k : Int) < s2 - s1
    · left
      rw [if_pos (decide_eq_true hl2), room_ok (by omega) (by unfold maxLen; omega), Option.bind_some, inb_ok' (by omega) (by have := S.pos hmem; omega), Option.bind_some]
      refine ⟨_, rfl, ⟨k + 1, hlt, by omega, ?_⟩, ?_⟩
      · rw [S.next (P := h :: (P ++ R.take k)) (x := R[k]) (R := R.drop (k + 1)) (by
          rw [e]
          show h :: (P ++ R) = h :: ((P ++ R.take k) ++ R[k] :: R.drop (k + 1))
          rw [← hd, List.append_assoc, List.take_append_drop])]
        rw [List.take_succ_eq_append_getElem hlt, List.map_append]; rfl
      · simp only [List.length_append, List.length_cons, List.length_nil, List.length_map, List.length_take]; omega
    · right
      rw [if_neg (by simpa using hl2)]
      have : k = (s2 - s1).toNat := by omega
      rw [← this]
  · right
    have hkl : k = R.length := by omega
    rw [List.drop_of_length_le (by omega)]
    show zset_Set_Range_L1_P (s1, s2, none, a, _) = _
    rw [show zset_Set_Range_L1_P (s1, s2, none, a, (R.take k).map (key a)) = some (.inr (a, (R.take k).map (key a))) from rfl]
    rw [List.take_of_length_le (by omega), List.take_of_length_le (by omega)]

/-- The members of some places. -/
def rng14 (L : List Sc) (f t : Int) : List Sc := (L.take t.toNat).drop f.toNat
theorem Range_is {a : AR} {h : Nat} {ns : List Nat} (S : Set14 a h ns) (hlen : ns.length ≤ 80000) {d : List (List UInt8 × Int)} (hd : d.length = ns.length) {f t : Int} (hf : I64z f) (ht' : I64z t) :
    zset_Set_Range_M f t (some h) d a = some (some h, d, a, rng14 (ns.map (key a)) f t) := by
  obtain ⟨hf1, hf2⟩ := hf
  obtain ⟨ht1, ht2⟩ := ht'
  unfold zset_Set_Range_M
  rw [show zset_Set_Len_P (some h, d, a) = some (((d.length : Nat) : Int), some h, d, a) from rfl, Option.bind_some]
  simp only
  have e1 : (if (0 : Int) > f then (0 : Int) else f) = ((f.toNat : Nat) : Int) := by split <;> omega
  have e2 : (if ((d.length : Nat) : Int) < (if (0 : Int) > t then (0 : Int) else t) then ((d.length : Nat) : Int) else (if (0 : Int) > t then (0 : Int) else t)) = ((min t.toNat ns.length : Nat) : Int) := by split <;> split <;> omega
  rw [e1, e2]
  rw [show zset_Set_place_P (((f.toNat : Nat) : Int), some h, d, a) = zset_Set_place_M ((f.toNat : Nat) : Int) (some h) d a from rfl, place_is S hlen hd, Option.bind_some]
  simp only
  rw [if_pos (by omega), Int.toNat_natCast, show ns[f.toNat]? = (ns.drop f.toNat).head? by rw [List.head?_drop]]
  rw [Range_loop S hlen (show I64z (((min t.toNat ns.length : Nat) : Int) - ((f.toNat : Nat) : Int)) from ⟨by omega, by omega⟩) (P := ns.take f.toNat) (R := ns.drop f.toNat) (List.take_append_drop _ _).symm, Option.bind_some]
  simp only
  congr 3
  congr 1
  unfold rng14
  rw [← List.map_take, ← List.map_drop]
  congr 1
  rw [show (((min t.toNat ns.length : Nat) : Int) - ((f.toNat : Nat) : Int)).toNat = min t.toNat ns.length - f.toNat by omega, ← List.drop_take]
  congr 1
  rcases Nat.le_total t.toNat ns.length with h1 | h1
  · rw [Nat.min_eq_left h1]
  · rw [Nat.min_eq_right h1, List.take_of_length_le (Nat.le_refl _), List.take_of_length_le h1]

theorem At_is {a : AR} {h : Nat} {ns : List Nat} (S : Set14 a h ns) (hlen : ns.length ≤ 80000) {d : List (List UInt8 × Int)} (hd : d.length = ns.length) (i : Int) :
    zset_Set_At_M i (some h) d a = some (match (if 0 ≤ i then (ns.map (key a))[i.toNat]? else none) with
      | some x => (x.1, x.2.1, true, some h, d, a)
      | none => ([], 0, false, some h, d, a)) := by
  unfold zset_Set_At_M
  rw [show zset_Set_place_P (i, some h, d, a) = zset_Set_place_M i (some h) d a from rfl, place_is S hlen hd, Option.bind_some]
  simp only
  by_cases h0 : 0 ≤ i
  · rw [if_pos h0, if_pos h0, List.getElem?_map]
    cases ns[i.toNat]? <;> rfl
  · rw [if_neg h0, if_neg h0]; rfl

/-! ### Where something would stand -/
theorem part14 {a : AR} (s : Sc) : ∀ {ns : List Nat}, ns.Pairwise (fun p q => less14 (key a p) (key a q) = true) → ∃ A B, ns = A ++ B ∧ (∀ p ∈ A, less14 (key a p) s = true) ∧ ∀ p ∈ B, less14 (key a p) s = false
  | [], _ => ⟨[], [], rfl, by simp, by simp⟩
  | p :: ns, h => by
    obtain ⟨h1, h2⟩ := List.pairwise_cons.1 h
    cases hp : less14 (key a p) s with
    | true =>
      obtain ⟨A, B, rfl, h3, h4⟩ := part14 s h2
      exact ⟨p :: A, B, rfl, by intro q hq; rcases List.mem_cons.1 hq with rfl | hq; exact hp; exact h3 q hq, h4⟩
    | false =>
      refine ⟨[], p :: ns, rfl, by simp, fun q hq => ?_⟩
      rcases List.mem_cons.1 hq with rfl | hq
      · exact hp
      · cases hq' : less14 (key a q) s with
        | false => rfl
        | true => rw [less_trans (h1 q hq) hq'] at hp; cases hp

theorem Between_L1_eq (s2 : Int) (x : Nat) (a : AR) (r : List Sc) : zset_Set_Between_L1_P (s2, some x, a, r) =
    if decide ((key a x).2.1 ≤ s2) = true then
      Option.bind (room 24 (r.length + 1)) fun _ => Option.bind (inb (ht a x) 0) fun _ => some (.inl (s2, (lnk a x 0).1, a, r ++ [key a x]))
    else some (.inr (a, r)) := rfl
theorem Between_loop {a : AR} {h : Nat} {ns : List Nat} (S : Set14 a h ns) (hlen : ns.length ≤ 80000) {s2 : Int} {P R : List Nat} (e : ns = P ++ R) :
    loop zset_Set_Between_L1_P (s2, R.head?, a, []) = some (a, (R.map (key a)).takeWhile fun x => decide (x.2.1 ≤ s2)) := by
  have hRl : R.length ≤ 80000 := by have := congrArg List.length e; simp at this; omega
  refine loop_is (r := (a, (R.map (key a)).takeWhile fun x => decide (x.2.1 ≤ s2))) (s := (s2, R.head?, a, [])) (fun st => ∃ k, k ≤ R.length ∧ (R.map (key a)).takeWhile (fun x => decide (x.2.1 ≤ s2)) = (R.take k).map (key a) ++ ((R.drop k).map (key a)).takeWhile (fun x => decide (x.2.1 ≤ s2)) ∧ st = (s2, (R.drop k).head?, a, (R.take k).map (key a)))
    (fun st => R.length - st.2.2.2.length) ⟨0, Nat.zero_le _, by simp, by simp⟩ (by simp only [List.length_nil]; omega) ?_
  rintro st ⟨k, hk, htw, rfl⟩
  by_cases hlt : k < R.length
  · have hd : R.drop k = R[k] :: R.drop (k + 1) := List.drop_eq_getElem_cons hlt
    have hmem : R[k] ∈ h :: ns := by rw [e]; simp
    rw [hd] at htw ⊢
    show (∃ s', zset_Set_Between_L1_P (s2, some R[k], a, _) = _ ∧ _) ∨ zset_Set_Between_L1_P (s2, some R[k], a, _) = _
    rw [Between_L1_eq]
    have hkl : ((R.take k).map (key a)).length = k := by simp; omega
    rw [List.map_cons, List.takeWhile_cons] at htw
    by_cases hl2 : (key a R[k]).2.1 ≤ s2
    · left
      rw [if_pos (decide_eq_true hl2)] at htw
      rw [if_pos (decide_eq_true hl2), hkl, room_ok (by omega) (by unfold maxLen; omega), Option.bind_some, inb_ok' (by omega) (by have := S.pos hmem; omega), Option.bind_some]
      refine ⟨_, rfl, ⟨k + 1, hlt, ?_, ?_⟩, ?_⟩
      · rw [htw, List.take_succ_eq_append_getElem hlt, List.map_append, List.append_assoc]; rfl
      · rw [S.next (P := h :: (P ++ R.take k)) (x := R[k]) (R := R.drop (k + 1)) (by
          rw [e]
          show h :: (P ++ R) = h :: ((P ++ R.take k) ++ R[k] :: R.drop (k + 1))
          rw [← hd, List.append_assoc, List.take_append_drop])]
        rw [List.take_succ_eq_append_getElem hlt, List.map_append]; rfl
      · simp only [List.length_append, List.length_cons, List.length_nil, List.length_map, List.length_take]; omega
    · right
      rw [if_neg (by simpa using hl2)] at htw
      rw [if_neg (by simpa using hl2), htw, List.append_nil]
  · right
    have hkl : k = R.length := by omega
    rw [List.drop_of_length_le (by omega)] at htw ⊢
    show zset_Set_Between_L1_P (s2, none, a, _) = _
    rw [show zset_Set_Between_L1_P (s2, none, a, (R.take k).map (key a)) = some (.inr (a, (R.take k).map (key a))) from rfl, htw]
    simp

/-- The members whose scores lie between two. -/
def btw14 (L : List Sc) (lo hi : Int) : List Sc := L.filter fun x => decide (x.2.1 ≥ lo) && decide (x.2.1 ≤ hi)
theorem less_low (x : Sc) (lo : Int) : less14 x ([], lo, ()) = decide (x.2.1 < lo) := by
  unfold less14
  by_cases e : x.2.1 = lo
  · rw [if_neg (by simp [e]), bytesLess_eq, decide_eq_decide]
    constructor
    · intro h; exact absurd h (List.not_lt_nil _)
    · intro h; omega
  · rw [if_pos (by simpa using e)]
theorem tw_filter {hi : Int} : ∀ {l : List Sc}, l.Pairwise (fun x y => less14 x y = true) → l.takeWhile (fun x => decide (x.2.1 ≤ hi)) = l.filter fun x => decide (x.2.1 ≤ hi)
  | [], _ => rfl
  | x :: l, h => by
    obtain ⟨h1, h2⟩ := List.pairwise_cons.1 h
    rw [List.takeWhile_cons, List.filter_cons]
    by_cases hx : x.2.1 ≤ hi
    · rw [if_pos (decide_eq_true hx), if_pos (decide_eq_true hx), tw_filter h2]
    · rw [if_neg (by simpa using hx), if_neg (by simpa using hx)]
      symm
      rw [List.filter_eq_nil_iff]
      intro y hy
      have := h1 y hy
      unfold less14 at this
      split at this
      · have := of_decide_eq_true this; simp; omega
      · rename_i hne; simp at hne; simp; omega

theorem Between_is {a : AR} {h : Nat} {ns : List Nat} (S : Set14 a h ns) (hlen : ns.length ≤ 80000) (d : List (List UInt8 × Int)) (lo hi : Int) :
    zset_Set_Between_M lo hi (some h) d a = some (some h, d, a, btw14 (ns.map (key a)) lo hi) := by
  unfold zset_Set_Between_M
  rw [show zset_Set_made_P (some h, d, a) = some (true, some h, d, a) from rfl, Option.bind_some]
  simp only
  rw [if_neg (by decide)]
  obtain ⟨A, B, rfl, hA, hB⟩ := part14 (a := a) ([], lo, ()) S.srt
  have hl : A.length + B.length ≤ 80000 := by simpa using hlen
  obtain ⟨w, r, hah, hway⟩ := ahead_is (m := []) (s := lo) (by simpa using S.ok) S.hh hA hB (by omega) d
  rw [show zset_Set_ahead_P ([], lo, some h, d, a) = zset_Set_ahead_M [] lo (some h) d a from rfl, hah, Option.bind_some, inb_ok' (by omega) (by omega), Option.bind_some]
  obtain ⟨P1, x, A2, hl2, h2, h3⟩ := hway 0 (by omega)
  have : A2 = [] := by
    cases A2 with
    | nil => rfl
    | cons y A2 =>
      have h7 := hl2.2.2 y (by simp)
      have h8 := (S.hs y (List.mem_append_left _ (tail_mem hl2.1 (by simp)))).1
      omega
  subst this
  simp only
  rw [show List.getD w.1 0 none = some x from h2, Option.bind_some, show inb (List.length (ndR a x)) 0 = inb (ht a x) 0 from rfl, inb_ok' (by omega) (by have := hl2.2.1; omega), Option.bind_some]
  rw [show (List.getD (ndR a x) 0 (none, 0, ())).1 = (lnk a x 0).1 from rfl, S.next (P := P1) (x := x) (R := B) (by
    show h :: A ++ B = _
    rw [hl2.1]; simp)]
  rw [Between_loop S hlen (P := A) (R := B) rfl, Option.bind_some]
  simp only
  congr 4
  have hsB : (B.map (key a)).Pairwise (fun x y => less14 x y = true) := by
    rw [List.pairwise_map]; exact (List.pairwise_append.1 S.srt).2.1
  rw [tw_filter hsB]
  unfold btw14
  rw [List.map_append, List.filter_append]
  have e1 : (A.map (key a)).filter (fun x => decide (x.2.1 ≥ lo) && decide (x.2.1 ≤ hi)) = [] := by
    rw [List.filter_eq_nil_iff]
    intro y hy
    obtain ⟨p, hp, rfl⟩ := List.mem_map.1 hy
    have := hA p hp
    rw [less_low] at this
    have := of_decide_eq_true this
    simp; omega
  rw [e1, List.nil_append]
  refine List.filter_congr fun y hy => ?_
  obtain ⟨p, hp, rfl⟩ := List.mem_map.1 hy
  have := hB p hp
  rw [less_low] at this
  have := of_decide_eq_false this
  rw [show decide ((key a p).2.1 ≥ lo) = true from decide_eq_true (by omega), Bool.true_and]
end Go.Proofs.Ytfhngejmfnahhaa
