/- The document's lists. -/
import Derived.Test.YtfhngejmfnahhaaZsF
namespace Go.Proofs.Ytfhngejmfnahhaa
open Go Go.Lift Go.Lib
set_option maxRecDepth 100000
set_option maxHeartbeats 4000000
set_option linter.unusedVariables false

theorem room24 {n : Nat} (h : n ≤ 100000) : room 24 n = some () := room_ok (by omega) (by unfold maxLen; omega)
theorem rSame14 {l : List Sc} (hl : l.length ≤ 90000) : intaglioref14_Same_M l l = some true := by
  unfold intaglioref14_Same_M
  rw [if_neg (by simp)]
  rw [loop_is (r := .inl ()) (s := (l, l, 0)) (fun (x : List Sc × List Sc × Int) => ∃ k : Nat, k ≤ l.length ∧ x = (l, l, (k : Int))) (fun x => l.length - x.2.2.toNat) ⟨0, Nat.zero_le _, rfl⟩ (by simp only [Int.toNat_zero]; omega) ?_]
  · rfl
  · rintro x ⟨k, hk, rfl⟩
    simp only [intaglioref14_Same_L1_P, intaglioref14_Same_L1]
    by_cases hlt : k < l.length
    · left
      rw [if_pos (decide_eq_true (by omega)), ix_nat hlt, Option.bind_some, Option.bind_some, if_neg (by simp [eqLs.strEq, eqLs.intEq]), i64_succ (by omega)]
      exact ⟨_, rfl, ⟨k + 1, hlt, rfl⟩, by simp only [Int.toNat_natCast]; omega⟩
    · right
      rw [if_neg (by simp; omega)]

theorem rLess14 (x y : Sc) : intaglioref14_Less_M x.1 x.2.1 y.1 y.2.1 = some (less14 x y) := by
  unfold intaglioref14_Less_M less14
  by_cases h1 : x.2.1 < y.2.1
  · rw [if_pos (decide_eq_true h1), if_pos (by simp; omega), decide_eq_true h1]
  · rw [if_neg (by simpa using h1)]
    by_cases h2 : x.2.1 = y.2.1
    · rw [if_pos (by simpa using h2), if_neg (by simpa using h2)]
    · rw [if_neg (by simpa using h2), if_pos (by simpa using h2), decide_eq_false h1]

theorem Find14 {L : List Sc} (hl : L.length ≤ 90000) (m : List UInt8) : intaglioref14_Find_M L m = some (if has14 L m = true then ((pos14 L m : Nat) : Int) else -1) := by
  unfold intaglioref14_Find_M
  refine Exists.elim (loop_meas (body := intaglioref14_Find_L1_P) (s := (L, m, 0))
    (fun x => ∃ k : Nat, k ≤ L.length ∧ (∀ j (h : j < L.length), j < k → (L[j].1 == m) = false) ∧ x = (L, m, (k : Int))) (fun x => L.length - x.2.2.toNat)
    (fun q => q = if has14 L m = true then .inr ((pos14 L m : Nat) : Int) else .inl ()) ⟨0, Nat.zero_le _, fun j _ hj => absurd hj (Nat.not_lt_zero _), rfl⟩ (by simp only [Int.toNat_zero]; omega) ?_) ?_
  · rintro x ⟨k, hk, hb, rfl⟩
    simp only [intaglioref14_Find_L1_P, intaglioref14_Find_L1]
    by_cases hlt : k < L.length
    · rw [if_pos (decide_eq_true (by omega)), ix_nat hlt, Option.bind_some]
      by_cases he : (L[k].1 == m) = true
      · right
        rw [if_pos he]
        refine ⟨_, rfl, ?_⟩
        have h1 : has14 L m = true := List.any_eq_true.2 ⟨_, List.getElem_mem hlt, he⟩
        have h2 : pos14 L m = k := (List.findIdx_eq hlt).2 ⟨he, fun j hj => hb j (by omega) hj⟩
        rw [if_pos h1, h2]
      · left
        rw [if_neg he, i64_succ (by omega)]
        refine ⟨_, rfl, ⟨k + 1, hlt, fun j h hj => ?_, rfl⟩, by simp only [Int.toNat_natCast]; omega⟩
        by_cases hjk : j = k
        · subst hjk; simpa using he
        · exact hb j h (by omega)
    · right
      rw [if_neg (by simp; omega)]
      refine ⟨_, rfl, ?_⟩
      rw [if_neg]
      intro h0
      obtain ⟨x, hx, hxm⟩ := List.any_eq_true.1 h0
      obtain ⟨j, hj, rfl⟩ := List.mem_iff_getElem.1 hx
      have := hb j hj (by omega)
      rw [hxm] at this; cases this
  · rintro q ⟨hq, rfl⟩
    rw [hq, Option.bind_some]
    split <;> rfl

theorem Drop14 {L : List Sc} (hl : L.length ≤ 90000) (m : List UInt8) : intaglioref14_Drop_M L m = some (drop14 L m) := by
  unfold intaglioref14_Drop_M
  rw [loop_is (r := drop14 L m) (s := (L, m, 0, [])) (fun x => ∃ k : Nat, k ≤ L.length ∧ x = (L, m, (k : Int), drop14 (L.take k) m)) (fun x => L.length - x.2.2.1.toNat) ⟨0, Nat.zero_le _, rfl⟩ (by simp only [Int.toNat_zero]; omega) ?_]
  · rfl
  · rintro x ⟨k, hk, rfl⟩
    simp only [intaglioref14_Drop_L1_P, intaglioref14_Drop_L1]
    by_cases hlt : k < L.length
    · left
      have hs : drop14 (L.take (k + 1)) m = drop14 (L.take k) m ++ if (L[k].1 != m) = true then [L[k]] else [] := by
        unfold drop14
        rw [List.take_succ_eq_append_getElem hlt, List.filter_append, List.filter_cons, List.filter_nil]
      have hdl : (drop14 (L.take k) m).length ≤ k := by
        have := List.length_filter_le (fun x : Sc => x.1 != m) (L.take k)
        have h2 : (L.take k).length ≤ k := by simp; omega
        unfold drop14; omega
      rw [if_pos (decide_eq_true (by omega)), ix_nat hlt, Option.bind_some, Option.bind_some]
      by_cases he : (L[k].1 == m) = true
      · rw [if_neg (by rw [he]; decide), i64_succ (by omega)]
        refine ⟨_, rfl, ⟨k + 1, hlt, ?_⟩, by simp only [Int.toNat_natCast]; omega⟩
        rw [hs, if_neg (by simpa using he), List.append_nil]
      · rw [if_pos (by simpa using he), room24 (by simp; omega), Option.bind_some, i64_succ (by omega)]
        refine ⟨_, rfl, ⟨k + 1, hlt, ?_⟩, by simp only [Int.toNat_natCast]; omega⟩
        rw [hs, if_pos (by simpa using he)]
    · right
      rw [if_neg (by simp; omega), List.take_of_length_le (by omega)]

theorem partS (s : Sc) : ∀ {L : List Sc}, L.Pairwise (fun x y => less14 x y = true) → ∃ A B, L = A ++ B ∧ (∀ p ∈ A, less14 p s = true) ∧ ∀ p ∈ B, less14 p s = false
  | [], _ => ⟨[], [], rfl, by simp, by simp⟩
  | p :: ns, h => by
    obtain ⟨h1, h2⟩ := List.pairwise_cons.1 h
    cases hp : less14 p s with
    | true =>
      obtain ⟨A, B, rfl, h3, h4⟩ := partS s h2
      exact ⟨p :: A, B, rfl, by intro q hq; rcases List.mem_cons.1 hq with rfl | hq; exact hp; exact h3 q hq, h4⟩
    | false =>
      refine ⟨[], p :: ns, rfl, by simp, fun q hq => ?_⟩
      rcases List.mem_cons.1 hq with rfl | hq
      · exact hp
      · cases hq' : less14 q s with
        | false => rfl
        | true => rw [less_trans (h1 q hq) hq'] at hp; cases hp
theorem ins14_eq {s : Sc} {A B : List Sc} (hA : ∀ p ∈ A, less14 p s = true) (hB : ∀ p ∈ B, less14 p s = false) : ins14 (A ++ B) s = A ++ s :: B := by
  have a1 : A.filter (fun y => less14 y s) = A := List.filter_eq_self.2 hA
  have b1 : B.filter (fun y => less14 y s) = [] := List.filter_eq_nil_iff.2 fun y hy => by rw [hB y hy]; decide
  have a2 : A.filter (fun y => !less14 y s) = [] := List.filter_eq_nil_iff.2 fun y hy => by rw [hA y hy]; decide
  have b2 : B.filter (fun y => !less14 y s) = B := List.filter_eq_self.2 fun y hy => by rw [hB y hy]; rfl
  unfold ins14
  rw [List.filter_append, List.filter_append, a1, b1, a2, b2]
  simp
theorem drop_srt {L : List Sc} (h : L.Pairwise fun x y => less14 x y = true) (m : List UInt8) : (drop14 L m).Pairwise fun x y => less14 x y = true := h.sublist List.filter_sublist
theorem drop_len (L : List Sc) (m : List UInt8) : (drop14 L m).length ≤ L.length := List.length_filter_le _ _
theorem put_len {L : List Sc} (h : L.Pairwise fun x y => less14 x y = true) (m : List UInt8) (s : Int) : (put14 L m s).length ≤ L.length + 1 := by
  have h1 := drop_len L m
  obtain ⟨A, B, e, hA, hB⟩ := partS (m, s, ()) (drop_srt h m)
  unfold put14
  rw [e, ins14_eq hA hB]
  rw [e] at h1
  simp at h1 ⊢; omega

theorem Put14 {L : List Sc} (hl : L.length ≤ 80000) (h : L.Pairwise fun x y => less14 x y = true) (m : List UInt8) (s : Int) : intaglioref14_Put_M L m s = some (put14 L m s) := by
  unfold intaglioref14_Put_M
  have h1 := drop_len L m
  rw [show intaglioref14_Drop_P (L, m) = intaglioref14_Drop_M L m from rfl, Drop14 (by omega), Option.bind_some]
  obtain ⟨A, B, e, hA, hB⟩ := partS (m, s, ()) (drop_srt h m)
  unfold put14
  rw [e] at h1 ⊢
  rw [ins14_eq hA hB]
  have hlen : A.length + B.length ≤ 80000 := by simp at h1; omega
  rw [loop_is (r := ((A.length : Int), m, s, A ++ B)) (s := (0, 0, m, s, A ++ B)) (fun x => ∃ k : Nat, k ≤ (A ++ B).length ∧ x = (((min k A.length : Nat) : Int), (k : Int), m, s, A ++ B)) (fun x => (A ++ B).length - x.2.1.toNat) ⟨0, Nat.zero_le _, by simp⟩ (by simp only [Int.toNat_zero, List.length_append]; omega) ?_]
  · rw [Option.bind_some]
    simp only [Int.toNat_natCast]
    have ht : (A ++ B).take A.length = A := by simp
    have hd : (A ++ B).drop A.length = B := by simp
    have sub1 : subn (A ++ B).length 0 (A.length : Int) = some () := by unfold subn; rw [if_pos ⟨by omega, by omega, by rw [List.length_append]; omega⟩]
    have sub2 : subn (A ++ B).length (A.length : Int) (((A ++ B).length : Nat) : Int) = some () := by unfold subn; rw [if_pos ⟨by omega, by rw [List.length_append]; omega, by omega⟩]
    rw [sub1, Option.bind_some, ht, List.drop_zero, room24 (by omega), Option.bind_some, room24 (by simp; omega), Option.bind_some, sub2, Option.bind_some, List.take_length, hd, room24 (by simp; omega), Option.bind_some]
    simp
  · rintro x ⟨k, hk, rfl⟩
    simp only [intaglioref14_Put_L1_P, intaglioref14_Put_L1]
    by_cases hlt : k < (A ++ B).length
    · left
      rw [if_pos (decide_eq_true (by omega)), inb_ok hlt, Option.bind_some, Int.toNat_natCast]
      have hg : List.getD (A ++ B) k ([], 0, ()) = (A ++ B)[k] := by rw [List.getD_eq_getElem?_getD, List.getElem?_eq_getElem hlt]; rfl
      rw [hg, show intaglioref14_Less_P ((A ++ B)[k].fst, (A ++ B)[k].snd.fst, m, s) = intaglioref14_Less_M (A ++ B)[k].1 (A ++ B)[k].2.1 (m, s, ()).1 (m, s, ()).2.1 from rfl, rLess14, Option.bind_some]
      have hk2 : k < 90000 := by simp at hlt; omega
      by_cases hkA : k < A.length
      · rw [show (A ++ B)[k] = A[k] from List.getElem_append_left hkA, hA _ (List.getElem_mem hkA), if_pos rfl, i64_succ (by omega)]
        refine ⟨_, rfl, ⟨k + 1, hlt, by rw [Nat.min_eq_left (by omega)]⟩, by simp only [Int.toNat_natCast]; omega⟩
      · have hkB : k - A.length < B.length := by simp at hlt; omega
        rw [show (A ++ B)[k] = B[k - A.length] from List.getElem_append_right (by omega), hB _ (List.getElem_mem hkB), if_neg (by decide), i64_succ (by omega)]
        refine ⟨_, rfl, ⟨k + 1, hlt, by rw [Nat.min_eq_right (by omega), Nat.min_eq_right (by omega)]⟩, by simp only [Int.toNat_natCast]; omega⟩
    · right
      rw [if_neg (by simp at hlt ⊢; omega), Nat.min_eq_right (by simp at hlt; omega)]

theorem Range14 {L : List Sc} (hl : L.length ≤ 90000) {f t : Int} (hf : I64z f) (ht : I64z t) : intaglioref14_Range_M L f t = some (rng14 L f t) := by
  unfold intaglioref14_Range_M
  rw [loop_is (r := rng14 L f t) (s := (L, f, t, 0, [])) (fun x => ∃ k : Nat, k ≤ L.length ∧ x = (L, f, t, (k : Int), rng14 (L.take k) f t)) (fun x => L.length - x.2.2.2.1.toNat) ⟨0, Nat.zero_le _, by simp [rng14]⟩ (by simp only [Int.toNat_zero]; omega) ?_]
  · rfl
  · rintro x ⟨k, hk, rfl⟩
    simp only [intaglioref14_Range_L1_P, intaglioref14_Range_L1]
    by_cases hlt : k < L.length
    · left
      rw [if_pos (decide_eq_true (by omega)), i64_succ (by omega)]
      have hrl : (rng14 (L.take k) f t).length ≤ k := by unfold rng14; simp; omega
      by_cases hkt : (k : Int) < t
      · have h1 : (L.take (k + 1)).take t.toNat = L.take k ++ [L[k]] := by rw [List.take_take, Nat.min_eq_right (by omega), List.take_succ_eq_append_getElem hlt]
        have h2 : (L.take k).take t.toNat = L.take k := by rw [List.take_take, Nat.min_eq_right (by omega)]
        by_cases hkf : (k : Int) ≥ f
        · rw [if_pos (decide_eq_true hkf), if_pos (decide_eq_true hkt), ix_nat hlt, Option.bind_some, room24 (by simp; omega), Option.bind_some]
          refine ⟨_, rfl, ⟨k + 1, hlt, ?_⟩, by simp only [Int.toNat_natCast]; omega⟩
          have : rng14 (L.take (k + 1)) f t = rng14 (L.take k) f t ++ [L[k]] := by
            unfold rng14
            rw [h1, h2, List.drop_append_of_le_length (by simp; omega)]
          rw [this]
        · rw [if_neg (by simpa using hkf)]
          refine ⟨_, rfl, ⟨k + 1, hlt, ?_⟩, by simp only [Int.toNat_natCast]; omega⟩
          have : rng14 (L.take (k + 1)) f t = rng14 (L.take k) f t := by
            unfold rng14
            rw [h1, h2, List.drop_of_length_le (by simp; omega), List.drop_of_length_le (by simp; omega)]
          rw [this]
      · have h1 : rng14 (L.take (k + 1)) f t = rng14 (L.take k) f t := by
          unfold rng14
          rw [List.take_take, List.take_take, Nat.min_eq_left (by omega), Nat.min_eq_left (by omega)]
        by_cases hkf : (k : Int) ≥ f
        · rw [if_pos (decide_eq_true hkf), if_neg (by simpa using hkt)]
          exact ⟨_, rfl, ⟨k + 1, hlt, by rw [h1]⟩, by simp only [Int.toNat_natCast]; omega⟩
        · rw [if_neg (by simpa using hkf)]
          exact ⟨_, rfl, ⟨k + 1, hlt, by rw [h1]⟩, by simp only [Int.toNat_natCast]; omega⟩
    · right
      rw [if_neg (by simp; omega), List.take_of_length_le (by omega)]

theorem Between14 {L : List Sc} (hl : L.length ≤ 90000) (lo hi : Int) : intaglioref14_Between_M L lo hi = some (btw14 L lo hi) := by
  unfold intaglioref14_Between_M
  rw [loop_is (r := btw14 L lo hi) (s := (L, lo, hi, 0, [])) (fun x => ∃ k : Nat, k ≤ L.length ∧ x = (L, lo, hi, (k : Int), btw14 (L.take k) lo hi)) (fun x => L.length - x.2.2.2.1.toNat) ⟨0, Nat.zero_le _, by simp [btw14]⟩ (by simp only [Int.toNat_zero]; omega) ?_]
  · rfl
  · rintro x ⟨k, hk, rfl⟩
    simp only [intaglioref14_Between_L1_P, intaglioref14_Between_L1]
    by_cases hlt : k < L.length
    · left
      have hs : btw14 (L.take (k + 1)) lo hi = btw14 (L.take k) lo hi ++ if (decide (L[k].2.1 ≥ lo) && decide (L[k].2.1 ≤ hi)) = true then [L[k]] else [] := by
        unfold btw14
        rw [List.take_succ_eq_append_getElem hlt, List.filter_append, List.filter_cons, List.filter_nil]
      have hdl : (btw14 (L.take k) lo hi).length ≤ k := by
        have := List.length_filter_le (fun x : Sc => decide (x.2.1 ≥ lo) && decide (x.2.1 ≤ hi)) (L.take k)
        have h2 : (L.take k).length ≤ k := by simp; omega
        unfold btw14; omega
      rw [if_pos (decide_eq_true (by omega)), ix_nat hlt, Option.bind_some, i64_succ (by omega)]
      by_cases h1 : L[k].2.1 ≥ lo
      · rw [if_pos (decide_eq_true h1), Option.bind_some]
        by_cases h2 : L[k].2.1 ≤ hi
        · rw [if_pos (decide_eq_true h2), Option.bind_some, room24 (by simp; omega), Option.bind_some]
          refine ⟨_, rfl, ⟨k + 1, hlt, ?_⟩, by simp only [Int.toNat_natCast]; omega⟩
          rw [hs, if_pos (by simp [h1, h2])]
        · rw [if_neg (by simpa using h2)]
          refine ⟨_, rfl, ⟨k + 1, hlt, ?_⟩, by simp only [Int.toNat_natCast]; omega⟩
          rw [hs, if_neg (by simp [h2]), List.append_nil]
      · rw [if_neg (by simpa using h1)]
        refine ⟨_, rfl, ⟨k + 1, hlt, ?_⟩, by simp only [Int.toNat_natCast]; omega⟩
        rw [hs, if_neg (by simp [h1]), List.append_nil]
    · right
      rw [if_neg (by simp; omega), List.take_of_length_le (by omega)]

/-! ### The example, and few acts -/
theorem P_put (m : List UInt8) (s : Int) (h : Option Nat) (d : Mp) (a : AR) : zset_Set_Put_P (m, s, h, d, a) = zset_Set_Put_M m s h d a := rfl
theorem P_drop (m : List UInt8) (h : Option Nat) (d : Mp) (a : AR) : zset_Set_Drop_P (m, h, d, a) = zset_Set_Drop_M m h d a := rfl
theorem P_rank (m : List UInt8) (h : Option Nat) (d : Mp) (a : AR) : zset_Set_Rank_P (m, h, d, a) = zset_Set_Rank_M m h d a := rfl
theorem P_score (m : List UInt8) (h : Option Nat) (d : Mp) (a : AR) : zset_Set_Score_P (m, h, d, a) = zset_Set_Score_M m h d a := rfl
theorem P_range (f t : Int) (h : Option Nat) (d : Mp) (a : AR) : zset_Set_Range_P (f, t, h, d, a) = zset_Set_Range_M f t h d a := rfl
theorem P_between (f t : Int) (h : Option Nat) (d : Mp) (a : AR) : zset_Set_Between_P (f, t, h, d, a) = zset_Set_Between_M f t h d a := rfl
theorem P_at (i : Int) (h : Option Nat) (d : Mp) (a : AR) : zset_Set_At_P (i, h, d, a) = zset_Set_At_M i h d a := rfl
theorem P_len (h : Nat) (d : Mp) (a : AR) : zset_Set_Len_P (some h, d, a) = some (((d.length : Nat) : Int), some h, d, a) := rfl
theorem P_new (a : AR) : zset_New_P a = zset_New_M a := rfl
theorem P_same (x y : List Sc) : intaglioref14_Same_P (x, y) = intaglioref14_Same_M x y := rfl

theorem awake14 (a : AR) : ∃ b, intagliolaw14_awake_M a = some (true, b) := by
  unfold intagliolaw14_awake_M
  obtain ⟨b, h, e, _, _, F, _⟩ := New_is a
  rw [P_new, e, Option.bind_some]
  simp only
  obtain ⟨b1, n1, d1, e1, F1, _⟩ := Put_is F (by decide) (m := [97]) (by decide) 5
  rw [P_put, e1, Option.bind_some]
  simp only
  rw [if_pos (by decide)]
  obtain ⟨b2, n2, d2, e2, F2, _⟩ := Put_is F1 (by decide) (m := [98]) (by decide) 3
  rw [P_put, e2, Option.bind_some]
  simp only
  rw [if_pos (by decide)]
  obtain ⟨b3, n3, d3, e3, F3, _⟩ := Put_is F2 (by decide) (m := [97]) (by decide) 1
  rw [P_put, e3, Option.bind_some]
  simp only
  rw [P_rank, Rank_is F3 (by decide), Option.bind_some]
  simp only
  rw [if_pos (by decide), if_pos (by decide), if_pos (by decide), P_len, Option.bind_some]
  simp only
  rw [if_pos (by rw [F3.dk.len]; decide), P_range, Range_is F3.set (by rw [F3.lenL]; decide) F3.len ⟨by decide, by decide⟩ ⟨by decide, by decide⟩, Option.bind_some]
  simp only
  rw [F3.map]
  have hr : rng14 (put14 (put14 (put14 [] [97] 5) [98] 3) [97] 1) 0 9 = [([97], 1, ()), ([98], 3, ())] := by decide
  rw [hr, P_same, rSame14 (by decide), Option.bind_some]
  exact ⟨_, rfl⟩
theorem aw14 (a : AR) : ∃ b, intagliolaw14_awake_P a = some (true, b) := awake14 a

abbrev Act := Bool × List UInt8 × Int × Unit
theorem few14 {l : List Act} (hl : l.length ≤ 140737488355328) : ∃ q, intagliolaw14_few_P l = some q ∧ (q = true → l.length ≤ 120 ∧ ∀ x ∈ l, x.2.1.length ≤ 100) := by
  show ∃ q, intagliolaw14_few_M l = some q ∧ _
  unfold intagliolaw14_few_M
  by_cases h120 : l.length > 120
  · rw [if_pos (decide_eq_true (by omega))]; exact ⟨_, rfl, fun h => by cases h⟩
  · rw [if_neg (by simp; omega)]
    refine Exists.elim (loop_meas (body := intagliolaw14_few_L1_P) (s := (l, 0))
      (fun x => ∃ k : Nat, k ≤ l.length ∧ (∀ j (h : j < l.length), j < k → l[j].2.1.length ≤ 100) ∧ x = (l, (k : Int))) (fun x => l.length - x.2.toNat)
      (fun q => q = .inr false ∨ (q = .inl () ∧ ∀ x ∈ l, x.2.1.length ≤ 100)) ⟨0, Nat.zero_le _, fun j _ hj => absurd hj (Nat.not_lt_zero _), rfl⟩ (by simp only [Int.toNat_zero]; omega) ?_) ?_
    · rintro x ⟨k, hk, hb, rfl⟩
      simp only [intagliolaw14_few_L1_P, intagliolaw14_few_L1]
      by_cases hlt : k < l.length
      · rw [if_pos (decide_eq_true (by omega)), ix_nat hlt, Option.bind_some]
        by_cases hbig : l[k].2.1.length > 100
        · right
          rw [if_pos (decide_eq_true (by omega))]
          exact ⟨_, rfl, .inl rfl⟩
        · left
          rw [if_neg (by simp; omega), i64_succ (by omega)]
          refine ⟨_, rfl, ⟨k + 1, hlt, fun j h hj => ?_, rfl⟩, by simp only [Int.toNat_natCast]; omega⟩
          by_cases hjk : j = k
          · subst hjk; omega
          · exact hb j h (by omega)
      · right
        rw [if_neg (by simp; omega)]
        refine ⟨_, rfl, .inr ⟨rfl, fun x hx => ?_⟩⟩
        obtain ⟨j, hj, rfl⟩ := List.mem_iff_getElem.1 hx
        exact hb j hj (by omega)
    · rintro q ⟨hq, hQ⟩
      rw [hq, Option.bind_some]
      rcases hQ with rfl | ⟨rfl, h⟩
      · exact ⟨_, rfl, fun h => by cases h⟩
      · exact ⟨_, rfl, fun _ => ⟨by omega, h⟩⟩

theorem put_mem {L : List Sc} {m : List UInt8} {s : Int} {x : Sc} (h : x ∈ put14 L m s) : x.1 = m ∨ x ∈ L := by
  unfold put14 ins14 drop14 at h
  rcases List.mem_append.1 h with h | h
  · exact .inr (List.mem_filter.1 (List.mem_filter.1 h).1).1
  · rcases List.mem_cons.1 h with rfl | h
    · exact .inl rfl
    · exact .inr (List.mem_filter.1 (List.mem_filter.1 h).1).1
/-- A set behind some acts, and the document's list. -/
theorem made14 {l : List Act} (h1 : l.length ≤ 120) (h2 : ∀ x ∈ l, x.2.1.length ≤ 100) (a : AR) :
    ∃ b h ns d L, intagliolaw14_made_P (l, a) = some (true, b, some h, d, L) ∧ Full14 b h ns d L ∧ L.length ≤ 120 ∧ ∀ x ∈ L, x.1.length ≤ 100 := by
  show ∃ b h ns d L, intagliolaw14_made_M l a = _ ∧ _
  unfold intagliolaw14_made_M
  obtain ⟨b, h, e, _, _, F, _⟩ := New_is a
  rw [P_new, e, Option.bind_some]
  refine Exists.elim (loop_meas (body := intagliolaw14_made_L1_P) (s := (l, 0, some h, [], b, []))
    (fun x => ∃ (k : Nat) (b : AR) (ns : List Nat) (d : Mp) (L : List Sc), k ≤ l.length ∧ Full14 b h ns d L ∧ L.length ≤ k ∧ (∀ x ∈ L, x.1.length ≤ 100) ∧ x = (l, (k : Int), some h, d, b, L)) (fun x => l.length - x.2.1.toNat)
    (fun q => ∃ (b : AR) (ns : List Nat) (d : Mp) (L : List Sc), Full14 b h ns d L ∧ L.length ≤ 120 ∧ (∀ x ∈ L, x.1.length ≤ 100) ∧ q = .inl (some h, d, b, L)) ⟨0, b, [], [], [], Nat.zero_le _, F, Nat.le_refl _, by simp, rfl⟩ (by simp only [Int.toNat_zero]; omega) ?_) ?_
  · rintro x ⟨k, b, ns, d, L, hk, F, hL, hLm, rfl⟩
    simp only [intagliolaw14_made_L1_P, intagliolaw14_made_L1]
    by_cases hlt : k < l.length
    · left
      have hm := h2 _ (List.getElem_mem hlt)
      rw [if_pos (decide_eq_true (by omega)), ix_nat hlt, Option.bind_some]
      rw [show intaglioref14_Find_P (L, l[k].snd.fst) = intaglioref14_Find_M L l[k].2.1 from rfl, Find14 (by omega), Option.bind_some, i64_succ (by omega)]
      have hfd : decide ((if has14 L l[k].2.1 = true then ((pos14 L l[k].2.1 : Nat) : Int) else -1) ≥ 0) = has14 L l[k].2.1 := by
        cases has14 L l[k].2.1 with
        | true => rw [if_pos rfl]; exact decide_eq_true (by omega)
        | false => rw [if_neg (by decide)]; rfl
      by_cases hdr : l[k].1 = true
      · rw [if_pos hdr]
        obtain ⟨c, n2, d2, e2, F2, _⟩ := Drop_is F (by omega) l[k].2.1
        rw [show intaglioref14_Drop_P (L, l[k].snd.fst) = intaglioref14_Drop_M L l[k].2.1 from rfl, Drop14 (by omega), Option.bind_some, P_drop, e2, Option.bind_some]
        simp only
        rw [hfd, if_neg (by simp)]
        refine ⟨_, rfl, ⟨k + 1, c, n2, d2, _, hlt, F2, ?_, fun x hx => hLm x ((List.mem_filter.1 hx).1), rfl⟩, by simp only [Int.toNat_natCast]; omega⟩
        have := drop_len L l[k].2.1; omega
      · rw [if_neg hdr]
        obtain ⟨c, n2, d2, e2, F2, _⟩ := Put_is F (by omega) (m := l[k].2.1) (by omega) l[k].2.2.1
        rw [show intaglioref14_Put_P (L, l[k].snd.fst, l[k].snd.snd.fst) = intaglioref14_Put_M L l[k].2.1 l[k].2.2.1 from rfl, Put14 (by omega) F.srt, Option.bind_some, P_put, e2, Option.bind_some]
        simp only
        rw [hfd, if_neg (by cases has14 L l[k].2.1 <;> decide)]
        refine ⟨_, rfl, ⟨k + 1, c, n2, d2, _, hlt, F2, ?_, fun x hx => ?_, rfl⟩, by simp only [Int.toNat_natCast]; omega⟩
        rotate_left
        · rcases put_mem hx with h3 | h3
          · rw [h3]; exact hm
          · exact hLm x h3
        have := put_len F.srt l[k].2.1 l[k].2.2.1; omega
    · right
      rw [if_neg (by simp; omega)]
      exact ⟨_, rfl, b, ns, d, L, F, by omega, hLm, rfl⟩
  · rintro q ⟨hq, b, ns, d, L, F, hL, hLm, rfl⟩
    rw [hq, Option.bind_some, Sum.elim_inl]
    simp only
    rw [P_len, Option.bind_some]
    refine ⟨b, h, ns, d, L, ?_, F, hL, hLm⟩
    simp only
    rw [F.dk.len]; simp
end Go.Proofs.Ytfhngejmfnahhaa
