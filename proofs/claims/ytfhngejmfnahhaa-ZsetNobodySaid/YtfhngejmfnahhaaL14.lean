/- The laws of chapter 14: what their models answer, whatever comes in. -/
import Derived.Test.YtfhngejmfnahhaaZsG
import Derived.Test.YtfhngejmfnahhaaEd
namespace Go.Proofs.Ytfhngejmfnahhaa
open Go Go.Lift Go.Lib
set_option maxRecDepth 100000
set_option maxHeartbeats 4000000
set_option linter.unusedVariables false

theorem has_pos {m : List UInt8} : ∀ {L : List Sc}, has14 L m = true → pos14 L m < L.length ∧ (sc14 L m).getD 0 = (L.getD (pos14 L m) ([], 0, ())).2.1
  | [], h => by cases h
  | x :: L, h => by
    unfold pos14 sc14
    rw [List.findIdx_cons, List.find?_cons]
    by_cases e : (x.1 == m) = true
    · rw [e]; exact ⟨by simp, rfl⟩
    · replace e : (x.1 == m) = false := by simpa using e
      rw [e]
      have h' : has14 L m = true := by
        unfold has14 at h ⊢
        rw [List.any_cons, e, Bool.false_or] at h; exact h
      obtain ⟨i1, i2⟩ := has_pos h'
      exact ⟨by simp only [cond_false, List.length_cons]; unfold pos14 at i1; omega, i2⟩
theorem has_none {m : List UInt8} {L : List Sc} (h : has14 L m = false) : sc14 L m = none := by
  unfold sc14
  rw [List.find?_eq_none.2]
  · rfl
  · intro x hx; unfold has14 at h; simpa using List.any_eq_false.1 h x hx
theorem rng_all (L : List Sc) : rng14 L 0 ((L.length : Nat) : Int) = L := by unfold rng14; simp
theorem i64len {n : Nat} (h : n ≤ 100000) : I64z ((n : Nat) : Int) := ⟨by omega, by omega⟩

theorem intagliolaw14_ZsetPlays_pure (l : List Act) (m : List UInt8) (o0 : Ty.okS (.slc (.pair .bool (.pair .str (.pair (.int .i64) .unit)))) l) (o1 : Ty.okS .str m) : ∃ a, intagliolaw14_ZsetPlays_M l m [] = some (true, a) := by
  unfold intagliolaw14_ZsetPlays_M
  obtain ⟨q, hq, hQ⟩ := few14 o0.1
  rw [hq, Option.bind_some]
  cases q with
  | false => obtain ⟨b, hb⟩ := aw14 []; rw [if_pos (by rfl), hb]; exact ⟨b, rfl⟩
  | true =>
    rw [if_neg (by decide)]
    by_cases hm : m.length > 100
    · obtain ⟨b, hb⟩ := aw14 []; rw [if_pos (decide_eq_true (by omega)), hb]; exact ⟨b, rfl⟩
    rw [if_neg (by simp; omega)]
    obtain ⟨h1, h2⟩ := hQ rfl
    obtain ⟨b, h, ns, d, L, e, F, hL, _⟩ := made14 h1 h2 []
    have hns := F.lenL
    rw [e, Option.bind_some]
    simp only
    rw [if_neg (by decide), P_range, Range_is F.set (by omega) F.len ⟨by decide, by decide⟩ (i64len (by omega)), Option.bind_some]
    simp only
    rw [F.map, rng_all, P_same, rSame14 (by omega), Option.bind_some, if_neg (by decide), P_score, Score_is F, Option.bind_some]
    simp only
    rw [P_rank, Rank_is F (by omega), Option.bind_some]
    simp only
    rw [show intaglioref14_Find_P (L, m) = intaglioref14_Find_M L m from rfl, Find14 (by omega), Option.bind_some]
    cases hh : has14 L m with
    | false =>
      have z1 : (if (false = true) then ((pos14 L m : Nat) : Int) else -1) = -1 := rfl
      have z2 : (if (false = true) then ((pos14 L m : Nat) : Int) else 0) = 0 := rfl
      rw [z1, z2, has_none hh, if_pos (show decide ((-1 : Int) < 0) = true from rfl), if_pos (show ((none : Option Int).getD 0 == 0) = true from rfl), if_pos (show (!false) = true from rfl), if_pos (show ((0 : Int) == 0) = true from rfl), if_pos (show (!false) = true from rfl)]
      obtain ⟨b', hb⟩ := aw14 b; rw [hb]; exact ⟨b', rfl⟩
    | true =>
      obtain ⟨p1, p2⟩ := has_pos hh
      have z1 : (if (true = true) then ((pos14 L m : Nat) : Int) else -1) = ((pos14 L m : Nat) : Int) := rfl
      have z2 : (if (true = true) then ((pos14 L m : Nat) : Int) else 0) = ((pos14 L m : Nat) : Int) := rfl
      rw [z1, z2, if_neg (show ¬ decide (((pos14 L m : Nat) : Int) < 0) = true by simp), inb_ok p1, Option.bind_some, Int.toNat_natCast, p2]
      rw [if_pos (show ((L.getD (pos14 L m) ([], 0, ())).2.1 == (L.getD (pos14 L m) ([], 0, ())).2.1) = true by simp), if_pos (show true = true from rfl), if_pos (show (((pos14 L m : Nat) : Int) == ((pos14 L m : Nat) : Int)) = true by simp), if_pos (show true = true from rfl)]
      obtain ⟨b', hb⟩ := aw14 b; rw [hb]; exact ⟨b', rfl⟩

theorem intagliolaw14_ZsetBetween_pure (l : List Act) (lo hi : Int) (o0 : Ty.okS (.slc (.pair .bool (.pair .str (.pair (.int .i64) .unit)))) l) (o1 : Ty.okS (.int .i64) lo) (o2 : Ty.okS (.int .i64) hi) : ∃ a, intagliolaw14_ZsetBetween_M l lo hi [] = some (true, a) := by
  unfold intagliolaw14_ZsetBetween_M
  obtain ⟨q, hq, hQ⟩ := few14 o0.1
  rw [hq, Option.bind_some]
  cases q with
  | false => obtain ⟨b, hb⟩ := aw14 []; rw [if_pos (by rfl), hb]; exact ⟨b, rfl⟩
  | true =>
    rw [if_neg (by decide)]
    obtain ⟨h1, h2⟩ := hQ rfl
    obtain ⟨b, h, ns, d, L, e, F, hL, _⟩ := made14 h1 h2 []
    have hns := F.lenL
    rw [e, Option.bind_some]
    simp only
    rw [if_pos trivial, P_between, Between_is F.set (by omega), Option.bind_some]
    simp only
    have hbl : (btw14 L lo hi).length ≤ L.length := List.length_filter_le _ _
    rw [show intaglioref14_Between_P (L, lo, hi) = intaglioref14_Between_M L lo hi from rfl, Between14 (by omega), Option.bind_some, F.map, P_same, rSame14 (by omega), Option.bind_some, if_pos rfl]
    obtain ⟨b', hb⟩ := aw14 b; rw [hb]; exact ⟨b', rfl⟩

theorem okI {v : Int} (o : Ty.okS (.int .i64) v) : I64z v := by
  have o : (decide (IntKind.i64.min ≤ v) && decide (v ≤ IntKind.i64.max)) = true := o
  rw [Bool.and_eq_true] at o
  exact ⟨of_decide_eq_true o.1, of_decide_eq_true o.2⟩

theorem intagliolaw14_ZsetPlaces_pure (l : List Act) (f t : Int) (o0 : Ty.okS (.slc (.pair .bool (.pair .str (.pair (.int .i64) .unit)))) l) (o1 : Ty.okS (.int .i64) f) (o2 : Ty.okS (.int .i64) t) : ∃ a, intagliolaw14_ZsetPlaces_M l f t [] = some (true, a) := by
  unfold intagliolaw14_ZsetPlaces_M
  have hf := okI o1
  have ht := okI o2
  obtain ⟨q, hq, hQ⟩ := few14 o0.1
  rw [hq, Option.bind_some]
  cases q with
  | false => obtain ⟨b, hb⟩ := aw14 []; rw [if_pos (by rfl), hb]; exact ⟨b, rfl⟩
  | true =>
    rw [if_neg (by decide)]
    obtain ⟨h1, h2⟩ := hQ rfl
    obtain ⟨b, h, ns, d, L, e, F, hL, _⟩ := made14 h1 h2 []
    have hns := F.lenL
    have hrl : (rng14 L f t).length ≤ L.length := by unfold rng14; simp; omega
    have fin : ∃ a, (Option.bind (zset_Set_Range_P (f, t, some h, d, b)) fun v5 => Option.bind (intaglioref14_Range_P (L, f, t)) fun v6 => Option.bind (intaglioref14_Same_P (v5.2.2.2, v6)) fun v7 =>
        if v7 = true then Option.bind (intagliolaw14_awake_P v5.2.2.1) fun v8 => some (v8.1, v8.2) else some (false, v5.2.2.1)) = some (true, a) := by
      rw [P_range, Range_is F.set (by omega) F.len hf ht, Option.bind_some]
      simp only
      rw [show intaglioref14_Range_P (L, f, t) = intaglioref14_Range_M L f t from rfl, Range14 (by omega) hf ht, Option.bind_some, F.map, P_same, rSame14 (by omega), Option.bind_some, if_pos rfl]
      obtain ⟨b', hb⟩ := aw14 b
      rw [hb]; exact ⟨b', rfl⟩
    rw [e, Option.bind_some]
    simp only
    have hAt := At_is F.set (by omega) F.len f
    rw [F.map] at hAt
    by_cases h0 : f ≥ 0
    · rw [if_pos h0] at hAt
      have hfk : f = ((f.toNat : Nat) : Int) := by omega
      by_cases hk : f.toNat < L.length
      · rw [List.getElem?_eq_getElem hk] at hAt
        rw [P_at, hAt, Option.bind_some]
        simp only
        rw [if_neg (show ¬ (!true) = true by decide), if_pos (show decide (f ≥ 0) = true from decide_eq_true h0)]
        rw [if_neg (show ¬ ((!(true == decide (f < ((L.length : Nat) : Int)))) = true) by rw [decide_eq_true (show f < ((L.length : Nat) : Int) by omega)]; decide)]
        rw [if_pos trivial, inb_ok' h0 (by omega), Option.bind_some]
        have hg : List.getD L f.toNat ([], 0, ()) = L[f.toNat] := by rw [List.getD_eq_getElem?_getD, List.getElem?_eq_getElem hk]; rfl
        rw [hg, if_neg (by simp [eqLs.strEq, eqLs.intEq]), if_neg (show ¬ (!true) = true by decide)]
        exact fin
      · rw [List.getElem?_eq_none (by omega)] at hAt
        rw [P_at, hAt, Option.bind_some]
        simp only
        rw [if_neg (show ¬ (!true) = true by decide), if_pos (show decide (f ≥ 0) = true from decide_eq_true h0)]
        rw [if_neg (show ¬ ((!(false == decide (f < ((L.length : Nat) : Int)))) = true) by rw [decide_eq_false (show ¬ f < ((L.length : Nat) : Int) by omega)]; decide)]
        rw [if_neg (show ¬ (false = true) by decide), if_pos (show (!false) = true from rfl), if_neg (by simp [eqLs.strEq, eqLs.intEq])]
        exact fin
    · rw [if_neg h0] at hAt
      rw [P_at, hAt, Option.bind_some]
      simp only
      rw [if_neg (show ¬ (!true) = true by decide), if_neg (show ¬ decide (f ≥ 0) = true by simpa using h0)]
      rw [if_neg (show ¬ ((!(false == false)) = true) by decide), if_neg (show ¬ (false = true) by decide), if_pos (show (!false) = true from rfl), if_neg (by simp [eqLs.strEq, eqLs.intEq])]
      exact fin

theorem few_acts {l : List Act} {h : Nat} (h1 : l.length ≤ 120) (h2 : ∀ x ∈ l, x.2.1.length ≤ 100) {b0 : AR} (F : Full14 b0 h [] [] []) :
    ∃ (b : AR) (ns : List Nat) (d : Mp) (L : List Sc), loop intagliolaw14_ZsetInverse_L1_P (l, 0, some h, [], b0) = some (some h, d, b) ∧ Full14 b h ns d L ∧ L.length ≤ 120 := by
  refine Exists.elim (loop_meas (body := intagliolaw14_ZsetInverse_L1_P) (s := (l, 0, some h, [], b0))
    (fun x => ∃ (k : Nat) (b : AR) (ns : List Nat) (d : Mp) (L : List Sc), k ≤ l.length ∧ Full14 b h ns d L ∧ L.length ≤ k ∧ x = (l, (k : Int), some h, d, b)) (fun x => l.length - x.2.1.toNat)
    (fun q => ∃ (b : AR) (ns : List Nat) (d : Mp) (L : List Sc), Full14 b h ns d L ∧ L.length ≤ 120 ∧ q = (some h, d, b)) ⟨0, b0, [], [], [], Nat.zero_le _, F, Nat.le_refl _, rfl⟩ (by simp only [Int.toNat_zero]; omega) ?_) ?_
  · rintro x ⟨k, b, ns, d, L, hk, F, hL, rfl⟩
    simp only [intagliolaw14_ZsetInverse_L1_P, intagliolaw14_ZsetInverse_L1]
    by_cases hlt : k < l.length
    · left
      have hm := h2 _ (List.getElem_mem hlt)
      rw [if_pos (decide_eq_true (by omega)), ix_nat hlt, Option.bind_some, i64_succ (by omega)]
      by_cases hdr : l[k].1 = true
      · rw [if_pos hdr]
        obtain ⟨c, n2, d2, e2, F2, _⟩ := Drop_is F (by omega) l[k].2.1
        rw [Option.bind_some, P_drop, e2, Option.bind_some]
        refine ⟨_, rfl, ⟨k + 1, c, n2, d2, _, hlt, F2, ?_, rfl⟩, by simp only [Int.toNat_natCast]; omega⟩
        have := drop_len L l[k].2.1; omega
      · rw [if_neg hdr]
        obtain ⟨c, n2, d2, e2, F2, _⟩ := Put_is F (by omega) (m := l[k].2.1) (by omega) l[k].2.2.1
        rw [Option.bind_some, Option.bind_some, P_put, e2, Option.bind_some]
        refine ⟨_, rfl, ⟨k + 1, c, n2, d2, _, hlt, F2, ?_, rfl⟩, by simp only [Int.toNat_natCast]; omega⟩
        have := put_len F.srt l[k].2.1 l[k].2.2.1; omega
    · right
      rw [if_neg (by simp; omega)]
      exact ⟨_, rfl, b, ns, d, L, F, by omega, rfl⟩
  · rintro q ⟨hq, b, ns, d, L, F, hL, rfl⟩
    exact ⟨b, ns, d, L, hq, F, hL⟩

theorem pos_at {d : Mp} {L : List Sc} (D : DOk d L) (hs : L.Pairwise fun x y => less14 x y = true) {k : Nat} (hk : k < L.length) : pos14 L L[k].1 = k ∧ has14 L L[k].1 = true := by
  refine ⟨(List.findIdx_eq hk).2 ⟨by simp, fun j hj => ?_⟩, List.any_eq_true.2 ⟨_, List.getElem_mem hk, by simp⟩⟩
  cases e : L[j].1 == L[k].1 with
  | false => rfl
  | true =>
    exfalso
    have h1 := D.uniq (List.getElem_mem (by omega : j < L.length)) (List.getElem_mem hk) (by simpa using e)
    have h2 := List.pairwise_iff_getElem.1 hs j k (by omega) hk hj
    rw [h1, less_irr] at h2; cases h2

theorem intagliolaw14_ZsetInverse_pure (l : List Act) (o0 : Ty.okS (.slc (.pair .bool (.pair .str (.pair (.int .i64) .unit)))) l) : ∃ a, intagliolaw14_ZsetInverse_M l [] = some (true, a) := by
  unfold intagliolaw14_ZsetInverse_M
  obtain ⟨q, hq, hQ⟩ := few14 o0.1
  rw [hq, Option.bind_some]
  cases q with
  | false => obtain ⟨b, hb⟩ := aw14 []; rw [if_pos (by rfl), hb]; exact ⟨b, rfl⟩
  | true =>
    rw [if_neg (by decide)]
    obtain ⟨h1, h2⟩ := hQ rfl
    obtain ⟨b0, h, e, _, _, F0, _⟩ := New_is []
    rw [P_new, e, Option.bind_some]
    simp only
    obtain ⟨b, ns, d, L, hl, F, hL⟩ := few_acts h1 h2 F0
    have hns := F.lenL
    have hdl := F.dk.len
    rw [hl, Option.bind_some]
    simp only
    rw [loop_is (r := .inl (some h, d, b)) (s := (0, some h, d, b)) (fun x => ∃ k : Nat, k ≤ L.length ∧ x = ((k : Int), some h, d, b)) (fun x => L.length - x.1.toNat) ⟨0, Nat.zero_le _, rfl⟩ (by simp only [Int.toNat_zero]; omega) ?_]
    · rw [Option.bind_some, Sum.elim_inl]
      obtain ⟨b', hb⟩ := aw14 b
      simp only
      rw [hb]; exact ⟨b', rfl⟩
    · rintro x ⟨k, hk, rfl⟩
      simp only [intagliolaw14_ZsetInverse_L2_P, intagliolaw14_ZsetInverse_L2]
      rw [P_len, Option.bind_some]
      simp only
      by_cases hlt : k < L.length
      · left
        rw [if_pos (decide_eq_true (show (k : Int) < ((d.length : Nat) : Int) by omega))]
        have hA1 := At_is F.set (by omega) F.len (k : Int)
        rw [F.map, if_pos (by omega), Int.toNat_natCast, List.getElem?_eq_getElem hlt] at hA1
        obtain ⟨p1, p2⟩ := pos_at F.dk F.srt hlt
        rw [P_at, hA1, Option.bind_some]
        simp only
        rw [P_rank, Rank_is F (by omega), p1, p2, Option.bind_some]
        have z2 : (if (true = true) then ((k : Nat) : Int) else 0) = ((k : Nat) : Int) := rfl
        simp only
        rw [i64_succ (by omega)]
        have hA2 := At_is F.set (by omega) F.len ((k + 1 : Nat) : Int)
        rw [F.map, if_pos (by omega), Int.toNat_natCast] at hA2
        rw [P_at]
        by_cases hk2 : k + 1 < L.length
        · rw [List.getElem?_eq_getElem hk2] at hA2
          rw [hA2, Option.bind_some]
          simp only
          have hs2 := List.pairwise_iff_getElem.1 F.srt k (k + 1) hlt hk2 (by omega)
          rw [if_neg (show ¬ (!true) = true by decide), if_neg (show ¬ (!true) = true by decide), if_pos trivial, if_neg (by simp), if_pos trivial]
          rw [show zset_Less_P (L[k].fst, L[k].snd.fst, L[k + 1].fst, L[k + 1].snd.fst) = zset_Less_M L[k].1 L[k].2.1 L[k + 1].1 L[k + 1].2.1 from rfl, less_is, hs2, Option.bind_some, if_neg (show ¬ (!true) = true by decide), P_len, Option.bind_some]
          simp only
          rw [if_neg (by rw [decide_eq_true (show ((k + 1 : Nat) : Int) < ((d.length : Nat) : Int) by omega)]; decide)]
          exact ⟨_, rfl, ⟨k + 1, hlt, rfl⟩, by simp only [Int.toNat_natCast]; omega⟩
        · rw [List.getElem?_eq_none (by omega)] at hA2
          rw [hA2, Option.bind_some]
          simp only
          rw [if_neg (show ¬ (!true) = true by decide), if_neg (show ¬ (!true) = true by decide), if_pos trivial, if_neg (by simp), if_neg (show ¬ (false = true) by decide)]
          rw [P_len, Option.bind_some]
          simp only
          rw [if_neg (by rw [decide_eq_false (show ¬ ((k + 1 : Nat) : Int) < ((d.length : Nat) : Int) by omega)]; decide)]
          exact ⟨_, rfl, ⟨k + 1, hlt, rfl⟩, by simp only [Int.toNat_natCast]; omega⟩
      · right
        rw [if_neg (by simp; omega)]

/-! ### Clones -/
theorem put_last {L : List Sc} (hs : L.Pairwise fun x y => less14 x y = true) {d : Mp} (D : DOk d L) {k : Nat} (hk : k < L.length) : put14 (L.take k) L[k].1 L[k].2.1 = L.take (k + 1) := by
  have hlt : ∀ y ∈ L.take k, less14 y L[k] = true := by
    intro y hy
    obtain ⟨j, hj, rfl⟩ := List.mem_iff_getElem.1 hy
    have hjk : j < k := by simp at hj; omega
    rw [List.getElem_take]
    exact List.pairwise_iff_getElem.1 hs j k (by omega) hk hjk
  have hd : drop14 (L.take k) L[k].1 = L.take k := by
    unfold drop14
    refine List.filter_eq_self.2 fun y hy => ?_
    cases e : y.1 == L[k].1 with
    | false => simp [bne, e]
    | true =>
      exfalso
      have h1 := D.uniq (List.mem_of_mem_take hy) (List.getElem_mem hk) (by simpa using e)
      have := hlt y hy
      rw [h1, less_irr] at this; cases this
  unfold put14
  rw [hd, List.take_succ_eq_append_getElem hk]
  have := ins14_eq (s := (L[k].1, L[k].2.1, ())) (A := L.take k) (B := []) hlt (by simp)
  rw [List.append_nil] at this
  exact this

theorem Clone_L1_eq (x : Nat) (h : Option Nat) (d : Mp) (a : AR) : zset_Set_Clone_L1_P (some x, h, d, a) =
    Option.bind (zset_Set_Put_M (key a x).1 (key a x).2.1 h d a) fun v => Option.bind (inb (ht v.2.2.2 x) 0) fun _ => some (.inl ((lnk v.2.2.2 x 0).1, v.2.1, v.2.2.1, v.2.2.2)) := rfl

theorem Clone_is {a : AR} {h : Nat} {ns : List Nat} {d : Mp} {L : List Sc} (F : Full14 a h ns d L) (hlen : L.length ≤ 60000) (hm : ∀ x ∈ L, x.1.length ≤ 140737488355328) :
    ∃ b h' ns' d', zset_Set_Clone_M (some h) d a = some (.inr (some h, d, b, some h', d')) ∧ Full14 b h' ns' d' L ∧ (∀ p, p < a.length → Same14 a b p) ∧ (∀ p ∈ h' :: ns', a.length ≤ p) ∧ a.length ≤ b.length := by
  unfold zset_Set_Clone_M
  have hnsl := F.lenL
  rw [show zset_Set_made_P (some h, d, a) = some (true, some h, d, a) from rfl, Option.bind_some]
  simp only
  rw [if_neg (by decide)]
  obtain ⟨b0, h', e, eh, hb0, F0, fr0⟩ := New_is a
  rw [P_new, e, Option.bind_some, Option.bind_some]
  simp only
  have hh := F.set.lt h (by simp)
  have S0 : Set14 b0 h ns := (F.set.same fun p hp => fr0 p (F.set.lt p hp)).1
  rw [show inb (List.length (ndR b0 h)) 0 = inb (ht b0 h) 0 from rfl, inb_ok' (by omega) (by have := S0.hh; omega), Option.bind_some]
  rw [show (List.getD (ndR b0 h) 0 (none, 0, ())).1 = (lnk b0 h 0).1 from rfl, S0.next (P := []) (R := ns) rfl]
  refine Exists.elim (loop_meas (body := zset_Set_Clone_L1_P) (s := (ns.head?, some h', [], b0))
    (fun st => ∃ (k : Nat) (b : AR) (ns' : List Nat) (d' : Mp), k ≤ L.length ∧ Full14 b h' ns' d' (L.take k) ∧ (∀ p, p < a.length → Same14 a b p) ∧ (∀ p ∈ h' :: ns', a.length ≤ p) ∧ a.length ≤ b.length ∧ st = ((ns.drop k).head?, some h', d', b))
    (fun st => L.length - st.2.2.1.length) (fun q => ∃ (b : AR) (ns' : List Nat) (d' : Mp), Full14 b h' ns' d' L ∧ (∀ p, p < a.length → Same14 a b p) ∧ (∀ p ∈ h' :: ns', a.length ≤ p) ∧ a.length ≤ b.length ∧ q = (some h', d', b))
    ⟨0, b0, [], [], Nat.zero_le _, F0, fr0, (fun p hp => by rw [show p = h' by simpa using hp]; omega), by omega, rfl⟩ (by simp only [List.length_nil]; omega) ?_) ?_
  · rintro st ⟨k, b, ns', d', hk, F', fr, hge, hbl, rfl⟩
    by_cases hlt : k < L.length
    · left
      have hkn : k < ns.length := by omega
      have hd : ns.drop k = ns[k] :: ns.drop (k + 1) := List.drop_eq_getElem_cons hkn
      have hxa : ns[k] < a.length := F.set.lt _ (by simp)
      have hkey : key b ns[k] = L[k] := by
        rw [(fr _ hxa).1]
        have : (ns.map (key a))[k]? = L[k]? := by rw [F.map]
        rw [List.getElem?_map, List.getElem?_eq_getElem hkn, List.getElem?_eq_getElem hlt] at this
        injection this
      rw [hd]
      show ∃ s', zset_Set_Clone_L1_P (some ns[k], some h', d', b) = _ ∧ _
      rw [Clone_L1_eq, hkey]
      have htl : (L.take k).length = k := by simp; omega
      obtain ⟨c, n2, d2, e2, F2, l2, sub2, fr2⟩ := Put_is F' (by omega) (m := L[k].1) (hm _ (List.getElem_mem hlt)) L[k].2.1
      rw [e2, Option.bind_some]
      simp only
      rw [put_last F.srt F.dk hlt] at F2
      have hnot : ∀ p, p < a.length → p ∉ h' :: ns' := fun p hp h0 => by have := hge p h0; omega
      have fr3 : ∀ p, p < a.length → Same14 a c p := fun p hp => (fr p hp).trans (fr2 p (by omega) (hnot p hp))
      have S3 : Set14 c h ns := (F.set.same fun p hp => fr3 p (F.set.lt p hp)).1
      rw [inb_ok' (by omega) (by have := S3.pos (p := ns[k]) (by simp); omega), Option.bind_some]
      refine ⟨_, rfl, ⟨k + 1, c, n2, d2, hlt, F2, fr3, ?_, by omega, ?_⟩, ?_⟩
      · intro p hp
        rcases List.mem_cons.1 hp with rfl | hp
        · exact hge p (by simp)
        · rcases sub2 p hp with h3 | h3
          · exact hge p (by simp [h3])
          · omega
      · rw [S3.next (P := h :: ns.take k) (x := ns[k]) (R := ns.drop (k + 1)) (by
          show h :: ns = h :: (ns.take k ++ ns[k] :: ns.drop (k + 1))
          rw [← hd, List.take_append_drop])]
      · have h3 := F2.dk.len
        have h4 := F'.dk.len
        have h5 : (L.take (k + 1)).length = k + 1 := by simp; omega
        simp only; omega
    · right
      have hkl : k = L.length := by omega
      rw [List.drop_of_length_le (by omega)]
      rw [List.take_of_length_le (by omega)] at F'
      exact ⟨_, rfl, b, ns', d', F', fr, hge, hbl, rfl⟩
  · rintro q ⟨hq, b, ns', d', F', fr, hge, hbl, rfl⟩
    rw [hq, Option.bind_some]
    exact ⟨b, h', ns', d', rfl, F', fr, hge, hbl⟩

theorem Clones_loop {l : List Act} (h1 : l.length ≤ 120) (h2 : ∀ x ∈ l, x.2.1.length ≤ 100) {b0 : AR} {h h' n0 n1 : Nat} {ns ns' : List Nat} {d d' : Mp} {L : List Sc} (hL : L.length ≤ 120) (F : Full14 b0 h ns d L) (F' : Full14 b0 h' ns' d' L)
    (hz : ∀ p ∈ h :: ns, p < n0 ∨ n1 ≤ p) (hc : ∀ p ∈ h' :: ns', n0 ≤ p ∧ p < n1) (hb : n1 ≤ b0.length) (q : Bool) (r : List Sc) :
    ∃ (b : AR) (d2 : Mp), loop intagliolaw14_ZsetClones_L1_P (l, q, 0, some h, some h', d, d', b0, r) = some (q, some h, some h', d2, d', b, r) ∧ Full14 b h' ns' d' L := by
  refine Exists.elim (loop_meas (body := intagliolaw14_ZsetClones_L1_P) (s := (l, q, 0, some h, some h', d, d', b0, r))
    (fun x => ∃ (k : Nat) (b : AR) (n2 : List Nat) (d2 : Mp) (L2 : List Sc), k ≤ l.length ∧ Full14 b h n2 d2 L2 ∧ L2.length ≤ 120 + k ∧ Full14 b h' ns' d' L ∧ (∀ p ∈ h :: n2, p < n0 ∨ n1 ≤ p) ∧ n1 ≤ b.length ∧ x = (l, q, (k : Int), some h, some h', d2, d', b, r)) (fun x => l.length - x.2.2.1.toNat)
    (fun z => ∃ (b : AR) (d2 : Mp), Full14 b h' ns' d' L ∧ z = (q, some h, some h', d2, d', b, r)) ⟨0, b0, ns, d, L, Nat.zero_le _, F, hL, F', hz, hb, rfl⟩ (by simp only [Int.toNat_zero]; omega) ?_) ?_
  · rintro x ⟨k, b, n2, d2, L2, hk, G, hL2, G', hz, hb, rfl⟩
    simp only [intagliolaw14_ZsetClones_L1_P, intagliolaw14_ZsetClones_L1]
    have step : ∀ {c : AR} {n3 : List Nat} {d3 : Mp} {L3 : List Sc}, Full14 c h n3 d3 L3 → b.length ≤ c.length → (∀ p ∈ n3, p ∈ n2 ∨ b.length ≤ p) → (∀ p, p < b.length → p ∉ h :: n2 → Same14 b c p) →
        Full14 c h' ns' d' L ∧ (∀ p ∈ h :: n3, p < n0 ∨ n1 ≤ p) ∧ n1 ≤ c.length := by
      intro c n3 d3 L3 G3 hl sub fr
      have hs : ∀ p ∈ h' :: ns', Same14 b c p := fun p hp => fr p (G'.set.lt p hp) fun h0 => by
        have := hz p h0; have := hc p hp; omega
      obtain ⟨S, hk⟩ := G'.set.same hs
      refine ⟨⟨S, hk.trans G'.map, G'.dk⟩, fun p hp => ?_, by omega⟩
      rcases List.mem_cons.1 hp with rfl | hp
      · exact hz p (by simp)
      · rcases sub p hp with h3 | h3
        · exact hz p (by simp [h3])
        · exact .inr (by omega)
    by_cases hlt : k < l.length
    · left
      have hm := h2 _ (List.getElem_mem hlt)
      rw [if_pos (decide_eq_true (by omega)), ix_nat hlt, Option.bind_some, i64_succ (by omega)]
      by_cases hdr : l[k].1 = true
      · rw [if_pos hdr]
        obtain ⟨c, n3, d3, e3, G3, hl3, sub3, fr3⟩ := Drop_is G (by omega) l[k].2.1
        obtain ⟨g1, g2, g3⟩ := step G3 hl3 sub3 fr3
        rw [Option.bind_some, P_drop, e3, Option.bind_some]
        refine ⟨_, rfl, ⟨k + 1, c, n3, d3, _, hlt, G3, ?_, g1, g2, g3, rfl⟩, by simp only [Int.toNat_natCast]; omega⟩
        have := drop_len L2 l[k].2.1; omega
      · rw [if_neg hdr]
        obtain ⟨c, n3, d3, e3, G3, hl3, sub3, fr3⟩ := Put_is G (by omega) (m := l[k].2.1) (by omega) l[k].2.2.1
        obtain ⟨g1, g2, g3⟩ := step G3 hl3 sub3 fr3
        rw [Option.bind_some, Option.bind_some, P_put, e3, Option.bind_some]
        refine ⟨_, rfl, ⟨k + 1, c, n3, d3, _, hlt, G3, ?_, g1, g2, g3, rfl⟩, by simp only [Int.toNat_natCast]; omega⟩
        have := put_len G.srt l[k].2.1 l[k].2.2.1; omega
    · right
      rw [if_neg (by simp; omega)]
      exact ⟨_, rfl, b, d2, G', rfl⟩
  · rintro z ⟨hq, b, d2, G', rfl⟩
    exact ⟨b, d2, hq, G'⟩

theorem intagliolaw14_ZsetClones_pure (l m : List Act) (o0 : Ty.okS (.slc (.pair .bool (.pair .str (.pair (.int .i64) .unit)))) l) (o1 : Ty.okS (.slc (.pair .bool (.pair .str (.pair (.int .i64) .unit)))) m) : ∃ a, intagliolaw14_ZsetClones_M l m [] = some (true, a) := by
  unfold intagliolaw14_ZsetClones_M
  obtain ⟨q, hq, hQ⟩ := few14 o0.1
  rw [hq, Option.bind_some]
  cases q with
  | false => obtain ⟨b, hb⟩ := aw14 []; rw [if_pos (by rfl), hb]; exact ⟨b, rfl⟩
  | true =>
    rw [if_neg (by decide)]
    obtain ⟨q2, hq2, hQ2⟩ := few14 o1.1
    rw [hq2, Option.bind_some]
    cases q2 with
    | false => obtain ⟨b, hb⟩ := aw14 []; rw [if_pos (by rfl), hb]; exact ⟨b, rfl⟩
    | true =>
      rw [if_neg (by decide)]
      obtain ⟨h1, h2⟩ := hQ rfl
      obtain ⟨g1, g2⟩ := hQ2 rfl
      obtain ⟨b, h, ns, d, L, e, F, hL, hLm⟩ := made14 h1 h2 []
      rw [e, Option.bind_some]
      simp only
      obtain ⟨b1, h', ns', d', e1, F', fr, hge, hbl⟩ := Clone_is F (by omega) (fun x hx => by have := hLm x hx; omega)
      rw [show zset_Set_Clone_P (some h, d, b) = zset_Set_Clone_M (some h) d b from rfl, e1, Option.bind_some, Sum.elim_inr]
      simp only
      have G : Full14 b1 h ns d L := by
        obtain ⟨S, hk⟩ := F.set.same (b := b1) fun p hp => fr p (F.set.lt p hp)
        exact ⟨S, hk.trans F.map, F.dk⟩
      obtain ⟨b2, d2, e2, F2⟩ := Clones_loop g1 g2 hL G F' (n0 := b.length) (n1 := b1.length) (fun p hp => .inl (F.set.lt p hp)) (fun p hp => ⟨hge p hp, F'.set.lt p hp⟩) (Nat.le_refl _) true L
      have hns := F2.lenL
      rw [e2, Option.bind_some]
      simp only
      rw [if_pos trivial, P_len, Option.bind_some]
      simp only
      rw [if_pos (by rw [F2.dk.len]; simp), P_range, Range_is F2.set (by omega) F2.len ⟨by decide, by decide⟩ (i64len (by omega)), Option.bind_some]
      simp only
      rw [F2.map, rng_all, P_same, rSame14 (by omega), Option.bind_some, if_pos rfl]
      obtain ⟨b', hb⟩ := aw14 b2; rw [hb]; exact ⟨b', rfl⟩

theorem place_n (i : Int) (a : AR) : zset_Set_place_n_P (i, a) = some a := by
  show zset_Set_place_n_M i a = _
  unfold zset_Set_place_n_M
  by_cases h : i < 0
  · rw [if_pos (decide_eq_true h)]
  · rw [if_neg (by simpa using h), show zset_Set_Len_n_P a = some (0, a) from rfl, Option.bind_some]
    simp only
    rw [if_pos (decide_eq_true (by omega))]
theorem place_e (i : Int) (a : AR) : zset_Set_place_e_P (i, none, a) = some (none, none, a) := by
  show zset_Set_place_e_M i none a = _
  unfold zset_Set_place_e_M
  by_cases h : i < 0
  · rw [if_pos (decide_eq_true h)]
  · rw [if_neg (by simpa using h), show zset_Set_Len_e_P (none, a) = some (0, none, a) from rfl, Option.bind_some]
    simp only
    rw [if_pos (decide_eq_true (by omega))]
theorem At_n (i : Int) (a : AR) : zset_Set_At_n_P (i, a) = some ([], 0, false, a) := by
  show zset_Set_At_n_M i a = _
  unfold zset_Set_At_n_M
  rw [place_n]; rfl
theorem At_e (i : Int) (a : AR) : zset_Set_At_e_P (i, none, a) = some ([], 0, false, none, a) := by
  show zset_Set_At_e_M i none a = _
  unfold zset_Set_At_e_M
  rw [place_e]; rfl
theorem Range_n (f t : Int) (a : AR) : zset_Set_Range_n_P (f, t, a) = some a := by
  show zset_Set_Range_n_M f t a = _
  unfold zset_Set_Range_n_M
  rw [show zset_Set_Len_n_P a = some (0, a) from rfl, Option.bind_some, place_n, Option.bind_some, loop_few 1 (by omega) (r := a) rfl]; rfl
theorem Range_e (f t : Int) (a : AR) : zset_Set_Range_e_P (f, t, none, a) = some (none, a, []) := by
  show zset_Set_Range_e_M f t none a = _
  unfold zset_Set_Range_e_M
  rw [show zset_Set_Len_e_P (none, a) = some (0, none, a) from rfl, Option.bind_some, place_e, Option.bind_some]
  simp only
  rw [loop_few 1 (by omega) (r := (a, [])) rfl]; rfl

theorem intagliolaw14_ZsetNobody_pure (x0 : Bool) (x1 : List UInt8) (x2 : Int) (y0 : List UInt8) (y1 : Int) (n : Int) {P0 P1 P2 : Prop} (o0 : P0) (o1 : P1) (o2 : P2) : ∃ a, intagliolaw14_ZsetNobody_M x0 x1 x2 y0 y1 n [] = some (true, a) := by
  unfold intagliolaw14_ZsetNobody_M
  rw [show inb 2 0 = some () from rfl, Option.bind_some, show zset_Set_Score_n_P (x1, []) = some (0, false, []) from rfl, Option.bind_some]
  simp only
  rw [show zset_Set_Rank_n_P (x1, []) = some (0, false, []) from rfl, Option.bind_some]
  simp only
  rw [At_n, Option.bind_some]
  simp only
  rw [show zset_Set_Put_n_P (x1, x2, []) = some (false, []) from rfl, Option.bind_some]
  simp only
  rw [if_neg (show ¬ (false = true) by decide), show zset_Set_Drop_n_P (x1, []) = some (false, []) from rfl, Option.bind_some]
  simp only
  rw [if_neg (show ¬ (false = true) by decide), if_neg (show ¬ (false = true) by decide), if_neg (show ¬ (false = true) by decide), if_neg (show ¬ (false = true) by decide)]
  rw [show zset_Set_Len_n_P [] = some (0, []) from rfl, Option.bind_some]
  simp only
  rw [Range_n, Option.bind_some, show zset_Set_Between_n_P (n, x2, []) = some [] from rfl, Option.bind_some, if_neg (by decide), show zset_Set_Clone_n_P [] = some [] from rfl, Option.bind_some]
  rw [show inb 2 1 = some () from rfl, Option.bind_some, show zset_Set_Score_e_P (x1, none, []) = some (0, false, none, []) from rfl, Option.bind_some]
  simp only
  rw [show zset_Set_Rank_e_P (x1, none, []) = some (0, false, none, []) from rfl, Option.bind_some]
  simp only
  rw [At_e, Option.bind_some]
  simp only
  rw [show zset_Set_Put_e_P (x1, x2, none, []) = some (false, none, []) from rfl, Option.bind_some]
  simp only
  rw [if_neg (show ¬ (false = true) by decide), show zset_Set_Drop_e_P (x1, none, []) = some (false, none, []) from rfl, Option.bind_some]
  simp only
  rw [if_neg (show ¬ (false = true) by decide), if_neg (show ¬ (false = true) by decide), if_neg (show ¬ (false = true) by decide), if_neg (show ¬ (false = true) by decide)]
  rw [show zset_Set_Len_e_P (none, []) = some (0, none, []) from rfl, Option.bind_some]
  simp only
  rw [Range_e, Option.bind_some]
  simp only
  rw [show zset_Set_Between_e_P (n, x2, none, []) = some (none, []) from rfl, Option.bind_some, if_neg (by decide)]
  rw [show zset_Set_Clone_e_P (none, []) = some (.inl (none, [])) from rfl, Option.bind_some, Sum.elim_inl]
  rw [show zset_Less_P (x1, x2, y0, y1) = zset_Less_M (x1, x2, ()).1 (x1, x2, ()).2.1 (y0, y1, ()).1 (y0, y1, ()).2.1 from rfl, less_is, Option.bind_some]
  rw [show intaglioref14_Less_P (x1, x2, y0, y1) = intaglioref14_Less_M (x1, x2, ()).1 (x1, x2, ()).2.1 (y0, y1, ()).1 (y0, y1, ()).2.1 from rfl, rLess14, Option.bind_some, if_pos (by simp)]
  rw [show zset_Less_P (y0, y1, y0, y1) = zset_Less_M (y0, y1, ()).1 (y0, y1, ()).2.1 (y0, y1, ()).1 (y0, y1, ()).2.1 from rfl, less_is, less_irr, Option.bind_some, if_pos (by decide)]
  obtain ⟨b, hb⟩ := aw14 []
  simp only
  rw [hb]; exact ⟨b, rfl⟩
end Go.Proofs.Ytfhngejmfnahhaa
