/- A skip list: a node is put in. -/
import Derived.Test.YtfhngejmfnahhaaZsB
namespace Go.Proofs.Ytfhngejmfnahhaa
open Go Go.Lift Go.Lib
set_option maxRecDepth 100000
set_option maxHeartbeats 4000000
set_option linter.unusedVariables false

theorem insert_L1_eq (q i : Nat) (w : Arr 12 (Option Nat)) (r : Arr 12 Int) (a : AR) :
    zset_Set_insert_L1_P (some q, (i : Int), w, r, a) = if decide ((i : Int) < 12) = true then
      Option.bind (inb 12 (i : Int)) fun _ => Option.bind (w.1.getD i none) fun v => Option.bind (inb (ht a v) (i : Int)) fun _ =>
      if decide ((i : Int) ≥ ((ht a q : Nat) : Int)) = true then
        some (.inl (some q, IntKind.wrap IntKind.i64 ((i : Int) + 1), w, r, setL a v i ((lnk a v i).1, IntKind.wrap IntKind.i64 ((lnk a v i).2.1 + 1), ())))
      else
        Option.bind (inb 12 0) fun _ => Option.bind (inb 12 (i : Int)) fun _ => Option.bind (inb (ht a q) (i : Int)) fun _ =>
        some (.inl (some q, IntKind.wrap IntKind.i64 ((i : Int) + 1), w, r, setL (setL a q i ((lnk a v i).1, IntKind.wrap IntKind.i64 ((lnk a v i).2.1 - IntKind.wrap IntKind.i64 (r.1.getD 0 0 - r.1.getD i 0)), ())) v i (some q, IntKind.wrap IntKind.i64 (IntKind.wrap IntKind.i64 (r.1.getD 0 0 - r.1.getD i 0) + 1), ())))
    else some (.inr (w, r, a)) := rfl

/-- The links behind it. -/
def newI (a : AR) (q : Nat) (w : Arr 12 (Option Nat)) (r : Arr 12 Int) (p k : Nat) : Lnk :=
  if w.1.getD k none = some p then
    (if k < ht a q then (some q, r.1.getD 0 0 - r.1.getD k 0 + 1, ()) else ((lnk a p k).1, (lnk a p k).2.1 + 1, ()))
  else if p = q ∧ k < ht a q then
    ((lnk a ((w.1.getD k none).getD 0) k).1, (lnk a ((w.1.getD k none).getD 0) k).2.1 - (r.1.getD 0 0 - r.1.getD k 0), ())
  else lnk a p k

theorem insert_loop {a : AR} {q : Nat} {w : Arr 12 (Option Nat)} {r : Arr 12 Int}
    (hx : ∀ k, k < 12 → ∃ x, w.1.getD k none = some x ∧ k < ht a x ∧ x ≠ q ∧ 0 ≤ (lnk a x k).2.1 ∧ (lnk a x k).2.1 ≤ 100000)
    (hr : ∀ k, k < 12 → 0 ≤ r.1.getD k 0 ∧ r.1.getD k 0 ≤ 100000) :
    ∃ b, loop zset_Set_insert_L1_P (some q, 0, w, r, a) = some (w, r, b) ∧ b.length = a.length ∧ (∀ p, key b p = key a p) ∧ (∀ p, ht b p = ht a p) ∧ ∀ p k, lnk b p k = if k < 12 then newI a q w r p k else lnk a p k := by
  refine Exists.elim (loop_meas (body := zset_Set_insert_L1_P) (s := (some q, 0, w, r, a))
    (fun st => ∃ (i : Nat) (b : AR), i ≤ 12 ∧ b.length = a.length ∧ (∀ p, key b p = key a p) ∧ (∀ p, ht b p = ht a p) ∧ (∀ p k, lnk b p k = if k < i then newI a q w r p k else lnk a p k) ∧ st = (some q, (i : Int), w, r, b))
    (fun st => 12 - st.2.1.toNat) (fun z => ∃ b : AR, b.length = a.length ∧ (∀ p, key b p = key a p) ∧ (∀ p, ht b p = ht a p) ∧ (∀ p k, lnk b p k = if k < 12 then newI a q w r p k else lnk a p k) ∧ z = (w, r, b))
    ⟨0, a, Nat.zero_le _, rfl, fun _ => rfl, fun _ => rfl, fun p k => by rw [if_neg (Nat.not_lt_zero _)], rfl⟩ (by simp only; omega) ?_) ?_
  · rintro st ⟨i, b, hi, h1, h2, h3, h4, rfl⟩
    rw [insert_L1_eq]
    by_cases hlt : i < 12
    · left
      obtain ⟨x, hw, hxh, hxq, l0, l1⟩ := hx i hlt
      obtain ⟨r0, r1⟩ := hr 0 (by omega)
      obtain ⟨r2, r3⟩ := hr i hlt
      have hlx : lnk b x i = lnk a x i := by rw [h4, if_neg (Nat.lt_irrefl _)]
      have hlq : lnk b q i = lnk a q i := by rw [h4, if_neg (Nat.lt_irrefl _)]
      rw [if_pos (decide_eq_true (by omega)), inb_ok hlt, Option.bind_some, hw, Option.bind_some, inb_ok (by rw [h3]; exact hxh), Option.bind_some]
      rw [i64_succ (by omega)]
      by_cases hq : ht a q ≤ i
      · rw [if_pos (decide_eq_true (by rw [h3]; omega)), hlx, i64_id (by omega) (by omega)]
        refine ⟨_, rfl, ⟨i + 1, _, hlt, by rw [setL_len, h1], fun p => by rw [setL_key, h2], fun p => by rw [setL_ht, h3], fun p k => ?_, rfl⟩, by simp only [Int.toNat_natCast]; omega⟩
        rw [setL_lnk, h3]
        by_cases hk : k = i
        · subst hk
          rw [if_pos (Nat.lt_succ_self k)]
          by_cases hp : p = x
          · subst hp
            rw [if_pos ⟨rfl, rfl, hxh⟩]
            unfold newI
            rw [if_pos hw, if_neg (by omega)]
          · rw [if_neg (fun h => hp h.1), h4, if_neg (Nat.lt_irrefl _)]
            unfold newI
            rw [if_neg (by rw [hw]; intro h; injection h with h; exact hp h.symm), if_neg (fun h => by omega)]
        · rw [if_neg (fun h => hk h.2.1), h4]
          by_cases hk2 : k < i
          · rw [if_pos hk2, if_pos (by omega)]
          · rw [if_neg hk2, if_neg (by omega)]
      · rw [if_neg (by rw [h3]; simp; omega), inb_ok' (by omega) (by omega), Option.bind_some, Option.bind_some, inb_ok (by rw [h3]; omega), Option.bind_some, hlx]
        rw [i64_id (n := r.1.getD 0 0 - r.1.getD i 0) (by omega) (by omega), i64_id (n := _ - (r.1.getD 0 0 - r.1.getD i 0)) (by omega) (by omega), i64_id (n := r.1.getD 0 0 - r.1.getD i 0 + 1) (by omega) (by omega)]
        refine ⟨_, rfl, ⟨i + 1, _, hlt, by rw [setL_len, setL_len, h1], fun p => by rw [setL_key, setL_key, h2], fun p => by rw [setL_ht, setL_ht, h3], fun p k => ?_, rfl⟩, by simp only [Int.toNat_natCast]; omega⟩
        rw [setL_lnk, setL_lnk, setL_ht, h3, h3]
        by_cases hk : k = i
        · subst hk
          rw [if_pos (Nat.lt_succ_self k)]
          by_cases hp : p = x
          · subst hp
            rw [if_pos ⟨rfl, rfl, hxh⟩]
            unfold newI
            rw [if_pos hw, if_pos (by omega)]
          · rw [if_neg (fun h => hp h.1)]
            unfold newI
            have hnp : ¬ (w.1.getD k none = some p) := by rw [hw]; intro h; injection h with h; exact hp h.symm
            by_cases hpq : p = q
            · subst hpq
              rw [if_pos (show p = p ∧ k = k ∧ k < ht a p from ⟨rfl, rfl, by omega⟩), if_neg hnp, if_pos (show p = p ∧ k < ht a p from ⟨rfl, by omega⟩), hw]; rfl
            · rw [if_neg (show ¬ (p = q ∧ k = k ∧ k < ht a q) from fun h => hpq h.1), if_neg hnp, if_neg (show ¬ (p = q ∧ k < ht a q) from fun h => hpq h.1), h4, if_neg (Nat.lt_irrefl _)]
        · rw [if_neg (fun h => hk h.2.1), if_neg (fun h => hk h.2.1), h4]
          by_cases hk2 : k < i
          · rw [if_pos hk2, if_pos (by omega)]
          · rw [if_neg hk2, if_neg (by omega)]
    · right
      have : i = 12 := by omega
      subst this
      rw [if_neg (by decide)]
      exact ⟨_, rfl, b, h1, h2, h3, h4, rfl⟩
  · rintro z ⟨hz, b, h1, h2, h3, h4, rfl⟩
    exact ⟨b, hz, h1, h2, h3, h4⟩

theorem mk2_ok {n : Nat} (h : n ≤ 12) : mk2 16 (n : Int) (n : Int) = some n := by
  have : n = 0 ∨ n = 1 ∨ n = 2 ∨ n = 3 ∨ n = 4 ∨ n = 5 ∨ n = 6 ∨ n = 7 ∨ n = 8 ∨ n = 9 ∨ n = 10 ∨ n = 11 ∨ n = 12 := by omega
  rcases this with rfl | rfl | rfl | rfl | rfl | rfl | rfl | rfl | rfl | rfl | rfl | rfl | rfl <;> rfl

theorem insert_is {a : AR} {h : Nat} {A B : List Nat} {m : List UInt8} {s : Int} (hok : Ok14 a (h :: A ++ B)) (hh : ht a h = 12) (hlt : ∀ p ∈ h :: A ++ B, p < a.length) (hnd : (h :: A ++ B).Nodup)
    (hA : ∀ p ∈ A, less14 (key a p) (m, s, ()) = true) (hB : ∀ p ∈ B, less14 (key a p) (m, s, ()) = false) (hlen : A.length + B.length ≤ 90000) (hm : m.length ≤ 140737488355328) (h1s : ∀ p ∈ A ++ B, 1 ≤ ht a p ∧ ht a p ≤ 12) (d : List (List UInt8 × Int)) :
    ∃ b n, zset_Set_insert_M m s (some h) d a = some (some h, d, b) ∧ 1 ≤ n ∧ n ≤ 12 ∧ b.length = a.length + 1 ∧ Ok14 b (h :: A ++ a.length :: B) ∧ key b a.length = (m, s, ()) ∧ ht b a.length = n ∧
      (∀ p, p < a.length → key b p = key a p ∧ ht b p = ht a p) ∧ ∀ p, p < a.length → p ∉ h :: A → ∀ k, lnk b p k = lnk a p k := by
  unfold zset_Set_insert_M
  obtain ⟨w, r, hah, hway⟩ := ahead_is hok hh hA hB (by omega) d
  rw [show zset_Set_ahead_P (m, s, some h, d, a) = zset_Set_ahead_M m s (some h) d a from rfl, hah, Option.bind_some]
  obtain ⟨n, hn, n1, n12⟩ := height_is hm
  rw [show zset_height_P m = zset_height_M m from rfl, hn, Option.bind_some, mk2_ok n12, Option.bind_some]
  simp only
  let a1 : AR := a ++ [((m, s, ()), List.replicate n ((none : Option Nat), (0 : Int), ()))]
  have k1 : ∀ p, p < a.length → key a1 p = key a p := fun p hp => mk14_key hp
  have t1 : ∀ p, p < a.length → ht a1 p = ht a p := fun p hp => by unfold ht; rw [show ndR a1 p = ndR a p from mk14_row hp]
  have l1 : ∀ p, p < a.length → ∀ k, lnk a1 p k = lnk a p k := fun p hp k => by unfold lnk; rw [show ndR a1 p = ndR a p from mk14_row hp]
  have tq : ht a1 a.length = n := by unfold ht; rw [show ndR a1 a.length = _ from mk14_row' a _]; simp
  have hway' : ∀ k, k < 12 → ∃ P1 x A2, Last14 a (h :: A) k P1 x A2 ∧ w.1.getD k none = some x ∧ r.1.getD k 0 = (P1.length : Int) ∧ x < a.length ∧ lnk a x k = ((lk14 a k (A2 ++ B)).1, (((lk14 a k (A2 ++ B)).2 : Nat) : Int), ()) ∧ P1.length + A2.length = A.length := by
    intro k hk
    obtain ⟨P1, x, A2, hl, h2, h3⟩ := hway k hk
    refine ⟨P1, x, A2, hl, h2, h3, ht_lt hl.2.1, ?_, tail_len hl.1⟩
    have := hok; rw [hl.1] at this
    exact Ok14.at (A := P1) (by simpa using this) hl.2.1
  have hr0 : r.1.getD 0 0 = (A.length : Int) := by
    obtain ⟨P1, x, A2, hl, h2, h3, h4, h5, h6⟩ := hway' 0 (by omega)
    have : A2 = [] := by
      cases A2 with
      | nil => rfl
      | cons y A2 =>
        have h7 := hl.2.2 y (by simp)
        have h8 := (h1s y (List.mem_append_left _ (tail_mem hl.1 (by simp)))).1
        omega
    subst this
    rw [h3]; simp at h6; omega
  obtain ⟨b, hb, b1, b2, b3, b4⟩ := insert_loop (a := a1) (q := a.length) (w := w) (r := r) (fun k hk => by
      obtain ⟨P1, x, A2, hl, h2, h3, h4, h5, h6⟩ := hway' k hk
      refine ⟨x, h2, by rw [t1 x h4]; exact hl.2.1, by omega, ?_, ?_⟩
      · rw [l1 x h4, h5]; simp
      · rw [l1 x h4, h5]
        have := lk14_le a k (A2 ++ B)
        simp at this ⊢; omega)
    (fun k hk => by
      obtain ⟨P1, x, A2, hl, h2, h3, h4, h5, h6⟩ := hway' k hk
      rw [h3]; omega)
  rw [show (some a.length, (0 : Int), w, r, a ++ [((m, s, ()), List.replicate n ((none : Option Nat), (0 : Int), ()))]) = (some a.length, 0, w, r, a1) from rfl, hb, Option.bind_some]
  have hB' : ∀ p ∈ B, p < a.length ∧ p ∉ h :: A := fun p hp => ⟨hlt p (List.mem_append_right _ hp), fun hp2 => (List.nodup_append.1 hnd).2.2 p hp2 p hp rfl⟩
  have fr : ∀ p, p < a.length → p ∉ h :: A → ∀ k, lnk b p k = lnk a p k := by
    intro p hp hpA k
    rw [b4]
    by_cases hk : k < 12
    · rw [if_pos hk]
      obtain ⟨P1, x, A2, hl, h2, h3, h4, h5, h6⟩ := hway' k hk
      unfold newI
      rw [if_neg (by rw [h2]; intro e; injection e with e; subst e; exact hpA (by rw [hl.1]; simp)), if_neg (fun e => by omega)]
      exact l1 p hp k
    · rw [if_neg hk]; exact l1 p hp k
  have okB : Ok14 b B := hok.right.congr (fun p hp => by rw [b3, t1 p (hB' p hp).1]) fun p hp k _ => fr p (hB' p hp).1 (hB' p hp).2 k
  have lkB : ∀ k, lk14 b k B = lk14 a k B := fun k => lk14_congr fun p hp => by rw [b3, t1 p (hB' p hp).1]
  have okC : Ok14 b (a.length :: B) := by
    refine ⟨fun k hk => ?_, okB⟩
    rw [b3, tq] at hk
    obtain ⟨P1, x, A2, hl, h2, h3, h4, h5, h6⟩ := hway' k (by omega)
    rw [b4, if_pos (by omega)]
    unfold newI
    rw [if_neg (by rw [h2]; intro e; injection e with e; omega), if_pos ⟨rfl, by rw [tq]; exact hk⟩, h2, lkB]
    show ((lnk a1 x k).1, (lnk a1 x k).2.1 - (r.1.getD 0 0 - r.1.getD k 0), ()) = _
    rw [l1 x h4, h5, hr0, h3, lk14_low hl.2.2]
    simp only
    rw [show (((A2.length + (lk14 a k B).2 : Nat) : Int) - ((A.length : Int) - (P1.length : Int))) = (((lk14 a k B).2 : Nat) : Int) by omega]
  refine ⟨b, n, rfl, n1, n12, by rw [b1]; simp [a1], ?_, ?_, by rw [b3, tq], fun p hp => ⟨by rw [b2, k1 p hp], by rw [b3, t1 p hp]⟩, fr⟩
  · refine relink okC hok (fun p hp => by rw [b3, t1 p (hlt p (List.mem_append_left _ hp))]) ?_
    intro P1 x A2 e k hk
    have hxl : x < a.length := ht_lt hk
    have hk12 : k < 12 := by
      rcases Nat.lt_or_ge k 12 with h0 | h0
      · exact h0
      · exfalso
        by_cases hxh : x = h
        · subst hxh; omega
        · have hxA : x ∈ A := by
            have : x ∈ h :: A := by rw [e]; simp
            exact (List.mem_cons.1 this).resolve_left hxh
          have := (h1s x (List.mem_append_left _ hxA)).2; omega
    obtain ⟨Q1, y, Q2, hl, h2, h3, h4, h5, h6⟩ := hway' k hk12
    rw [b4, if_pos hk12]
    unfold newI
    by_cases hlow : ∀ q ∈ A2, ht a q ≤ k
    · rw [if_pos hlow]
      obtain ⟨rfl, rfl, rfl⟩ := Last14.uniq ⟨e, hk, hlow⟩ hl
      rw [if_pos h2, tq]
      have hlow' : ∀ q ∈ A2, ht b q ≤ k := fun q hq => by
        rw [b3, t1 q (hlt q (List.mem_append_left _ (List.mem_cons_of_mem _ (tail_mem e hq))))]; exact hlow q hq
      rw [lk14_low hlow', lk14_cons, b3, tq, lkB]
      by_cases hkn : k < n
      · rw [if_pos hkn, if_pos hkn, hr0, h3]
        simp only
        rw [show ((A.length : Int) - (P1.length : Int) + 1) = ((A2.length + 1 : Nat) : Int) by omega]
      · rw [if_neg hkn, if_neg hkn, l1 x hxl, h5, lk14_low hlow]
        simp only
        rw [show (((A2.length + (lk14 a k B).2 : Nat) : Int) + 1) = ((A2.length + ((lk14 a k B).2 + 1) : Nat) : Int) by omega]
    · rw [if_neg hlow, if_neg, if_neg (fun e => by omega)]
      · exact l1 x hxl k
      · rw [h2]; intro e2; injection e2 with e2; subst e2
        apply hlow
        have hn1 : (P1 ++ y :: A2).Nodup := by rw [← e]; exact (List.nodup_append.1 hnd).1
        rw [nodup_split hn1 (e.symm.trans hl.1)]
        exact hl.2.2
  · rw [b2]; exact mk14_key' a _
end Go.Proofs.Ytfhngejmfnahhaa
