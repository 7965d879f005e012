/- A skip list: a node is taken out. -/
import Derived.Test.YtfhngejmfnahhaaZsC
namespace Go.Proofs.Ytfhngejmfnahhaa
open Go Go.Lift Go.Lib
set_option maxRecDepth 100000
set_option maxHeartbeats 4000000
set_option linter.unusedVariables false

theorem remove_L1_eq (y i : Nat) (w : Arr 12 (Option Nat)) (r : Arr 12 Int) (a : AR) :
    zset_Set_remove_L1_P (some y, (i : Int), w, r, a) = if decide ((i : Int) < 12) = true then
      Option.bind (inb 12 (i : Int)) fun _ => Option.bind (w.1.getD i none) fun v => Option.bind (inb (ht a v) (i : Int)) fun _ =>
      if decide ((i : Int) < ((ht a y : Nat) : Int)) = true then
        Option.bind (inb (ht a y) (i : Int)) fun _ => Option.bind (inb (ht a y) (i : Int)) fun _ =>
        some (.inl (some y, IntKind.wrap IntKind.i64 ((i : Int) + 1), w, r, setL (setL a v i ((lnk a y i).1, IntKind.wrap IntKind.i64 ((lnk a v i).2.1 + (lnk a y i).2.1), ())) v i
          ((lnk (setL a v i ((lnk a y i).1, IntKind.wrap IntKind.i64 ((lnk a v i).2.1 + (lnk a y i).2.1), ())) v i).1, IntKind.wrap IntKind.i64 ((lnk (setL a v i ((lnk a y i).1, IntKind.wrap IntKind.i64 ((lnk a v i).2.1 + (lnk a y i).2.1), ())) v i).2.1 - 1), ())))
      else
        some (.inl (some y, IntKind.wrap IntKind.i64 ((i : Int) + 1), w, r, setL a v i ((lnk a v i).1, IntKind.wrap IntKind.i64 ((lnk a v i).2.1 - 1), ())))
    else some (.inr (w, r, a)) := rfl

/-- The links behind it. -/
def newR (a : AR) (y : Nat) (w : Arr 12 (Option Nat)) (p k : Nat) : Lnk :=
  if w.1.getD k none = some p then
    (if k < ht a y then ((lnk a y k).1, (lnk a p k).2.1 + (lnk a y k).2.1 - 1, ()) else ((lnk a p k).1, (lnk a p k).2.1 - 1, ()))
  else lnk a p k

theorem remove_loop {a : AR} {y : Nat} {w : Arr 12 (Option Nat)} {r : Arr 12 Int}
    (hx : ∀ k, k < 12 → ∃ x, w.1.getD k none = some x ∧ k < ht a x ∧ x ≠ y ∧ 0 ≤ (lnk a x k).2.1 ∧ (lnk a x k).2.1 ≤ 100000)
    (hy : ∀ k, k < ht a y → 0 ≤ (lnk a y k).2.1 ∧ (lnk a y k).2.1 ≤ 100000) :
    ∃ b, loop zset_Set_remove_L1_P (some y, 0, w, r, a) = some (w, r, b) ∧ b.length = a.length ∧ (∀ p, key b p = key a p) ∧ (∀ p, ht b p = ht a p) ∧ ∀ p k, lnk b p k = if k < 12 then newR a y w p k else lnk a p k := by
  refine Exists.elim (loop_meas (body := zset_Set_remove_L1_P) (s := (some y, 0, w, r, a))
    (fun st => ∃ (i : Nat) (b : AR), i ≤ 12 ∧ b.length = a.length ∧ (∀ p, key b p = key a p) ∧ (∀ p, ht b p = ht a p) ∧ (∀ p k, lnk b p k = if k < i then newR a y w p k else lnk a p k) ∧ st = (some y, (i : Int), w, r, b))
    (fun st => 12 - st.2.1.toNat) (fun z => ∃ b : AR, b.length = a.length ∧ (∀ p, key b p = key a p) ∧ (∀ p, ht b p = ht a p) ∧ (∀ p k, lnk b p k = if k < 12 then newR a y w p k else lnk a p k) ∧ z = (w, r, b))
    ⟨0, a, Nat.zero_le _, rfl, fun _ => rfl, fun _ => rfl, fun p k => by rw [if_neg (Nat.not_lt_zero _)], rfl⟩ (by simp only; omega) ?_) ?_
  · rintro st ⟨i, b, hi, h1, h2, h3, h4, rfl⟩
    rw [remove_L1_eq]
    by_cases hlt : i < 12
    · left
      obtain ⟨x, hw, hxh, hxy, l0, l1⟩ := hx i hlt
      have hlx : lnk b x i = lnk a x i := by rw [h4, if_neg (Nat.lt_irrefl _)]
      have hly : lnk b y i = lnk a y i := by rw [h4, if_neg (Nat.lt_irrefl _)]
      rw [if_pos (decide_eq_true (by omega)), inb_ok hlt, Option.bind_some, hw, Option.bind_some, inb_ok (by rw [h3]; exact hxh), Option.bind_some]
      rw [i64_succ (by omega)]
      by_cases hq : i < ht a y
      · obtain ⟨y0, y1⟩ := hy i hq
        rw [if_pos (decide_eq_true (by rw [h3]; omega)), inb_ok (by rw [h3]; exact hq), Option.bind_some, Option.bind_some, hlx, hly]
        rw [i64_id (n := (lnk a x i).2.1 + (lnk a y i).2.1) (by omega) (by omega)]
        rw [setL_lnk b x i _ x i, if_pos ⟨rfl, rfl, by rw [h3]; exact hxh⟩]
        simp only
        rw [i64_id (n := _ - 1) (by omega) (by omega)]
        refine ⟨_, rfl, ⟨i + 1, _, hlt, by rw [setL_len, setL_len, h1], fun p => by rw [setL_key, setL_key, h2], fun p => by rw [setL_ht, setL_ht, h3], fun p k => ?_, rfl⟩, by simp only [Int.toNat_natCast]; omega⟩
        rw [setL_lnk, setL_lnk, setL_ht, h3]
        by_cases hk : k = i
        · subst hk
          rw [if_pos (Nat.lt_succ_self k)]
          unfold newR
          by_cases hp : p = x
          · subst hp
            rw [if_pos (show p = p ∧ k = k ∧ k < ht a p from ⟨rfl, rfl, hxh⟩), if_pos hw, if_pos hq]
          · have hnp : ¬ (w.1.getD k none = some p) := by rw [hw]; intro h; injection h with h; exact hp h.symm
            rw [if_neg (show ¬ (p = x ∧ k = k ∧ k < ht a x) from fun h => hp h.1), if_neg (show ¬ (p = x ∧ k = k ∧ k < ht a x) from fun h => hp h.1), if_neg hnp, h4, if_neg (Nat.lt_irrefl _)]
        · rw [if_neg (fun h => hk h.2.1), if_neg (fun h => hk h.2.1), h4]
          by_cases hk2 : k < i
          · rw [if_pos hk2, if_pos (by omega)]
          · rw [if_neg hk2, if_neg (by omega)]
      · rw [if_neg (by rw [h3]; simp; omega), hlx, i64_id (by omega) (by omega)]
        refine ⟨_, rfl, ⟨i + 1, _, hlt, by rw [setL_len, h1], fun p => by rw [setL_key, h2], fun p => by rw [setL_ht, h3], fun p k => ?_, rfl⟩, by simp only [Int.toNat_natCast]; omega⟩
        rw [setL_lnk, h3]
        by_cases hk : k = i
        · subst hk
          rw [if_pos (Nat.lt_succ_self k)]
          unfold newR
          by_cases hp : p = x
          · subst hp
            rw [if_pos (show p = p ∧ k = k ∧ k < ht a p from ⟨rfl, rfl, hxh⟩), if_pos hw, if_neg hq]
          · have hnp : ¬ (w.1.getD k none = some p) := by rw [hw]; intro h; injection h with h; exact hp h.symm
            rw [if_neg (show ¬ (p = x ∧ k = k ∧ k < ht a x) from fun h => hp h.1), if_neg hnp, h4, if_neg (Nat.lt_irrefl _)]
        · rw [if_neg (fun h => hk h.2.1), h4]
          by_cases hk2 : k < i
          · rw [if_pos hk2, if_pos (by omega)]
          · rw [if_neg hk2, if_neg (by omega)]
    · right
      have : i = 12 := by omega
      subst this
      rw [if_neg (by decide)]
      exact ⟨_, rfl, b, h1, h2, h3, h4, rfl⟩
  · rintro z ⟨hz, b, h1, h2, h3, h4, rfl⟩
    exact ⟨b, hz, h1, h2, h3, h4⟩

theorem remove_is {a : AR} {h y : Nat} {A B : List Nat} {m : List UInt8} {s : Int} (hok : Ok14 a (h :: A ++ y :: B)) (hh : ht a h = 12) (hnd : (h :: A ++ y :: B).Nodup)
    (hA : ∀ p ∈ A, less14 (key a p) (m, s, ()) = true) (hB : ∀ p ∈ y :: B, less14 (key a p) (m, s, ()) = false) (hlen : A.length + B.length ≤ 90000) (h1s : ∀ p ∈ A ++ y :: B, 1 ≤ ht a p ∧ ht a p ≤ 12) (d : List (List UInt8 × Int)) :
    ∃ b, zset_Set_remove_M m s (some h) d a = some (some h, d, b) ∧ b.length = a.length ∧ Ok14 b (h :: A ++ B) ∧ (∀ p, key b p = key a p ∧ ht b p = ht a p) ∧ ∀ p, p ∉ h :: A → ∀ k, lnk b p k = lnk a p k := by
  unfold zset_Set_remove_M
  obtain ⟨w, r, hah, hway⟩ := ahead_is hok hh hA hB (by simp; omega) d
  rw [show zset_Set_ahead_P (m, s, some h, d, a) = zset_Set_ahead_M m s (some h) d a from rfl, hah, Option.bind_some, inb_ok' (by omega) (by omega), Option.bind_some]
  have hyh := h1s y (by simp)
  have hway' : ∀ k, k < 12 → ∃ P1 x A2, Last14 a (h :: A) k P1 x A2 ∧ w.1.getD k none = some x ∧ r.1.getD k 0 = (P1.length : Int) ∧ x ≠ y ∧ lnk a x k = ((lk14 a k (A2 ++ y :: B)).1, (((lk14 a k (A2 ++ y :: B)).2 : Nat) : Int), ()) ∧ P1.length + A2.length = A.length := by
    intro k hk
    obtain ⟨P1, x, A2, hl, h2, h3⟩ := hway k hk
    refine ⟨P1, x, A2, hl, h2, h3, fun e => ?_, ?_, tail_len hl.1⟩
    · subst e
      exact (List.nodup_append.1 hnd).2.2 x (by rw [hl.1]; simp) x (by simp) rfl
    · have := hok; rw [hl.1] at this
      exact Ok14.at (A := P1) (by simpa using this) hl.2.1
  have hlow : ∃ x0, w.1.getD 0 none = some x0 ∧ 0 < ht a x0 ∧ (lnk a x0 0).1 = some y := by
    obtain ⟨P1, x, A2, hl, h2, h3, h4, h5, h6⟩ := hway' 0 (by omega)
    have : A2 = [] := by
      cases A2 with
      | nil => rfl
      | cons z A2 =>
        have h7 := hl.2.2 z (by simp)
        have h8 := (h1s z (List.mem_append_left _ (tail_mem hl.1 (by simp)))).1
        omega
    subst this
    refine ⟨x, h2, hl.2.1, ?_⟩
    rw [h5, List.nil_append, lk14_cons, if_pos (by omega)]
  obtain ⟨x0, hx0, hx1, hx2⟩ := hlow
  rw [show List.getD w.1 0 none = some x0 from hx0, Option.bind_some]
  rw [show inb (List.length (ndR a x0)) 0 = inb (ht a x0) 0 from rfl, inb_ok' (by omega) (by omega), Option.bind_some]
  rw [show (List.getD (ndR a x0) 0 (none, 0, ())).1 = (lnk a x0 0).1 from rfl, hx2]
  have hly : ∀ k, k < ht a y → lnk a y k = ((lk14 a k B).1, (((lk14 a k B).2 : Nat) : Int), ()) := fun k hk => Ok14.at (A := h :: A) hok hk
  obtain ⟨b, hb, b1, b2, b3, b4⟩ := remove_loop (a := a) (y := y) (w := w) (r := r) (fun k hk => by
      obtain ⟨P1, x, A2, hl, h2, h3, h4, h5, h6⟩ := hway' k hk
      have := lk14_le a k (A2 ++ y :: B)
      refine ⟨x, h2, hl.2.1, h4, ?_, ?_⟩
      · rw [h5]; simp
      · rw [h5]; simp at this ⊢; omega)
    (fun k hk => by
      rw [hly k hk]
      have := lk14_le a k B
      simp; omega)
  rw [hb, Option.bind_some]
  have fr : ∀ p, p ∉ h :: A → ∀ k, lnk b p k = lnk a p k := by
    intro p hpA k
    rw [b4]
    by_cases hk : k < 12
    · rw [if_pos hk]
      obtain ⟨P1, x, A2, hl, h2, h3, h4, h5, h6⟩ := hway' k hk
      unfold newR
      rw [if_neg (by rw [h2]; intro e; injection e with e; subst e; exact hpA (by rw [hl.1]; simp))]
    · rw [if_neg hk]
  have hB' : ∀ p ∈ B, p ∉ h :: A := fun p hp hp2 => (List.nodup_append.1 hnd).2.2 p hp2 p (List.mem_cons_of_mem _ hp) rfl
  have okB : Ok14 b B := hok.right.2.congr (fun p hp => b3 p) fun p hp k _ => fr p (hB' p hp) k
  have lkB : ∀ k, lk14 b k B = lk14 a k B := fun k => lk14_congr fun p hp => b3 p
  refine ⟨b, rfl, b1, ?_, fun p => ⟨b2 p, b3 p⟩, fr⟩
  refine relink okB hok (fun p hp => b3 p) ?_
  intro P1 x A2 e k hk
  have hk12 : k < 12 := by
    rcases Nat.lt_or_ge k 12 with h0 | h0
    · exact h0
    · exfalso
      by_cases hxh : x = h
      · subst hxh; omega
      · have hxA : x ∈ A := by
          have : x ∈ h :: A := by rw [e]; simp
          exact (List.mem_cons.1 this).resolve_left hxh
        have := (h1s x (List.mem_append_left _ hxA)).2; omega
  obtain ⟨Q1, z, Q2, hl, h2, h3, h4, h5, h6⟩ := hway' k hk12
  rw [b4, if_pos hk12]
  unfold newR
  by_cases hlow : ∀ q ∈ A2, ht a q ≤ k
  · rw [if_pos hlow]
    obtain ⟨rfl, rfl, rfl⟩ := Last14.uniq ⟨e, hk, hlow⟩ hl
    rw [if_pos h2]
    have hlow' : ∀ q ∈ A2, ht b q ≤ k := fun q hq => by rw [b3]; exact hlow q hq
    rw [lk14_low hlow', lkB]
    by_cases hky : k < ht a y
    · rw [if_pos hky, hly k hky, h5, lk14_high hlow hky]
      simp only
      rw [show (((A2.length + 1 : Nat) : Int) + (((lk14 a k B).2 : Nat) : Int) - 1) = ((A2.length + (lk14 a k B).2 : Nat) : Int) by omega]
    · rw [if_neg hky, h5, lk14_low hlow, lk14_cons, if_neg hky]
      simp only
      rw [show (((A2.length + ((lk14 a k B).2 + 1) : Nat) : Int) - 1) = ((A2.length + (lk14 a k B).2 : Nat) : Int) by omega]
  · rw [if_neg hlow, if_neg]
    rw [h2]; intro e2; injection e2 with e2; subst e2
    apply hlow
    have hn1 : (P1 ++ z :: A2).Nodup := by rw [← e]; exact (List.nodup_append.1 hnd).1
    rw [nodup_split hn1 (e.symm.trans hl.1)]
    exact hl.2.2
end Go.Proofs.Ytfhngejmfnahhaa
