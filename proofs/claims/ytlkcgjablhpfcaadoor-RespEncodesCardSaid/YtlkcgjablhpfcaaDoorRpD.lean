/- Parsers: what is fed piece by piece, and what is parsed at once; a command's bytes are parsed as it was. -/
import Derived.Test.YtlkcgjablhpfcaaDoorRpC
namespace Go.Proofs.YtlkcgjablhpfcaaDoor
open Go Go.Lift Go.Lib
set_option maxRecDepth 100000
set_option maxHeartbeats 4000000
set_option linter.unusedVariables false

/-! ### The document's parser -/

theorem rparse_loop : ∀ (n : Nat) {s : List UInt8} {p : Nat} {out : List (List (List UInt8))}, s.length ≤ 100000 → p ≤ s.length → s.length - p < n → out.length ≤ p →
    ∃ q, iter intaglioref19_Parse_L1_P n (s, (p : Int), 0, 0, 0, 0, out) = some (.inr q) ∧ q = (out ++ (prsF (s.drop p)).1, (prsF (s.drop p)).2.1, ((prsF (s.drop p)).2.2.length : Int), out ++ (prsF (s.drop p)).1, (prsF (s.drop p)).2.1, ((prsF (s.drop p)).2.2.length : Int))
  | 0, s, p, out, hl, hp, hn, ho => by omega
  | n + 1, s, p, out, hl, hp, hn, ho => by
    rw [iter]
    have hsub : sub s (p : Int) ((s.length : Nat) : Int) = some (s.drop p) := by rw [sub_ok (by omega) (by omega) (by omega), Int.toNat_natCast, Int.toNat_natCast, List.take_length]
    have e0 := prsF_eq (s.drop p)
    have hi : IntKind.i64.wrap (((s.length : Nat) : Int) - (p : Int)) = (((s.drop p).length : Nat) : Int) := by rw [i64_id (by omega) (by omega)]; simp; omega
    rcases cmd_errs (s.drop p) with ⟨e, h, he⟩ | ⟨ws, k, h, h4, hk, h40, _⟩
    · rw [h] at e0
      simp only at e0
      by_cases h4 : e = 4
      · subst h4
        rw [if_pos rfl] at e0
        have step : intaglioref19_Parse_L1_P (s, (p : Int), 0, 0, 0, 0, out) = some (.inr (.inr (out, 0, (((s.drop p).length : Nat) : Int), out, 0, (((s.drop p).length : Nat) : Int)))) := by
          simp only [intaglioref19_Parse_L1_P, intaglioref19_Parse_L1]
          rw [if_pos (decide_eq_true (by omega)), hsub, Option.bind_some]
          show Option.bind (intaglioref19_command_M _) _ = _
          rw [rcommand_is (by simp; omega), h, Option.bind_some]
          simp only
          rw [if_pos (by rfl), hi]
        rw [step, e0]
        exact ⟨_, rfl, by simp⟩
      · rw [if_neg h4] at e0
        have step : intaglioref19_Parse_L1_P (s, (p : Int), 0, 0, 0, 0, out) = some (.inr (.inr (out, e, 0, out, e, 0))) := by
          simp only [intaglioref19_Parse_L1_P, intaglioref19_Parse_L1]
          rw [if_pos (decide_eq_true (by omega)), hsub, Option.bind_some]
          show Option.bind (intaglioref19_command_M _) _ = _
          rw [rcommand_is (by simp; omega), h, Option.bind_some]
          simp only
          rw [if_neg (by simpa using h4), if_pos (by rcases he with rfl | rfl | rfl <;> rfl)]
        rw [step, e0]
        exact ⟨_, rfl, by simp⟩
    · have hd : (s.drop p).length = s.length - p := by simp
      simp at hk
      rw [h] at e0
      simp only at e0
      rw [List.drop_drop] at e0
      have step : intaglioref19_Parse_L1_P (s, (p : Int), 0, 0, 0, 0, out) = some (.inl (s, ((p + k : Nat) : Int), 0, 0, 0, 0, if ws = [] then out else out ++ [ws])) := by
        simp only [intaglioref19_Parse_L1_P, intaglioref19_Parse_L1]
        rw [if_pos (decide_eq_true (by omega)), hsub, Option.bind_some]
        show Option.bind (intaglioref19_command_M _) _ = _
        rw [rcommand_is (by simp; omega), h, Option.bind_some]
        simp only
        rw [if_neg (by decide), if_neg (by decide)]
        rw [show ix [ws] 0 = some ws from rfl, Option.bind_some]
        have e2 : IntKind.i64.wrap (IntKind.i64.wrap (IntKind.i64.wrap (((s.length : Nat) : Int) - (((s.drop p).length - k : Nat) : Int)) - 1) + 1) = ((p + k : Nat) : Int) := by
          rw [i64_id (n := ((s.length : Nat) : Int) - _) (by omega) (by omega), i64_id (n := _ - 1) (by omega) (by omega), i64_id (by omega) (by omega)]
          omega
        rw [e2]
        by_cases hw : ws = []
        · rw [if_neg (by simp [hw]), if_pos hw]
        · have : 0 < ws.length := List.length_pos_iff.2 hw
          rw [if_pos (decide_eq_true (by omega)), if_neg hw, Option.bind_some, room_ok (by simp; omega) (by unfold maxLen; simp; omega), Option.bind_some]
      rw [step]
      simp only
      obtain ⟨q, hq, hr⟩ := rparse_loop n (s := s) (p := p + k) (out := if ws = [] then out else out ++ [ws]) hl (by omega) (by omega) (by split; omega; simp; omega)
      refine ⟨q, hq, ?_⟩
      rw [hr, e0]
      split <;> simp

theorem rparse_is {s : List UInt8} (hl : s.length ≤ 100000) : intaglioref19_Parse_M s = some ((prsF s).1, (prsF s).2.1, ((prsF s).2.2.length : Int)) := by
  unfold intaglioref19_Parse_M
  obtain ⟨q, hq, rfl⟩ := rparse_loop (s.length + 1) (s := s) (p := 0) (out := []) hl (Nat.zero_le _) (by omega) (Nat.le_refl _)
  rw [show ((0 : Nat) : Int) = 0 from rfl, List.drop_zero, List.nil_append] at hq
  rw [loop_few _ (by omega) hq]
  rfl

/-! ### The package's parser -/

theorem win_all (a : Nat) (r : List Int) : b8 (List.drop a (List.take r.length r)) = (b8 r).drop a := by
  unfold b8; rw [List.take_length, List.map_drop]

theorem feed_loop : ∀ (n : Nat) {r : List Int} {out : List (List (List UInt8))}, r.length ≤ 3000000 → r.length < n → out.length + r.length ≤ 3000000 →
    ∃ r', iter resp_Parser_Feed_L1_P n (0, true, out, r) = some ((prsF (b8 r)).2.1, (prsF (b8 r)).2.1, true, out ++ (prsF (b8 r)).1, r') ∧ b8 r' = (prsF (b8 r)).2.2
  | 0, r, out, hl, hn, ho => by omega
  | n + 1, r, out, hl, hn, ho => by
    rw [iter]
    have e0 := prsF_eq (b8 r)
    have hlen : (b8 r).length = r.length := by simp [b8]
    simp only [resp_Parser_Feed_L1_P, resp_Parser_Feed_L1]
    rw [show resp_command_P (0, ((r.length : Nat) : Int), r) = resp_command_M 0 ((r.length : Nat) : Int) r from rfl, vcommand_is (by omega), Option.bind_some]
    rcases cmd_errs (b8 r) with ⟨e, h, he⟩ | ⟨ws, k, h, h4, hk, h40, _⟩
    · rw [h] at e0 ⊢
      simp only [Sum.elim_inl] at e0 ⊢
      by_cases h4 : e = 4
      · subst h4
        rw [if_pos rfl] at e0
        rw [if_pos (by rfl), e0]
        refine ⟨_, by rw [List.append_nil], ?_⟩
        show b8 (List.drop 0 (List.take r.length r)) = b8 r
        rw [List.drop_zero, List.take_length]
      · rw [if_neg h4] at e0
        rw [if_neg (by simpa using h4), if_pos (by rcases he with rfl | rfl | rfl <;> rfl), e0]
        exact ⟨_, by rw [List.append_nil], rfl⟩
    · rw [h] at e0 ⊢
      simp only [Sum.elim_inr, Int.toNat_natCast] at e0 ⊢
      rw [if_neg (by decide), if_neg (by decide)]
      have hb : b8 (List.drop k (List.take r.length r)) = (b8 r).drop k := win_all k r
      have hl2 : (List.drop k (List.take r.length r)).length = r.length - k := by simp
      rw [← hb] at e0
      have next : ∃ r', iter resp_Parser_Feed_L1_P n (0, true, (if ws = [] then out else out ++ [ws]), List.drop k (List.take r.length r)) = _ ∧ _ := feed_loop n (by omega) (by omega) (by split; omega; simp; omega)
      by_cases hw : ws = []
      · rw [if_neg (by simp [hw])]
        rw [if_pos hw] at next e0
        rw [e0]
        exact next
      · have : 0 < ws.length := List.length_pos_iff.2 hw
        rw [if_pos (decide_eq_true (by omega)), room_ok (by simp; omega) (by unfold maxLen; simp; omega), Option.bind_some]
        rw [if_neg hw] at next e0
        rw [e0]
        simpa using next

/-- A parser behind some bytes: its fault and what it holds. -/
def Holds (a : List UInt8) (e : Int) (r : List Int) : Prop := e = (prsF a).2.1 ∧ b8 r = (prsF a).2.2
theorem holds_nil : Holds [] 0 [] := by
  have : prsF [] = ([], 0, []) := by
    rw [prsF_eq]
    have : cmd [] = .inl 4 := by unfold cmd cnt; rfl
    rw [this]; rfl
  unfold Holds
  rw [this]; exact ⟨rfl, rfl⟩
theorem feed_is {a : List UInt8} {e : Int} {r v : List Int} (h : Holds a e r) (hl : a.length + v.length ≤ 3000000) :
    ∃ e' l r', resp_Parser_Feed_M v e true r = some (e', e', true, l, r') ∧ Holds (a ++ b8 v) e' r' ∧ (prsF (a ++ b8 v)).1 = (prsF a).1 ++ l ∧ e' = (prsF (a ++ b8 v)).2.1 := by
  obtain ⟨h1, h2⟩ := h
  obtain ⟨f1, f2, f3, f4, f5⟩ := prsF_facts a
  have happ := prsF_app a (b8 v)
  have hr : r.length = (prsF a).2.2.length := by rw [← h2]; simp [b8]
  unfold resp_Parser_Feed_M
  rw [if_neg (by simp)]
  by_cases he : e ≠ 0
  · rw [if_pos (by simpa using he)]
    rw [if_pos (by rw [← h1]; exact he)] at happ
    exact ⟨e, [], r, rfl, ⟨by rw [happ]; exact h1, by rw [happ]; exact h2⟩, by rw [happ, List.append_nil], by rw [happ]; exact h1⟩
  · replace he := Classical.not_not.1 he
    rw [if_neg (by simpa using he)]
    rw [if_neg (by rw [← h1]; simpa using he)] at happ
    rw [room_ok (by omega) (by unfold maxLen; omega), Option.bind_some]
    obtain ⟨r', hq, hr'⟩ := feed_loop (r.length + v.length + 1) (r := r ++ v) (out := []) (by rw [List.length_append]; omega) (by rw [List.length_append]; omega) (by rw [List.length_append]; simp; omega)
    have hb : b8 (r ++ v) = (prsF a).2.2 ++ b8 v := by rw [← h2]; simp [b8]
    rw [hb] at hq hr'
    subst he
    rw [loop_few _ (by omega) hq, Option.bind_some]
    exact ⟨_, _, r', rfl, ⟨by rw [happ], by rw [happ]; exact hr'⟩, by rw [happ]; rfl, by rw [happ]⟩

/-! ### A command is parsed as it was -/

theorem ib_eq {s : List UInt8} {i : Nat} (hi : i < s.length) (h16 : i < 16) (h10 : s[i]? = some 10) (hn : ∀ x ∈ s.take i, x ≠ 10) : indexByte (s.take 16) 10 = (i : Int) := by
  rcases ib_cases s with ⟨e, h'⟩ | ⟨j, e, hj, hjl, hj10, hjn⟩
  · exfalso
    refine h' 10 ?_ rfl
    refine List.mem_take_iff_getElem.2 ⟨i, by omega, ?_⟩
    rw [List.getElem?_eq_getElem hi] at h10
    injection h10
  · rw [e]
    rcases Nat.lt_trichotomy i j with hij | rfl | hij
    · exfalso
      refine hjn 10 ?_ rfl
      refine List.mem_take_iff_getElem.2 ⟨i, by omega, ?_⟩
      rw [List.getElem?_eq_getElem hi] at h10
      injection h10
    · rfl
    · exfalso
      refine hn 10 ?_ rfl
      refine List.mem_take_iff_getElem.2 ⟨j, by omega, ?_⟩
      rw [List.getElem?_eq_getElem (by omega)] at hj10
      injection hj10

theorem nI_itoa {n : Nat} (h : n ≤ 1000) : nI (itoa (n : Int)) = ((n : Int), true) := by
  unfold nI
  have hlen := itoa_len (v := (n : Int)) (k := 3) (by omega)
  rw [(verbInt_is (by omega)).1 (n : Int) ⟨by omega, by omega⟩ rfl]
  rfl

theorem cnt_line {g : UInt8} (hg : g ≠ 10) {most n : Nat} (h : n ≤ most) (hm : most ≤ 1000) (t : List UInt8) : cnt g (most : Int) (g :: (itoa (n : Int) ++ (13 :: 10 :: t))) = ((n : Int), (itoa (n : Int)).length + 3, 0) := by
  have hd : itoa (n : Int) = decDigits n := itoa_nonneg n
  have hlen := dec_len 3 n (by omega)
  have hlen1 : 1 ≤ (decDigits n).length := List.length_pos_iff.2 (dec_ne n)
  have hn10 : ∀ x ∈ decDigits n, x ≠ 10 := by
    intro x hx e
    have := dec_digs n x hx
    rw [e] at this
    exact absurd this.1 (by decide)
  have hib : indexByte ((g :: (itoa (n : Int) ++ (13 :: 10 :: t))).take 16) 10 = (((itoa (n : Int)).length + 2 : Nat) : Int) := by
    rw [hd]
    refine ib_eq (by simp; omega) (by omega) ?_ ?_
    · rw [List.getElem?_cons_succ, List.getElem?_append_right (by omega), show (decDigits n).length + 1 - (decDigits n).length = 1 by omega]; rfl
    · intro x hx
      rw [List.take_succ_cons, List.take_append, List.take_of_length_le (by omega), show (decDigits n).length + 1 - (decDigits n).length = 1 by omega] at hx
      simp only [List.mem_cons, List.mem_append] at hx
      rcases hx with rfl | hx | hx
      · exact hg
      · exact hn10 x hx
      · simp at hx; rw [hx]; decide
  have hline : (g :: (itoa (n : Int) ++ (13 :: 10 :: t))).take ((itoa (n : Int)).length + 2 + 1) = g :: (itoa (n : Int) ++ [13, 10]) := by
    rw [List.take_succ_cons, List.take_append, List.take_of_length_le (by omega), show (itoa (n : Int)).length + 2 - (itoa (n : Int)).length = 2 by omega]; rfl
  have hcl : cline g (most : Int) (g :: (itoa (n : Int) ++ [13, 10])) = ((n : Int), 0) := by
    have hL : (g :: (itoa (n : Int) ++ [13, 10])).length = (itoa (n : Int)).length + 3 := by simp
    have e1 : (g :: (itoa (n : Int) ++ [13, 10])).drop ((itoa (n : Int)).length + 3 - 2) = [13, 10] := by
      rw [show (itoa (n : Int)).length + 3 - 2 = (itoa (n : Int)).length + 1 by omega, List.drop_succ_cons, List.drop_append_of_le_length (Nat.le_refl _), List.drop_length]; rfl
    have e2 : ((g :: (itoa (n : Int) ++ [13, 10])).take ((itoa (n : Int)).length + 3 - 2)).drop 1 = itoa (n : Int) := by
      rw [show (itoa (n : Int)).length + 3 - 2 = (itoa (n : Int)).length + 1 by omega, List.take_succ_cons, List.take_append_of_le_length (Nat.le_refl _), List.take_length]; rfl
    unfold cline
    rw [hL, e1, e2, nI_itoa (by omega)]
    rw [hd]
    rw [if_neg (by rintro (h | h | h | h); omega; omega; exact h rfl; exact h rfl)]
    simp only
    rw [if_neg (by rintro (h | h); cases h; omega), if_neg (by omega)]
  unfold cnt
  rw [hib, if_neg (show ¬ (((itoa (n : Int)).length + 2 : Nat) : Int) < 0 by omega), Int.toNat_natCast, hline, hcl, if_pos rfl]

theorem wd_bulk {w : List UInt8} (hw : w.length ≤ 512) (t : List UInt8) : wd (sc_bulk w ++ t) = .inr (w, (sc_bulk w).length) := by
  have e : sc_bulk w ++ t = 36 :: (itoa (w.length : Int) ++ (13 :: 10 :: (w ++ ([13, 10] ++ t)))) := by unfold sc_bulk; simp
  have hL : (sc_bulk w).length = (itoa (w.length : Int)).length + 3 + w.length + 2 := by unfold sc_bulk; simp; omega
  have hc := cnt_line (g := 36) (by decide) (most := 512) hw (by decide) (w ++ ([13, 10] ++ t))
  have e0 : ∀ t', (36 :: (itoa (w.length : Int) ++ (13 :: 10 :: t'))).drop ((itoa (w.length : Int)).length + 3) = t' := by
    intro t'
    rw [List.drop_succ_cons, List.drop_append, List.drop_of_length_le (by omega), show (itoa (w.length : Int)).length + 2 - (itoa (w.length : Int)).length = 2 by omega]; rfl
  have e1 : (36 :: (itoa (w.length : Int) ++ (13 :: 10 :: (w ++ ([13, 10] ++ t))))).drop ((itoa (w.length : Int)).length + 3 + w.length) = [13, 10] ++ t := by
    rw [← List.drop_drop, e0, List.drop_append_of_le_length (Nat.le_refl _), List.drop_length]; rfl
  unfold wd
  rw [e, show (512 : Int) = ((512 : Nat) : Int) from rfl, hc]
  simp only [Int.toNat_natCast]
  rw [if_neg (by simp), if_neg (by simp; omega), e0, e1, if_neg (by simp), List.take_append_of_le_length (Nat.le_refl _), List.take_length, hL]

theorem wds_bulk : ∀ (l : List (List UInt8)) (hw : ∀ w ∈ l, w.length ≤ 512) (t : List UInt8), wds l.length (l.flatMap sc_bulk ++ t) = .inr (l, (l.flatMap sc_bulk).length)
  | [], _, _ => rfl
  | w :: l, hw, t => by
    rw [List.length_cons]
    unfold wds
    rw [List.flatMap_cons, List.append_assoc, wd_bulk (hw w (by simp))]
    simp only
    rw [List.drop_append_of_le_length (Nat.le_refl _), List.drop_length, List.nil_append, wds_bulk l (fun x hx => hw x (by simp [hx]))]
    simp
theorem cmd_command {l : List (List UInt8)} (hn : l.length ≤ 40) (hw : ∀ w ∈ l, w.length ≤ 512) (t : List UInt8) : cmd (sc_command l ++ t) = .inr (l, (sc_command l).length) := by
  have e : sc_command l ++ t = 42 :: (itoa (l.length : Int) ++ (13 :: 10 :: (l.flatMap sc_bulk ++ t))) := by unfold sc_command; simp
  have hL : (sc_command l).length = (itoa (l.length : Int)).length + 3 + (l.flatMap sc_bulk).length := by unfold sc_command; simp; omega
  have hc := cnt_line (g := 42) (by decide) (most := 40) hn (by decide) (l.flatMap sc_bulk ++ t)
  have e0 : ∀ t', (42 :: (itoa (l.length : Int) ++ (13 :: 10 :: t'))).drop ((itoa (l.length : Int)).length + 3) = t' := by
    intro t'
    rw [List.drop_succ_cons, List.drop_append, List.drop_of_length_le (by omega), show (itoa (l.length : Int)).length + 2 - (itoa (l.length : Int)).length = 2 by omega]; rfl
  unfold cmd
  rw [e, show (40 : Int) = ((40 : Nat) : Int) from rfl, hc]
  simp only [Int.toNat_natCast]
  rw [if_neg (by simp), e0, wds_bulk l hw]
  simp only
  rw [hL]

end Go.Proofs.YtlkcgjablhpfcaaDoor
