/- Plain data of values: what their texts are, which may be, how much memory they take: the package and the document agree. -/
import Derived.Test.YtknghpfoohchhaaLp
import Derived.Test.YtknghpfoohchhaaGMAll
import Derived.KernelRfl
import Derived.Sort.Walk0
namespace Go.Proofs.Ytknghpfoohchhaa
open Go Go.Lift
set_option maxRecDepth 100000
set_option maxHeartbeats 4000000
set_option linter.unusedVariables false

abbrev PairT := List UInt8 × List UInt8 × Unit
abbrev ScoreT := List UInt8 × Int × Unit

/-- All texts of a value. -/
def texts (t : List UInt8) (ps : List PairT) (ls : List (List UInt8)) (ss : List ScoreT) : List (List UInt8) := [t] ++ ps.flatMap (fun p => [p.1, p.2.1]) ++ ls ++ ss.map (·.1)
def isLong (s : List UInt8) : Bool := decide (512 < s.length)

theorem i64_add1 {i : Nat} (h : i < 4611686018427387904) : IntKind.wrap IntKind.i64 ((i : Int) + 1) = ((i + 1 : Nat) : Int) := i64_succ h
theorem i64_pred {i : Nat} (h : i < 4611686018427387904) (h0 : 0 < i) : IntKind.wrap IntKind.i64 ((i : Int) - 1) = ((i - 1 : Nat) : Int) := by rw [i64_id (by omega) (by omega)]; omega

theorem awake_is : intagliolaw15_awake_M = some true := by kernel_rfl

/-! ### All texts -/

theorem texts_loop1 {k : Int} {t : List UInt8} {ps : List PairT} {ls : List (List UInt8)} {ss : List ScoreT} (hp : ps.length ≤ 1000) :
    loop intaglioref15_Texts_L1_P (0, k, t, ps, ls, ss, [t]) = some (k, t, ps, ls, ss, [t] ++ ps.flatMap (fun p => [p.1, p.2.1])) := by
  have h := loop_list (body := intaglioref15_Texts_L1_P) ps (fun i r => ((i : Int), k, t, ps, ls, ss, r)) (fun r p => r ++ [p.1, p.2.1]) (fun r => (k, t, ps, ls, ss, r)) (fun i r => r.length ≤ 2 * i + 1) ?_ ?_ (t := [t]) (by omega) (by simp)
  · have e : ∀ (l : List PairT) (r : List (List UInt8)), l.foldl (fun r p => r ++ [p.1, p.2.1]) r = r ++ l.flatMap (fun p => [p.1, p.2.1]) := by
      intro l
      induction l with
      | nil => intro r; simp
      | cons p l ih => intro r; simp only [List.foldl_cons, List.flatMap_cons, ih, List.append_assoc]
    rw [← e]; exact h.1
  · intro i r hi hr
    simp only [intaglioref15_Texts_L1_P, intaglioref15_Texts_L1]
    rw [if_pos (decide_eq_true (by omega)), ix_nat hi, Option.bind_some, Option.bind_some, room_ok (by simp; omega) (by unfold maxLen; simp; omega), Option.bind_some, i64_add1 (by omega)]
    exact ⟨rfl, by simp; omega⟩
  · intro r hr
    simp only [intaglioref15_Texts_L1_P, intaglioref15_Texts_L1]
    rw [if_neg (by simp)]

theorem texts_loop2 {k : Int} {t : List UInt8} {ps : List PairT} {ls : List (List UInt8)} {ss : List ScoreT} {r0 : List (List UInt8)} (hs : ss.length ≤ 1000) (hr : r0.length ≤ 10000) :
    loop intaglioref15_Texts_L2_P (0, k, t, ps, ls, ss, r0) = some (k, t, ps, ls, ss, r0 ++ ss.map (·.1)) := by
  have h := loop_list (body := intaglioref15_Texts_L2_P) ss (fun i r => ((i : Int), k, t, ps, ls, ss, r)) (fun r p => r ++ [p.1]) (fun r => (k, t, ps, ls, ss, r)) (fun i r => r.length ≤ i + 10000) ?_ ?_ (t := r0) (by omega) (by omega)
  · have e : ∀ (l : List ScoreT) (r : List (List UInt8)), l.foldl (fun r p => r ++ [p.1]) r = r ++ l.map (·.1) := by
      intro l
      induction l with
      | nil => intro r; simp
      | cons p l ih => intro r; simp only [List.foldl_cons, List.map_cons, ih, List.append_assoc]; rfl
    rw [← e]; exact h.1
  · intro i r hi hr
    simp only [intaglioref15_Texts_L2_P, intaglioref15_Texts_L2]
    rw [if_pos (decide_eq_true (by omega)), ix_nat hi, Option.bind_some, room_ok (by simp; omega) (by unfold maxLen; simp; omega), Option.bind_some, i64_add1 (by omega)]
    exact ⟨rfl, by simp; omega⟩
  · intro r hr
    simp only [intaglioref15_Texts_L2_P, intaglioref15_Texts_L2]
    rw [if_neg (by simp)]

/-- Few elements. -/
def Few (ps : List PairT) (ls : List (List UInt8)) (ss : List ScoreT) : Prop := ps.length + ls.length + ss.length ≤ 220

theorem texts_len (t : List UInt8) (ps : List PairT) (ls : List (List UInt8)) (ss : List ScoreT) : (texts t ps ls ss).length = 1 + 2 * ps.length + ls.length + ss.length := by
  have e : (ps.flatMap (fun p => [p.1, p.2.1])).length = 2 * ps.length := by
    induction ps with
    | nil => rfl
    | cons p l ih => simp [List.flatMap_cons, ih]; omega
  simp [texts, e]; omega
theorem pair_len (ps : List PairT) : (ps.flatMap (fun p => [p.1, p.2.1])).length = 2 * ps.length := by
  induction ps with
  | nil => rfl
  | cons p l ih => simp [List.flatMap_cons, ih]; omega

theorem texts_is {k : Int} {t : List UInt8} {ps : List PairT} {ls : List (List UInt8)} {ss : List ScoreT} (h : Few ps ls ss) : intaglioref15_Texts_M k t ps ls ss = some (texts t ps ls ss) := by
  unfold Few at h
  unfold intaglioref15_Texts_M
  rw [texts_loop1 (by omega), Option.bind_some]
  simp only
  have hp := pair_len ps
  rw [room_ok (by simp [hp]; omega) (by unfold maxLen; simp [hp]; omega), Option.bind_some, texts_loop2 (by omega) (by simp [hp]; omega), Option.bind_some]
  rfl

theorem count_is {k : Int} {t : List UInt8} {ps : List PairT} {ls : List (List UInt8)} {ss : List ScoreT} (hp : ps.length ≤ 140737488355328) (hl : ls.length ≤ 140737488355328) (hs : ss.length ≤ 140737488355328) :
    intaglioref15_count_M k t ps ls ss = some ((ps.length + ls.length + ss.length : Nat) : Int) ∧ value_count_M k t ps ls ss = some ((ps.length + ls.length + ss.length : Nat) : Int) := by
  unfold intaglioref15_count_M value_count_M
  rw [i64_id (n := (ps.length : Int) + (ls.length : Int)) (by omega) (by omega), i64_id (by omega) (by omega)]
  exact ⟨by congr 1, by congr 1⟩

/-- As much of a text as counts. -/
def cap5 (s : List UInt8) : Nat := if 5000 < s.length then 5000 else s.length
theorem light_loop {r : List (List UInt8)} (hr : r.length ≤ 100000) : loop intaglioref15_Light_L1_P (0, 0, r) = some ((r.foldl (fun (n : Nat) s => n + cap5 s) 0 : Nat) : Int) := by
  have h := loop_list (body := intaglioref15_Light_L1_P) r (fun i (n : Nat) => ((n : Int), (i : Int), r)) (fun (n : Nat) s => n + cap5 s) (fun n => (n : Int)) (fun i n => n ≤ 5000 * i) ?_ ?_ (t := 0) (by omega) (by simp)
  · exact h.1
  · intro i n hi hn
    simp only [intaglioref15_Light_L1_P, intaglioref15_Light_L1]
    have hg : List.getD r (Int.toNat (i : Int)) (Ty.zero Ty.str) = r[i] := by
      rw [Int.toNat_natCast]; exact (by simp [List.getD, List.getElem?_eq_getElem hi] : List.getD r i _ = r[i])
    rw [if_pos (decide_eq_true (by omega)), inb_ok hi, Option.bind_some, hg, i64_add1 (by omega)]
    have hc : (if (5000 : Int) < ((r[i].length : Nat) : Int) then (5000 : Int) else ((r[i].length : Nat) : Int)) = (cap5 r[i] : Int) := by
      unfold cap5
      by_cases h5 : 5000 < r[i].length
      · rw [if_pos h5, if_pos (by omega)]; rfl
      · rw [if_neg h5, if_neg (by omega)]
    have hc5 : cap5 r[i] ≤ 5000 := by unfold cap5; split <;> omega
    rw [hc, i64_id (by omega) (by omega)]
    refine ⟨by congr 3, by omega⟩
  · intro n hn
    simp only [intaglioref15_Light_L1_P, intaglioref15_Light_L1]
    rw [if_neg (by simp)]

theorem light_is {k : Int} {t : List UInt8} {ps : List PairT} {ls : List (List UInt8)} {ss : List ScoreT} (hp : ps.length ≤ 140737488355328) (hl : ls.length ≤ 140737488355328) (hs : ss.length ≤ 140737488355328) :
    intaglioref15_Light_M k t ps ls ss = some false ∨ (intaglioref15_Light_M k t ps ls ss = some true ∧ Few ps ls ss) := by
  unfold intaglioref15_Light_M
  simp only [intaglioref15_count_P, intaglioref15_Texts_P]
  rw [(count_is hp hl hs).1, Option.bind_some]
  by_cases h : 220 < ps.length + ls.length + ss.length
  · left; rw [if_pos (decide_eq_true (by omega))]
  · have hf : Few ps ls ss := by unfold Few; omega
    rw [if_neg (by simp; omega), texts_is hf, Option.bind_some, light_loop (by rw [texts_len]; omega), Option.bind_some]
    by_cases h5 : (texts t ps ls ss).foldl (fun (n : Nat) s => n + cap5 s) 0 ≤ 5000
    · exact .inr ⟨by rw [decide_eq_true (by omega)], hf⟩
    · left
      rw [decide_eq_false (by omega)]

/-! ### Is there a text too long? -/

theorem one_long {l : List (List UInt8)} {m : Bool} (hl : l.length ≤ 100000) : value_long_1_M l m = some (m || l.any isLong) := by
  have hc : slices_ContainsFunc_string_string_a_M l = some (l.any isLong) := by
    unfold slices_ContainsFunc_string_string_a_M
    simp only [slices_IndexFunc_string_string_a_P]
    unfold slices_IndexFunc_string_string_a_M
    obtain ⟨r, h, hc⟩ := loop_scan (body := slices_IndexFunc_string_string_a_L1_P) (T := Unit) l.length (fun i _ => (l, (l.length : Int), (i : Int))) (fun i => isLong (l.getD i [])) (fun _ _ => ()) (fun i _ => Sum.inr (i : Int)) (fun _ _ => .inl ()) (fun _ _ => True)
      (fun i u hi _ => by
        simp only [slices_IndexFunc_string_string_a_L1_P, slices_IndexFunc_string_string_a_L1, value_long_1_1_P, value_long_1_1_M]
        rw [if_pos (decide_eq_true (by omega)), ix_nat hi, Option.bind_some, Option.bind_some]
        have hg : l.getD i [] = l[i] := by simp [List.getD, List.getElem?_eq_getElem hi]
        rw [hg]
        unfold isLong
        refine ⟨fun hp => ?_, fun hp => ⟨?_, trivial⟩⟩
        · have := of_decide_eq_true hp
          rw [if_pos (decide_eq_true (by omega))]
        · have := of_decide_eq_false hp
          rw [if_neg (by simp; omega), i64_add1 (by omega)])
      (fun u _ => by
        simp only [slices_IndexFunc_string_string_a_L1_P, slices_IndexFunc_string_string_a_L1]
        rw [if_neg (by simp)]) (i := 0) (t := ()) (Nat.zero_le _) (by omega) trivial
    rw [show loop slices_IndexFunc_string_string_a_L1_P (l, (l.length : Int), (0 : Int)) = some r from h, Option.bind_some]
    rw [Nat.sub_zero, anyR_list isLong l []] at hc
    rcases hc with ⟨ha, j, u, _, _, _, _, _, rfl⟩ | ⟨ha, u, _, rfl⟩
    · rw [ha]
      show some (decide ((j : Int) ≥ 0)) = _
      rw [decide_eq_true (by omega)]
    · rw [ha]; rfl
  unfold value_long_1_M
  cases m with
  | true => rw [if_pos rfl]; rfl
  | false => simp only [slices_ContainsFunc_string_string_a_P]; rw [if_neg (by decide), hc]; rfl

theorem long_is {k : Int} {t : List UInt8} {ps : List PairT} {ls : List (List UInt8)} {ss : List ScoreT} (h : Few ps ls ss) : value_long_M k t ps ls ss = some ((texts t ps ls ss).any isLong) := by
  unfold Few at h
  unfold value_long_M
  simp only [value_texts_a_P]
  unfold value_texts_a_M
  simp only [value_long_1_P]
  rw [one_long (by simp), Option.bind_some]
  have h1 := loop_list (body := value_texts_a_L1_P) ps (fun i (m : Bool) => (ps, (ps.length : Int), (i : Int), m, k, t, ps, ls, ss)) (fun m p => m || [p.1, p.2.1].any isLong) (fun m => (m, k, t, ps, ls, ss)) (fun _ _ => True)
    (fun i m hi _ => by
      simp only [value_texts_a_L1_P, value_texts_a_L1, value_long_1_P]
      rw [if_pos (decide_eq_true (by omega)), ix_nat hi, Option.bind_some, one_long (by simp), Option.bind_some, i64_add1 (by omega)]
      exact ⟨rfl, trivial⟩)
    (fun m _ => by
      simp only [value_texts_a_L1_P, value_texts_a_L1]
      rw [if_neg (by simp)]) (t := (false || [t].any isLong)) (by omega) trivial
  rw [show loop value_texts_a_L1_P (ps, (ps.length : Int), (0 : Int), (false || [t].any isLong), k, t, ps, ls, ss) = _ from h1.1, Option.bind_some]
  simp only
  rw [one_long (by omega), Option.bind_some]
  have h2 := loop_list (body := value_texts_a_L2_P) ss (fun i (m : Bool) => (ss, (ss.length : Int), (i : Int), m)) (fun m p => m || [p.1].any isLong) (fun m => m) (fun _ _ => True)
    (fun i m hi _ => by
      simp only [value_texts_a_L2_P, value_texts_a_L2, value_long_1_P]
      rw [if_pos (decide_eq_true (by omega)), ix_nat hi, Option.bind_some, one_long (by simp), Option.bind_some, i64_add1 (by omega)]
      exact ⟨rfl, trivial⟩)
    (fun m _ => by
      simp only [value_texts_a_L2_P, value_texts_a_L2]
      rw [if_neg (by simp)]) (t := (ps.foldl (fun m p => m || [p.1, p.2.1].any isLong) (false || [t].any isLong) || ls.any isLong)) (by omega) trivial
  rw [show loop value_texts_a_L2_P (ss, (ss.length : Int), (0 : Int), _) = _ from h2.1, Option.bind_some, Option.bind_some]
  have e1 : ∀ (l : List PairT) (m : Bool), l.foldl (fun m p => m || [p.1, p.2.1].any isLong) m = (m || (l.flatMap (fun p => [p.1, p.2.1])).any isLong) := by
    intro l
    induction l with
    | nil => intro m; simp
    | cons p l ih => intro m; rw [List.foldl_cons, ih, List.flatMap_cons, List.any_append, Bool.or_assoc]
  have e2 : ∀ (l : List ScoreT) (m : Bool), l.foldl (fun m p => m || [p.1].any isLong) m = (m || (l.map (·.1)).any isLong) := by
    intro l
    induction l with
    | nil => intro m; simp
    | cons p l ih => intro m; rw [List.foldl_cons, ih, List.map_cons, List.any_cons, List.any_cons, List.any_nil, Bool.or_false, Bool.or_assoc]
  rw [e1, e2]
  simp [texts, List.any_append, Bool.or_assoc]

theorem ref_long {k : Int} {t : List UInt8} {ps : List PairT} {ls : List (List UInt8)} {ss : List ScoreT} {r : List (List UInt8)} (hr : r.length ≤ 100000) :
    loop intaglioref15_Check_L1_P (0, k, t, ps, ls, ss, r) = some (if r.any isLong = true then .inr (5, k, t, ps, ls, ss) else .inl (k, t, ps, ls, ss)) := by
  have h := loop_scan' (body := intaglioref15_Check_L1_P) r.length (fun i => ((i : Int), k, t, ps, ls, ss, r)) (fun i => isLong (r.getD i [])) (.inr (5, k, t, ps, ls, ss)) (.inl (k, t, ps, ls, ss)) (i := 0)
    (fun i _ hi => by
      simp only [intaglioref15_Check_L1_P, intaglioref15_Check_L1]
      have hg : List.getD r (Int.toNat (i : Int)) (Ty.zero Ty.str) = r.getD i [] := by rw [Int.toNat_natCast]; rfl
      rw [if_pos (decide_eq_true (by omega)), inb_ok hi, Option.bind_some, hg]
      unfold isLong
      by_cases hp : 512 < (r.getD i []).length
      · rw [if_pos (decide_eq_true (by omega)), if_pos (decide_eq_true hp)]
      · rw [if_neg (by rw [decide_eq_true_eq]; omega), if_neg (by rw [decide_eq_true_eq]; omega), i64_add1 (by omega)])
    (by
      simp only [intaglioref15_Check_L1_P, intaglioref15_Check_L1]
      rw [if_neg (by simp)]) (Nat.zero_le _) (by omega)
  rw [Nat.sub_zero, anyR_list isLong r []] at h
  exact h

/-! ### Do they stand in their order? -/

theorem less_not (x y : List UInt8) : (Op.bytesLess x y || x == y) = !(Op.bytesLess y x) := by
  apply Bool.eq_iff_iff.2
  simp only [Bool.or_eq_true, beq_iff_eq, Bool.not_eq_true', bytesLess_eq, decide_eq_true_eq, decide_eq_false_iff_not]
  constructor
  · rintro (h | rfl)
    · exact List.lt_asymm h
    · exact List.lt_irrefl x
  · intro h
    rcases List.le_iff_lt_or_eq.1 (List.not_lt.1 h) with h | h
    · exact .inl h
    · exact .inr h

def badP (ps : List PairT) (i : Nat) : Bool := !(Op.bytesLess (ps.getD (i - 1) ([], [], ())).1 (ps.getD i ([], [], ())).1)
def badL (k : Int) (ls : List (List UInt8)) (i : Nat) : Bool := (k == 4) && !(Op.bytesLess (ls.getD (i - 1) []) (ls.getD i []))
/-- Does one stand ahead of another one? -/
def lessS (a b : ScoreT) : Bool := if a.2.1 = b.2.1 then Op.bytesLess a.1 b.1 else decide (a.2.1 < b.2.1)
def d0 : ScoreT := ([], 0, ())
def badS (ss : List ScoreT) (i : Nat) : Bool := !(lessS (ss.getD (i - 1) d0) (ss.getD i d0)) || (ss.take i).any fun s => s.1 == (ss.getD i d0).1

theorem zless (a b : ScoreT) : zset_Less_M a.1 a.2.1 b.1 b.2.1 = some (lessS a b) := by
  unfold zset_Less_M lessS
  by_cases h : a.2.1 = b.2.1
  · rw [if_pos h, if_neg (by simp [h])]
  · rw [if_neg h, if_pos (by simp [h])]
theorem rless (a b : ScoreT) : intaglioref14_Less_M a.1 a.2.1 b.1 b.2.1 = some (lessS a b) := by
  unfold intaglioref14_Less_M lessS
  by_cases h : a.2.1 = b.2.1
  · rw [if_pos h, if_neg (by simp [h]), if_pos (by simp [h])]
  · rw [if_neg h]
    by_cases h' : a.2.1 < b.2.1
    · rw [if_pos (decide_eq_true h'), decide_eq_true h']
    · rw [if_neg (by simpa using h'), if_neg (by simpa using h), decide_eq_false h']
theorem lessS_irr (a : ScoreT) : lessS a a = false := by
  unfold lessS
  rw [if_pos rfl, bytesLess_eq, decide_eq_false (List.lt_irrefl _)]

theorem gd {α : Type} {l : List α} {i : Nat} (h : i < l.length) (d : α) : l.getD i d = l[i] := by simp [List.getD, List.getElem?_eq_getElem h]

theorem find_is {l : List ScoreT} {m : List UInt8} (hl : l.length ≤ 100000) : ∃ x, intaglioref14_Find_M l m = some x ∧ (decide (x ≥ 0) = l.any fun s => s.1 == m) ∧ (0 ≤ x → x.toNat < l.length ∧ (l.getD x.toNat d0).1 = m) := by
  unfold intaglioref14_Find_M
  obtain ⟨r, h, hc⟩ := loop_scan (body := intaglioref14_Find_L1_P) (T := Unit) l.length (fun i _ => (l, m, (i : Int))) (fun i => (l.getD i d0).1 == m) (fun _ _ => ()) (fun i _ => Sum.inr (i : Int)) (fun _ _ => .inl ()) (fun _ _ => True)
    (fun i u hi _ => by
      simp only [intaglioref14_Find_L1_P, intaglioref14_Find_L1]
      rw [if_pos (decide_eq_true (by omega)), ix_nat hi, Option.bind_some, gd hi]
      refine ⟨fun hp => ?_, fun hp => ⟨?_, trivial⟩⟩
      · rw [if_pos hp]
      · rw [if_neg (by rw [hp]; decide), i64_add1 (by omega)])
    (fun u _ => by
      simp only [intaglioref14_Find_L1_P, intaglioref14_Find_L1]
      rw [if_neg (by simp)]) (i := 0) (t := ()) (Nat.zero_le _) (by omega) trivial
  rw [show loop intaglioref14_Find_L1_P (l, m, (0 : Int)) = some r from h, Option.bind_some]
  rw [Nat.sub_zero, anyR_list (fun s : ScoreT => s.1 == m) l d0] at hc
  rcases hc with ⟨ha, j, u, _, hj, hp, _, _, rfl⟩ | ⟨ha, u, _, rfl⟩
  · refine ⟨(j : Int), rfl, by rw [ha, decide_eq_true (by omega)], fun _ => ⟨by simpa using hj, ?_⟩⟩
    rw [Int.toNat_natCast]; exact eq_of_beq hp
  · exact ⟨-1, rfl, by rw [ha]; rfl, fun h => by omega⟩

theorem rises1 {k : Int} {t : List UInt8} {ps : List PairT} {ls : List (List UInt8)} {ss : List ScoreT} (hp : ps.length ≤ 100000) :
    loop value_rises_L1_P (1, k, t, ps, ls, ss) = some (if anyR (badP ps) 1 (ps.length - 1) = true then .inr (false, k, t, ps, ls, ss) else .inl (k, t, ps, ls, ss)) ∧
    loop intaglioref15_rises_L1_P (1, k, t, ps, ls, ss) = some (if anyR (badP ps) 1 (ps.length - 1) = true then .inr (false, k, t, ps, ls, ss) else .inl (k, t, ps, ls, ss)) := by
  by_cases h0 : ps.length = 0
  · rw [show ps.length - 1 = 0 by omega]
    refine ⟨?_, ?_⟩
    · exact loop_few 1 (by decide) (by simp only [iter, value_rises_L1_P, value_rises_L1]; rw [if_neg (by simp; omega)]; rfl)
    · exact loop_few 1 (by decide) (by simp only [iter, intaglioref15_rises_L1_P, intaglioref15_rises_L1]; rw [if_neg (by simp; omega)]; rfl)
  refine ⟨?_, ?_⟩
  · refine loop_scan' (body := value_rises_L1_P) ps.length (fun i => ((i : Int), k, t, ps, ls, ss)) (badP ps) _ _ (i := 1) (fun i hi0 hi => ?_) ?_ (by omega) (by omega)
    · simp only [value_rises_L1_P, value_rises_L1]
      rw [if_pos (decide_eq_true (by omega)), i64_pred (by omega) (by omega), ix_nat (by omega), ix_nat hi, Option.bind_some, Option.bind_some, i64_add1 (by omega)]
      unfold badP
      rw [gd (by omega), gd hi]
      split <;> rfl
    · simp only [value_rises_L1_P, value_rises_L1]
      rw [if_neg (by simp)]
  · refine loop_scan' (body := intaglioref15_rises_L1_P) ps.length (fun i => ((i : Int), k, t, ps, ls, ss)) (badP ps) _ _ (i := 1) (fun i hi0 hi => ?_) ?_ (by omega) (by omega)
    · simp only [intaglioref15_rises_L1_P, intaglioref15_rises_L1]
      rw [if_pos (decide_eq_true (by omega)), i64_pred (by omega) (by omega), ix_nat hi, ix_nat (by omega), Option.bind_some, Option.bind_some, i64_add1 (by omega), less_not]
      unfold badP
      rw [gd (by omega), gd hi]
      split <;> rfl
    · simp only [intaglioref15_rises_L1_P, intaglioref15_rises_L1]
      rw [if_neg (by simp)]

theorem rises2 {k : Int} {t : List UInt8} {ps : List PairT} {ls : List (List UInt8)} {ss : List ScoreT} (hp : ls.length ≤ 100000) :
    loop value_rises_L2_P (1, k, t, ps, ls, ss) = some (if anyR (badL k ls) 1 (ls.length - 1) = true then .inr (false, k, t, ps, ls, ss) else .inl (k, t, ps, ls, ss)) ∧
    loop intaglioref15_rises_L2_P (1, k, t, ps, ls, ss) = some (if anyR (badL k ls) 1 (ls.length - 1) = true then .inr (false, k, t, ps, ls, ss) else .inl (k, t, ps, ls, ss)) := by
  by_cases h0 : ls.length = 0
  · rw [show ls.length - 1 = 0 by omega]
    refine ⟨?_, ?_⟩
    · exact loop_few 1 (by decide) (by simp only [iter, value_rises_L2_P, value_rises_L2]; rw [if_neg (by simp; omega)]; rfl)
    · exact loop_few 1 (by decide) (by simp only [iter, intaglioref15_rises_L2_P, intaglioref15_rises_L2]; rw [if_neg (by simp; omega)]; rfl)
  refine ⟨?_, ?_⟩
  · by_cases h4 : (k == 4) = true
    · refine loop_scan' (body := value_rises_L2_P) ls.length (fun i => ((i : Int), k, t, ps, ls, ss)) (badL k ls) _ _ (i := 1) (fun i hi0 hi => ?_) ?_ (by omega) (by omega)
      · simp only [value_rises_L2_P, value_rises_L2]
        rw [if_pos (decide_eq_true (by omega)), if_pos h4, i64_pred (by omega) (by omega), ix_nat (by omega), ix_nat hi, Option.bind_some, Option.bind_some, i64_add1 (by omega)]
        unfold badL
        rw [gd (by omega), gd hi, h4, Bool.true_and]
        split <;> rfl
      · simp only [value_rises_L2_P, value_rises_L2]
        rw [if_neg (by simp)]
    · have hb : anyR (badL k ls) 1 (ls.length - 1) = false := by
        rw [Bool.eq_false_iff, ne_eq, anyR_iff]
        rintro ⟨j, _, _, h⟩
        unfold badL at h
        rw [Bool.not_eq_true] at h4
        rw [h4] at h; cases h
      rw [hb, if_neg (by decide)]
      exact loop_few 1 (by decide) (by
        simp only [iter, value_rises_L2_P, value_rises_L2]
        by_cases h1 : (1 : Int) < (ls.length : Int)
        · rw [if_pos (decide_eq_true h1), if_neg h4]
        · rw [if_neg (by simpa using h1)])
  · refine loop_scan' (body := intaglioref15_rises_L2_P) ls.length (fun i => ((i : Int), k, t, ps, ls, ss)) (badL k ls) _ _ (i := 1) (fun i hi0 hi => ?_) ?_ (by omega) (by omega)
    · simp only [intaglioref15_rises_L2_P, intaglioref15_rises_L2]
      rw [if_pos (decide_eq_true (by omega)), i64_pred (by omega) (by omega), i64_add1 (by omega)]
      unfold badL
      by_cases h4 : (k == 4) = true
      · rw [if_pos h4, ix_nat hi, ix_nat (by omega), Option.bind_some, Option.bind_some, less_not, gd (by omega), gd hi, h4, Bool.true_and]
        split <;> rfl
      · rw [if_neg h4, Bool.eq_false_iff.2 h4, Bool.false_and, if_neg (by decide)]
    · simp only [intaglioref15_rises_L2_P, intaglioref15_rises_L2]
      rw [if_neg (by simp)]

/-- What was counted: each member that came, once. -/
def Seen (d : List (List UInt8 × Int)) (l : List ScoreT) : Prop := ∀ m, Option.getD (mget d m) 0 = if (l.any fun s => s.1 == m) = true then 1 else 0

theorem mget_put (d : List (List UInt8 × Int)) (k m : List UInt8) (v : Int) : mget (mput d k v) m = if m = k then some v else mget d m := by
  induction d with
  | nil =>
    simp only [mput, mget]
    by_cases h : m = k
    · subst h; simp
    · rw [if_neg (by simpa using h), if_neg h]
  | cons x d ih =>
    obtain ⟨a, b⟩ := x
    simp only [mput]
    by_cases hk : (k == a) = true
    · have := eq_of_beq hk
      subst this
      rw [if_pos hk]
      simp only [mget]
      by_cases h : m = k
      · subst h; rw [if_pos (by simp), if_pos rfl]
      · have h' : ¬ (m == k) = true := by simpa using h
        simp only [if_neg h', if_neg h]
    · rw [if_neg hk]
      simp only [mget]
      by_cases h : (m == a) = true
      · have := eq_of_beq h
        subst this
        rw [if_pos h, if_pos h, if_neg]
        intro e; subst e; exact hk (by simp)
      · rw [if_neg h, if_neg h, ih]

theorem rises3 {k : Int} {t : List UInt8} {ps : List PairT} {ls : List (List UInt8)} {ss : List ScoreT} (hp : ss.length ≤ 100000) :
    (∃ r, loop value_rises_L3_P (ss, (ss.length : Int), 0, k, t, ps, ls, ss, []) = some r ∧ ((anyR (badS ss) 1 (ss.length - 1) = true ∧ ∃ q, r = .inr (false, q)) ∨ (anyR (badS ss) 1 (ss.length - 1) = false ∧ ∃ q, r = .inl q))) ∧
    loop intaglioref15_rises_L3_P (1, k, t, ps, ls, ss) = some (if anyR (badS ss) 1 (ss.length - 1) = true then .inr (false, k, t, ps, ls, ss) else .inl (k, t, ps, ls, ss)) := by
  refine ⟨?_, ?_⟩
  · obtain ⟨r, h, hc⟩ := loop_scan (body := value_rises_L3_P) (T := List (List UInt8 × Int)) ss.length (fun i d => (ss, (ss.length : Int), (i : Int), k, t, ps, ls, ss, d)) (fun i => decide (1 ≤ i) && badS ss i)
      (fun i d => mput d (ss.getD i d0).1 1) (fun i d => .inr (false, k, t, ps, ls, ss, mput d (ss.getD i d0).1 (IntKind.wrap IntKind.i64 (Option.getD (mget d (ss.getD i d0).1) (0 : Int) + 1)))) (fun _ d => .inl (k, t, ps, ls, ss, d)) (fun i d => Seen d (ss.take i))
      (fun i d hi hd => by
        simp only [value_rises_L3_P, value_rises_L3, zset_Less_P]
        rw [if_pos (decide_eq_true (by omega)), ix_nat hi, Option.bind_some, mget_put, if_pos rfl, gd hi]
        have hs := hd ss[i].1
        have hdup : badS ss i = (!(lessS (ss.getD (i - 1) d0) ss[i]) || (ss.take i).any fun s => s.1 == ss[i].1) := by unfold badS; rw [gd hi]
        cases ha : (ss.take i).any fun s => s.1 == ss[i].1 with
        | true =>
          rw [ha, if_pos rfl] at hs
          have hi1 : 1 ≤ i := by
            cases i with
            | zero => simp at ha
            | succ i => omega
          refine ⟨fun _ => ?_, fun hn => ?_⟩
          · rw [hs, if_pos (by decide)]
          · rw [hdup, ha, Bool.or_true, decide_eq_true hi1] at hn; cases hn
        | false =>
          rw [ha, if_neg (by decide)] at hs
          rw [hs]
          rw [if_neg (by decide)]
          have hw : IntKind.wrap IntKind.i64 ((0 : Int) + 1) = 1 := by decide
          rw [hw]
          have hnext : Seen (mput d ss[i].1 1) (ss.take (i + 1)) := by
            intro m
            rw [mget_put, List.take_succ_eq_append_getElem hi, List.any_append]
            by_cases hm : m = ss[i].1
            · subst hm; rw [if_pos rfl]; simp
            · rw [if_neg hm, hd m]
              have : ([ss[i]].any fun s => s.1 == m) = false := by simp; exact fun e => hm e.symm
              rw [this, Bool.or_false]
          by_cases hi1 : 1 ≤ i
          · rw [if_pos (decide_eq_true (by omega)), i64_pred (by omega) (by omega), ix_nat (show i - 1 < ss.length by omega), Option.bind_some, zless, Option.bind_some, decide_eq_true hi1, Bool.true_and, hdup, ha, Bool.or_false, gd (show i - 1 < ss.length by omega)]
            refine ⟨fun hp => by rw [if_pos hp], fun hp => ⟨by rw [if_neg (by rw [hp]; decide), i64_add1 (by omega)], hnext⟩⟩
          · obtain rfl : i = 0 := by omega
            rw [if_neg (by simp)]
            refine ⟨fun hp => by simp at hp, fun _ => ⟨by rw [i64_add1 (by omega)], hnext⟩⟩)
      (fun d _ => by
        simp only [value_rises_L3_P, value_rises_L3]
        rw [if_neg (by simp)]) (i := 0) (t := []) (Nat.zero_le _) (by omega) (by intro m; simp [mget])
    have e : anyR (fun i => decide (1 ≤ i) && badS ss i) 0 (ss.length - 0) = anyR (badS ss) 1 (ss.length - 1) := by
      apply Bool.eq_iff_iff.2
      rw [anyR_iff, anyR_iff]
      constructor
      · rintro ⟨j, _, h2, h3⟩
        simp only [Bool.and_eq_true, decide_eq_true_eq] at h3
        exact ⟨j, h3.1, by omega, h3.2⟩
      · rintro ⟨j, h1, h2, h3⟩
        exact ⟨j, Nat.zero_le _, by omega, by simp [h1, h3]⟩
    rw [e] at hc
    refine ⟨r, h, ?_⟩
    rcases hc with ⟨ha, j, d, _, _, _, _, _, rfl⟩ | ⟨ha, d, _, rfl⟩
    · exact .inl ⟨ha, _, rfl⟩
    · exact .inr ⟨ha, _, rfl⟩
  · by_cases h0 : ss.length = 0
    · rw [show ss.length - 1 = 0 by omega]
      exact loop_few 1 (by decide) (by simp only [iter, intaglioref15_rises_L3_P, intaglioref15_rises_L3]; rw [if_neg (by simp; omega)]; rfl)
    refine loop_scan' (body := intaglioref15_rises_L3_P) ss.length (fun i => ((i : Int), k, t, ps, ls, ss)) (badS ss) _ _ (i := 1) (fun i hi0 hi => ?_) ?_ (by omega) (by omega)
    · simp only [intaglioref15_rises_L3_P, intaglioref15_rises_L3, intaglioref14_Less_P, intaglioref14_Find_P]
      have hdup : badS ss i = (!(lessS ss[i - 1] ss[i]) || (ss.take i).any fun s => s.1 == ss[i].1) := by unfold badS; rw [gd hi, gd (show i - 1 < ss.length by omega)]
      rw [if_pos (decide_eq_true (by omega)), i64_pred (by omega) (by omega), ix_nat (by omega), ix_nat hi, Option.bind_some, Option.bind_some, rless, Option.bind_some, hdup]
      by_cases hl : lessS ss[i - 1] ss[i] = true
      · rw [hl, if_neg (by decide), sub_ok (by omega) (by omega) (by omega), Option.bind_some, Option.bind_some]
        obtain ⟨x, hx, h1, _⟩ := find_is (l := ss.take i) (m := ss[i].1) (by rw [List.length_take]; omega)
        rw [show List.drop (Int.toNat 0) (List.take (Int.toNat (i : Int)) ss) = ss.take i by rw [Int.toNat_natCast]; rfl, hx, Option.bind_some, h1, i64_add1 (by omega)]
        simp only [Bool.not_true, Bool.false_or]
        split <;> rfl
      · rw [Bool.not_eq_true] at hl
        rw [hl, if_pos (by decide), if_pos (by simp)]
    · simp only [intaglioref15_rises_L3_P, intaglioref15_rises_L3]
      rw [if_neg (by simp)]

/-- All elements stand in their order. -/
def risesB (k : Int) (ps : List PairT) (ls : List (List UInt8)) (ss : List ScoreT) : Bool := !(anyR (badP ps) 1 (ps.length - 1)) && !(anyR (badL k ls) 1 (ls.length - 1)) && !(anyR (badS ss) 1 (ss.length - 1))

theorem rises_is {k : Int} {t : List UInt8} {ps : List PairT} {ls : List (List UInt8)} {ss : List ScoreT} (h : Few ps ls ss) : value_rises_M k t ps ls ss = some (risesB k ps ls ss) ∧ intaglioref15_rises_M k t ps ls ss = some (risesB k ps ls ss) := by
  unfold Few at h
  have h1 := rises1 (k := k) (t := t) (ps := ps) (ls := ls) (ss := ss) (by omega)
  have h2 := rises2 (k := k) (t := t) (ps := ps) (ls := ls) (ss := ss) (by omega)
  have h3 := rises3 (k := k) (t := t) (ps := ps) (ls := ls) (ss := ss) (by omega)
  unfold value_rises_M intaglioref15_rises_M risesB
  rw [h1.1, h1.2, Option.bind_some, Option.bind_some]
  cases e1 : anyR (badP ps) 1 (ps.length - 1) with
  | true => exact ⟨rfl, rfl⟩
  | false =>
    simp only [Bool.false_eq_true, if_false, Sum.elim_inl]
    rw [h2.1, h2.2, Option.bind_some, Option.bind_some]
    cases e2 : anyR (badL k ls) 1 (ls.length - 1) with
    | true => exact ⟨rfl, rfl⟩
    | false =>
      simp only [Bool.false_eq_true, if_false, Sum.elim_inl]
      rw [h3.2, Option.bind_some]
      obtain ⟨r, hr, hc⟩ := h3.1
      rw [hr, Option.bind_some]
      rcases hc with ⟨e3, q, rfl⟩ | ⟨e3, q, rfl⟩
      · rw [e3]; exact ⟨rfl, rfl⟩
      · rw [e3]; exact ⟨rfl, rfl⟩

/-! ### May it be? -/

def cnt (ps : List PairT) (ls : List (List UInt8)) (ss : List ScoreT) : Nat := ps.length + ls.length + ss.length

/-- Has it something that its kind does not have? -/
def oddB (k : Int) (t : List UInt8) (ps : List PairT) (ls : List (List UInt8)) (ss : List ScoreT) : Bool :=
  !(if k = 1 then decide (cnt ps ls ss = 0) else t == [] && (if k = 2 then decide (ps.length = cnt ps ls ss) else if k = 3 ∨ k = 4 then decide (ls.length = cnt ps ls ss) else decide (ss.length = cnt ps ls ss)))

theorem clean_is {k : Int} {t : List UInt8} {ps : List PairT} {ls : List (List UInt8)} {ss : List ScoreT} (h : Few ps ls ss) (hk : 1 ≤ k) (hk' : k ≤ 5) : value_clean_M k t ps ls ss = some (!(oddB k t ps ls ss)) := by
  unfold Few at h
  have hc := (count_is (k := k) (t := t) (ps := ps) (ls := ls) (ss := ss) (by omega) (by omega) (by omega)).2
  unfold value_clean_M oddB
  simp only [value_count_P, hc, Option.bind_some, Bool.not_not]
  have hb : ∀ (a b : Nat), ((a : Int) == (b : Int)) = decide (a = b) := fun a b => by
    apply Bool.eq_iff_iff.2; rw [beq_iff_eq, decide_eq_true_eq]; omega
  have hb0 : ∀ (a : Nat), ((a : Int) == (0 : Int)) = decide (a = 0) := fun a => by
    apply Bool.eq_iff_iff.2; rw [beq_iff_eq, decide_eq_true_eq]; omega
  simp only [hb, hb0]
  unfold cnt
  obtain rfl | rfl | rfl | rfl | rfl : k = 1 ∨ k = 2 ∨ k = 3 ∨ k = 4 ∨ k = 5 := by omega
  · rfl
  all_goals
    by_cases ht : t = []
    · subst ht; rfl
    · have : (t == []) = false := by simpa using ht
      simp only [this]; rfl

theorem odd_is {k : Int} {t : List UInt8} {ps : List PairT} {ls : List (List UInt8)} {ss : List ScoreT} (hk : 1 ≤ k) (hk' : k ≤ 5) : intaglioref15_odd_M k t ps ls ss = some (oddB k t ps ls ss) := by
  unfold intaglioref15_odd_M oddB
  have hd : ∀ (a : Nat), decide ((a : Int) > 0) = decide (0 < a) := fun a => by
    apply Bool.eq_iff_iff.2; simp
  simp only [hd]
  obtain rfl | rfl | rfl | rfl | rfl : k = 1 ∨ k = 2 ∨ k = 3 ∨ k = 4 ∨ k = 5 := by omega
  all_goals
    by_cases ht : t = []
    · subst ht
      cases ps <;> cases ls <;> cases ss <;> simp [cnt] <;> first | omega | (refine decide_eq_false ?_; omega)
    · have : (t == []) = false := by simpa using ht
      cases ps <;> cases ls <;> cases ss <;> simp [cnt, this] <;> omega

/-- Why plain data is no value; 0: it is one. -/
def checkZ (k : Int) (t : List UInt8) (ps : List PairT) (ls : List (List UInt8)) (ss : List ScoreT) : Int :=
  if k < 1 ∨ 5 < k ∨ oddB k t ps ls ss = true ∨ (k ≠ 1 ∧ cnt ps ls ss = 0) then 1 else if 200 < cnt ps ls ss then 10 else if (texts t ps ls ss).any isLong = true then 5 else if risesB k ps ls ss = true then 0 else 13

theorem check_is {k : Int} {t : List UInt8} {ps : List PairT} {ls : List (List UInt8)} {ss : List ScoreT} (h : Few ps ls ss) : value_Check_M k t ps ls ss = some (checkZ k t ps ls ss) := by
  have hf := h
  unfold Few at h
  have hc := (count_is (k := k) (t := t) (ps := ps) (ls := ls) (ss := ss) (by omega) (by omega) (by omega)).2
  unfold value_Check_M checkZ
  simp only [value_clean_P, value_count_P, value_long_P, value_rises_P]
  by_cases h1 : k < 1
  · rw [if_pos (decide_eq_true h1), if_pos (.inl h1)]
  rw [if_neg (by simpa using h1)]
  by_cases h2 : 5 < k
  · rw [if_pos (decide_eq_true h2), if_pos (.inr (.inl h2))]
  rw [if_neg (by simpa using h2), clean_is hf (by omega) (by omega), Option.bind_some]
  cases ho : oddB k t ps ls ss with
  | true => rw [if_pos (by decide), if_pos (.inr (.inr (.inl rfl)))]
  | false =>
    rw [if_neg (by decide), hc, long_is hf, (rises_is hf).1]
    simp only [Option.bind_some]
    have key : (if decide (((ps.length + ls.length + ss.length : Nat) : Int) > 200) = true then some (10 : Int) else if (texts t ps ls ss).any isLong = true then some 5 else if (!risesB k ps ls ss) = true then some 13 else some 0) =
        some (if 200 < cnt ps ls ss then 10 else if (texts t ps ls ss).any isLong = true then 5 else if risesB k ps ls ss = true then 0 else 13) := by
      unfold cnt
      by_cases h3 : 200 < ps.length + ls.length + ss.length
      · rw [if_pos (decide_eq_true (by omega)), if_pos h3]
      · rw [if_neg (by simp; omega), if_neg h3]
        cases (texts t ps ls ss).any isLong with
        | true => rfl
        | false => cases risesB k ps ls ss <;> rfl
    by_cases hk : k = 1
    · subst hk
      rw [if_neg (show ¬ ((1 : Int) < 1 ∨ (5 : Int) < 1 ∨ false = true ∨ ((1 : Int) ≠ 1 ∧ cnt ps ls ss = 0)) by simp), if_neg (show ¬ ((1 : Int) != 1) = true by decide)]
      exact key
    · rw [if_pos (show (k != 1) = true by simpa using hk)]
      by_cases h0 : cnt ps ls ss = 0
      · rw [if_pos (show k < 1 ∨ 5 < k ∨ false = true ∨ (k ≠ 1 ∧ cnt ps ls ss = 0) from .inr (.inr (.inr ⟨hk, h0⟩)))]
        unfold cnt at h0
        rw [if_pos (by rw [beq_iff_eq]; omega)]
      · rw [if_neg (show ¬ (k < 1 ∨ 5 < k ∨ false = true ∨ (k ≠ 1 ∧ cnt ps ls ss = 0)) by simp only [not_or, not_and]; exact ⟨h1, h2, by decide, fun _ => h0⟩)]
        unfold cnt at h0
        rw [if_neg (by rw [beq_iff_eq]; omega)]
        exact key

theorem rcheck_is {k : Int} {t : List UInt8} {ps : List PairT} {ls : List (List UInt8)} {ss : List ScoreT} (h : Few ps ls ss) : intaglioref15_Check_M k t ps ls ss = some (checkZ k t ps ls ss) := by
  have hf := h
  unfold Few at h
  have hc := (count_is (k := k) (t := t) (ps := ps) (ls := ls) (ss := ss) (by omega) (by omega) (by omega)).1
  unfold intaglioref15_Check_M checkZ
  simp only [intaglioref15_odd_P, intaglioref15_count_P, intaglioref15_Texts_P, intaglioref15_rises_P]
  by_cases h1 : k < 1
  · rw [if_pos (decide_eq_true h1), if_pos (.inl h1)]
  rw [if_neg (by simpa using h1)]
  by_cases h2 : 5 < k
  · rw [if_pos (decide_eq_true h2), if_pos (.inr (.inl h2))]
  rw [if_neg (by simpa using h2), odd_is (by omega) (by omega), Option.bind_some]
  cases ho : oddB k t ps ls ss with
  | true => rw [if_pos (by decide), if_pos (.inr (.inr (.inl rfl)))]
  | false =>
    rw [if_neg (by decide), hc, texts_is hf]
    simp only [Option.bind_some]
    rw [ref_long (by rw [texts_len]; omega)]
    simp only [Option.bind_some]
    have key : (if decide (((ps.length + ls.length + ss.length : Nat) : Int) > 200) = true then some (10 : Int) else
          Sum.elim (fun (v5 : Int × List UInt8 × List PairT × List (List UInt8) × List ScoreT) => Option.bind (intaglioref15_rises_M v5.1 v5.2.1 v5.2.2.1 v5.2.2.2.1 v5.2.2.2.2) fun (v7 : Bool) => if (!v7) = true then some (13 : Int) else some 0) (fun (v6 : Int × Int × List UInt8 × List PairT × List (List UInt8) × List ScoreT) => some v6.1)
            (if (texts t ps ls ss).any isLong = true then Sum.inr (5, k, t, ps, ls, ss) else .inl (k, t, ps, ls, ss))) =
        some (if 200 < cnt ps ls ss then 10 else if (texts t ps ls ss).any isLong = true then 5 else if risesB k ps ls ss = true then 0 else 13) := by
      unfold cnt
      by_cases h3 : 200 < ps.length + ls.length + ss.length
      · rw [if_pos (decide_eq_true (by omega)), if_pos h3]
      · rw [if_neg (by simp; omega), if_neg h3]
        cases (texts t ps ls ss).any isLong with
        | true => rfl
        | false =>
          simp only [Bool.false_eq_true, if_false, Sum.elim_inl]
          rw [(rises_is hf).2, Option.bind_some]
          cases risesB k ps ls ss <;> rfl
    by_cases hk : k = 1
    · subst hk
      rw [if_neg (show ¬ ((1 : Int) < 1 ∨ (5 : Int) < 1 ∨ false = true ∨ ((1 : Int) ≠ 1 ∧ cnt ps ls ss = 0)) by simp), if_neg (show ¬ decide ((1 : Int) > 1) = true by decide)]
      exact key
    · rw [if_pos (show decide (k > 1) = true from decide_eq_true (by omega))]
      by_cases h0 : cnt ps ls ss = 0
      · rw [if_pos (show k < 1 ∨ 5 < k ∨ false = true ∨ (k ≠ 1 ∧ cnt ps ls ss = 0) from .inr (.inr (.inr ⟨hk, h0⟩)))]
        unfold cnt at h0
        rw [if_pos (by rw [beq_iff_eq]; omega)]
      · rw [if_neg (show ¬ (k < 1 ∨ 5 < k ∨ false = true ∨ (k ≠ 1 ∧ cnt ps ls ss = 0)) by simp only [not_or, not_and]; exact ⟨h1, h2, by decide, fun _ => h0⟩)]
        unfold cnt at h0
        rw [if_neg (by rw [beq_iff_eq]; omega)]
        exact key

/-- Why an entry is none; 0: it is one. -/
def entryZ (key : List UInt8) (k : Int) (t : List UInt8) (ps : List PairT) (ls : List (List UInt8)) (ss : List ScoreT) (at' : Int) : Int :=
  if key = [] ∨ 64 < key.length ∨ at' < 0 ∨ 1099511627776 < at' then 1 else checkZ k t ps ls ss

theorem entry_is {key : List UInt8} {k : Int} {t : List UInt8} {ps : List PairT} {ls : List (List UInt8)} {ss : List ScoreT} {a : Int} (h : Few ps ls ss) : value_Entry_M key k t ps ls ss a = some (entryZ key k t ps ls ss a) := by
  unfold value_Entry_M entryZ
  simp only [value_Check_P]
  by_cases h1 : key = []
  · rw [if_pos (by simpa using h1), if_pos (.inl h1)]
  rw [if_neg (by simpa using h1)]
  by_cases h2 : 64 < key.length
  · rw [if_pos (decide_eq_true (by omega)), if_pos (.inr (.inl h2))]
  rw [if_neg (by simp; omega)]
  by_cases h3 : a < 0
  · rw [if_pos (decide_eq_true h3), if_pos (.inr (.inr (.inl h3)))]
  rw [if_neg (by simpa using h3)]
  by_cases h4 : 1099511627776 < a
  · rw [if_pos (decide_eq_true h4), if_pos (.inr (.inr (.inr h4)))]
  rw [if_neg (by simpa using h4), check_is h, Option.bind_some, if_neg (by simp [h1]; omega)]

theorem rentry_is {key : List UInt8} {k : Int} {t : List UInt8} {ps : List PairT} {ls : List (List UInt8)} {ss : List ScoreT} {a : Int} (h : Few ps ls ss) : intaglioref15_Entry_M key k t ps ls ss a = some (entryZ key k t ps ls ss a) := by
  unfold intaglioref15_Entry_M entryZ
  simp only [intaglioref15_Check_P]
  by_cases h1 : key = []
  · subst h1; rw [if_pos (by simp), if_pos (.inl rfl)]
  have hpos := List.length_pos_iff.2 h1
  rw [if_neg (by simp; omega)]
  by_cases h2 : 64 < key.length
  · rw [if_pos (decide_eq_true (by omega)), if_pos (.inr (.inl h2))]
  rw [if_neg (by simp; omega)]
  by_cases h3 : a < 0
  · rw [if_pos (decide_eq_true h3), if_pos (.inr (.inr (.inl h3)))]
  rw [if_neg (by simpa using h3)]
  by_cases h4 : 1099511627776 < a
  · rw [if_pos (decide_eq_true h4), if_pos (.inr (.inr (.inr h4)))]
  rw [if_neg (by simpa using h4), rcheck_is h, Option.bind_some, if_neg (by simp [h1]; omega)]

/-! ### How much memory it takes -/

theorem sizes_is {l : List (List UInt8)} {n : Nat} (hl : l.length ≤ 100000) (hs : ∀ s ∈ l, s.length ≤ 512) (hn : n ≤ 1000000000) : value_Size_1_M l (n : Int) = some ((n + (l.map List.length).sum : Nat) : Int) := by
  unfold value_Size_1_M
  have h := loop_list (body := value_Size_1_L1_P) l (fun i (m : Nat) => (l, (l.length : Int), (i : Int), (m : Int))) (fun (m : Nat) s => m + s.length) (fun m => (m : Int)) (fun i m => m ≤ n + 512 * i)
    (fun i m hi hm => by
      simp only [value_Size_1_L1_P, value_Size_1_L1]
      have := hs l[i] (List.getElem_mem hi)
      rw [if_pos (decide_eq_true (by omega)), ix_nat hi, Option.bind_some, i64_add1 (by omega), i64_id (by omega) (by omega)]
      exact ⟨by congr 5, by omega⟩)
    (fun m _ => by
      simp only [value_Size_1_L1_P, value_Size_1_L1]
      rw [if_neg (by simp)]) (t := n) (by omega) (by omega)
  rw [show loop value_Size_1_L1_P (l, (l.length : Int), (0 : Int), (n : Int)) = _ from h.1, Option.bind_some]
  have e : ∀ (l : List (List UInt8)) (n : Nat), l.foldl (fun (m : Nat) s => m + s.length) n = n + (l.map List.length).sum := by
    intro l
    induction l with
    | nil => intro n; rfl
    | cons s l ih => intro n; rw [List.foldl_cons, ih, List.map_cons, List.sum_cons]; omega
  rw [e]

theorem size_is {k : Int} {t : List UInt8} {ps : List PairT} {ls : List (List UInt8)} {ss : List ScoreT} (h : Few ps ls ss) (hs : ∀ s ∈ texts t ps ls ss, s.length ≤ 512) :
    value_Size_M k t ps ls ss = some ((16 + 8 * cnt ps ls ss + 8 * ss.length + ((texts t ps ls ss).map List.length).sum : Nat) : Int) ∧
    intaglioref15_Size_M k t ps ls ss = some ((16 + 8 * cnt ps ls ss + 8 * ss.length + ((texts t ps ls ss).map List.length).sum : Nat) : Int) := by
  have hf := h
  unfold Few at h
  have hc := count_is (k := k) (t := t) (ps := ps) (ls := ls) (ss := ss) (by omega) (by omega) (by omega)
  have hn : IntKind.wrap IntKind.i64 (IntKind.wrap IntKind.i64 (16 + IntKind.wrap IntKind.i64 (8 * ((ps.length + ls.length + ss.length : Nat) : Int))) + IntKind.wrap IntKind.i64 (8 * (ss.length : Int))) = ((16 + 8 * cnt ps ls ss + 8 * ss.length : Nat) : Int) := by
    unfold cnt
    rw [i64_id (n := 8 * ((ps.length + ls.length + ss.length : Nat) : Int)) (by omega) (by omega), i64_id (n := 8 * (ss.length : Int)) (by omega) (by omega), i64_id (n := 16 + _) (by omega) (by omega), i64_id (by omega) (by omega)]
    omega
  have hsum : ∀ (l : List (List UInt8)), (∀ s ∈ l, s.length ≤ 512) → (l.map List.length).sum ≤ 512 * l.length := by
    intro l
    induction l with
    | nil => intro _; exact Nat.le_refl _
    | cons s l ih =>
      intro h
      rw [List.map_cons, List.sum_cons, List.length_cons]
      have h1 := h s (by simp)
      have h2 := ih fun x hx => h x (by simp [hx])
      omega
  have mem1 : ∀ s, s ∈ [t] ∨ s ∈ ps.flatMap (fun p => [p.1, p.2.1]) ∨ s ∈ ls ∨ s ∈ ss.map (·.1) → s.length ≤ 512 := fun s hm => hs s (by
    unfold texts
    simp only [List.mem_append]
    rcases hm with h | h | h | h
    · exact .inl (.inl (.inl h))
    · exact .inl (.inl (.inr h))
    · exact .inl (.inr h)
    · exact .inr h)
  refine ⟨?_, ?_⟩
  · unfold value_Size_M
    simp only [value_Size_R1_P, value_texts_b_P]
    unfold value_Size_R1
    simp only [value_count_P]
    rw [hc.2, Option.bind_some, Option.bind_some]
    simp only
    rw [hn]
    unfold value_texts_b_M
    simp only [value_Size_1_P]
    rw [sizes_is (by simp) (fun s hs => mem1 s (.inl hs)) (by unfold cnt; omega), Option.bind_some]
    have h1 := loop_list (body := value_texts_b_L1_P) ps (fun i (m : Nat) => (ps, (ps.length : Int), (i : Int), (m : Int), k, t, ps, ls, ss)) (fun m p => m + ([p.1, p.2.1].map List.length).sum) (fun m => ((m : Int), k, t, ps, ls, ss)) (fun i m => m ≤ 1024 * i + 100000)
      (fun i m hi hm => by
        have hmem : ∀ s ∈ [(ps[i]).1, (ps[i]).2.1], s.length ≤ 512 := fun s hs => mem1 s (.inr (.inl (List.mem_flatMap.2 ⟨ps[i], List.getElem_mem hi, hs⟩)))
        simp only [value_texts_b_L1_P, value_texts_b_L1, value_Size_1_P]
        rw [if_pos (decide_eq_true (by omega)), ix_nat hi, Option.bind_some, sizes_is (by simp) hmem (by omega), Option.bind_some, i64_add1 (by omega)]
        have := hsum _ hmem
        simp only [List.length_cons, List.length_nil] at this
        exact ⟨rfl, by omega⟩)
      (fun m _ => by
        simp only [value_texts_b_L1_P, value_texts_b_L1]
        rw [if_neg (by simp)]) (t := 16 + 8 * cnt ps ls ss + 8 * ss.length + ([t].map List.length).sum) (by omega) (by
          have := hsum [t] (fun s hs => mem1 s (.inl hs))
          simp only [List.length_cons, List.length_nil] at this
          unfold cnt; omega)
    rw [show loop value_texts_b_L1_P (ps, (ps.length : Int), (0 : Int), _, k, t, ps, ls, ss) = _ from h1.1, Option.bind_some]
    simp only
    rw [sizes_is (by omega) (fun s hs => mem1 s (.inr (.inr (.inl hs)))) (by have := h1.2; omega), Option.bind_some]
    have h2 := loop_list (body := value_texts_b_L2_P) ss (fun i (m : Nat) => (ss, (ss.length : Int), (i : Int), (m : Int))) (fun m p => m + ([p.1].map List.length).sum) (fun m => (m : Int)) (fun i m => m ≤ 1024 * i + 100000000)
      (fun i m hi hm => by
        have hmem : ∀ s ∈ [(ss[i]).1], s.length ≤ 512 := fun s hs => mem1 s (.inr (.inr (.inr (List.mem_map.2 ⟨ss[i], List.getElem_mem hi, by simpa using (List.mem_singleton.1 hs).symm⟩))))
        simp only [value_texts_b_L2_P, value_texts_b_L2, value_Size_1_P]
        rw [if_pos (decide_eq_true (by omega)), ix_nat hi, Option.bind_some, sizes_is (by simp) hmem (by omega), Option.bind_some, i64_add1 (by omega)]
        have := hsum _ hmem
        simp only [List.length_cons, List.length_nil] at this
        exact ⟨rfl, by omega⟩)
      (fun m _ => by
        simp only [value_texts_b_L2_P, value_texts_b_L2]
        rw [if_neg (by simp)]) (t := ps.foldl (fun m p => m + ([p.1, p.2.1].map List.length).sum) (16 + 8 * cnt ps ls ss + 8 * ss.length + ([t].map List.length).sum) + (ls.map List.length).sum) (by omega) (by
          have := hsum ls (fun s hs => mem1 s (.inr (.inr (.inl hs))))
          have := h1.2
          omega)
    rw [show loop value_texts_b_L2_P (ss, (ss.length : Int), (0 : Int), _) = _ from h2.1, Option.bind_some, Option.bind_some]
    have e1 : ∀ (l : List PairT) (m : Nat), l.foldl (fun m p => m + ([p.1, p.2.1].map List.length).sum) m = m + ((l.flatMap (fun p => [p.1, p.2.1])).map List.length).sum := by
      intro l
      induction l with
      | nil => intro m; rfl
      | cons p l ih => intro m; rw [List.foldl_cons, ih, List.flatMap_cons, List.map_append, List.sum_append]; omega
    have e2 : ∀ (l : List ScoreT) (m : Nat), l.foldl (fun m p => m + ([p.1].map List.length).sum) m = m + ((l.map (·.1)).map List.length).sum := by
      intro l
      induction l with
      | nil => intro m; rfl
      | cons p l ih => intro m; rw [List.foldl_cons, ih, List.map_cons, List.map_cons, List.sum_cons]; simp; omega
    rw [e1, e2]
    unfold texts
    rw [List.map_append, List.map_append, List.map_append, List.sum_append, List.sum_append, List.sum_append]
    congr 2
    omega
  · unfold intaglioref15_Size_M
    simp only [intaglioref15_count_P, intaglioref15_Texts_P]
    rw [hc.1, Option.bind_some, texts_is hf, Option.bind_some, hn]
    have hl := texts_len t ps ls ss
    have h := loop_list (body := intaglioref15_Size_L1_P) (texts t ps ls ss) (fun i (m : Nat) => ((m : Int), (i : Int), texts t ps ls ss)) (fun (m : Nat) s => m + s.length) (fun m => (m : Int)) (fun i m => m ≤ 100000 + 512 * i)
      (fun i m hi hm => by
        simp only [intaglioref15_Size_L1_P, intaglioref15_Size_L1]
        have := hs _ (List.getElem_mem hi)
        have hg : List.getD (texts t ps ls ss) (Int.toNat (i : Int)) (Ty.zero Ty.str) = (texts t ps ls ss)[i] := by
          rw [Int.toNat_natCast]; exact (by simp [List.getD, List.getElem?_eq_getElem hi] : List.getD (texts t ps ls ss) i _ = (texts t ps ls ss)[i])
        rw [if_pos (decide_eq_true (by omega)), inb_ok hi, Option.bind_some, hg, i64_add1 (by omega), i64_id (by omega) (by omega)]
        exact ⟨by congr 3, by omega⟩)
      (fun m _ => by
        simp only [intaglioref15_Size_L1_P, intaglioref15_Size_L1]
        rw [if_neg (by simp)]) (t := 16 + 8 * cnt ps ls ss + 8 * ss.length) (by omega) (by unfold cnt; omega)
    rw [show loop intaglioref15_Size_L1_P (_, (0 : Int), texts t ps ls ss) = _ from h.1, Option.bind_some]
    have e : ∀ (l : List (List UInt8)) (n : Nat), l.foldl (fun (m : Nat) s => m + s.length) n = n + (l.map List.length).sum := by
      intro l
      induction l with
      | nil => intro n; rfl
      | cons s l ih => intro n; rw [List.foldl_cons, ih, List.map_cons, List.sum_cons]; omega
    rw [e]

theorem checkZ_ok {k : Int} {t : List UInt8} {ps : List PairT} {ls : List (List UInt8)} {ss : List ScoreT} (h : checkZ k t ps ls ss = 0) :
    1 ≤ k ∧ k ≤ 5 ∧ oddB k t ps ls ss = false ∧ (k ≠ 1 → cnt ps ls ss ≠ 0) ∧ cnt ps ls ss ≤ 200 ∧ (∀ s ∈ texts t ps ls ss, s.length ≤ 512) ∧ risesB k ps ls ss = true := by
  unfold checkZ at h
  split at h
  · cases h
  · rename_i h1
    simp only [not_or, not_and, Bool.not_eq_true] at h1
    split at h
    · cases h
    · split at h
      · cases h
      · rename_i h2 h3
        split at h
        · rename_i h4
          refine ⟨by omega, by omega, h1.2.2.1, h1.2.2.2, by omega, fun s hs => ?_, h4⟩
          rw [Bool.not_eq_true, List.any_eq_false] at h3
          have := h3 s hs
          unfold isLong at this
          simpa using this
        · cases h
end Go.Proofs.Ytknghpfoohchhaa
