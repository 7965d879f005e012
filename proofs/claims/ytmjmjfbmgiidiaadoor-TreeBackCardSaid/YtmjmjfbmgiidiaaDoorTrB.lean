/- The root of any chunks: what the package and the document's answer come to. -/
import Derived.Test.YtmjmjfbmgiidiaaDoorTrA
import Derived.Test.YtmjmjfbmgiidiaaDoorSh2
namespace Go.Proofs.YtmjmjfbmgiidiaaDoor
open Go Go.Lift
set_option maxRecDepth 100000
set_option maxHeartbeats 4000000
set_option linter.unusedVariables false

theorem dig_ln (t : List Int) : (digest t).1.length = 32 := (digest t).2
theorem arr_tk (a : Arr 32 Int) : List.drop (nat_lit 0) (List.take (nat_lit 32) a.1) = a.1 := by
  show List.drop 0 (List.take 32 a.1) = a.1
  rw [List.drop_zero, List.take_of_length_le (Nat.le_of_eq a.2)]
def leafT (c : List Int) : List Int := 0 :: c
def leafF (c : List Int) : Arr 32 Int := digest (leafT c)
def nodeT (a b : Arr 32 Int) : List Int := 1 :: (a.1 ++ b.1)
def nodeF (a b : Arr 32 Int) : Arr 32 Int := digest (nodeT a b)
def noneF : Arr 32 Int := digest [2]
theorem by_cons {x : Int} {l : List Int} (h0 : 0 ≤ x) (h : x ≤ 255) (hl : By l) : By (x :: l) := fun y hy => by
  rcases List.mem_cons.1 hy with rfl | hy
  · exact ⟨h0, h⟩
  · exact hl y hy
theorem leafT_by {c : List Int} (h : By c) : By (leafT c) := by_cons (by decide) (by decide) h
theorem nodeT_by {a b : Arr 32 Int} (ha : By a.1) (hb : By b.1) : By (nodeT a b) := by_cons (by decide) (by decide) (ha.app hb)
theorem nodeT_len (a b : Arr 32 Int) : (nodeT a b).length = 65 := by
  have := a.2; have := b.2
  simp only [nodeT, List.length_cons, List.length_append]; omega

theorem join_t {l : List (List Int)} (hl : l.flatten.length ≤ 1000000000) (hn : l.length ≤ 1000000) : pack_Join_M l = some l.flatten := by
  unfold pack_Join_M
  have h := loop_count (body := pack_Join_L1_P) (T := Unit) l.length (fun i _ => (l, (l.length : Int), (i : Int), (l.take i).flatten)) (fun _ _ => ()) (fun _ => l.flatten) (fun _ _ => True) (i := 0) (t := ()) ?_ ?_ (by omega) (by omega) trivial
  · have h1 := h.1
    simp only [List.take_zero, List.flatten_nil] at h1
    rw [show (((0 : Nat) : Int)) = 0 from rfl] at h1
    rw [h1]; rfl
  · intro i t hi _
    refine ⟨?_, trivial⟩
    simp only [pack_Join_L1_P, pack_Join_L1]
    have e : (l.take (i + 1)).flatten = (l.take i).flatten ++ l[i] := by rw [List.take_succ_eq_append_getElem hi, List.flatten_append, List.flatten_cons, List.flatten_nil, List.append_nil]
    have hle : (l.take (i + 1)).flatten.length ≤ l.flatten.length := by
      conv => rhs; rw [← List.take_append_drop (i + 1) l, List.flatten_append, List.length_append]
      omega
    rw [if_pos (by simp; omega), ix_nat hi, Option.bind_some, room_one (by rw [e, List.length_append] at hle; omega), Option.bind_some, i64_succ (by omega), e]
  · intro t _
    simp only [pack_Join_L1_P, pack_Join_L1]
    rw [if_neg (by simp), List.take_length]

theorem Leaf_is {c : List Int} (hc : By c) (hl : c.length ≤ 1000000) : tree_Leaf_M c = some (leafF c) := by
  unfold tree_Leaf_M
  simp only [pack_Join_P, sha_Sum_P]
  rw [join_t (by simp; omega) (by simp), Option.bind_some]
  simp only [List.flatten_cons, List.flatten_nil, List.append_nil]
  rw [show ([0] ++ c : List Int) = leafT c from rfl, Sum_is (leafT_by hc) (by simp [leafT]; omega), Option.bind_some]; rfl
theorem Node_is {a b : Arr 32 Int} (ha : By a.1) (hb : By b.1) : tree_Node_M a b = some (nodeF a b) := by
  have := a.2; have := b.2
  unfold tree_Node_M
  simp only [pack_Join_P, sha_Sum_P, subn_ok (m := 32) (lo := 0) (hi := 32) (by decide) (by decide) (by decide), Option.bind_some, arr_tk]
  rw [join_t (by simp [List.flatten_cons]; omega) (by simp), Option.bind_some]
  simp only [List.flatten_cons, List.flatten_nil, List.append_nil]
  rw [show ([1] ++ (a.1 ++ b.1) : List Int) = nodeT a b from rfl, Sum_is (nodeT_by ha hb) (by rw [nodeT_len]; decide), Option.bind_some]; rfl
theorem none_is : tree_none_M = some noneF := by
  unfold tree_none_M
  simp only [sha_Sum_P]
  rw [Sum_is (by_cons (by decide) (by decide) By.nil) (by decide), Option.bind_some]; rfl
theorem rLeafText_is {c : List Int} (hl : c.length ≤ 1000000) : intaglioref12_LeafText_M c = some (leafT c) := by
  unfold intaglioref12_LeafText_M
  simp only [intaglioref01_Both_P]
  rw [both (by simp; omega), Option.bind_some]; rfl
theorem rLeaf_is {c : List Int} (hc : By c) (hl : c.length ≤ 1000000) : intaglioref12_Leaf_M c = some (leafF c) := by
  unfold intaglioref12_Leaf_M
  simp only [intaglioref12_LeafText_P, intaglioref05_Sum_P]
  rw [rLeafText_is hl, Option.bind_some, rSum_is (leafT_by hc) (by simp [leafT]; omega), Option.bind_some]; rfl
theorem rNodeText_is (a b : Arr 32 Int) : intaglioref12_NodeText_M a b = some (nodeT a b) := by
  have := a.2; have := b.2
  unfold intaglioref12_NodeText_M
  simp only [intaglioref01_Both_P, subn_ok (m := 32) (lo := 0) (hi := 32) (by decide) (by decide) (by decide), Option.bind_some, arr_tk]
  rw [both (by simp; omega), Option.bind_some, both (by simp; omega), Option.bind_some]
  unfold nodeT
  simp
theorem rNode_is {a b : Arr 32 Int} (ha : By a.1) (hb : By b.1) : intaglioref12_Node_M a b = some (nodeF a b) := by
  unfold intaglioref12_Node_M
  simp only [intaglioref12_NodeText_P, intaglioref05_Sum_P]
  rw [rNodeText_is, Option.bind_some, rSum_is (nodeT_by ha hb) (by rw [nodeT_len]; decide), Option.bind_some]; rfl

/-! ### The root of chunks -/

def rootS (l : List (List Int)) : Arr 32 Int :=
  if h : 2 ≤ l.length then nodeF (rootS (l.take (half l.length))) (rootS (l.drop (half l.length)))
  else if l.length = 0 then noneF else leafF (l.getD 0 [])
termination_by l.length
decreasing_by
  · have := half_lt h
    simp; omega
  · have := half_pos l.length
    simp; omega
theorem rootS_more {l : List (List Int)} (h : 2 ≤ l.length) : rootS l = nodeF (rootS (l.take (half l.length))) (rootS (l.drop (half l.length))) := by rw [rootS, dif_pos h]
theorem rootS_nil : rootS [] = noneF := by rw [rootS, dif_neg (by decide)]; rfl
theorem rootS_one (c : List Int) : rootS [c] = leafF c := by rw [rootS, dif_neg (by simp)]; rfl
theorem rootS_by (l : List (List Int)) : By (rootS l).1 := by
  rw [rootS]
  split
  · exact digest_by _
  · split
    · exact digest_by _
    · exact digest_by _
/-- A whole power of two, and what is left. -/
theorem rootS_app {k : Nat} {s r : List (List Int)} (hs : s.length = 2 ^ k) (h0 : 0 < r.length) (hr : r.length ≤ 2 ^ k) : rootS (s ++ r) = nodeF (rootS s) (rootS r) := by
  have hp := Nat.two_pow_pos k
  have hl : (s ++ r).length = 2 ^ k + r.length := by rw [List.length_append, hs]
  have hh : half (s ++ r).length = s.length := by rw [hs, hl]; exact half_of (by omega) (by rw [Nat.pow_succ]; omega)
  rw [rootS_more (by omega), hh, List.take_left, List.drop_left]

/-- Chunks that may be. -/
def Chk (l : List (List Int)) : Prop := l.length ≤ 1000000 ∧ ∀ c ∈ l, By c ∧ c.length ≤ 1000000
theorem Chk.take {l : List (List Int)} (h : Chk l) (n : Nat) : Chk (l.take n) := ⟨by have := h.1; simp; omega, fun c hc => h.2 c (List.mem_of_mem_take hc)⟩
theorem Chk.drop {l : List (List Int)} (h : Chk l) (n : Nat) : Chk (l.drop n) := ⟨by have := h.1; simp; omega, fun c hc => h.2 c (List.mem_of_mem_drop hc)⟩
theorem Chk.nil : Chk [] := ⟨by simp, fun c hc => by cases hc⟩

theorem sub_take {β : Type} {l : List β} {k : Nat} (h : k ≤ l.length) : sub l 0 (k : Int) = some (l.take k) := by
  rw [sub_ok (by decide) (by omega) (by omega)]; simp
theorem sub_drop {β : Type} {l : List β} {k : Nat} (h : k ≤ l.length) : sub l (k : Int) (l.length : Int) = some (l.drop k) := by
  rw [sub_ok (by omega) (by omega) (by omega)]; simp

theorem rRoot_F (n : Nat) : ∀ l : List (List Int), l.length < n → Chk l → intaglioref12_Root_F n l = some (rootS l) := by
  induction n with
  | zero => intro l h; omega
  | succ n ih =>
    intro l h hc
    have hc1 := hc.1
    show intaglioref12_Root_S (intaglioref12_Root_F n) l = _
    unfold intaglioref12_Root_S
    simp only [intaglioref05_Sum_P, intaglioref12_Leaf_P, intaglioref12_Half_P, intaglioref12_Node_P]
    match l, h, hc, hc1 with
    | [], _, _, _ =>
      rw [if_pos (by simp), rSum_is (by_cons (by decide) (by decide) By.nil) (by decide), Option.bind_some, rootS_nil]; rfl
    | [c], _, hc, _ =>
      obtain ⟨hb, hl⟩ := hc.2 c (by simp)
      rw [if_neg (by simp), if_pos (by simp), show ((0 : Int)) = ((0 : Nat) : Int) from rfl, ix_nat (by simp), Option.bind_some, rootS_one]
      simp only [List.getElem_cons_zero]
      rw [rLeaf_is hb hl, Option.bind_some]
    | a :: b :: l', h, hc, hc1 =>
      generalize hL : a :: b :: l' = l at h hc hc1
      have h2 : 2 ≤ l.length := by rw [← hL]; simp
      have hh := half_lt h2
      have hp := half_pos l.length
      rw [if_neg (by simp; intro e; subst e; simp at h2), if_neg (by simp; omega), Half_is h2 (by omega), Option.bind_some, sub_take (by omega), Option.bind_some, sub_drop (by omega), Option.bind_some,
        ih _ (by simp; omega) (hc.take _), Option.bind_some, ih _ (by simp; omega) (hc.drop _), Option.bind_some, rNode_is (rootS_by _) (rootS_by _), Option.bind_some, rootS_more h2]
theorem rRoot_is {l : List (List Int)} (h : l.length ≤ 900000) (hc : Chk l) : intaglioref12_Root_M l = some (rootS l) := by
  unfold intaglioref12_Root_M
  rw [fuel_is]
  exact rRoot_F _ l (by omega) hc

/-! ### The Builder -/

abbrev PT : Type := Int × Arr 32 Int × Unit
/-- The parts of some chunks: powers of two from 2^j on, the greatest first. -/
inductive Pk : Nat → List PT → List (List Int) → Prop
  | nil (j : Nat) : Pk j [] []
  | snoc {j k : Nat} {ps : List PT} {l s : List (List Int)} : Pk (k + 1) ps l → s.length = 2 ^ k → j ≤ k → Pk j (ps ++ [(((2 ^ k : Nat) : Int), rootS s, ())]) (l ++ s)
theorem Pk.less {j j' : Nat} {ps : List PT} {l : List (List Int)} (h : Pk j ps l) (hj : j' ≤ j) : Pk j' ps l := by
  cases h with
  | nil => exact .nil _
  | snoc h h1 h2 => exact .snoc h h1 (by omega)
theorem Pk.len {j : Nat} {ps : List PT} {l : List (List Int)} (h : Pk j ps l) : ps.length ≤ l.length := by
  induction h with
  | nil => exact Nat.le_refl _
  | snoc _ h1 _ ih =>
    rename_i k _ _ _ _ _
    have := Nat.two_pow_pos k
    simp only [List.length_append, List.length_cons, List.length_nil]; omega
theorem Pk.zero {j : Nat} {ps : List PT} {l : List (List Int)} (h : Pk j ps l) (h0 : ps = []) : l = [] := by
  cases h with
  | nil => rfl
  | snoc => simp at h0

theorem snoc_get (ps : List PT) (p d : PT) : (ps ++ [p]).getD ps.length d = p := by simp [List.getD]
theorem snoc_take (ps : List PT) (p : PT) : (ps ++ [p]).take ps.length = ps := by simp

theorem Add_is {l : List (List Int)} {c : List Int} {r : List PT} (h : Pk 0 r l) (hc : By c) (hcl : c.length ≤ 1000000) (hl : l.length ≤ 1000000) :
    ∃ r', tree_Builder_Add_M c (l.length : Int) true r = some ((((l ++ [c]).length : Nat) : Int), true, r') ∧ Pk 0 r' (l ++ [c]) := by
  unfold tree_Builder_Add_M
  simp only [tree_Leaf_P]
  rw [if_neg (by decide), Leaf_is hc hcl, Option.bind_some]
  have hr := h.len
  refine Exists.elim (loop_meas (body := tree_Builder_Add_L1_P)
    (fun (x : Int × Int × Bool × Int × Arr 32 Int × List PT) => x.1 = ((x.2.2.2.2.2.length : Nat) : Int) - 1 ∧ x.2.1 = (((l ++ [c]).length : Nat) : Int) ∧ x.2.2.1 = true ∧
      ∃ j a s, Pk j x.2.2.2.2.2 a ∧ s.length = 2 ^ j ∧ x.2.2.2.1 = ((2 ^ j : Nat) : Int) ∧ x.2.2.2.2.1 = rootS s ∧ a ++ s = l ++ [c])
    (fun x => x.2.2.2.2.2.length)
    (fun (y : Int × Bool × Int × Arr 32 Int × List PT) => y.1 = (((l ++ [c]).length : Nat) : Int) ∧ y.2.1 = true ∧ ∃ j a s, Pk (j + 1) y.2.2.2.2 a ∧ s.length = 2 ^ j ∧ y.2.2.1 = ((2 ^ j : Nat) : Int) ∧ y.2.2.2.1 = rootS s ∧ a ++ s = l ++ [c])
    (s := (IntKind.i64.wrap (((r.length : Nat) : Int) - 1), IntKind.i64.wrap ((l.length : Int) + 1), true, 1, leafF c, r)) ?_ (by simp; omega) ?_) ?_
  · refine ⟨by simp only; rw [i64_id (by omega) (by omega)], by simp only; rw [i64_succ (by omega)]; simp, rfl, 0, l, [c], h, rfl, rfl, (rootS_one c).symm, rfl⟩
  · rintro ⟨k, n, m, x, y, r⟩ ⟨e1, e2, e3, j, a, s, hP, hs, e4, e5, e6⟩
    simp only at e1 e2 e3 hP e4 e5
    subst e1 e2 e3 e4 e5
    simp only [tree_Builder_Add_L1_P, tree_Builder_Add_L1]
    have hal : a.length + s.length = l.length + 1 := by have := congrArg List.length e6; simp only [List.length_append, List.length_cons, List.length_nil] at this; omega
    have hp := Nat.two_pow_pos j
    cases hP with
    | nil =>
      right
      rw [if_neg (by simp)]
      exact ⟨_, rfl, rfl, rfl, j, [], s, .nil _, hs, rfl, rfl, e6⟩
    | @snoc _ k ps b t hP ht hk =>
      have hlen := hP.len
      rw [List.length_append] at hal
      rw [if_pos (by simp), show ((((ps ++ [(((2 ^ k : Nat) : Int), rootS t, ())]).length : Nat) : Int) - 1) = ((ps.length : Nat) : Int) by simp, inb_ok (by simp), Option.bind_some, Int.toNat_natCast]
      erw [snoc_get]
      by_cases hkj : k = j
      · left
        subst hkj
        rw [if_pos (by simp)]
        simp only [tree_Node_P]
        rw [Option.bind_some, Node_is (rootS_by _) (rootS_by _), Option.bind_some, subn_ok (by decide) (by omega) (by simp; omega), Option.bind_some, snoc_take]
        refine ⟨_, rfl, ⟨?_, rfl, rfl, k + 1, b, t ++ s, hP, by rw [List.length_append, ht, hs, Nat.pow_succ]; omega, ?_, ?_, ?_⟩, ?_⟩
        · simp only; rw [i64_id (by omega) (by omega)]; rfl
        · simp only; rw [i64_id (by omega) (by omega), Nat.pow_succ]; omega
        · simp only; rw [rootS_app ht (by omega) (by omega)]
        · rw [← e6, List.append_assoc]
        · simp
      · right
        have : (((2 ^ k : Nat) : Int) == ((2 ^ j : Nat) : Int)) = false := by
          rw [beq_eq_false_iff_ne]
          intro e
          exact hkj (Nat.pow_right_inj (show 1 < 2 by decide) |>.1 (Int.ofNat_inj.1 e))
        rw [if_neg (by simp only [this]; decide)]
        exact ⟨_, rfl, rfl, rfl, j, b ++ t, s, Pk.snoc hP ht (by omega), hs, rfl, rfl, e6⟩
  · rintro ⟨y1, y2, y3, y4, y5⟩ ⟨hq, e1, e2, j, a, s, hP, hs, e3, e4, e5⟩
    simp only at hP e1 e2 e3 e4
    subst e1 e2 e3 e4
    have hlen := hP.len
    have hal : a.length + 2 ^ j = l.length + 1 := by have := congrArg List.length e5; simp at this; omega
    have hp := Nat.two_pow_pos j
    rw [hq, Option.bind_some]
    simp only
    rw [room_ok (by simp; omega) (by simp [maxLen]; omega), Option.bind_some]
    exact ⟨_, rfl, e5 ▸ Pk.snoc hP hs (Nat.zero_le _)⟩

theorem bRoot_is {l : List (List Int)} {r : List PT} (h : Pk 0 r l) (hl : l.length ≤ 1000000) :
    tree_Builder_Root_M (l.length : Int) true r = some (rootS l, (l.length : Int), true, r) := by
  unfold tree_Builder_Root_M
  simp only [tree_Builder_Len_P, tree_Builder_Len_M, Option.bind_some, tree_none_P]
  have hr := h.len
  by_cases h0 : l.length = 0
  · have : l = [] := List.length_eq_zero_iff.1 h0
    subst this
    rw [if_pos (by simp), none_is, Option.bind_some, rootS_nil]
  · rw [if_neg (by simp; intro e; subst e; simp at h0)]
    cases h with
    | nil => simp at h0
    | @snoc _ k ps b t hP ht hk =>
      have hlen := hP.len
      simp only [List.length_append, List.length_cons, List.length_nil] at hr hl
      have hp := Nat.two_pow_pos k
      have e0 : IntKind.i64.wrap ((((ps ++ [(((2 ^ k : Nat) : Int), rootS t, ())]).length : Nat) : Int) - 1) = ((ps.length : Nat) : Int) := by
        rw [List.length_append, List.length_cons, List.length_nil, i64_id (by omega) (by omega)]; omega
      rw [e0, inb_ok (by simp), Option.bind_some, Int.toNat_natCast]
      erw [snoc_get]
      simp only
      generalize hR : ps ++ [(((2 ^ k : Nat) : Int), rootS t, ())] = R
      generalize hN : (((b ++ t).length : Nat) : Int) = N
      rw [loop_is (r := (N, true, Arr.rep (32 : Nat) (0 : Int), rootS (b ++ t), R))
        (fun (x : Int × Int × Bool × Arr 32 Int × Arr 32 Int × List PT) => x.2.1 = N ∧ x.2.2.1 = true ∧ x.2.2.2.1 = Arr.rep (32 : Nat) (0 : Int) ∧ x.2.2.2.2.2 = R ∧
          ∃ qs us j a s, x.1 = ((qs.length : Nat) : Int) - 1 ∧ qs ++ us = R ∧ Pk j qs a ∧ 0 < s.length ∧ s.length ≤ 2 ^ j ∧ x.2.2.2.2.1 = rootS s ∧ a ++ s = b ++ t)
        (fun x => (x.1 + 1).toNat) ⟨rfl, rfl, rfl, rfl, ps, _, k + 1, b, t, ?_, hR, hP, by omega, by rw [Nat.pow_succ]; omega, rfl, rfl⟩ ?_ ?_, Option.bind_some]
      · rw [i64_id (by omega) (by omega)]
      · simp only; rw [i64_id (by omega) (by omega)]; omega
      · rintro ⟨i, n, m, m1, x, r⟩ ⟨e1, e2, e3, e4, qs, us, j, a, s, e5, e6, hP, hs0, hs, e7, e8⟩
        simp only at e1 e2 e3 e4 e5 e7
        subst e1 e2 e3 e4 e5 e7
        simp only [tree_Builder_Root_L1_P, tree_Builder_Root_L1]
        cases hP with
        | nil =>
          right
          rw [if_neg (by simp), ← e8]; rfl
        | @snoc _ k' qs b' t' hP' ht' hk' =>
          left
          have hq : qs.length < r.length := by rw [← e6]; simp
          have hR : r.length ≤ 1000000 := by rw [← hR]; simp; omega
          have hpp : 2 ^ j ≤ 2 ^ k' := Nat.pow_le_pow_right (by decide) hk'
          rw [if_pos (by simp), show ((((qs ++ [(((2 ^ k' : Nat) : Int), rootS t', ())]).length : Nat) : Int) - 1) = ((qs.length : Nat) : Int) by simp, inb_ok hq, Option.bind_some, Int.toNat_natCast]
          have eg : ∀ d : PT, r.getD qs.length d = (((2 ^ k' : Nat) : Int), rootS t', ()) := fun d => by rw [← e6]; simp [List.getD]
          simp only [tree_Node_P]
          erw [eg]
          rw [Node_is (rootS_by _) (rootS_by _), Option.bind_some]
          refine ⟨_, rfl, ⟨rfl, rfl, rfl, rfl, qs, _, k' + 1, b', t' ++ s, ?_, by rw [← e6, List.append_assoc], hP', by simp; omega, by rw [List.length_append, Nat.pow_succ]; omega, ?_, by rw [← e8, List.append_assoc]⟩, ?_⟩
          · simp only; rw [i64_id (by omega) (by omega)]
          · simp only; rw [rootS_app ht' hs0 (by omega)]
          · simp only; rw [i64_id (by omega) (by omega)]; omega

theorem Root_is {l : List (List Int)} (hc : Chk l) : tree_Root_M l = some (rootS l) := by
  have hl := hc.1
  unfold tree_Root_M
  simp only [tree_New_P, tree_New_M, Option.bind_some]
  refine Exists.elim (loop_meas (body := tree_Root_L1_P)
    (fun (x : List (List Int) × Int × Int × Arr 32 Int × Int × Bool × List PT) => x.1 = l ∧ x.2.1 = (l.length : Int) ∧ ∃ i : Nat, i ≤ l.length ∧ x.2.2.1 = (i : Int) ∧ x.2.2.2.2.1 = (i : Int) ∧ x.2.2.2.2.2.1 = true ∧ Pk 0 x.2.2.2.2.2.2 (l.take i))
    (fun x => l.length - x.2.2.1.toNat)
    (fun (y : Arr 32 Int × Int × Bool × List PT) => y.2.1 = (l.length : Int) ∧ y.2.2.1 = true ∧ Pk 0 y.2.2.2 l)
    (s := (l, (l.length : Int), 0, Arr.rep (32 : Nat) (0 : Int), 0, true, [])) ⟨rfl, rfl, 0, Nat.zero_le _, rfl, rfl, rfl, .nil _⟩ (by simp; omega) ?_) ?_
  · rintro ⟨l', n, i', m0, k, b, r⟩ ⟨e1, e2, i, hi, e3, e4, e5, hP⟩
    simp only at e1 e2 e3 e4 e5 hP
    subst e1 e2 e3 e4 e5
    simp only [tree_Root_L1_P, tree_Root_L1]
    by_cases hlt : i < l'.length
    · left
      obtain ⟨hb, hbl⟩ := hc.2 l'[i] (List.getElem_mem hlt)
      obtain ⟨r', hr', hP'⟩ := Add_is hP hb hbl (by simp; omega)
      rw [List.length_take, Nat.min_eq_left hi] at hr'
      rw [← List.take_succ_eq_append_getElem hlt] at hr' hP'
      rw [if_pos (by simp; omega), ix_nat hlt, Option.bind_some]
      simp only [tree_Builder_Add_P]
      rw [hr', Option.bind_some]
      refine ⟨_, rfl, ⟨rfl, rfl, i + 1, hlt, ?_, ?_, rfl, hP'⟩, ?_⟩
      · exact i64_succ (by omega)
      · simp; omega
      · simp only; rw [i64_succ (by omega)]; omega
    · right
      obtain rfl : i = l'.length := by omega
      rw [if_neg (by simp)]
      refine ⟨_, rfl, rfl, rfl, ?_⟩
      rw [List.take_length] at hP
      exact hP
  · rintro ⟨y1, y2, y3, y4⟩ ⟨hq, e1, e2, hP⟩
    simp only at e1 e2 hP
    subst e1 e2
    rw [hq, Option.bind_some]
    simp only [tree_Builder_Root_P]
    rw [bRoot_is hP hl, Option.bind_some]
end Go.Proofs.YtmjmjfbmgiidiaaDoor
