/- Paths and checks: what the package and the document's answer come to. -/
import Derived.Test.YtmjmjfbmgiidiaaDoorTrB
namespace Go.Proofs.YtmjmjfbmgiidiaaDoor
open Go Go.Lift
set_option maxRecDepth 100000
set_option maxHeartbeats 4000000
set_option linter.unusedVariables false

/-! ### Paths -/

def pathS (l : List (List Int)) (i : Nat) : List (Arr 32 Int) :=
  if h : 2 ≤ l.length then
    if i < half l.length then pathS (l.take (half l.length)) i ++ [rootS (l.drop (half l.length))]
    else pathS (l.drop (half l.length)) (i - half l.length) ++ [rootS (l.take (half l.length))]
  else []
termination_by l.length
decreasing_by
  · have := half_lt h
    simp; omega
  · have := half_pos l.length
    simp; omega
theorem pathS_left {l : List (List Int)} {i : Nat} (h : 2 ≤ l.length) (hi : i < half l.length) : pathS l i = pathS (l.take (half l.length)) i ++ [rootS (l.drop (half l.length))] := by rw [pathS, dif_pos h, if_pos hi]
theorem pathS_right {l : List (List Int)} {i : Nat} (h : 2 ≤ l.length) (hi : ¬ i < half l.length) : pathS l i = pathS (l.drop (half l.length)) (i - half l.length) ++ [rootS (l.take (half l.length))] := by rw [pathS, dif_pos h, if_neg hi]
theorem pathS_one {l : List (List Int)} {i : Nat} (h : ¬ 2 ≤ l.length) : pathS l i = [] := by rw [pathS, dif_neg h]
theorem pathS_len (n : Nat) : ∀ (l : List (List Int)) (i : Nat), l.length ≤ n → (pathS l i).length ≤ l.length := by
  induction n with
  | zero => intro l i h; rw [pathS_one (by omega)]; simp
  | succ n ih =>
    intro l i h
    by_cases h2 : 2 ≤ l.length
    · have hh := half_lt h2
      have hp := half_pos l.length
      by_cases hi : i < half l.length
      · have := ih (l.take (half l.length)) i (by simp; omega)
        rw [pathS_left h2 hi]
        simp at this ⊢; omega
      · have := ih (l.drop (half l.length)) (i - half l.length) (by simp; omega)
        rw [pathS_right h2 hi]
        simp at this ⊢; omega
    · rw [pathS_one h2]; simp
theorem pathS_by (n : Nat) : ∀ (l : List (List Int)) (i : Nat), l.length ≤ n → ∀ x ∈ pathS l i, By x.1 := by
  induction n with
  | zero => intro l i h; rw [pathS_one (by omega)]; intro x hx; cases hx
  | succ n ih =>
    intro l i h x hx
    by_cases h2 : 2 ≤ l.length
    · have hh := half_lt h2
      have hp := half_pos l.length
      by_cases hi : i < half l.length
      · rw [pathS_left h2 hi] at hx
        rcases List.mem_append.1 hx with hx | hx
        · exact ih (l.take (half l.length)) i (by simp; omega) x hx
        · rw [List.mem_singleton.1 hx]; exact rootS_by _
      · rw [pathS_right h2 hi] at hx
        rcases List.mem_append.1 hx with hx | hx
        · exact ih (l.drop (half l.length)) (i - half l.length) (by simp; omega) x hx
        · rw [List.mem_singleton.1 hx]; exact rootS_by _
    · rw [pathS_one h2] at hx; cases hx

theorem room32 {n : Nat} (h : n ≤ 1000000000) : room 32 n = some () := room_ok (by omega) (by unfold maxLen; omega)

theorem Path1_F (n : Nat) : ∀ (l : List (List Int)) (i : Nat), l.length < n → i < l.length → Chk l → tree_Path_1_F n (l, (i : Int), []) = some (pathS l i) := by
  induction n with
  | zero => intro l i h; omega
  | succ n ih =>
    intro l i h h0 hc
    have hc1 := hc.1
    show tree_Path_1_S (tree_Path_1_F n) l (i : Int) [] = _
    unfold tree_Path_1_S
    simp only [tree_split_P, tree_Root_P]
    by_cases h2 : 2 ≤ l.length
    · have hh := half_lt h2
      have hp := half_pos l.length
      rw [if_neg (by simp; omega), split_is h2 (by omega), Option.bind_some]
      have hl1 := pathS_len (l.length) (l.take (half l.length)) i (by simp; omega)
      have hl2 := pathS_len (l.length) (l.drop (half l.length)) (i - half l.length) (by simp)
      by_cases hi : i < half l.length
      · rw [if_pos (decide_eq_true (by omega)), sub_take (by omega), Option.bind_some, ih _ _ (by simp; omega) (by simp; omega) (hc.take _), Option.bind_some, sub_drop (by omega), Option.bind_some, Root_is (hc.drop _), Option.bind_some,
          room32 (by simp at hl1 ⊢; omega), Option.bind_some, pathS_left h2 hi]
      · rw [if_neg (by simp; omega), sub_drop (by omega), Option.bind_some, i64_id (n := (i : Int) - ((half l.length : Nat) : Int)) (by omega) (by omega), show (i : Int) - ((half l.length : Nat) : Int) = ((i - half l.length : Nat) : Int) by omega,
          ih _ _ (by simp; omega) (by simp; omega) (hc.drop _), Option.bind_some, sub_take (by omega), Option.bind_some, Root_is (hc.take _), Option.bind_some,
          room32 (by simp at hl2 ⊢; omega), Option.bind_some, pathS_right h2 hi]
    · rw [if_pos (by simp; omega), pathS_one h2]

theorem Path_is {l : List (List Int)} {i : Nat} (h : l.length ≤ 900000) (hi : i < l.length) (hc : Chk l) : tree_Path_M l (i : Int) = some (true, pathS l i) := by
  unfold tree_Path_M
  simp only [tree_Path_1_P, tree_Path_1_M, fuel_is]
  rw [if_neg (by simp), if_neg (by simp; omega), Path1_F _ _ _ (by omega) hi hc, Option.bind_some]
theorem Path_out {l : List (List Int)} {i : Int} (hi : i < 0 ∨ (l.length : Int) ≤ i) : tree_Path_M l i = some (false, []) := by
  unfold tree_Path_M
  by_cases h : i < 0
  · rw [if_pos (decide_eq_true h)]
  · rw [if_neg (by simp; omega), if_pos (decide_eq_true (by omega))]

theorem rPath_F (n : Nat) : ∀ (l : List (List Int)) (i : Nat), l.length < n → i < l.length → l.length ≤ 900000 → Chk l → intaglioref12_Path_F n (l, (i : Int)) = some (true, pathS l i) := by
  induction n with
  | zero => intro l i h; omega
  | succ n ih =>
    intro l i h h0 hc1 hc
    show intaglioref12_Path_S (intaglioref12_Path_F n) l (i : Int) = _
    unfold intaglioref12_Path_S
    simp only [intaglioref12_Half_P, intaglioref12_Root_P]
    rw [if_neg (by simp), if_neg (by simp; omega)]
    by_cases h2 : 2 ≤ l.length
    · have hh := half_lt h2
      have hp := half_pos l.length
      rw [if_neg (by simp; omega), Half_is h2 (by omega), Option.bind_some]
      have hl1 := pathS_len (l.length) (l.take (half l.length)) i (by simp; omega)
      have hl2 := pathS_len (l.length) (l.drop (half l.length)) (i - half l.length) (by simp)
      by_cases hi : i < half l.length
      · rw [if_pos (decide_eq_true (by omega)), sub_take (by omega), Option.bind_some, ih _ _ (by simp; omega) (by simp; omega) (by simp; omega) (hc.take _), Option.bind_some, sub_drop (by omega), Option.bind_some, rRoot_is (by simp; omega) (hc.drop _), Option.bind_some,
          room32 (by simp at hl1 ⊢; omega), Option.bind_some, pathS_left h2 hi]
      · rw [if_neg (by simp; omega), sub_drop (by omega), Option.bind_some, i64_id (n := (i : Int) - ((half l.length : Nat) : Int)) (by omega) (by omega), show (i : Int) - ((half l.length : Nat) : Int) = ((i - half l.length : Nat) : Int) by omega,
          ih _ _ (by simp; omega) (by simp; omega) (by simp; omega) (hc.drop _), Option.bind_some, sub_take (by omega), Option.bind_some, rRoot_is (by simp; omega) (hc.take _), Option.bind_some,
          room32 (by simp at hl2 ⊢; omega), Option.bind_some, pathS_right h2 hi]
    · rw [if_pos (by simp; omega), pathS_one h2]
theorem rPath_is {l : List (List Int)} {i : Nat} (h : l.length ≤ 900000) (hi : i < l.length) (hc : Chk l) : intaglioref12_Path_M l (i : Int) = some (true, pathS l i) := by
  unfold intaglioref12_Path_M
  rw [fuel_is]
  exact rPath_F _ _ _ (by omega) hi h hc
theorem rPath_out {l : List (List Int)} {i : Int} (hi : i < 0 ∨ (l.length : Int) ≤ i) : intaglioref12_Path_M l i = some (false, []) := by
  unfold intaglioref12_Path_M
  rw [fuel_is]
  show intaglioref12_Path_S (intaglioref12_Path_F 999999) l i = _
  unfold intaglioref12_Path_S
  by_cases h : i < 0
  · rw [if_pos (decide_eq_true h)]
  · rw [if_neg (by simp; omega), if_pos (decide_eq_true (by omega))]

/-! ### Sides -/

def sidesS (n i : Nat) : List Bool :=
  if h : 2 ≤ n then
    if i < half n then sidesS (half n) i ++ [true] else sidesS (n - half n) (i - half n) ++ [false]
  else []
termination_by n
decreasing_by
  · exact half_lt h
  · have := half_pos n
    omega
theorem sidesS_left {n i : Nat} (h : 2 ≤ n) (hi : i < half n) : sidesS n i = sidesS (half n) i ++ [true] := by rw [sidesS, dif_pos h, if_pos hi]
theorem sidesS_right {n i : Nat} (h : 2 ≤ n) (hi : ¬ i < half n) : sidesS n i = sidesS (n - half n) (i - half n) ++ [false] := by rw [sidesS, dif_pos h, if_neg hi]
theorem sidesS_one {n i : Nat} (h : ¬ 2 ≤ n) : sidesS n i = [] := by rw [sidesS, dif_neg h]
theorem sidesS_len (k : Nat) : ∀ (n i : Nat), n ≤ 2 ^ k → (sidesS n i).length ≤ k := by
  induction k with
  | zero => intro n i h; rw [sidesS_one (by simp at h; omega)]; simp
  | succ k ih =>
    intro n i h
    by_cases h2 : 2 ≤ n
    · have hh := half_le_pow h
      have hg := half_ge h2
      by_cases hi : i < half n
      · have := ih (half n) i hh
        rw [sidesS_left h2 hi]; simp; omega
      · have := ih (n - half n) (i - half n) (by omega)
        rw [sidesS_right h2 hi]; simp; omega
    · rw [sidesS_one h2]; simp
theorem path_sides (n : Nat) : ∀ (l : List (List Int)) (i : Nat), l.length ≤ n → (pathS l i).length = (sidesS l.length i).length := by
  induction n with
  | zero => intro l i h; rw [pathS_one (by omega), sidesS_one (by omega)]; rfl
  | succ n ih =>
    intro l i h
    by_cases h2 : 2 ≤ l.length
    · have hh := half_lt h2
      have hp := half_pos l.length
      by_cases hi : i < half l.length
      · have := ih (l.take (half l.length)) i (by simp; omega)
        rw [List.length_take, Nat.min_eq_left (by omega)] at this
        rw [pathS_left h2 hi, sidesS_left h2 hi]; simp [this]
      · have := ih (l.drop (half l.length)) (i - half l.length) (by simp; omega)
        rw [List.length_drop] at this
        rw [pathS_right h2 hi, sidesS_right h2 hi]; simp [this]
    · rw [pathS_one h2, sidesS_one h2]; rfl

/-- Up from a leaf. -/
def upS : List Bool → List (Arr 32 Int) → Arr 32 Int → Arr 32 Int
  | [], _, x => x
  | _ :: _, [], x => x
  | s :: ss, p :: ps, x => upS ss ps (if s = true then nodeF x p else nodeF p x)
theorem upS_nil (s : List Bool) (x : Arr 32 Int) : upS s [] x = x := by cases s <;> rfl
theorem upS_snoc : ∀ (ss : List Bool) (ps : List (Arr 32 Int)) (s : Bool) (p x : Arr 32 Int), ps.length = ss.length → upS (ss ++ [s]) (ps ++ [p]) x = if s = true then nodeF (upS ss ps x) p else nodeF p (upS ss ps x)
  | [], [], s, p, x, _ => rfl
  | [], _ :: _, s, p, x, h => by simp at h
  | _ :: _, [], s, p, x, h => by simp at h
  | a :: ss, b :: ps, s, p, x, h => by
    show upS (ss ++ [s]) (ps ++ [p]) _ = _
    rw [upS_snoc ss ps s p _ (by simpa using h)]; rfl
theorem upS_step {ss : List Bool} {ps : List (Arr 32 Int)} {k : Nat} (hs : k < ss.length) (hp : k < ps.length) (x : Arr 32 Int) :
    upS (ss.drop k) (ps.drop k) x = upS (ss.drop (k + 1)) (ps.drop (k + 1)) (if ss[k] = true then nodeF x ps[k] else nodeF ps[k] x) := by
  rw [List.drop_eq_getElem_cons hs, List.drop_eq_getElem_cons hp]; rfl
theorem upS_by : ∀ (ss : List Bool) (ps : List (Arr 32 Int)) (x : Arr 32 Int), By x.1 → By (upS ss ps x).1
  | [], ps, x, h => h
  | _ :: _, [], x, h => h
  | s :: ss, p :: ps, x, h => by
    show By (upS ss ps _).1
    refine upS_by ss ps _ ?_
    split
    · exact digest_by _
    · exact digest_by _
/-- A chunk's path comes to the root. -/
theorem up_path (n : Nat) : ∀ (l : List (List Int)) (i : Nat), l.length ≤ n → i < l.length → upS (sidesS l.length i) (pathS l i) (leafF (l.getD i [])) = rootS l := by
  induction n with
  | zero => intro l i h hi; omega
  | succ n ih =>
    intro l i h hil
    by_cases h2 : 2 ≤ l.length
    · have hh := half_lt h2
      have hp := half_pos l.length
      by_cases hi : i < half l.length
      · have := ih (l.take (half l.length)) i (by simp; omega) (by simp; omega)
        have hps := path_sides _ (l.take (half l.length)) i (Nat.le_refl _)
        rw [List.length_take, Nat.min_eq_left (by omega)] at this hps
        rw [pathS_left h2 hi, sidesS_left h2 hi, upS_snoc _ _ _ _ _ hps, if_pos rfl, rootS_more h2, ← this]
        congr 3
        simp only [List.getD, List.getElem?_take]
        rw [if_pos hi]
      · have := ih (l.drop (half l.length)) (i - half l.length) (by simp; omega) (by simp; omega)
        have hps := path_sides _ (l.drop (half l.length)) (i - half l.length) (Nat.le_refl _)
        rw [List.length_drop] at this hps
        rw [pathS_right h2 hi, sidesS_right h2 hi, upS_snoc _ _ _ _ _ hps, if_neg (by decide), rootS_more h2, ← this]
        congr 3
        simp only [List.getD, List.getElem?_drop]
        rw [show half l.length + (i - half l.length) = i by omega]
    · rw [pathS_one h2, sidesS_one h2]
      match l, hil, h2 with
      | [c], hil, _ =>
        obtain rfl : i = 0 := by simp at hil; omega
        rw [rootS_one]; rfl
      | _ :: _ :: _, _, h2 => simp at h2

/-! ### Check -/

def checkS (root : Arr 32 Int) (n i : Nat) (c : List Int) (path : List (Arr 32 Int)) : Bool :=
  decide (path.length = (sidesS n i).length) && xeqv.eqI (upS (sidesS n i) path (leafF c)).1 root.1

def Bys (l : List (Arr 32 Int)) : Prop := ∀ x ∈ l, By x.1

theorem climb_F (m : Nat) : ∀ (n i : Nat) (path : List (Arr 32 Int)) (leaf : Arr 32 Int), path.length < m → path.length ≤ 1000000 → i < n → n < 9223372036854775808 → Bys path → By leaf.1 →
    ∃ x, tree_climb_F m ((n : Int), (i : Int), leaf, path) = some (x, decide (path.length = (sidesS n i).length)) ∧ (path.length = (sidesS n i).length → x = upS (sidesS n i) path leaf) ∧ By x.1 := by
  induction m with
  | zero => intro n i path leaf h; omega
  | succ m ih =>
    intro n i path leaf h hl hi hn hb hleaf
    have hun : ∀ p, tree_climb_F (m + 1) p = tree_climb_S (tree_climb_F m) p.1 p.2.1 p.2.2.1 p.2.2.2 := fun p => rfl
    rw [hun]
    unfold tree_climb_S
    simp only [tree_split_P, tree_Node_P]
    by_cases h2 : 2 ≤ n
    · rw [if_neg (by simp; omega)]
      rcases List.eq_nil_or_concat path with rfl | ⟨p, q, rfl⟩
      · refine ⟨leaf, ?_, ?_, hleaf⟩
        · rw [if_pos (by simp), if_neg (by simp; omega)]
          by_cases hi : i < half n
          · rw [sidesS_left h2 hi]; simp
          · rw [sidesS_right h2 hi]; simp
        · intro e
          by_cases hi : i < half n
          · rw [sidesS_left h2 hi] at e; simp at e
          · rw [sidesS_right h2 hi] at e; simp at e
      · rw [List.concat_eq_append] at h hl hb ⊢
        have hh := half_lt h2
        have hp := half_pos n
        have hq : By q.1 := hb q (by simp)
        have hpb : Bys p := fun x hx => hb x (by simp [hx])
        rw [List.length_append, List.length_cons, List.length_nil] at h hl
        have e1 : IntKind.i64.wrap ((((p ++ [q]).length : Nat) : Int) - 1) = (p.length : Int) := by
          rw [List.length_append, List.length_cons, List.length_nil, i64_id (by omega) (by omega)]; omega
        have e2 : sub (p ++ [q]) 0 (p.length : Int) = some p := by rw [sub_take (by simp)]; simp
        have e3 : ix (p ++ [q]) (p.length : Int) = some q := by rw [ix_nat (by simp)]; simp
        rw [if_neg (by simp; omega), split_is h2 hn, Option.bind_some, e1]
        by_cases hi : i < half n
        · obtain ⟨x, hx, hx2, hxb⟩ := ih (half n) i p leaf (by omega) (by omega) hi (by omega) hpb hleaf
          rw [if_pos (decide_eq_true (by omega))]
          simp only [tree_climb_R1_P, tree_climb_R1]
          rw [e2, Option.bind_some, hx, Option.bind_some, Option.bind_some]
          simp only
          rw [e3, Option.bind_some, Node_is hxb hq, Option.bind_some, sidesS_left h2 hi]
          refine ⟨nodeF x q, ?_, fun e => ?_, digest_by _⟩
          · simp
          · simp at e
            rw [upS_snoc _ _ _ _ _ e, if_pos rfl, hx2 e]
        · obtain ⟨x, hx, hx2, hxb⟩ := ih (n - half n) (i - half n) p leaf (by omega) (by omega) (by omega) (by omega) hpb hleaf
          rw [if_neg (by simp; omega)]
          simp only [tree_climb_R2_P, tree_climb_R2]
          rw [e2, Option.bind_some, i64_id (n := (n : Int) - ((half n : Nat) : Int)) (by omega) (by omega), i64_id (n := (i : Int) - ((half n : Nat) : Int)) (by omega) (by omega),
            show (n : Int) - ((half n : Nat) : Int) = ((n - half n : Nat) : Int) by omega, show (i : Int) - ((half n : Nat) : Int) = ((i - half n : Nat) : Int) by omega, hx, Option.bind_some, Option.bind_some]
          simp only
          rw [e3, Option.bind_some, Node_is hq hxb, Option.bind_some, sidesS_right h2 hi]
          refine ⟨nodeF q x, ?_, fun e => ?_, digest_by _⟩
          · simp
          · simp at e
            rw [upS_snoc _ _ _ _ _ e, if_neg (by decide), hx2 e]
    · obtain rfl : n = 1 := by omega
      rw [if_pos (by simp), if_pos (by simp), sidesS_one h2]
      refine ⟨leaf, ?_, fun _ => ?_, hleaf⟩
      · refine congrArg some (Prod.ext rfl ?_)
        simp only [List.length_nil]
        by_cases h0 : path.length = 0
        · rw [h0]; rfl
        · rw [decide_eq_false h0, beq_eq_false_iff_ne]; omega
      · cases path <;> rfl

theorem Check_is {root : Arr 32 Int} {n i : Nat} {c : List Int} {path : List (Arr 32 Int)} (hi : i < n) (hn : n < 9223372036854775808) (hc : By c) (hcl : c.length ≤ 1000000) (hp : Bys path) :
    tree_Check_M root (n : Int) (i : Int) c path = some (checkS root n i c path) := by
  have h63 := sidesS_len 63 n i (by omega)
  unfold tree_Check_M checkS
  simp only [tree_Leaf_P, tree_climb_P, tree_climb_M]
  rw [if_neg (by simp), if_neg (by simp; omega)]
  by_cases h : path.length ≤ 64
  · rw [if_neg (by simp; omega), Leaf_is hc hcl, Option.bind_some, fuel_is]
    obtain ⟨x, hx, hx2, _⟩ := climb_F 1000000 n i path (leafF c) (by omega) (by omega) hi hn hp (digest_by _)
    rw [hx, Option.bind_some]
    simp only
    by_cases e : path.length = (sidesS n i).length
    · rw [decide_eq_true e, if_pos rfl, hx2 e, Bool.true_and]
    · rw [decide_eq_false e, if_neg (by decide), Bool.false_and]
  · rw [if_pos (decide_eq_true (by omega)), decide_eq_false (by omega), Bool.false_and]
theorem Check_out {root : Arr 32 Int} {n i : Int} {c : List Int} {path : List (Arr 32 Int)} (hi : i < 0 ∨ n ≤ i) : tree_Check_M root n i c path = some false := by
  unfold tree_Check_M
  by_cases h : i < 0
  · rw [if_pos (decide_eq_true h)]
  · rw [if_neg (by simp; omega), if_pos (decide_eq_true (by omega))]

def num01 (b : Bool) : Int := if b = true then 1 else 0
def sidesI (n i : Nat) : List Int := (sidesS n i).map num01
theorem sidesI_len (n i : Nat) : (sidesI n i).length = (sidesS n i).length := by simp [sidesI]
theorem sidesI_get {n i k : Nat} (h : k < (sidesS n i).length) : (List.getD (sidesI n i) k (0 : Int) == 1) = (sidesS n i)[k] := by
  simp only [sidesI, List.getD, List.getElem?_map, List.getElem?_eq_getElem h, Option.map_some, Option.getD_some]
  cases (sidesS n i)[k] <;> rfl

theorem Sides_is {n i : Nat} (hi : i < n) (hn : n < 9223372036854775808) : intaglioref12_Sides_M (n : Int) (i : Int) = some (sidesI n i) := by
  have h63 := sidesS_len 63 n i (by omega)
  unfold intaglioref12_Sides_M
  rw [loop_is (r := sidesI n i) (fun (x : Int × Int × Int × List Int) => ∃ n' i' j : Nat, x.1 = (n' : Int) ∧ x.2.1 = (i' : Int) ∧ x.2.2.1 = (j : Int) ∧ i' < n' ∧ n' ≤ n ∧ j ≤ 63 ∧ n' ≤ 2 ^ (63 - j) ∧ sidesI n' i' ++ x.2.2.2 = sidesI n i)
    (fun x => 64 - x.2.2.1.toNat) ⟨n, i, 0, rfl, rfl, rfl, hi, Nat.le_refl _, by decide, by omega, by simp⟩ (by simp) ?_]
  · rfl
  · rintro ⟨a, b, c, out⟩ ⟨n', i', j, e1, e2, e3, hi', hnn, hj, hn', e4⟩
    simp only at e1 e2 e3 e4
    subst e1 e2 e3
    have hle : (2 : Nat) ^ (63 - j) ≤ 2 ^ 63 := Nat.pow_le_pow_right (by decide) (by omega)
    have hol : out.length ≤ 63 := by have := congrArg List.length e4; rw [List.length_append, sidesI_len, sidesI_len] at this; omega
    simp only [intaglioref12_Sides_L1_P, intaglioref12_Sides_L1, intaglioref12_Half_P]
    rw [if_pos (decide_eq_true (by omega))]
    by_cases h2 : 2 ≤ n'
    · left
      have hh := half_lt h2
      have hp := half_pos n'
      have hg := half_ge h2
      have hj2 : j < 63 := by
        rcases Nat.lt_or_ge j 63 with h | h
        · exact h
        · obtain rfl : j = 63 := by omega
          simp at hn'; omega
      have hhp : half n' ≤ 2 ^ (63 - (j + 1)) := half_le_pow (by rw [show 63 - (j + 1) + 1 = 63 - j by omega]; exact hn')
      have hr1 : room 8 1 = some () := room_ok (by decide) (by decide)
      have hr2 : room 8 (1 + out.length) = some () := room_ok (by omega) (by unfold maxLen; omega)
      rw [if_pos (decide_eq_true (by omega)), Half_is h2 (by omega), Option.bind_some]
      by_cases hi : i' < half n'
      · rw [if_pos (decide_eq_true (by omega)), hr1, Option.bind_some, hr2, Option.bind_some]
        refine ⟨_, rfl, ⟨half n', i', j + 1, rfl, rfl, i64_succ (by omega), hi, by omega, by omega, hhp, ?_⟩, ?_⟩
        · rw [← e4]
          unfold sidesI
          rw [sidesS_left h2 hi]; simp [num01]
        · simp only; rw [i64_succ (by omega)]; omega
      · rw [if_neg (by simp; omega), hr1, Option.bind_some, hr2, Option.bind_some]
        refine ⟨_, rfl, ⟨n' - half n', i' - half n', j + 1, ?_, ?_, i64_succ (by omega), by omega, by omega, by omega, by omega, ?_⟩, ?_⟩
        · simp only; rw [i64_id (by omega) (by omega)]; omega
        · simp only; rw [i64_id (by omega) (by omega)]; omega
        · rw [← e4]
          unfold sidesI
          rw [sidesS_right h2 hi]; simp [num01]
        · simp only; rw [i64_succ (by omega)]; omega
    · right
      rw [if_neg (by simp; omega), ← e4]
      unfold sidesI
      rw [sidesS_one h2]; rfl

theorem rCheck_is {root : Arr 32 Int} {n i : Nat} {c : List Int} {path : List (Arr 32 Int)} (hi : i < n) (hn : n < 9223372036854775808) (hc : By c) (hcl : c.length ≤ 1000000) (hp : Bys path) (hpl : path.length ≤ 1000000) :
    intaglioref12_Check_M root (n : Int) (i : Int) c path = some (checkS root n i c path) := by
  unfold intaglioref12_Check_M checkS
  simp only [intaglioref12_Leaf_P, intaglioref12_Sides_P]
  rw [if_neg (by simp), if_neg (by simp; omega), Sides_is hi hn, Option.bind_some, sidesI_len]
  by_cases e : path.length = (sidesS n i).length
  · rw [if_neg (by simp; omega), rLeaf_is hc hcl, Option.bind_some, decide_eq_true e, Bool.true_and]
    rw [loop_is (r := (root, upS (sidesS n i) path (leafF c))) (fun (x : List (Arr 32 Int) × Int × Arr 32 Int × Arr 32 Int × List Int) => x.1 = path ∧ x.2.2.1 = root ∧ x.2.2.2.2 = sidesI n i ∧ By x.2.2.2.1.1 ∧
        ∃ k : Nat, x.2.1 = (k : Int) ∧ k ≤ path.length ∧ upS ((sidesS n i).drop k) (path.drop k) x.2.2.2.1 = upS (sidesS n i) path (leafF c))
      (fun x => path.length - x.2.1.toNat) ⟨rfl, rfl, rfl, digest_by _, 0, rfl, Nat.zero_le _, rfl⟩ (by simp; omega) ?_]
    · rfl
    · rintro ⟨p', k', m0, x, s'⟩ ⟨e1, e2, e3, hx, k, e4, hk, e5⟩
      simp only at e1 e2 e3 e4 e5 hx
      subst e1 e2 e3 e4
      simp only [intaglioref12_Check_L1_P, intaglioref12_Check_L1]
      by_cases hlt : k < p'.length
      · left
        have hks : k < (sidesS n i).length := by omega
        rw [if_pos (decide_eq_true (by omega)), inb_ok (by rw [sidesI_len]; exact hks), Option.bind_some, Int.toNat_natCast, sidesI_get hks]
        simp only [intaglioref12_Node_P]
        rw [upS_step hks hlt] at e5
        have hpk : By (p'[k]).1 := hp _ (List.getElem_mem hlt)
        cases hb : (sidesS n i)[k] with
        | true =>
          rw [hb, if_pos rfl] at e5
          rw [if_pos rfl, ix_nat hlt, Option.bind_some, rNode_is hx hpk, Option.bind_some]
          exact ⟨_, rfl, ⟨rfl, rfl, rfl, digest_by _, k + 1, i64_succ (by omega), hlt, e5⟩, by simp only; rw [i64_succ (by omega)]; omega⟩
        | false =>
          rw [hb, if_neg (by decide)] at e5
          rw [if_neg (by decide), ix_nat hlt, Option.bind_some, rNode_is hpk hx, Option.bind_some]
          exact ⟨_, rfl, ⟨rfl, rfl, rfl, digest_by _, k + 1, i64_succ (by omega), hlt, e5⟩, by simp only; rw [i64_succ (by omega)]; omega⟩
      · right
        obtain rfl : k = p'.length := by omega
        rw [if_neg (by simp)]
        rw [List.drop_length, upS_nil] at e5
        rw [e5]
  · rw [if_pos (by simp; omega), decide_eq_false e, Bool.false_and]
theorem rCheck_out {root : Arr 32 Int} {n i : Int} {c : List Int} {path : List (Arr 32 Int)} (hi : i < 0 ∨ n ≤ i) : intaglioref12_Check_M root n i c path = some false := by
  unfold intaglioref12_Check_M
  by_cases h : i < 0
  · rw [if_pos (decide_eq_true h)]
  · rw [if_neg (by simp; omega), if_pos (decide_eq_true (by omega))]
end Go.Proofs.YtmjmjfbmgiidiaaDoor
