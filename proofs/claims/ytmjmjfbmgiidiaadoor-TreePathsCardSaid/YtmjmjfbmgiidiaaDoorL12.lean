/- The laws of chapter 12: what their models answer, whatever comes in. -/
import Derived.Test.YtmjmjfbmgiidiaaDoorTrC
import Derived.Test.YtmjmjfbmgiidiaaDoorEd
namespace Go.Proofs.YtmjmjfbmgiidiaaDoor
open Go Go.Lift
set_option maxRecDepth 100000
set_option maxHeartbeats 4000000
set_option linter.unusedVariables false

theorem ok_bytes {l : List Int} (h : Ty.ok (.slc (.int .u8)) l) : By l := fun n hn => wf_u8 (h.2 n hn)
theorem ok_arr {a : Arr 32 Int} (h : Ty.ok (.arr 32 (.int .u8)) a) : By a.1 := fun n hn => wf_u8 (h n hn)
theorem ok_all {l : List (List Int)} (h : Ty.ok (.slc (.slc (.int .u8))) l) : ∀ c ∈ l, By c := fun c hc => ok_bytes (h.2 c hc)
theorem ok_path {l : List (Arr 32 Int)} (h : Ty.ok (.slc (.arr 32 (.int .u8))) l) : Bys l := fun c hc => ok_arr (h.2 c hc)
theorem ok_i64 {n : Int} (h : Ty.ok (.int .i64) n) : -9223372036854775808 ≤ n ∧ n ≤ 9223372036854775807 := wf_i64 h
theorem eqI_self (x : List Int) : xeqv.eqI x x = true := by unfold xeqv.eqI; simp
theorem eqI_iff {x y : List Int} : xeqv.eqI x y = true ↔ x = y := by unfold xeqv.eqI; simp

/-! ### The example -/

theorem half3 : half 3 = 2 := half_of (k := 1) (by decide) (by decide)
theorem half2 : half 2 = 1 := half_of (k := 0) (by decide) (by decide)
theorem root2 (a b : List Int) : rootS [a, b] = nodeF (leafF a) (leafF b) := by
  rw [rootS_more (by simp)]
  show nodeF (rootS (List.take (half 2) [a, b])) (rootS (List.drop (half 2) [a, b])) = _
  rw [half2, ← rootS_one a, ← rootS_one b]; rfl
theorem root3 (a b c : List Int) : rootS [a, b, c] = nodeF (nodeF (leafF a) (leafF b)) (leafF c) := by
  rw [rootS_more (by simp)]
  show nodeF (rootS (List.take (half 3) [a, b, c])) (rootS (List.drop (half 3) [a, b, c])) = _
  rw [half3, ← root2 a b, ← rootS_one c]; rfl
theorem path3 (a b c : List Int) : pathS [a, b, c] 2 = [nodeF (leafF a) (leafF b)] := by
  have h3 : ([a, b, c] : List (List Int)).length = 3 := rfl
  rw [pathS_right (by simp) (by rw [h3, half3]; decide), h3, half3, pathS_one (by simp), ← root2 a b]; rfl
theorem sides3 : sidesS 3 2 = [false] := by
  rw [sidesS_right (by decide) (by rw [half3]; decide), half3, sidesS_one (by decide)]; rfl

theorem dig_of {t : List Int} {a : Arr 32 Int} (hb : By t) (hl : t.length ≤ 900000000) (h : sha_Sum_M t = some a) : digest t = a := Option.some.inj ((Sum_is hb hl).symm.trans h)
def d1 : Arr 32 Int := Arr.of 32 [180, 19, 244, 125, 19, 238, 47, 230, 200, 69, 178, 238, 20, 26, 248, 29, 232, 88, 223, 78, 197, 73, 165, 139, 121, 112, 187, 150, 100, 91, 200, 210] rfl
def d2 : Arr 32 Int := Arr.of 32 [252, 240, 166, 199, 0, 221, 19, 226, 116, 182, 251, 168, 222, 234, 141, 217, 178, 110, 78, 237, 222, 52, 149, 113, 124, 172, 132, 8, 201, 197, 23, 127] rfl
def d3 : Arr 32 Int := Arr.of 32 [88, 60, 125, 251, 123, 48, 85, 217, 148, 101, 84, 64, 50, 165, 113, 225, 10, 19, 75, 27, 111, 118, 148, 34, 187, 183, 31, 215, 250, 22, 122, 93] rfl
def dp : Arr 32 Int := Arr.of 32 [107, 207, 14, 46, 147, 224, 161, 142, 34, 120, 154, 238, 150, 94, 101, 83, 244, 251, 233, 63, 10, 207, 196, 167, 5, 214, 145, 200, 49, 28, 73, 101] rfl
def da : Arr 32 Int := Arr.of 32 [226, 166, 35, 90, 153, 246, 240, 43, 167, 230, 243, 23, 211, 228, 197, 224, 26, 26, 157, 207, 167, 244, 205, 147, 98, 219, 233, 25, 62, 140, 138, 55] rfl
def db : Arr 32 Int := Arr.of 32 [226, 218, 2, 66, 147, 110, 179, 142, 201, 150, 165, 67, 96, 27, 58, 29, 164, 34, 99, 145, 255, 146, 1, 78, 209, 167, 162, 72, 172, 227, 99, 71] rfl
theorem by_of {l : List Int} (h : (l.all fun x => decide (0 ≤ x) && decide (x ≤ 255)) = true) : By l := fun x hx => by
  have := List.all_eq_true.1 h x hx
  simpa using this
theorem one_by (n : Int) (h0 : 0 ≤ n) (h : n ≤ 255) : By [n] := by_cons h0 h By.nil
theorem leaf1 : leafF [1] = d1 := dig_of (leafT_by (one_by 1 (by decide) (by decide))) (by decide) (by kernel_rfl)
theorem leaf2 : leafF [2] = d2 := dig_of (leafT_by (one_by 2 (by decide) (by decide))) (by decide) (by kernel_rfl)
theorem leaf3 : leafF [3] = d3 := dig_of (leafT_by (one_by 3 (by decide) (by decide))) (by decide) (by kernel_rfl)
theorem d1_by : By d1.1 := by_of (by kernel_rfl)
theorem d2_by : By d2.1 := by_of (by kernel_rfl)
theorem d3_by : By d3.1 := by_of (by kernel_rfl)
theorem dp_by : By dp.1 := by_of (by kernel_rfl)
theorem nodep : nodeF d1 d2 = dp := dig_of (nodeT_by d1_by d2_by) (by rw [nodeT_len]; decide) (by kernel_rfl)
theorem nodea : nodeF dp d2 = da := dig_of (nodeT_by dp_by d2_by) (by rw [nodeT_len]; decide) (by kernel_rfl)
theorem nodeb : nodeF dp d3 = db := dig_of (nodeT_by dp_by d3_by) (by rw [nodeT_len]; decide) (by kernel_rfl)
theorem unlike : xeqv.eqI da.1 db.1 = false := by kernel_rfl

theorem chk3 : Chk [[1], [2], [3]] := ⟨by decide, fun c hc => by
  rcases List.mem_cons.1 hc with rfl | hc
  · exact ⟨one_by 1 (by decide) (by decide), by decide⟩
  rcases List.mem_cons.1 hc with rfl | hc
  · exact ⟨one_by 2 (by decide) (by decide), by decide⟩
  rw [List.mem_singleton.1 hc]
  exact ⟨one_by 3 (by decide) (by decide), by decide⟩⟩

theorem awake_is : intagliolaw12_awake_M = some true := by
  unfold intagliolaw12_awake_M
  have b1 := one_by 1 (by decide) (by decide)
  have b2 := one_by 2 (by decide) (by decide)
  have b3 := one_by 3 (by decide) (by decide)
  have hbs : Bys [dp] := fun x hx => by rw [List.mem_singleton.1 hx]; exact dp_by
  have hp : tree_Path_M [[1], [2], [3]] 2 = some (true, [dp]) := by
    have := Path_is (l := [[1], [2], [3]]) (i := 2) (by decide) (by decide) chk3
    rw [path3, leaf1, leaf2, nodep] at this
    exact this
  have hr : tree_Root_M [[1], [2], [3]] = some db := by rw [Root_is chk3, root3, leaf1, leaf2, leaf3, nodep, nodeb]
  have c3 : tree_Check_M db 3 2 [3] [dp] = some true := by
    have := Check_is (root := db) (n := 3) (i := 2) (c := [3]) (path := [dp]) (by decide) (by decide) b3 (by decide) hbs
    unfold checkS at this
    rw [sides3, leaf3] at this
    rw [show upS [false] [dp] d3 = nodeF dp d3 from rfl, nodeb, eqI_self] at this
    exact this
  have c2 : tree_Check_M db 3 2 [2] [dp] = some false := by
    have := Check_is (root := db) (n := 3) (i := 2) (c := [2]) (path := [dp]) (by decide) (by decide) b2 (by decide) hbs
    unfold checkS at this
    rw [sides3, leaf2] at this
    rw [show upS [false] [dp] d2 = nodeF dp d2 from rfl, nodea, unlike] at this
    exact this
  simp only [tree_Path_P, tree_Leaf_P, tree_Node_P, tree_Root_P, tree_Check_P]
  rw [hp, Option.bind_some, if_pos rfl, if_pos (by simp), inb_ok' (by decide) (by decide), Option.bind_some, inb_ok' (by decide) (by decide), Option.bind_some, inb_ok' (by decide) (by decide), Option.bind_some]
  rw [show List.getD [[(1 : Int)], [(2 : Int)], [(3 : Int)]] (nat_lit 0) [] = [1] from rfl, show List.getD [[(1 : Int)], [(2 : Int)], [(3 : Int)]] (nat_lit 1) [] = [2] from rfl, show List.getD [[(1 : Int)], [(2 : Int)], [(3 : Int)]] (nat_lit 2) [] = [3] from rfl]
  rw [Leaf_is b1 (by decide), Option.bind_some, Leaf_is b2 (by decide), Option.bind_some, leaf1, leaf2, Node_is d1_by d2_by, Option.bind_some, nodep]
  rw [show List.getD [dp] (nat_lit 0) (Arr.rep (32 : Nat) (0 : Int)) = dp from rfl, if_pos (eqI_self _), inb_ok' (by decide) (by decide), Option.bind_some, hr, Option.bind_some, c3, Option.bind_some, if_pos rfl, Option.bind_some, Option.bind_some, c2, Option.bind_some]
  rfl

theorem light_is (l : List (List Int)) : ∃ b, intagliolaw12_light_M l = some b ∧ (b = true → l.length ≤ 24 ∧ ∀ c ∈ l, c.length ≤ 200) := by
  unfold intagliolaw12_light_M
  by_cases h : 24 < l.length
  · exact ⟨false, by rw [if_pos (decide_eq_true (by omega))], fun h => by cases h⟩
  · rw [if_neg (by simp; omega)]
    refine Exists.elim (loop_meas (body := intagliolaw12_light_L1_P) (fun (x : List (List Int) × Int) => x.1 = l ∧ ∃ k : Nat, x.2 = (k : Int) ∧ k ≤ l.length ∧ ∀ c ∈ l.take k, c.length ≤ 200) (fun x => l.length - x.2.toNat)
      (fun (y : Unit ⊕ Bool) => y = .inr false ∨ (y = .inl () ∧ ∀ c ∈ l, c.length ≤ 200)) (s := (l, 0)) ⟨rfl, 0, rfl, Nat.zero_le _, fun c hc => by cases hc⟩ (by simp; omega) ?_) ?_
    · rintro ⟨l', k'⟩ ⟨e1, k, e2, hk, hc⟩
      simp only at e1 e2
      subst e1 e2
      simp only [intagliolaw12_light_L1_P, intagliolaw12_light_L1]
      by_cases hlt : k < l'.length
      · rw [if_pos (decide_eq_true (by omega)), ix_nat hlt, Option.bind_some]
        by_cases h2 : 200 < l'[k].length
        · right
          rw [if_pos (decide_eq_true (by omega))]
          exact ⟨_, rfl, .inl rfl⟩
        · left
          rw [if_neg (by simp; omega)]
          refine ⟨_, rfl, ⟨rfl, k + 1, i64_succ (by omega), hlt, fun c hc' => ?_⟩, by simp only; rw [i64_succ (by omega)]; omega⟩
          rw [List.take_succ_eq_append_getElem hlt] at hc'
          rcases List.mem_append.1 hc' with h | h
          · exact hc c h
          · rw [List.mem_singleton.1 h]; omega
      · right
        obtain rfl : k = l'.length := by omega
        rw [if_neg (by simp)]
        rw [List.take_length] at hc
        exact ⟨_, rfl, .inr ⟨rfl, hc⟩⟩
    · rintro q ⟨hq, hQ⟩
      rw [hq, Option.bind_some]
      rcases hQ with rfl | ⟨rfl, hc⟩
      · exact ⟨false, rfl, fun h => by cases h⟩
      · exact ⟨true, rfl, fun _ => ⟨by omega, hc⟩⟩
theorem chk_of {l : List (List Int)} (ho : ∀ c ∈ l, By c) (h : l.length ≤ 24 ∧ ∀ c ∈ l, c.length ≤ 200) : Chk l := ⟨by omega, fun c hc => ⟨ho c hc, by have := h.2 c hc; omega⟩⟩

/-! ### The laws -/

theorem intagliolaw12_TreeSums_pure (c : List Int) (a b : Arr 32 Int) (hc : Ty.ok (.slc (.int .u8)) c) (ha : Ty.ok (.arr 32 (.int .u8)) a) (hb : Ty.ok (.arr 32 (.int .u8)) b) : intagliolaw12_TreeSums_M c a b = some true := by
  replace hc := ok_bytes hc
  replace ha := ok_arr ha
  replace hb := ok_arr hb
  unfold intagliolaw12_TreeSums_M
  simp only [intagliolaw12_awake_P, awake_is, Option.bind_some, tree_Leaf_P, tree_Node_P, intaglioref12_Leaf_P, intaglioref12_Node_P]
  split
  · rfl
  · rename_i h
    simp at h
    rw [Leaf_is hc (by omega), Option.bind_some, rLeaf_is hc (by omega), Option.bind_some, if_pos (eqI_self _), Node_is ha hb, Option.bind_some, rNode_is ha hb, Option.bind_some, if_pos (eqI_self _)]

theorem intagliolaw12_TreeRoots_pure (l : List (List Int)) (hl : Ty.ok (.slc (.slc (.int .u8))) l) : intagliolaw12_TreeRoots_M l = some true := by
  unfold intagliolaw12_TreeRoots_M
  simp only [intagliolaw12_awake_P, awake_is, Option.bind_some, intagliolaw12_light_P, tree_Root_P, intaglioref12_Root_P]
  obtain ⟨b, hb, hb2⟩ := light_is l
  rw [hb, Option.bind_some]
  cases b with
  | false => rfl
  | true =>
    have hc := chk_of (ok_all hl) (hb2 rfl)
    rw [if_neg (by decide), Root_is hc, Option.bind_some, rRoot_is (by have := (hb2 rfl).1; omega) hc, Option.bind_some, if_pos (eqI_self _)]

theorem paths_L1 {p : List (Arr 32 Int)} (h : p.length ≤ 1000000) : loop intagliolaw12_TreePaths_L1_P (0, p, p) = some (.inl ()) := by
  refine loop_is (fun (x : Int × List (Arr 32 Int) × List (Arr 32 Int)) => x.2.1 = p ∧ x.2.2 = p ∧ ∃ k : Nat, x.1 = (k : Int) ∧ k ≤ p.length) (fun x => p.length - x.1.toNat) ⟨rfl, rfl, 0, rfl, Nat.zero_le _⟩ (by simp; omega) ?_
  rintro ⟨k', p1, p2⟩ ⟨e1, e2, k, e3, hk⟩
  simp only at e1 e2 e3
  subst e1 e3
  subst e2
  simp only [intagliolaw12_TreePaths_L1_P, intagliolaw12_TreePaths_L1]
  by_cases hlt : k < p2.length
  · left
    rw [if_pos (decide_eq_true (by omega)), inb_ok hlt, Option.bind_some, Option.bind_some, if_neg (by rw [eqI_self]; decide)]
    exact ⟨_, rfl, ⟨rfl, rfl, k + 1, i64_succ (by omega), hlt⟩, by simp only; rw [i64_succ (by omega)]; omega⟩
  · right
    rw [if_neg (by simp; omega)]

theorem intagliolaw12_TreePaths_pure (l : List (List Int)) (i : Int) (hl : Ty.ok (.slc (.slc (.int .u8))) l) (hi : Ty.ok (.int .i64) i) : intagliolaw12_TreePaths_M l i = some true := by
  unfold intagliolaw12_TreePaths_M
  simp only [intagliolaw12_awake_P, awake_is, Option.bind_some, intagliolaw12_light_P, tree_Path_P, intaglioref12_Path_P]
  obtain ⟨b, hb, hb2⟩ := light_is l
  rw [hb, Option.bind_some]
  cases b with
  | false => rfl
  | true =>
    obtain ⟨h24, _⟩ := hb2 rfl
    have hc := chk_of (ok_all hl) (hb2 rfl)
    rw [if_neg (by decide)]
    by_cases h : i < 0 ∨ (l.length : Int) ≤ i
    · rw [Path_out h, Option.bind_some, rPath_out h, Option.bind_some, if_neg (by decide), if_neg (by decide), paths_L1 (by decide)]; rfl
    · obtain ⟨k, rfl⟩ := Int.eq_ofNat_of_zero_le (show 0 ≤ i by omega)
      have hpl := pathS_len _ l k (Nat.le_refl _)
      rw [Path_is (by omega) (by omega) hc, Option.bind_some, rPath_is (by omega) (by omega) hc, Option.bind_some]
      simp only
      rw [if_neg (by simp), if_neg (by simp), paths_L1 (by omega)]; rfl

theorem check_same {root : Arr 32 Int} {n i : Int} {c : List Int} {path : List (Arr 32 Int)} (hn : n ≤ 9223372036854775807) (hc : By c) (hcl : c.length ≤ 1000000) (hp : Bys path) (hpl : path.length ≤ 1000000) :
    ∃ b, tree_Check_M root n i c path = some b ∧ intaglioref12_Check_M root n i c path = some b := by
  by_cases h : i < 0 ∨ n ≤ i
  · exact ⟨false, Check_out h, rCheck_out h⟩
  · obtain ⟨k, rfl⟩ := Int.eq_ofNat_of_zero_le (show 0 ≤ i by omega)
    obtain ⟨m, rfl⟩ := Int.eq_ofNat_of_zero_le (show 0 ≤ n by omega)
    exact ⟨_, Check_is (by omega) (by omega) hc hcl hp, rCheck_is (by omega) (by omega) hc hcl hp hpl⟩

theorem checks_L1 {n i : Nat} (root : Arr 32 Int) (c : List Int) {path : List (Arr 32 Int)} {x : Arr 32 Int} (hp : Bys path) (hpl : path.length ≤ 1000000) (hx : By x.1) :
    ∃ y : Arr 32 Int, loop intagliolaw12_TreeChecks_L1_P (0, root, (n : Int), (i : Int), c, path, x, sidesI n i) = some (root, (n : Int), (i : Int), c, path, y) ∧ By y.1 := by
  refine Exists.elim (loop_meas (body := intagliolaw12_TreeChecks_L1_P) (fun (s : Int × Arr 32 Int × Int × Int × List Int × List (Arr 32 Int) × Arr 32 Int × List Int) => s.2.1 = root ∧ s.2.2.1 = (n : Int) ∧ s.2.2.2.1 = (i : Int) ∧ s.2.2.2.2.1 = c ∧ s.2.2.2.2.2.1 = path ∧ By s.2.2.2.2.2.2.1.1 ∧ s.2.2.2.2.2.2.2 = sidesI n i ∧ ∃ k : Nat, s.1 = (k : Int) ∧ k ≤ path.length)
    (fun s => path.length - s.1.toNat) (fun (y : Arr 32 Int × Int × Int × List Int × List (Arr 32 Int) × Arr 32 Int) => y.1 = root ∧ y.2.1 = (n : Int) ∧ y.2.2.1 = (i : Int) ∧ y.2.2.2.1 = c ∧ y.2.2.2.2.1 = path ∧ By y.2.2.2.2.2.1)
    (s := (0, root, (n : Int), (i : Int), c, path, x, sidesI n i)) ⟨rfl, rfl, rfl, rfl, rfl, hx, rfl, 0, rfl, Nat.zero_le _⟩ (by simp; omega) ?_) ?_
  · rintro ⟨k', m0, n', i', c', p', x, s'⟩ ⟨e1, e2, e3, e4, e5, hx, e6, k, e7, hk⟩
    simp only at e1 e2 e3 e4 e5 e6 e7 hx
    subst e1 e2 e3 e4 e5 e6 e7
    simp only [intagliolaw12_TreeChecks_L1_P, intagliolaw12_TreeChecks_L1, intaglioref12_Node_P]
    by_cases hlt : k < p'.length
    · rw [if_pos (decide_eq_true (by omega)), sidesI_len]
      have hpk : By (p'[k]).1 := hp _ (List.getElem_mem hlt)
      by_cases hs : k < (sidesS n i).length
      · left
        rw [if_pos (decide_eq_true (by omega)), inb_ok hs, Option.bind_some, Int.toNat_natCast, sidesI_get hs]
        cases hb : (sidesS n i)[k] with
        | true =>
          rw [if_pos rfl, ix_nat hlt, Option.bind_some, rNode_is hx hpk, Option.bind_some]
          exact ⟨_, rfl, ⟨rfl, rfl, rfl, rfl, rfl, digest_by _, rfl, k + 1, i64_succ (by omega), hlt⟩, by simp only; rw [i64_succ (by omega)]; omega⟩
        | false =>
          rw [if_neg (by decide), ix_nat hlt, Option.bind_some, rNode_is hpk hx, Option.bind_some]
          exact ⟨_, rfl, ⟨rfl, rfl, rfl, rfl, rfl, digest_by _, rfl, k + 1, i64_succ (by omega), hlt⟩, by simp only; rw [i64_succ (by omega)]; omega⟩
      · right
        rw [if_neg (by simp; omega)]
        exact ⟨_, rfl, rfl, rfl, rfl, rfl, rfl, hx⟩
    · right
      rw [if_neg (by simp; omega)]
      exact ⟨_, rfl, rfl, rfl, rfl, rfl, rfl, hx⟩
  · rintro ⟨y1, y2, y3, y4, y5, y6⟩ ⟨hq, e1, e2, e3, e4, e5, hy⟩
    simp only at e1 e2 e3 e4 e5 hy
    subst e1 e2 e3 e4 e5
    exact ⟨y6, hq, hy⟩

theorem intagliolaw12_TreeChecks_pure (root : Arr 32 Int) (n i : Int) (c : List Int) (path : List (Arr 32 Int)) (hr : Ty.ok (.arr 32 (.int .u8)) root)
    (hC : Ty.ok (.int .i64) n ∧ Ty.ok (.int .i64) i ∧ Ty.ok (.slc (.int .u8)) c ∧ Ty.ok (.slc (.arr 32 (.int .u8))) path ∧ True) : intagliolaw12_TreeChecks_M root n i c path = some true := by
  obtain ⟨hn, hi, hc, hp, _⟩ := hC
  have hn := ok_i64 hn
  have hi := ok_i64 hi
  replace hc := ok_bytes hc
  replace hp := ok_path hp
  unfold intagliolaw12_TreeChecks_M
  simp only [intagliolaw12_awake_P, awake_is, Option.bind_some, intaglioref12_Leaf_P, intaglioref12_Sides_P, tree_Check_P, intaglioref12_Check_P]
  split
  · rfl
  · split
    · rfl
    · rename_i h1 h2
      simp at h1 h2
      rw [rLeaf_is hc (by omega), Option.bind_some]
      have two : ∀ x : Arr 32 Int, (Option.bind (tree_Check_M x n i c path) fun (v15 : Bool) =>
          Option.bind (intaglioref12_Check_M x n i c path) fun (v16 : Bool) =>
          if (v15 == v16) = true then
            Option.bind (tree_Check_M root n i c path) fun (v17 : Bool) =>
            Option.bind (intaglioref12_Check_M root n i c path) fun (v18 : Bool) =>
            if (v17 == v18) = true then some true else some false
          else some false) = some true := by
        intro x
        obtain ⟨b, e1, e2⟩ := check_same (root := x) (n := n) (i := i) hn.2 hc (by omega) hp (by omega)
        obtain ⟨b', e3, e4⟩ := check_same (root := root) (n := n) (i := i) hn.2 hc (by omega) hp (by omega)
        rw [e1, e2, e3, e4]
        simp
      split
      · split
        · split
          · rename_i h3 h4 h5
            simp at h3 h4 h5
            obtain ⟨k, rfl⟩ := Int.eq_ofNat_of_zero_le h3
            obtain ⟨m, rfl⟩ := Int.eq_ofNat_of_zero_le (show 0 ≤ n by omega)
            rw [Sides_is (by omega) (by omega), Option.bind_some]
            obtain ⟨y, hy, hyb⟩ := checks_L1 (n := m) (i := k) root c hp (by omega) (x := leafF c) (digest_by _)
            rw [hy, Option.bind_some]
            exact two y
          · exact two _
        · exact two _
      · exact two _

theorem builds_L1 {l : List (List Int)} (hc : Chk l) (h24 : l.length ≤ 24) : ∃ r, loop intagliolaw12_TreeBuilds_L1_P (l, 0, 0, true, []) = some (.inl (l, (l.length : Int), true, r)) ∧ Pk 0 r l := by
  refine Exists.elim (loop_meas (body := intagliolaw12_TreeBuilds_L1_P) (fun (s : List (List Int) × Int × Int × Bool × List PT) => s.1 = l ∧ s.2.2.2.1 = true ∧ ∃ k : Nat, s.2.1 = (k : Int) ∧ s.2.2.1 = (k : Int) ∧ k ≤ l.length ∧ Pk 0 s.2.2.2.2 (l.take k))
    (fun s => l.length - s.2.1.toNat) (fun (y : (List (List Int) × Int × Bool × List PT) ⊕ (Bool × Int × Bool × List PT)) => ∃ r, y = .inl (l, (l.length : Int), true, r) ∧ Pk 0 r l)
    (s := (l, 0, 0, true, [])) ⟨rfl, rfl, 0, rfl, rfl, Nat.zero_le _, .nil _⟩ (by simp; omega) ?_) ?_
  · rintro ⟨l', k', n', m, r⟩ ⟨e1, e2, k, e3, e4, hk, hP⟩
    simp only at e1 e2 e3 e4 hP
    subst e1 e2 e3 e4
    simp only [intagliolaw12_TreeBuilds_L1_P, intagliolaw12_TreeBuilds_L1, tree_Builder_Len_P, tree_Builder_Len_M, Option.bind_some, tree_Builder_Root_P, intaglioref12_Root_P, tree_Builder_Add_P]
    by_cases hlt : k < l'.length
    · left
      obtain ⟨hb, hbl⟩ := hc.2 l'[k] (List.getElem_mem hlt)
      obtain ⟨r', hr', hP'⟩ := Add_is hP hb hbl (by simp; omega)
      have hr := bRoot_is hP (by simp; omega)
      rw [List.length_take, Nat.min_eq_left hk] at hr' hr
      rw [← List.take_succ_eq_append_getElem hlt] at hr' hP'
      rw [if_pos (decide_eq_true (by omega)), if_neg (by simp), hr, sub_take hk, Option.bind_some, Option.bind_some, rRoot_is (by simp; omega) (hc.take _), Option.bind_some, if_neg (by rw [eqI_self]; decide), ix_nat hlt, Option.bind_some]
      simp only
      rw [hr', Option.bind_some]
      exact ⟨_, rfl, ⟨rfl, rfl, k + 1, i64_succ (by omega), by simp; omega, hlt, hP'⟩, by simp only; rw [i64_succ (by omega)]; omega⟩
    · right
      obtain rfl : k = l'.length := by omega
      rw [if_neg (by simp)]
      rw [List.take_length] at hP
      exact ⟨_, rfl, r, rfl, hP⟩
  · rintro q ⟨hq, r, rfl, hP⟩
    exact ⟨r, hq, hP⟩

theorem intagliolaw12_TreeBuilds_pure (l : List (List Int)) (hl : Ty.ok (.slc (.slc (.int .u8))) l) : intagliolaw12_TreeBuilds_M l = some true := by
  unfold intagliolaw12_TreeBuilds_M
  simp only [intagliolaw12_awake_P, awake_is, Option.bind_some, intagliolaw12_light_P, tree_New_P, tree_New_M, tree_Builder_Add_n_P, tree_Builder_Add_n_M, tree_Builder_Len_n_P, tree_Builder_Len_n_M, tree_Builder_Root_n_P, tree_Builder_Add_P, tree_Builder_Len_P, tree_Builder_Len_M, tree_Builder_Root_P, intaglioref12_Root_P]
  obtain ⟨b, hb, hb2⟩ := light_is l
  rw [hb, Option.bind_some]
  cases b with
  | false => rfl
  | true =>
    obtain ⟨h24, _⟩ := hb2 rfl
    have hc := chk_of (ok_all hl) (hb2 rfl)
    rw [if_neg (by decide)]
    obtain ⟨r, hr, hP⟩ := builds_L1 hc h24
    have hr0 : tree_Builder_Root_n_M = some noneF := by
      unfold tree_Builder_Root_n_M
      simp only [tree_Builder_Len_n_P, tree_Builder_Len_n_M, Option.bind_some, tree_none_P]
      rw [if_pos (by decide), none_is, Option.bind_some]
    have hadd : tree_Builder_Add_M [1] 0 false [] = some (0, false, []) := rfl
    have hz : tree_Builder_Root_M 0 false [] = some (noneF, 0, false, []) := by
      unfold tree_Builder_Root_M
      simp only [tree_Builder_Len_P, tree_Builder_Len_M, Option.bind_some, tree_none_P]
      rw [if_pos (by decide), none_is, Option.bind_some]
    have hn : intaglioref12_Root_M [] = some noneF := by rw [rRoot_is (by decide) Chk.nil, rootS_nil]
    rw [hr, Option.bind_some, Sum.elim_inl, inb_ok' (by decide) (by decide), inb_ok' (by decide) (by decide)]
    simp only [Option.bind_some]
    rw [if_neg (by decide), hr0, Option.bind_some, hn, Option.bind_some, if_neg (by rw [eqI_self]; decide), hadd, Option.bind_some]
    simp only
    rw [if_neg (by decide), hz, Option.bind_some, Option.bind_some, if_neg (by rw [eqI_self]; decide), if_pos (by simp), bRoot_is hP (by omega), Option.bind_some, rRoot_is (by omega) hc, Option.bind_some, if_pos (eqI_self _)]

theorem check_path {l : List (List Int)} {i : Nat} (hi : i < l.length) (hl : l.length ≤ 1000) (hc : Chk l) : tree_Check_M (rootS l) (l.length : Int) (i : Int) l[i] (pathS l i) = some true := by
  obtain ⟨hb, hbl⟩ := hc.2 l[i] (List.getElem_mem hi)
  rw [Check_is hi (by omega) hb hbl (pathS_by _ l i (Nat.le_refl _))]
  unfold checkS
  have := up_path _ l i (Nat.le_refl _) hi
  rw [show l.getD i [] = l[i] by simp [List.getD, List.getElem?_eq_getElem hi]] at this
  rw [path_sides _ l i (Nat.le_refl _), decide_eq_true rfl, this, eqI_self]; rfl

theorem intagliolaw12_TreeBack_pure (l : List (List Int)) (hl : Ty.ok (.slc (.slc (.int .u8))) l) : intagliolaw12_TreeBack_M l = some true := by
  unfold intagliolaw12_TreeBack_M
  simp only [intagliolaw12_awake_P, awake_is, Option.bind_some, intagliolaw12_light_P, tree_Root_P]
  obtain ⟨b, hb, hb2⟩ := light_is l
  rw [hb, Option.bind_some]
  cases b with
  | false => rfl
  | true =>
    obtain ⟨h24, _⟩ := hb2 rfl
    have hc := chk_of (ok_all hl) (hb2 rfl)
    rw [if_neg (by decide), Root_is hc, Option.bind_some]
    rw [loop_is (r := .inl (rootS l)) (fun (s : List (List Int) × Int × Arr 32 Int) => s.1 = l ∧ s.2.2 = rootS l ∧ ∃ k : Nat, s.2.1 = (k : Int) ∧ k ≤ l.length) (fun s => l.length - s.2.1.toNat) ⟨rfl, rfl, 0, rfl, Nat.zero_le _⟩ (by simp; omega) ?_]
    · rfl
    · rintro ⟨l', k', m⟩ ⟨e1, e2, k, e3, hk⟩
      simp only at e1 e2 e3
      subst e1 e2 e3
      simp only [intagliolaw12_TreeBack_L1_P, intagliolaw12_TreeBack_L1, tree_Path_P, tree_Check_P]
      by_cases hlt : k < l'.length
      · left
        rw [if_pos (decide_eq_true (by omega)), Path_is (by omega) hlt hc, Option.bind_some, if_neg (by simp), ix_nat hlt, Option.bind_some, check_path hlt (by omega) hc, Option.bind_some, if_neg (by decide), Option.bind_some, Check_out (.inr (Int.le_refl _)), Option.bind_some, if_neg (by decide), Option.bind_some, Check_out (.inl (by decide)), Option.bind_some, if_neg (by decide)]
        exact ⟨_, rfl, ⟨rfl, rfl, k + 1, i64_succ (by omega), hlt⟩, by simp only; rw [i64_succ (by omega)]; omega⟩
      · right
        rw [if_neg (by simp; omega)]

/-! ### What checks is what stands there -/

theorem equal_is {a b : List Int} (ha : By a) (hb : By b) : bytes_Equal_M a b = some (decide (a = b)) := by
  unfold bytes_Equal_M; rw [b8_beq ha hb]
theorem nodeT_left {x y r p : Arr 32 Int} (h : nodeT x r = nodeT y p) : x = y := by
  have h := (List.cons.inj h).2
  exact Subtype.ext (List.append_inj h (x.2.trans y.2.symm)).1
theorem nodeT_right {x y r p : Arr 32 Int} (h : nodeT r x = nodeT p y) : x = y := by
  have h := (List.cons.inj h).2
  exact Subtype.ext (List.append_inj h (r.2.trans p.2.symm)).2

/-- No clash yet, and what the texts tell. -/
def Tells (clash : Bool) (a b c d : List Int) : Prop := clash = true ∨ ((digest a = digest b → a = b) ∧ (a = b → c = d))
theorem tells_next {a b c d a' b' : List Int} (h : Tells false a b c d) (hd : a' = b' → digest a = digest b) : Tells (decide (a' ≠ b') && xeqv.eqI (digest a').1 (digest b').1) a' b' c d := by
  rcases h with h | ⟨h1, h2⟩
  · cases h
  · by_cases he : a' = b'
    · exact .inr ⟨fun _ => he, fun e => h2 (h1 (hd e))⟩
    · by_cases hq : xeqv.eqI (digest a').1 (digest b').1 = true
      · left; rw [hq, decide_eq_true he]; rfl
      · exact .inr ⟨fun e => absurd (by rw [e]; exact eqI_self _) hq, fun e => absurd e he⟩

theorem binds_L1 {l : List (List Int)} {c : List Int} {path right : List (Arr 32 Int)} {n i : Nat} {root : Arr 32 Int} (N I : Int) (d : List Int) (hp : Bys path) (hr : Bys right)
    (hpl : path.length = (sidesS n i).length) (hrl : right.length = (sidesS n i).length) (hl : path.length ≤ 1000000) {clash : Bool} {a b : List Int} (ha : By a) (hb : By b) (hal : a.length ≤ 1000000) (hbl : b.length ≤ 1000000)
    (hT : Tells clash a b c d) (hua : upS (sidesS n i) right (digest a) = root) (hub : upS (sidesS n i) path (digest b) = root) :
    ∃ q, loop intagliolaw12_TreeBinds_L1_P (l, clash, 0, N, I, c, path, right, sidesI n i, a, b) = some (l, q, N, I, c, path) ∧ (q = true ∨ c = d) := by
  refine Exists.elim (loop_meas (body := intagliolaw12_TreeBinds_L1_P) (fun (s : List (List Int) × Bool × Int × Int × Int × List Int × List (Arr 32 Int) × List (Arr 32 Int) × List Int × List Int × List Int) =>
      s.1 = l ∧ s.2.2.2.1 = N ∧ s.2.2.2.2.1 = I ∧ s.2.2.2.2.2.1 = c ∧ s.2.2.2.2.2.2.1 = path ∧ s.2.2.2.2.2.2.2.1 = right ∧ s.2.2.2.2.2.2.2.2.1 = sidesI n i ∧
      ∃ (k : Nat) (a b : List Int), s.2.2.1 = (k : Int) ∧ k ≤ path.length ∧ s.2.2.2.2.2.2.2.2.2.1 = a ∧ s.2.2.2.2.2.2.2.2.2.2 = b ∧ By a ∧ By b ∧ a.length ≤ 1000000 ∧ b.length ≤ 1000000 ∧ Tells s.2.1 a b c d ∧
        upS ((sidesS n i).drop k) (right.drop k) (digest a) = root ∧ upS ((sidesS n i).drop k) (path.drop k) (digest b) = root)
    (fun s => path.length - s.2.2.1.toNat) (fun (y : List (List Int) × Bool × Int × Int × List Int × List (Arr 32 Int)) => ∃ q, y = (l, q, N, I, c, path) ∧ (q = true ∨ c = d))
    (s := (l, clash, 0, N, I, c, path, right, sidesI n i, a, b)) ⟨rfl, rfl, rfl, rfl, rfl, rfl, rfl, 0, a, b, rfl, Nat.zero_le _, rfl, rfl, ha, hb, hal, hbl, hT, hua, hub⟩ (by simp; omega) ?_) ?_
  · rintro ⟨l', cl, k', N', I', c', p', r', s', a', b'⟩ ⟨e1, e2, e3, e4, e5, e6, e7, k, a, b, e8, hk, e9, e10, ha, hb, hal, hbl, hT, hua, hub⟩
    simp only at e1 e2 e3 e4 e5 e6 e7 e8 e9 e10 hT
    subst e1 e2 e3 e4 e5 e6 e7 e8 e9 e10
    simp only [intagliolaw12_TreeBinds_L1_P, intagliolaw12_TreeBinds_L1, intaglioref05_Sum_P, intaglioref12_NodeText_P, bytes_Equal_P, sidesI_len]
    by_cases hlt : k < p'.length
    · left
      have hs : k < (sidesS n i).length := by omega
      have hlr : k < r'.length := by omega
      have hpk : By (p'[k]).1 := hp _ (List.getElem_mem hlt)
      have hrk : By (r'[k]).1 := hr _ (List.getElem_mem hlr)
      have hg : ∀ z : Arr 32 Int, List.getD r' k z = r'[k] := fun z => by simp [List.getD, List.getElem?_eq_getElem hlr]
      rw [if_pos (decide_eq_true (by omega)), rSum_is ha (by omega), Option.bind_some, rSum_is hb (by omega), Option.bind_some, inb_ok hs, Option.bind_some, Int.toNat_natCast, sidesI_get hs, inb_ok hlr, ix_nat hlt]
      simp only [Option.bind_some]
      rw [hg]
      rw [upS_step hs hlr] at hua
      rw [upS_step hs hlt] at hub
      have step : ∀ (x y : List Int) (cl' : Bool), By x → By y → x.length = 65 → y.length = 65 → Tells cl' x y c' d → upS ((sidesS n i).drop (k + 1)) (r'.drop (k + 1)) (digest x) = root → upS ((sidesS n i).drop (k + 1)) (p'.drop (k + 1)) (digest y) = root →
          ∃ s', (some (.inl (l', cl', IntKind.i64.wrap ((k : Int) + 1), N', I', c', p', r', sidesI n i, x, y)) : Option ((List (List Int) × Bool × Int × Int × Int × List Int × List (Arr 32 Int) × List (Arr 32 Int) × List Int × List Int × List Int) ⊕ (List (List Int) × Bool × Int × Int × List Int × List (Arr 32 Int)))) = some (.inl s') ∧
            (s'.1 = l' ∧ s'.2.2.2.1 = N' ∧ s'.2.2.2.2.1 = I' ∧ s'.2.2.2.2.2.1 = c' ∧ s'.2.2.2.2.2.2.1 = p' ∧ s'.2.2.2.2.2.2.2.1 = r' ∧ s'.2.2.2.2.2.2.2.2.1 = sidesI n i ∧
            ∃ (k : Nat) (a b : List Int), s'.2.2.1 = (k : Int) ∧ k ≤ p'.length ∧ s'.2.2.2.2.2.2.2.2.2.1 = a ∧ s'.2.2.2.2.2.2.2.2.2.2 = b ∧ By a ∧ By b ∧ a.length ≤ 1000000 ∧ b.length ≤ 1000000 ∧ Tells s'.2.1 a b c' d ∧
              upS ((sidesS n i).drop k) (r'.drop k) (digest a) = root ∧ upS ((sidesS n i).drop k) (p'.drop k) (digest b) = root) ∧ p'.length - s'.2.2.1.toNat < p'.length - (k : Int).toNat := by
        intro x y cl' hx hy hxl hyl hT hu hv
        exact ⟨_, rfl, ⟨rfl, rfl, rfl, rfl, rfl, rfl, rfl, k + 1, x, y, i64_succ (by omega), hlt, rfl, rfl, hx, hy, by omega, by omega, hT, hu, hv⟩, by simp only; rw [i64_succ (by omega)]; omega⟩
      have all : ∀ (x y : List Int), By x → By y → x.length = 65 → y.length = 65 → (x = y → digest a' = digest b') → upS ((sidesS n i).drop (k + 1)) (r'.drop (k + 1)) (digest x) = root → upS ((sidesS n i).drop (k + 1)) (p'.drop (k + 1)) (digest y) = root →
          ∃ s', (if cl = true then some (.inl (l', true, IntKind.i64.wrap ((k : Int) + 1), N', I', c', p', r', sidesI n i, x, y)) else
            Option.bind (bytes_Equal_M x y) fun (v7 : Bool) =>
            if (!v7) = true then
              Option.bind (intaglioref05_Sum_M x) fun (v8 : Arr 32 Int) =>
              Option.bind (intaglioref05_Sum_M y) fun (v9 : Arr 32 Int) =>
              some (.inl (l', xeqv.eqI v8.val v9.val, IntKind.i64.wrap ((k : Int) + 1), N', I', c', p', r', sidesI n i, x, y))
            else some (.inl (l', false, IntKind.i64.wrap ((k : Int) + 1), N', I', c', p', r', sidesI n i, x, y)) : Option ((List (List Int) × Bool × Int × Int × Int × List Int × List (Arr 32 Int) × List (Arr 32 Int) × List Int × List Int × List Int) ⊕ (List (List Int) × Bool × Int × Int × List Int × List (Arr 32 Int)))) = some (.inl s') ∧
            (s'.1 = l' ∧ s'.2.2.2.1 = N' ∧ s'.2.2.2.2.1 = I' ∧ s'.2.2.2.2.2.1 = c' ∧ s'.2.2.2.2.2.2.1 = p' ∧ s'.2.2.2.2.2.2.2.1 = r' ∧ s'.2.2.2.2.2.2.2.2.1 = sidesI n i ∧
            ∃ (k : Nat) (a b : List Int), s'.2.2.1 = (k : Int) ∧ k ≤ p'.length ∧ s'.2.2.2.2.2.2.2.2.2.1 = a ∧ s'.2.2.2.2.2.2.2.2.2.2 = b ∧ By a ∧ By b ∧ a.length ≤ 1000000 ∧ b.length ≤ 1000000 ∧ Tells s'.2.1 a b c' d ∧
              upS ((sidesS n i).drop k) (r'.drop k) (digest a) = root ∧ upS ((sidesS n i).drop k) (p'.drop k) (digest b) = root) ∧ p'.length - s'.2.2.1.toNat < p'.length - (k : Int).toNat := by
        intro x y hx hy hxl hyl hd hu hv
        cases cl with
        | true => rw [if_pos rfl]; exact step x y true hx hy hxl hyl (.inl rfl) hu hv
        | false =>
          have hn := tells_next hT hd
          rw [if_neg (by decide), equal_is hx hy, Option.bind_some]
          by_cases he : x = y
          · rw [decide_eq_true he, if_neg (by decide)]
            rw [show decide (x ≠ y) = false from decide_eq_false (fun h => h he), Bool.false_and] at hn
            exact step x y false hx hy hxl hyl hn hu hv
          · rw [decide_eq_false he, if_pos (by decide), rSum_is hx (by omega), Option.bind_some, rSum_is hy (by omega), Option.bind_some]
            rw [decide_eq_true he, Bool.true_and] at hn
            exact step x y _ hx hy hxl hyl hn hu hv
      cases hbk : (sidesS n i)[k] with
      | true =>
        rw [hbk, if_pos rfl] at hua hub
        rw [if_pos rfl, rNodeText_is, Option.bind_some, rNodeText_is, Option.bind_some]
        exact all _ _ (nodeT_by (digest_by _) hrk) (nodeT_by (digest_by _) hpk) (nodeT_len ..) (nodeT_len ..) nodeT_left hua hub
      | false =>
        rw [hbk, if_neg (by decide)] at hua hub
        rw [if_neg (by decide), rNodeText_is, Option.bind_some, rNodeText_is, Option.bind_some]
        exact all _ _ (nodeT_by hrk (digest_by _)) (nodeT_by hpk (digest_by _)) (nodeT_len ..) (nodeT_len ..) nodeT_right hua hub
    · right
      obtain rfl : k = p'.length := by omega
      rw [if_neg (by simp; omega)]
      refine ⟨_, rfl, cl, rfl, ?_⟩
      rw [List.drop_length, upS_nil] at hub
      rw [show p'.length = r'.length by omega, List.drop_length, upS_nil] at hua
      rcases hT with h | ⟨h1, h2⟩
      · exact .inl h
      · exact .inr (h2 (h1 (hua.trans hub.symm)))
  · rintro y ⟨hq, q, rfl, h⟩
    exact ⟨q, hq, h⟩

theorem intagliolaw12_TreeBinds_pure (l : List (List Int)) (n i : Int) (c : List Int) (path : List (Arr 32 Int)) (hl : Ty.ok (.slc (.slc (.int .u8))) l)
    (hC : Ty.ok (.int .i64) n ∧ Ty.ok (.int .i64) i ∧ Ty.ok (.slc (.int .u8)) c ∧ Ty.ok (.slc (.arr 32 (.int .u8))) path ∧ True) : intagliolaw12_TreeBinds_M l n i c path = some true := by
  obtain ⟨hn, hi, hc, hp, _⟩ := hC
  replace hc := ok_bytes hc
  replace hp := ok_path hp
  unfold intagliolaw12_TreeBinds_M
  simp only [intagliolaw12_awake_P, awake_is, Option.bind_some, intagliolaw12_light_P, tree_Root_P, tree_Check_P, intaglioref12_Path_P, intaglioref12_Sides_P, intaglioref12_LeafText_P, bytes_Equal_P, intaglioref05_Sum_P]
  obtain ⟨b, hb, hb2⟩ := light_is l
  rw [hb, Option.bind_some]
  cases b with
  | false => rfl
  | true =>
    obtain ⟨h24, _⟩ := hb2 rfl
    have hk := chk_of (ok_all hl) (hb2 rfl)
    rw [if_neg (by decide)]
    split
    · rfl
    split
    · rfl
    split
    · rfl
    split
    · rfl
    rename_i g1 g2 g3 g4
    simp at g1 g2 g3 g4
    obtain ⟨k, rfl⟩ := Int.eq_ofNat_of_zero_le g3
    have hkl : k < l.length := by omega
    obtain ⟨hlb, hll⟩ := hk.2 l[k] (List.getElem_mem hkl)
    rw [Root_is hk, Option.bind_some, Check_is hkl (by omega) hc (by omega) hp, Option.bind_some]
    cases hcs : checkS (rootS l) l.length k c path with
    | false => rfl
    | true =>
      have hcs2 := hcs
      unfold checkS at hcs2
      rw [Bool.and_eq_true] at hcs2
      obtain ⟨hc1, hc2⟩ := hcs2
      have hpl := of_decide_eq_true hc1
      have hub : upS (sidesS l.length k) path (leafF c) = rootS l := Subtype.ext (eqI_iff.1 hc2)
      have hua := up_path _ l k (Nat.le_refl _) hkl
      rw [show l.getD k [] = l[k] by simp [List.getD, List.getElem?_eq_getElem hkl]] at hua
      have hps := path_sides _ l k (Nat.le_refl _)
      rw [if_neg (by decide), rPath_is (by omega) hkl hk, Option.bind_some, Sides_is hkl (by omega), Option.bind_some, if_neg (by simp; omega), ix_nat hkl, Option.bind_some, rLeafText_is hll, Option.bind_some, rLeafText_is (by omega), Option.bind_some, equal_is (leafT_by hlb) (leafT_by hc), Option.bind_some]
      have hT : Tells (decide (leafT l[k] ≠ leafT c) && xeqv.eqI (digest (leafT l[k])).1 (digest (leafT c)).1) (leafT l[k]) (leafT c) c l[k] := by
        by_cases he : leafT l[k] = leafT c
        · exact .inr ⟨fun _ => he, fun e => (List.cons.inj e).2.symm⟩
        · by_cases hq : xeqv.eqI (digest (leafT l[k])).1 (digest (leafT c)).1 = true
          · left; rw [hq, decide_eq_true he]; rfl
          · exact .inr ⟨fun e => absurd (by rw [e]; exact eqI_self _) hq, fun e => absurd e he⟩
      have hla : (leafT l[k]).length ≤ 1000000 := by have := (hb2 rfl).2 l[k] (List.getElem_mem hkl); simp [leafT]; omega
      have hlc : (leafT c).length ≤ 1000000 := by simp [leafT]; omega
      have fin : ∀ q : Bool, (q = true ∨ c = l[k]) → (Option.bind (ix l (k : Int)) fun (v18 : List Int) =>
          Option.bind (bytes_Equal_M c v18) fun (v19 : Bool) =>
          if v19 = true then some true else if q = true then some true else some false) = some true := by
        intro q hq
        rw [ix_nat hkl, Option.bind_some, equal_is hc hlb, Option.bind_some]
        rcases hq with rfl | h
        · split <;> rfl
        · rw [decide_eq_true h]; rfl
      by_cases he : leafT l[k] = leafT c
      · rw [decide_eq_true he, if_neg (by decide)]
        rw [show decide (leafT l[k] ≠ leafT c) = false from decide_eq_false (fun h => h he), Bool.false_and] at hT
        obtain ⟨q, hq, hq2⟩ := binds_L1 (l := l) (root := rootS l) n (k : Int) l[k] hp (pathS_by _ l k (Nat.le_refl _)) hpl hps (by omega) (leafT_by hlb) (leafT_by hc) hla hlc hT hua hub
        rw [hq, Option.bind_some]
        exact fin q hq2
      · rw [decide_eq_false he, if_pos (by decide), rSum_is (leafT_by hlb) (by omega), Option.bind_some, rSum_is (leafT_by hc) (by omega), Option.bind_some]
        rw [decide_eq_true he, Bool.true_and] at hT
        obtain ⟨q, hq, hq2⟩ := binds_L1 (l := l) (root := rootS l) n (k : Int) l[k] hp (pathS_by _ l k (Nat.le_refl _)) hpl hps (by omega) (leafT_by hlb) (leafT_by hc) hla hlc hT hua hub
        rw [hq, Option.bind_some]
        exact fin q hq2
end Go.Proofs.YtmjmjfbmgiidiaaDoor
