/- What the package mac and the document's answer come to, in plain words: the same. -/
import Derived.Test.YtcpddgjmopdlbaaDoorSh2
namespace Go.Proofs.YtcpddgjmopdlbaaDoor
open Go Go.Lift
set_option maxRecDepth 100000
set_option maxHeartbeats 4000000
set_option linter.unusedVariables false

theorem eqI_self (x : List Int) : xeqv.eqI x x = true := by unfold xeqv.eqI; simp
theorem dig_len (t : List Int) : (digest t).1.length = 32 := (digest t).2
theorem dig_take (t : List Int) : List.drop 0 (List.take 32 (digest t).1) = (digest t).1 := by rw [List.drop_zero, List.take_of_length_le (Nat.le_of_eq (dig_len t))]

def keyF (k : List Int) : List Int := if 64 < k.length then (digest k).1 else k
def padx (c : Int) (k : List Int) : List Int := (List.range 64).map fun i => bxor .u8 (k.getD i 0) c
def hmacF (k t : List Int) : Arr 32 Int := digest (padx 92 (keyF k) ++ (digest (padx 54 (keyF k) ++ t)).1)

theorem keyF_le (k : List Int) : (keyF k).length ≤ 64 := by
  unfold keyF; split
  · rw [dig_len]; decide
  · omega
theorem keyF_by {k : List Int} (h : By k) : By (keyF k) := by
  unfold keyF; split
  · exact digest_by _
  · exact h
theorem padx_len (c : Int) (k : List Int) : (padx c k).length = 64 := by simp [padx]
theorem padx_by (c : Int) (k : List Int) : By (padx c k) := by
  intro x hx
  simp only [padx, List.mem_map] at hx
  obtain ⟨i, _, rfl⟩ := hx
  unfold bxor
  rw [IntKind.wrap_u8]; omega
theorem padx_get (c : Int) (k : List Int) (i : Nat) (h : i < 64) : (padx c k).getD i 0 = bxor .u8 (k.getD i 0) c := by
  unfold padx
  simp [List.getD, List.getElem?_map, List.getElem?_range h]
theorem list_ext64 {a b : List Int} (ha : a.length = 64) (hb : b.length = 64) (h : ∀ j, j < 64 → a.getD j 0 = b.getD j 0) : a = b :=
  congrArg Subtype.val (arr_ext (a := ⟨a, ha⟩) (b := ⟨b, hb⟩) h)
/-- Bytes 0 behind a short key. -/
theorem padx_zeros (c : Int) (k : List Int) (n : Nat) : padx c (k ++ List.replicate n 0) = padx c k := by
  refine list_ext64 (padx_len ..) (padx_len ..) fun j hj => ?_
  rw [padx_get _ _ _ hj, padx_get _ _ _ hj]
  congr 1
  simp only [List.getD, List.getElem?_append, List.getElem?_replicate]
  split
  · rfl
  · rename_i h
    rw [List.getElem?_eq_none (by omega)]
    split <;> rfl
theorem hmac_zeros {k : List Int} {n : Nat} (h : k.length + n ≤ 64) (t : List Int) : hmacF (k ++ List.replicate n 0) t = hmacF k t := by
  have e1 : keyF (k ++ List.replicate n 0) = k ++ List.replicate n 0 := by unfold keyF; rw [if_neg (by simp; omega)]
  have e2 : keyF k = k := by unfold keyF; rw [if_neg (by omega)]
  unfold hmacF
  rw [e1, e2, padx_zeros, padx_zeros]
theorem hmac_long {k : List Int} (h : 64 < k.length) (t : List Int) : hmacF (digest k).1 t = hmacF k t := by
  have e1 : keyF (digest k).1 = (digest k).1 := by unfold keyF; rw [if_neg (by rw [dig_len]; decide)]
  have e2 : keyF k = (digest k).1 := by unfold keyF; rw [if_pos h]
  unfold hmacF
  rw [e1, e2]

/-! ### The package -/

theorem join_is {l : List (List Int)} (hl : l.flatten.length ≤ 1000000000) (hn : l.length ≤ 1000000) : pack_Join_M l = some l.flatten := by
  unfold pack_Join_M
  have h := loop_count (body := pack_Join_L1_P) (T := Unit) l.length (fun i _ => (l, (l.length : Int), (i : Int), (l.take i).flatten)) (fun _ _ => ()) (fun _ => l.flatten) (fun _ _ => True) (i := 0) (t := ()) ?_ ?_ (by omega) (by omega) trivial
  · have h1 := h.1
    simp only [List.take_zero, List.flatten_nil] at h1
    rw [show (((0 : Nat) : Int)) = 0 from rfl] at h1
    rw [h1]; rfl
  · intro i t hi _
    refine ⟨?_, trivial⟩
    simp only [pack_Join_L1_P, pack_Join_L1]
    have e : (l.take (i + 1)).flatten = (l.take i).flatten ++ l[i] := by rw [List.take_succ_eq_append_getElem hi, List.flatten_append, List.flatten_cons, List.flatten_nil, List.append_nil]
    have hle : (l.take (i + 1)).flatten.length ≤ l.flatten.length := by
      conv => rhs; rw [← List.take_append_drop (i + 1) l, List.flatten_append, List.length_append]
      omega
    rw [if_pos (by simp; omega), ix_nat hi, Option.bind_some, room_one (by rw [e, List.length_append] at hle; omega), Option.bind_some, i64_succ (by omega), e]
  · intro t _
    simp only [pack_Join_L1_P, pack_Join_L1]
    rw [if_neg (by simp), List.take_length]

theorem msum_is {l : List (List Int)} (hl : l.flatten.length ≤ 900000000) (hn : l.length ≤ 1000000) (hb : By l.flatten) : mac_sum_M l = some (digest l.flatten).1 := by
  unfold mac_sum_M
  simp only [pack_Join_P, sha_Sum_P]
  rw [join_is (by omega) hn, Option.bind_some, Sum_is hb hl, Option.bind_some, subn_ok (by decide) (by decide) (by decide), Option.bind_some]

theorem pads_R1 (k : List Int) : mac_pads_R1_P k = some (k, List.replicate 64 0, List.replicate 64 0) := by
  simp only [mac_pads_R1_P, mac_pads_R1]
  rw [mk2_ok (by decide) (by decide) (by decide)]
  simp only [Option.bind_some, agree_self]
  rfl

theorem cpy_zeros {k : List Int} (h : k.length ≤ 64) : cpyL (List.replicate 64 (0 : Int)) 0 (List.replicate 64 (0 : Int)).length k = k ++ List.replicate (64 - k.length) 0 := by
  rw [cpyL_eq (Nat.zero_le _) (Nat.le_refl _)]
  simp only [List.length_replicate, List.take_zero, List.nil_append, Nat.sub_zero, Nat.zero_add]
  rw [show min k.length 64 = k.length by omega, List.take_length, List.drop_replicate]

theorem zeros_get (k : List Int) (n j : Nat) : (k ++ List.replicate n (0 : Int)).getD j 0 = k.getD j 0 := by
  simp only [List.getD, List.getElem?_append, List.getElem?_replicate]
  split
  · rfl
  · rename_i h
    rw [List.getElem?_eq_none (by omega)]
    split <;> rfl

theorem set_get (l : List Int) (i j : Nat) (y : Int) (hi : i < l.length) : (l.set i y).getD j 0 = if j = i then y else l.getD j 0 := by
  simp only [List.getD, List.getElem?_set]
  by_cases h : i = j
  · subst h; simp [hi]
  · rw [if_neg h, if_neg (Ne.symm h)]

theorem pads_L2 {k : List Int} (h : k.length ≤ 64) : loop mac_pads_L2_P ((0 : Int), k ++ List.replicate (64 - k.length) 0, k ++ List.replicate (64 - k.length) 0) = some (padx 54 k, padx 92 k) := by
  have h := loop_count' (body := mac_pads_L2_P) (T := List Int × List Int) 64 (fun i p => ((i : Int), p.1, p.2)) (fun i p => (p.1.set i (bxor .u8 (p.1.getD i 0) 54), p.2.set i (bxor .u8 (p.2.getD i 0) 92))) (fun p => (p.1, p.2))
    (fun i p => p.1.length = 64 ∧ p.2.length = 64 ∧ (∀ j, j < 64 → p.1.getD j 0 = if j < i then bxor .u8 (k.getD j 0) 54 else k.getD j 0) ∧ (∀ j, j < 64 → p.2.getD j 0 = if j < i then bxor .u8 (k.getD j 0) 92 else k.getD j 0))
    (i := 0) (t := (k ++ List.replicate (64 - k.length) 0, k ++ List.replicate (64 - k.length) 0)) ?_ ?_ (by decide) (by decide) ?_
  · obtain ⟨⟨q1, q2⟩, h1, h2, h3, h4, h5⟩ := h
    have e1 : q1 = padx 54 _ := list_ext64 h2 (padx_len ..) fun j hj => by rw [h4 j hj, if_pos hj, padx_get _ _ _ hj]
    have e2 : q2 = padx 92 _ := list_ext64 h3 (padx_len ..) fun j hj => by rw [h5 j hj, if_pos hj, padx_get _ _ _ hj]
    rw [e1, e2] at h1
    exact h1
  · rintro i ⟨p, q⟩ hi ⟨hp, hq, h1, h2⟩
    simp only at hp hq h1 h2
    refine ⟨?_, by simpa using hp, by simpa using hq, ?_, ?_⟩
    · simp only [mac_pads_L2_P, mac_pads_L2]
      rw [if_pos (by simp; omega), inb_ok (by omega), inb_ok (by omega)]
      simp only [Option.bind_some, i64_succ (show i < 4611686018427387904 by omega), Int.toNat_natCast]
    · intro j hj
      show (List.set p _ _).getD j 0 = _
      rw [set_get _ _ _ _ (by omega), h1 i hi, h1 j hj]
      by_cases hji : j = i
      · subst hji; rw [if_pos rfl, if_neg (Nat.lt_irrefl j), if_pos (Nat.lt_succ_self j)]
      · rw [if_neg hji]
        by_cases hlt : j < i
        · rw [if_pos hlt, if_pos (by omega)]
        · rw [if_neg hlt, if_neg (by omega)]
    · intro j hj
      show (List.set q _ _).getD j 0 = _
      rw [set_get _ _ _ _ (by omega), h2 i hi, h2 j hj]
      by_cases hji : j = i
      · subst hji; rw [if_pos rfl, if_neg (Nat.lt_irrefl j), if_pos (Nat.lt_succ_self j)]
      · rw [if_neg hji]
        by_cases hlt : j < i
        · rw [if_pos hlt, if_pos (by omega)]
        · rw [if_neg hlt, if_neg (by omega)]
  · intro t _
    simp only [mac_pads_L2_P, mac_pads_L2]
    rw [if_neg (by simp)]
  · refine ⟨by simp; omega, by simp; omega, fun j hj => ?_, fun j hj => ?_⟩
    · rw [zeros_get, if_neg (by omega)]
    · rw [zeros_get, if_neg (by omega)]

theorem pads_is {k : List Int} (hb : By k) (hl : k.length ≤ 800000000) : mac_pads_M k = some (padx 54 (keyF k), padx 92 (keyF k)) := by
  have key : ∀ q : List Int, q.length ≤ 64 → (Option.bind (mac_pads_R1_P q) fun (v3 : ((List Int) × ((List Int) × (List Int)))) =>
      Option.bind (loop mac_pads_L2_P ((0 : Int), cpyL v3.snd.fst (0 : Nat) (List.length v3.snd.fst) v3.fst, cpyL v3.snd.snd (0 : Nat) (List.length v3.snd.snd) v3.fst)) fun (v4 : ((List Int) × (List Int))) =>
      some (v4.fst, v4.snd)) = some (padx 54 q, padx 92 q) := by
    intro q hq
    rw [pads_R1, Option.bind_some]
    simp only
    rw [cpy_zeros hq, pads_L2 hq, Option.bind_some]
  unfold mac_pads_M
  by_cases h : 64 < k.length
  · rw [if_pos (by simp; omega)]
    simp only [mac_sum_P]
    rw [msum_is (by simp; omega) (by simp) (by simpa using hb), Option.bind_some]
    simp only [List.flatten_cons, List.flatten_nil, List.append_nil]
    rw [key _ (by rw [dig_len]; decide), show keyF k = (digest k).1 by unfold keyF; rw [if_pos h]]
  · rw [if_neg (by simp; omega), key k (by omega), show keyF k = k by unfold keyF; rw [if_neg h]]

theorem Hmac_is {k t : List Int} (hk : By k) (hkl : k.length ≤ 800000000) (ht : By t) (htl : t.length ≤ 800000000) : mac_Hmac_M k t = some (hmacF k t) := by
  unfold mac_Hmac_M
  simp only [mac_pads_P, mac_sum_P]
  rw [pads_is hk hkl, Option.bind_some]
  simp only
  rw [msum_is (by simp [padx_len]; omega) (by simp) (by simpa using (padx_by 54 (keyF k)).app ht), Option.bind_some]
  simp only [List.flatten_cons, List.flatten_nil, List.append_nil]
  rw [msum_is (by simp [padx_len, dig_len]) (by simp) (by simpa using (padx_by 92 (keyF k)).app (digest_by _)), Option.bind_some]
  simp only [List.flatten_cons, List.flatten_nil, List.append_nil]
  rw [show lenAt 32 (digest (padx 92 (keyF k) ++ (digest (padx 54 (keyF k) ++ t)).1)).1.length = some () by unfold lenAt; rw [if_pos (Nat.le_of_eq (dig_len _).symm)], Option.bind_some]
  refine congrArg some (Subtype.ext ?_)
  rw [Arr.tk_val _ (Nat.le_of_eq (dig_len _).symm), List.take_of_length_le (Nat.le_of_eq (dig_len _))]; rfl

/-! ### The document -/

theorem rHmac_L1 {k : List Int} (h : k.length ≤ 64) (t : List Int) (m0 : Arr 32 Int) : loop intaglioref06_Hmac_L1_P (t, (0 : Int), m0, k, [], []) = some (t, m0, padx 54 k, padx 92 k) := by
  have e54 : bxor .u8 0 54 = 54 := by kernel_rfl
  have e92 : bxor .u8 0 92 = 92 := by kernel_rfl
  have hs : ∀ (c : Int) i, i < 64 → (padx c k).take (i + 1) = (padx c k).take i ++ [bxor .u8 (k.getD i 0) c] := fun c i hi => by
    rw [List.take_succ_eq_append_getElem (by rw [padx_len]; exact hi)]
    congr 2
    have := padx_get c k i hi
    rw [← this]
    simp [List.getD, List.getElem?_eq_getElem (show i < (padx c k).length by rw [padx_len]; exact hi)]
  have h := loop_count (body := intaglioref06_Hmac_L1_P) (T := Unit) 64 (fun i _ => (t, (i : Int), m0, k, (padx 54 k).take i, (padx 92 k).take i)) (fun _ _ => ()) (fun _ => (t, m0, padx 54 k, padx 92 k)) (fun _ _ => True) (i := 0) (t := ()) ?_ ?_ (by decide) (by decide) trivial
  · exact h.1
  · intro i u hi _
    refine ⟨?_, trivial⟩
    simp only [intaglioref06_Hmac_L1_P, intaglioref06_Hmac_L1]
    rw [if_pos (by simp; omega)]
    by_cases hik : i < k.length
    · rw [if_pos (by simpa using hik), inb_ok hik, Option.bind_some, room_one (by simp [padx_len]; omega), Option.bind_some, room_one (by simp [padx_len]; omega), Option.bind_some, i64_succ (by omega), hs 54 i hi, hs 92 i hi]
      simp only [Int.toNat_natCast]
    · rw [if_neg (by simpa using hik), room_one (by simp [padx_len]; omega), Option.bind_some, room_one (by simp [padx_len]; omega), Option.bind_some, i64_succ (by omega), hs 54 i hi, hs 92 i hi]
      have : k.getD i 0 = 0 := by simp [List.getD, List.getElem?_eq_none (show k.length ≤ i by omega)]
      rw [this, e54, e92]
  · intro u _
    simp only [intaglioref06_Hmac_L1_P, intaglioref06_Hmac_L1]
    rw [if_neg (by simp), List.take_of_length_le (Nat.le_of_eq (padx_len ..)), List.take_of_length_le (Nat.le_of_eq (padx_len ..))]

theorem rHmac_is {k t : List Int} (hk : By k) (hkl : k.length ≤ 800000000) (ht : By t) (htl : t.length ≤ 800000000) : intaglioref06_Hmac_M k t = some (hmacF k t) := by
  have key : ∀ q : List Int, q.length ≤ 64 → (Option.bind (loop intaglioref06_Hmac_L1_P (t, (0 : Int), Arr.rep (32 : Nat) (0 : Int), q, [], [])) fun (v9 : ((List Int) × ((Arr (32 : Nat) Int) × ((List Int) × (List Int))))) =>
      Option.bind (intaglioref01_Both_P (v9.snd.snd.fst, v9.fst)) fun (v10 : (List Int)) =>
      Option.bind (intaglioref05_Sum_P v10) fun (v11 : (Arr (32 : Nat) Int)) =>
      Option.bind (subn (32 : Nat) (0 : Int) (32 : Int)) fun _ =>
      Option.bind (intaglioref01_Both_P (v9.snd.snd.snd, List.drop (nat_lit 0) (List.take (nat_lit 32) v11.val))) fun (v13 : (List Int)) =>
      Option.bind (intaglioref05_Sum_P v13) fun (v14 : (Arr (32 : Nat) Int)) =>
      some (v14)) = some (digest (padx 92 q ++ (digest (padx 54 q ++ t)).1)) := by
    intro q hq
    rw [rHmac_L1 hq, Option.bind_some]
    simp only [intaglioref01_Both_P, intaglioref05_Sum_P]
    rw [both (by rw [padx_len]; omega), Option.bind_some, rSum_is ((padx_by 54 q).app ht) (by rw [List.length_append, padx_len]; omega), Option.bind_some, subn_ok (by decide) (by decide) (by decide), Option.bind_some]
    rw [show List.drop (nat_lit 0) (List.take (nat_lit 32) (digest (padx 54 q ++ t)).1) = (digest (padx 54 q ++ t)).1 from dig_take _]
    rw [both (by rw [padx_len, dig_len]; decide), Option.bind_some, rSum_is ((padx_by 92 q).app (digest_by _)) (by rw [List.length_append, padx_len, dig_len]; decide), Option.bind_some]
  unfold intaglioref06_Hmac_M
  simp only [intaglioref01_Both_P]
  rw [both (by simp; omega), Option.bind_some, List.nil_append]
  by_cases h : 64 < k.length
  · rw [if_pos (by simp; omega)]
    simp only [intaglioref05_Sum_P]
    rw [rSum_is hk (by omega), Option.bind_some, subn_ok (by decide) (by decide) (by decide), Option.bind_some]
    have := key (digest k).1 (by rw [dig_len]; decide)
    simp only [intaglioref01_Both_P, intaglioref05_Sum_P] at this
    rw [subn_ok (by decide) (by decide) (by decide)] at this
    rw [this]
    unfold hmacF
    rw [show keyF k = (digest k).1 by unfold keyF; rw [if_pos h]]
  · rw [if_neg (by simp; omega)]
    have := key k (by omega)
    simp only [intaglioref01_Both_P, intaglioref05_Sum_P] at this ⊢
    rw [this]
    unfold hmacF
    rw [show keyF k = k by unfold keyF; rw [if_neg h]]

/-! ### Many bytes -/

/-- So many sums: all of them, and the last. -/
def expF (key info : List Int) : Nat → List Int × List Int
  | 0 => ([], [])
  | i + 1 => ((expF key info i).1 ++ (hmacF key ((expF key info i).2 ++ info ++ [((i + 1 : Nat) : Int)])).1, (hmacF key ((expF key info i).2 ++ info ++ [((i + 1 : Nat) : Int)])).1)
theorem expF_len (key info : List Int) : ∀ i, (expF key info i).1.length = 32 * i ∧ (expF key info i).2.length ≤ 32
  | 0 => ⟨rfl, Nat.zero_le _⟩
  | i + 1 => by
    have h := (hmacF key ((expF key info i).2 ++ info ++ [((i + 1 : Nat) : Int)])).2
    have := (expF_len key info i).1
    refine ⟨?_, Nat.le_of_eq h⟩
    show ((expF key info i).1 ++ _).length = _
    rw [List.length_append, h, this]; omega
theorem expF_by (key info : List Int) : ∀ i, By (expF key info i).1 ∧ By (expF key info i).2
  | 0 => ⟨By.nil, By.nil⟩
  | i + 1 => ⟨(expF_by key info i).1.app (digest_by _), digest_by _⟩
theorem expF_take (key info : List Int) {k i : Nat} (hk : k ≤ 32 * i) : ∀ d, (expF key info (i + d)).1.take k = (expF key info i).1.take k
  | 0 => rfl
  | d + 1 => by
    rw [← expF_take key info hk d]
    show ((expF key info (i + d)).1 ++ _).take k = _
    rw [List.take_append_of_le_length (by rw [(expF_len key info (i + d)).1]; omega)]
def expandF (key info : List Int) (n : Nat) : List Int := (expF key info ((n + 31) / 32)).1.take n
theorem expandF_len (key info : List Int) (n : Nat) : (expandF key info n).length = n := by
  unfold expandF
  rw [List.length_take, (expF_len ..).1]; omega
theorem expandF_by (key info : List Int) (n : Nat) : By (expandF key info n) := ((expF_by key info _).1).take _
theorem expandF_take (key info : List Int) {k n m : Nat} (hn : k ≤ n) (hm : k ≤ m) : (expandF key info n).take k = (expandF key info m).take k := by
  unfold expandF
  rw [List.take_take, List.take_take, Nat.min_eq_left hn, Nat.min_eq_left hm]
  rcases Nat.le_total ((n + 31) / 32) ((m + 31) / 32) with h | h
  · have := expF_take key info (k := k) (i := (n + 31) / 32) (by omega) ((m + 31) / 32 - (n + 31) / 32)
    rw [show (n + 31) / 32 + ((m + 31) / 32 - (n + 31) / 32) = (m + 31) / 32 by omega] at this
    exact this.symm
  · have := expF_take key info (k := k) (i := (m + 31) / 32) (by omega) ((n + 31) / 32 - (m + 31) / 32)
    rw [show (m + 31) / 32 + ((n + 31) / 32 - (m + 31) / 32) = (n + 31) / 32 by omega] at this
    exact this

theorem byte_by {i : Nat} (h : i ≤ 255) : By [(i : Int)] := fun x hx => by
  rw [List.mem_singleton.1 hx]; omega

theorem Expand_L1 {key info : List Int} (hk : By key) (hkl : key.length ≤ 1000000) (hi : By info) (hil : info.length ≤ 1000000) {n : Nat} (hn : n ≤ 8160) :
    loop mac_Expand_L1_P (key, info, (n : Int), (1 : Int), [], []) = some ((n : Int), (expF key info ((n + 31) / 32)).1) := by
  refine loop_is (fun x => ∃ i : Nat, i ≤ (n + 31) / 32 ∧ x = (key, info, (n : Int), IntKind.u8.wrap ((i : Int) + 1), (expF key info i).1, (expF key info i).2)) (fun x => 10000 - x.2.2.2.2.1.length) ⟨0, by omega, rfl⟩ (by simp) ?_
  rintro _ ⟨i, hin, rfl⟩
  have hl := expF_len key info i
  have hb := expF_by key info i
  simp only [mac_Expand_L1_P, mac_Expand_L1]
  by_cases hd : 32 * i < n
  · left
    have e : IntKind.u8.wrap ((i : Int) + 1) = ((i + 1 : Nat) : Int) := by rw [IntKind.wrap_u8]; omega
    rw [if_pos (by rw [hl.1]; simp; omega), e]
    simp only [pack_Join_P, mac_Hmac_P]
    have hfl : [(expF key info i).2, info, [((i + 1 : Nat) : Int)]].flatten = (expF key info i).2 ++ info ++ [((i + 1 : Nat) : Int)] := by simp
    rw [join_is (by rw [hfl]; simp; omega) (by simp), Option.bind_some, hfl, Hmac_is hk (by omega) ((hb.2.app hi).app (byte_by (by omega))) (by simp; omega), Option.bind_some, subn_ok (by decide) (by decide) (by decide), Option.bind_some]
    have hh := (hmacF key ((expF key info i).2 ++ info ++ [((i + 1 : Nat) : Int)])).2
    rw [show List.drop (nat_lit 0) (List.take (nat_lit 32) (hmacF key ((expF key info i).2 ++ info ++ [((i + 1 : Nat) : Int)])).1) = (hmacF key ((expF key info i).2 ++ info ++ [((i + 1 : Nat) : Int)])).1 from dig_take _]
    rw [room_one (by rw [hl.1, hh]; omega), Option.bind_some]
    refine ⟨_, rfl, ⟨i + 1, by omega, rfl⟩, ?_⟩
    simp only [List.length_append]
    rw [hl.1, hh]; omega
  · right
    rw [if_neg (by rw [hl.1]; simp; omega), show i = (n + 31) / 32 by omega]

theorem Expand_is {key info : List Int} (hk : By key) (hkl : key.length ≤ 1000000) (hi : By info) (hil : info.length ≤ 1000000) {n : Int} (h0 : 0 ≤ n) (hn : n ≤ 8160) :
    mac_Expand_M key info n = some (true, expandF key info n.toNat) := by
  obtain ⟨m, rfl⟩ := Int.eq_ofNat_of_zero_le h0
  unfold mac_Expand_M
  rw [if_neg (by simp), if_neg (by simp; omega), Expand_L1 hk hkl hi hil (by omega), Option.bind_some]
  simp only
  rw [subn_ok (by decide) (by omega) (by rw [(expF_len ..).1]; omega), Option.bind_some]
  rfl
theorem Expand_none {key info : List Int} {n : Int} (h : n < 0 ∨ n > 8160) : mac_Expand_M key info n = some (false, []) := by
  unfold mac_Expand_M
  by_cases h0 : n < 0
  · rw [if_pos (by simpa using h0)]
  · rw [if_neg (by simpa using h0), if_pos (by simp; omega)]

theorem rExpand_L1 {key info : List Int} (hk : By key) (hkl : key.length ≤ 1000000) (hi : By info) (hil : info.length ≤ 1000000) {n : Nat} (hn : n ≤ 8160) :
    loop intaglioref06_Expand_L1_P (key, info, (n : Int), (1 : Int), [], []) = some ((n : Int), (expF key info ((n + 31) / 32)).1) := by
  refine loop_is (fun x => ∃ i : Nat, i ≤ (n + 31) / 32 ∧ x = (key, info, (n : Int), ((i + 1 : Nat) : Int), (expF key info i).1, (expF key info i).2)) (fun x => 10000 - x.2.2.2.2.1.length) ⟨0, by omega, rfl⟩ (by simp) ?_
  rintro _ ⟨i, hin, rfl⟩
  have hl := expF_len key info i
  have hb := expF_by key info i
  simp only [intaglioref06_Expand_L1_P, intaglioref06_Expand_L1]
  by_cases hd : 32 * i < n
  · left
    have e : IntKind.u8.wrap ((i + 1 : Nat) : Int) = ((i + 1 : Nat) : Int) := by rw [IntKind.wrap_u8]; omega
    rw [if_pos (by simp; omega), if_pos (by rw [hl.1]; simp; omega), e]
    simp only [intaglioref01_Both_P, intaglioref06_Hmac_P]
    rw [both (by omega), Option.bind_some, room_one (by simp; omega), Option.bind_some, rHmac_is hk (by omega) ((hb.2.app hi).app (byte_by (by omega))) (by simp; omega), Option.bind_some, subn_ok (by decide) (by decide) (by decide), Option.bind_some]
    have hh := (hmacF key ((expF key info i).2 ++ info ++ [((i + 1 : Nat) : Int)])).2
    rw [show List.drop (nat_lit 0) (List.take (nat_lit 32) (hmacF key ((expF key info i).2 ++ info ++ [((i + 1 : Nat) : Int)])).1) = (hmacF key ((expF key info i).2 ++ info ++ [((i + 1 : Nat) : Int)])).1 from dig_take _]
    rw [both (by rw [hh]; simp), Option.bind_some, List.nil_append, room_one (by rw [hl.1, hh]; omega), Option.bind_some, i64_succ (by omega)]
    refine ⟨_, rfl, ⟨i + 1, by omega, rfl⟩, ?_⟩
    simp only [List.length_append]
    rw [hl.1, hh]; omega
  · right
    by_cases h255 : i + 1 ≤ 255
    · rw [if_pos (by simp; omega), if_neg (by rw [hl.1]; simp; omega), show i = (n + 31) / 32 by omega]
    · rw [if_neg (by simp; omega), show i = (n + 31) / 32 by omega]

theorem rExpand_is {key info : List Int} (hk : By key) (hkl : key.length ≤ 1000000) (hi : By info) (hil : info.length ≤ 1000000) {n : Int} (h0 : 0 ≤ n) (hn : n ≤ 8160) :
    intaglioref06_Expand_M key info n = some (true, expandF key info n.toNat) := by
  obtain ⟨m, rfl⟩ := Int.eq_ofNat_of_zero_le h0
  unfold intaglioref06_Expand_M
  rw [if_neg (by simp), if_neg (by simp; omega), rExpand_L1 hk hkl hi hil (by omega), Option.bind_some]
  simp only
  rw [subn_ok (by decide) (by omega) (by rw [(expF_len ..).1]; omega), Option.bind_some]
  rfl
theorem rExpand_none {key info : List Int} {n : Int} (h : n < 0 ∨ n > 8160) : intaglioref06_Expand_M key info n = some (false, []) := by
  unfold intaglioref06_Expand_M
  by_cases h0 : n < 0
  · rw [if_pos (by simpa using h0)]
  · rw [if_neg (by simpa using h0), if_pos (by simp; omega)]

theorem Extract_is {k t : List Int} (hk : By k) (hkl : k.length ≤ 800000000) (ht : By t) (htl : t.length ≤ 800000000) : mac_Extract_M k t = some (hmacF k t) := by
  unfold mac_Extract_M
  simp only [mac_Hmac_P]
  by_cases h : k = []
  · subst h
    rw [if_pos (by rfl), mk2_ok (by decide) (by decide) (by decide), Option.bind_some, Hmac_is (By.rep _) (by decide) ht htl, Option.bind_some]
    have := hmac_zeros (k := []) (n := 32) (by decide) t
    rw [List.nil_append] at this
    exact congrArg some this
  · rw [if_neg (by rw [beq_iff_eq]; have := List.length_pos_iff.2 h; omega), Hmac_is hk hkl ht htl]; rfl
theorem rExtract_is {k t : List Int} (hk : By k) (hkl : k.length ≤ 800000000) (ht : By t) (htl : t.length ≤ 800000000) : intaglioref06_Extract_M k t = some (hmacF k t) := by
  unfold intaglioref06_Extract_M
  simp only [intaglioref06_Hmac_P]
  rw [rHmac_is hk hkl ht htl]; rfl
end Go.Proofs.YtcpddgjmopdlbaaDoor
