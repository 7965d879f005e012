/- Numbers as texts, and back: what the package verb and the document's answer come to. -/
import Derived.Test.YtlkcgjablhpfcaaDoorP1
import Derived.Test.YtlkcgjablhpfcaaDoorGMAll
import Derived.Lib.ItoaMem
import Derived.Lib.ItoaLen
import Derived.Lib.ParseIntBCases
import Derived.Lib.ParseIntBTie
namespace Go.Proofs.YtlkcgjablhpfcaaDoor
open Go Go.Lift Go.Lib
set_option maxRecDepth 100000
set_option maxHeartbeats 4000000
set_option linter.unusedVariables false

/-! ### Digits -/

def DigC (c : UInt8) : Prop := 48 ≤ c.toNat ∧ c.toNat ≤ 57
def Digs (l : List UInt8) : Prop := ∀ c ∈ l, DigC c
def valF : Nat → List UInt8 → Nat
  | a, [] => a
  | a, c :: l => valF (a * 10 + (c.toNat - 48)) l
theorem valF_app : ∀ (l m : List UInt8) (a : Nat), valF a (l ++ m) = valF (valF a l) m
  | [], m, a => rfl
  | c :: l, m, a => valF_app l m _
theorem valF_ge : ∀ (l : List UInt8) (a : Nat), a ≤ valF a l
  | [], a => Nat.le_refl a
  | c :: l, a => Nat.le_trans (by omega) (valF_ge l (a * 10 + (c.toNat - 48)))
theorem ofNat_dig {d : Nat} (h : d < 10) : (UInt8.ofNat (48 + d)).toNat = 48 + d := by rw [UInt8.toNat_ofNat']; omega
theorem dec_ind (P : Nat → Prop) (h0 : ∀ u, u < 10 → P u) (h1 : ∀ u, 10 ≤ u → P (u / 10) → P u) (u : Nat) : P u := by
  induction u using Nat.strongRecOn with
  | ind u ih =>
    by_cases h : u < 10
    · exact h0 u h
    · exact h1 u (by omega) (ih (u / 10) (by omega))
theorem dec_big {u : Nat} (h : 10 ≤ u) : decDigits u = decDigits (u / 10) ++ [UInt8.ofNat (48 + u % 10)] := by rw [decDigits, dif_neg (by omega)]
theorem dec_digs (u : Nat) : Digs (decDigits u) := by
  refine dec_ind (fun u => Digs (decDigits u)) ?_ ?_ u
  · intro u h c hc
    rw [decDigits_one h, List.mem_singleton] at hc
    subst hc
    exact ⟨by rw [ofNat_dig h]; omega, by rw [ofNat_dig h]; omega⟩
  · intro u h ih c hc
    rw [dec_big h] at hc
    rcases List.mem_append.1 hc with hc | hc
    · exact ih c hc
    · rw [List.mem_singleton] at hc
      subst hc
      have : u % 10 < 10 := by omega
      exact ⟨by rw [ofNat_dig this]; omega, by rw [ofNat_dig this]; omega⟩
theorem dec_val (u : Nat) : valF 0 (decDigits u) = u := by
  refine dec_ind (fun u => valF 0 (decDigits u) = u) ?_ ?_ u
  · intro u h
    rw [decDigits_one h]
    show 0 * 10 + ((UInt8.ofNat (48 + u)).toNat - 48) = u
    rw [ofNat_dig h]; omega
  · intro u h ih
    rw [dec_big h, valF_app, ih]
    show u / 10 * 10 + ((UInt8.ofNat (48 + u % 10)).toNat - 48) = u
    rw [ofNat_dig (by omega)]; omega
theorem dec_ne (u : Nat) : decDigits u ≠ [] := by
  by_cases h : u < 10
  · rw [decDigits_one h]; simp
  · rw [dec_big (by omega)]; simp
theorem dec_len (k : Nat) : ∀ u, u < 10 ^ (k + 1) → (decDigits u).length ≤ k + 1 := by
  induction k with
  | zero => intro u h; rw [decDigits_one (by omega)]; simp
  | succ k ih =>
    intro u h
    by_cases h10 : u < 10
    · rw [decDigits_one h10]; simp
    · have := ih (u / 10) (by rw [Nat.pow_succ] at h; omega)
      rw [dec_big (by omega)]; simp; omega
theorem dec_head {u : Nat} {c : UInt8} {r : List UInt8} (h : decDigits u = c :: r) : DigC c := dec_digs u c (by rw [h]; simp)

def I64 (v : Int) : Prop := -9223372036854775808 ≤ v ∧ v ≤ 9223372036854775807

theorem parseM_ok {M : Nat} (hM : M ≤ 18446744073709551615) : ∀ (l : List UInt8) (a : Nat), Digs l → valF a l ≤ M → parseUintM M a l = .ok (valF a l)
  | [], a, _, _ => rfl
  | c :: l, a, hd, hv => by
    have hc := hd c (by simp)
    have h1 := valF_ge l (a * 10 + (c.toNat - 48))
    have hv : valF (a * 10 + (c.toNat - 48)) l ≤ M := hv
    unfold parseUintM
    rw [if_pos (show 48 ≤ c.toNat ∧ c.toNat ≤ 57 from hc), if_neg (by omega), if_neg (by omega)]
    exact parseM_ok hM l _ (fun c hc => hd c (by simp [hc])) hv
theorem parse_dec {u : Nat} (h : u ≤ 9223372036854775808) : parseUintB 64 (decDigits u) = .ok u := by
  unfold parseUintB
  rw [if_neg (dec_ne u), parseM_ok (by decide) _ _ (dec_digs u) (by rw [dec_val]; have : (2 : Nat) ^ 64 - 1 = 18446744073709551615 := by decide
                                                                    omega), dec_val]
theorem parse_itoa {v : Int} (h : I64 v) : parseIntB 64 (itoa v) = .ok v := by
  obtain ⟨h0, h1⟩ := h
  by_cases hn : v < 0
  · obtain ⟨u, rfl⟩ : ∃ u : Nat, v = -(u : Int) := ⟨v.natAbs, by omega⟩
    rw [itoa_neg u (by omega), parseIntB_minus, parse_dec (by omega)]
    show (if 2 ^ (64 - 1) < u then _ else _) = _
    rw [if_neg (by have : (2 : Nat) ^ (64 - 1) = 9223372036854775808 := by decide
                   omega)]
  · obtain ⟨u, rfl⟩ : ∃ u : Nat, v = (u : Int) := ⟨v.natAbs, by omega⟩
    rw [itoa_nonneg]
    cases hd : decDigits u with
    | nil => exact absurd hd (dec_ne u)
    | cons c r =>
      have hc := dec_head hd
      rw [parseIntB_plain 64 c r (by have := hc.1; omega) (by have := hc.1; omega), ← hd, parse_dec (by omega)]
      show (if 2 ^ (64 - 1) ≤ u then _ else _) = _
      rw [if_neg (by have : (2 : Nat) ^ (64 - 1) = 9223372036854775808 := by decide
                     omega)]

theorem verbText_is {v : Int} (h : I64 v) : verb_Text_M v = some (itoa v) := by
  unfold verb_Text_M
  simp only [strconv_Itoa_P, strconv_Itoa_M]
  rw [if_pos (show -9223372036854775808 ≤ v ∧ v ≤ 9223372036854775807 from h)]; rfl

/-- The number of a text in its one form, or none. -/
theorem verbInt_is {s : List UInt8} (hl : s.length ≤ 1000000) : (∀ v, I64 v → s = itoa v → verb_Int_M s = some (v, true)) ∧ ((∀ v, I64 v → s ≠ itoa v) → verb_Int_M s = some (0, false)) := by
  have key : ∀ p, sc_parse s = p → verb_Int_M s = (if (!!p.2) = true then some (0, false) else Option.bind (verb_Text_M p.1) fun v1 => if (!v1 == s) = true then some (0, false) else some (p.1, true)) := by
    intro p hp
    unfold verb_Int_M
    simp only [strconv_ParseInt_P, strconv_ParseInt_M, verb_Text_P]
    rw [if_pos ⟨trivial, trivial, by omega⟩, Option.bind_some, hp]
  constructor
  · intro v hv hs
    have hp : sc_parse s = (v, false) := by unfold sc_parse; rw [hs, parse_itoa hv]
    rw [key _ hp, if_neg (by simp), verbText_is hv, Option.bind_some, hs, if_neg (by simp)]
  · intro hno
    cases hp : parseIntB 64 s with
    | ok v =>
      have hb := parseIntB_bounds hp
      have hv : I64 v := by
        have : ((2 ^ (64 - 1) : Nat) : Int) = 9223372036854775808 := by decide
        unfold I64; omega
      have hq : sc_parse s = (v, false) := by unfold sc_parse; rw [hp]
      rw [key _ hq, if_neg (by simp), verbText_is hv, Option.bind_some, if_pos ?_]
      simpa using fun e => hno v hv e.symm
    | range =>
      have hq : sc_parse s = (intSat 64 s, true) := by unfold sc_parse; rw [hp]
      rw [key _ hq]; rfl
    | _ =>
      have hq : sc_parse s = (0, true) := by unfold sc_parse; rw [hp]
      rw [key _ hq]; rfl

/-! ### The document -/

theorem text_small (m : Nat) {v : Int} (h0 : 0 ≤ v) (h : v < 10) : intaglioref17_Text_F (m + 1) v = some (itoa v) := by
  obtain ⟨u, rfl⟩ := Int.eq_ofNat_of_zero_le h0
  show intaglioref17_Text_S (intaglioref17_Text_F m) (u : Int) = _
  unfold intaglioref17_Text_S
  rw [if_pos (decide_eq_true (by omega)), if_pos (decide_eq_true (by omega)), itoa_nonneg, decDigits_one (by omega), i64_id (by omega) (by omega), show (48 : Int) + (u : Int) = ((48 + u : Nat) : Int) by omega, IntKind.wrap_u8, show ((48 + u : Nat) : Int) % 256 = ((48 + u : Nat) : Int) by omega]
  rfl
theorem room1 {n : Nat} (h : n ≤ 1000000) : room 1 n = some () := room_one (by omega)
theorem itoa_len {v : Int} {k : Nat} (h : v.natAbs < 10 ^ (k + 1)) : (itoa v).length ≤ k + 2 := by
  unfold itoa
  split
  · have := dec_len k _ h; simp; omega
  · have := dec_len k v.toNat (by omega); omega
theorem text_F (k : Nat) : ∀ (v : Int) (m : Nat), v.natAbs < 10 ^ (k + 1) → I64 v → k ≤ 18 → k + 3 ≤ m → intaglioref17_Text_F m v = some (itoa v) := by
  induction k with
  | zero =>
    intro v m hv hi _ hm
    obtain ⟨m, rfl⟩ : ∃ m', m = m' + 3 := ⟨m - 3, by omega⟩
    by_cases h0 : 0 ≤ v
    · exact text_small (m + 2) h0 (by omega)
    · show intaglioref17_Text_S (intaglioref17_Text_F (m + 2)) v = _
      unfold intaglioref17_Text_S
      obtain ⟨u, rfl⟩ : ∃ u : Nat, v = -(u : Int) := ⟨v.natAbs, by omega⟩
      rw [if_neg (by simp; omega), if_neg (by simp; omega), if_pos (decide_eq_true (by omega)), i64_id (by omega) (by omega), show (0 : Int) - -(u : Int) = (u : Int) by omega, text_small (m + 1) (by omega) (by omega), Option.bind_some,
        room1 (by have := itoa_len (v := (u : Int)) (k := 0) (by omega); omega), Option.bind_some, itoa_nonneg, itoa_neg u (by omega)]
      rfl
  | succ k ih =>
    intro v m hv hi hk hm
    have h10 : (10 : Nat) ^ (k + 1 + 1) = 10 ^ (k + 1) * 10 := Nat.pow_succ ..
    by_cases hs : v.natAbs < 10 ^ (k + 1)
    · exact ih v m hs hi (by omega) (by omega)
    · obtain ⟨m, rfl⟩ : ∃ m', m = m' + 4 := ⟨m - 4, by omega⟩
      have hge : 10 ≤ v.natAbs := by
        have : (10 : Nat) ^ 1 ≤ 10 ^ (k + 1) := Nat.pow_le_pow_right (by decide) (by omega)
        omega
      show intaglioref17_Text_S (intaglioref17_Text_F (m + 3)) v = _
      unfold intaglioref17_Text_S
      obtain ⟨hi0, hi1⟩ := hi
      by_cases h0 : 0 ≤ v
      · obtain ⟨u, rfl⟩ := Int.eq_ofNat_of_zero_le h0
        have hq : IntKind.i64.wrap ((u : Int) / 10) = ((u / 10 : Nat) : Int) := by rw [i64_id (by omega) (by omega)]; omega
        rw [if_pos (decide_eq_true (by omega)), if_neg (by simp; omega), if_pos (decide_eq_true (by omega)), gquo_nat (by omega) (by decide), Option.bind_some, hq, ih _ _ (by omega) ⟨by omega, by omega⟩ (by omega) (by omega), Option.bind_some, grem_nat (by omega) (by decide), Option.bind_some,
          text_small (m + 2) (by omega) (by omega), Option.bind_some]
        have l1 := itoa_len (v := ((u / 10 : Nat) : Int)) (k := k) (by omega)
        have l2 := itoa_len (v := (u : Int) % 10) (k := 0) (by omega)
        rw [room1 (by omega), Option.bind_some, itoa_nonneg, itoa_nonneg, dec_big (u := u) (by omega), show (u : Int) % 10 = ((u % 10 : Nat) : Int) by omega, itoa_nonneg, decDigits_one (i := u % 10) (by omega)]
      · obtain ⟨u, rfl⟩ : ∃ u : Nat, v = -(u : Int) := ⟨v.natAbs, by omega⟩
        have hq : gquo .i64 (-(u : Int)) 10 = some (-((u / 10 : Nat) : Int)) := by
          unfold gquo
          rw [if_neg (by decide), Int.neg_tdiv, Int.tdiv_eq_ediv_of_nonneg (by omega), i64_id (by omega) (by omega)]
          exact congrArg some (by omega)
        have hr : grem .i64 (-(u : Int)) 10 = some (-((u % 10 : Nat) : Int)) := by
          unfold grem
          rw [if_neg (by decide), Int.neg_tmod, Int.tmod_eq_emod_of_nonneg (by omega)]
          exact congrArg some (by omega)
        rw [if_neg (by simp; omega), if_neg (by simp; omega), if_neg (by simp; omega), hq, Option.bind_some, ih _ _ (by omega) ⟨by omega, by omega⟩ (by omega) (by omega), Option.bind_some, hr, Option.bind_some, i64_id (by omega) (by omega), show (0 : Int) - -((u % 10 : Nat) : Int) = ((u % 10 : Nat) : Int) by omega,
          text_small (m + 2) (by omega) (by omega), Option.bind_some]
        have l1 := itoa_len (v := -((u / 10 : Nat) : Int)) (k := k) (by omega)
        have l2 := itoa_len (v := ((u % 10 : Nat) : Int)) (k := 0) (by omega)
        rw [room1 (by omega), Option.bind_some, itoa_neg (u / 10) (by omega), itoa_neg u (by omega), itoa_nonneg, dec_big (u := u) (by omega), decDigits_one (i := u % 10) (by omega)]
        rfl
theorem rText_is {v : Int} (h : I64 v) : intaglioref17_Text_M v = some (itoa v) := by
  unfold intaglioref17_Text_M
  rw [fuel_is]
  exact text_F 18 v _ (by obtain ⟨h0, h1⟩ := h; have : (10 : Nat) ^ (18 + 1) = 10000000000000000000 := by decide
                          omega) h (by decide) (by decide)

theorem rInt_loop {s : List UInt8} {f : Nat} (hl : s.length ≤ 1000) (hf : f ≤ s.length) :
    ∃ r, loop intaglioref17_Int_L1_P (s, (f : Int), 0, (f : Int)) = some r ∧
      ((r = .inr (0, false) ∧ ¬ (Digs (s.drop f) ∧ valF 0 (s.drop f) ≤ 9223372036854775808)) ∨ (r = .inl (s, (f : Int), -((valF 0 (s.drop f) : Nat) : Int)) ∧ valF 0 (s.drop f) ≤ 9223372036854775808)) := by
  have e0 : (s.take f).drop f = [] := List.drop_of_length_le (by simp; omega)
  refine loop_meas (fun (x : List UInt8 × Int × Int × Int) => x.1 = s ∧ x.2.1 = (f : Int) ∧ ∃ i : Nat, x.2.2.2 = (i : Int) ∧ f ≤ i ∧ i ≤ s.length ∧ x.2.2.1 = -((valF 0 ((s.take i).drop f) : Nat) : Int) ∧ valF 0 ((s.take i).drop f) ≤ 9223372036854775808)
    (fun x => s.length - x.2.2.2.toNat) _ ⟨rfl, rfl, f, rfl, Nat.le_refl _, hf, by rw [e0]; rfl, by rw [e0]; exact Nat.zero_le _⟩ (by simp only [Int.toNat_natCast]; omega) ?_
  rintro ⟨s', f', n', i'⟩ ⟨e1, e2, i, e3, hfi, hi, e4, hv⟩
  simp only at e1 e2 e3 e4
  subst e1 e2 e3 e4
  simp only [intaglioref17_Int_L1_P, intaglioref17_Int_L1]
  by_cases hlt : i < s'.length
  · have hc8 := (s'[i]).toNat_lt
    have hsplit : s'.drop f = (s'.take i).drop f ++ (s'[i] :: s'.drop (i + 1)) := by
      rw [← List.drop_eq_getElem_cons hlt]
      conv => lhs; rw [← List.take_append_drop i s']
      rw [List.drop_append_of_le_length (by simp; omega)]
    have hnext : (s'.take (i + 1)).drop f = (s'.take i).drop f ++ [s'[i]] := by
      rw [List.take_succ_eq_append_getElem hlt, List.drop_append_of_le_length (by simp; omega)]
    have hstep : valF 0 ((s'.take (i + 1)).drop f) = valF 0 ((s'.take i).drop f) * 10 + ((s'[i]).toNat - 48) := by rw [hnext, valF_app]; rfl
    rw [if_pos (decide_eq_true (by omega)), ix_nat hlt, Option.bind_some, i64_id (n := (((s'[i]).toNat : Nat) : Int)) (by omega) (by omega), i64_id (by omega) (by omega)]
    by_cases hd : DigC s'[i]
    · obtain ⟨d1, d2⟩ := hd
      rw [if_neg (by simp; omega), if_neg (by simp; omega)]
      generalize hdd : (s'[i]).toNat - 48 = d at hstep
      have hd9 : d ≤ 9 := by omega
      have ed : (((s'[i]).toNat : Nat) : Int) - 48 = (d : Int) := by omega
      rw [ed, i64_id (n := -9223372036854775808 + (d : Int)) (by omega) (by omega)]
      have hq : gquo .i64 (-9223372036854775808 + (d : Int)) 10 = some (-(((9223372036854775808 - d) / 10 : Nat) : Int)) := by
        unfold gquo
        rw [if_neg (by decide), show (-9223372036854775808 + (d : Int)) = -((9223372036854775808 - d : Nat) : Int) by omega, Int.neg_tdiv, Int.tdiv_eq_ediv_of_nonneg (by omega), i64_id (by omega) (by omega)]
        exact congrArg some (by omega)
      rw [hq, Option.bind_some]
      generalize hw : valF 0 ((s'.take i).drop f) = a at hstep hv
      by_cases hov : 9223372036854775808 < a * 10 + d
      · right
        rw [if_pos (decide_eq_true (by omega))]
        refine ⟨_, rfl, .inl ⟨rfl, fun h => ?_⟩⟩
        have h2 := h.2
        rw [hsplit, valF_app] at h2
        have h3 := valF_ge (s'.drop (i + 1)) (valF 0 ((s'.take i).drop f) * 10 + ((s'[i]).toNat - 48))
        rw [hw, hdd] at h3
        have h2 : valF (valF 0 ((s'.take i).drop f) * 10 + ((s'[i]).toNat - 48)) (s'.drop (i + 1)) ≤ 9223372036854775808 := h2
        rw [hw, hdd] at h2
        omega
      · left
        rw [if_neg (by simp; omega)]
        refine ⟨_, rfl, ⟨rfl, rfl, i + 1, i64_succ (by omega), by omega, hlt, ?_, by rw [hstep]; omega⟩, ?_⟩
        · simp only
          rw [hstep, i64_id (n := 10 * -(a : Int)) (by omega) (by omega), i64_id (by omega) (by omega)]
          omega
        · simp only; rw [i64_succ (by omega)]; omega
    · right
      have hno : ¬ (Digs (s'.drop f) ∧ valF 0 (s'.drop f) ≤ 9223372036854775808) := fun h => hd (h.1 _ (by rw [hsplit]; exact List.mem_append_right _ (List.mem_cons_self ..)))
      by_cases h48 : (s'[i]).toNat < 48
      · rw [if_pos (decide_eq_true (by omega))]
        exact ⟨_, rfl, .inl ⟨rfl, hno⟩⟩
      · have : 57 < (s'[i]).toNat := by unfold DigC at hd; omega
        rw [if_neg (by simp; omega), if_pos (decide_eq_true (by omega))]
        exact ⟨_, rfl, .inl ⟨rfl, hno⟩⟩
  · right
    obtain rfl : i = s'.length := by omega
    rw [if_neg (by simp)]
    rw [List.take_length] at hv
    exact ⟨_, rfl, .inr ⟨by rw [List.take_length], hv⟩⟩

theorem itoa_cases {v : Int} (h : I64 v) : (∃ u : Nat, v = -(u : Int) ∧ 1 ≤ u ∧ u ≤ 9223372036854775808 ∧ itoa v = 45 :: decDigits u) ∨ (∃ u : Nat, v = (u : Int) ∧ u ≤ 9223372036854775807 ∧ itoa v = decDigits u) := by
  obtain ⟨h0, h1⟩ := h
  by_cases hn : v < 0
  · exact .inl ⟨v.natAbs, by omega, by omega, by omega, by rw [show v = -((v.natAbs : Nat) : Int) by omega, itoa_neg _ (by omega)]; congr 2; omega⟩
  · exact .inr ⟨v.natAbs, by omega, by omega, by rw [show v = ((v.natAbs : Nat) : Int) by omega, itoa_nonneg]; congr 1⟩
theorem dec_len19 {u : Nat} (h : u ≤ 9223372036854775808) : (decDigits u).length ≤ 19 := by
  have h10 : (10 : Nat) ^ (18 + 1) = 10000000000000000000 := by decide
  exact dec_len 18 u (by omega)

theorem rInt_is {s : List UInt8} (hl : s.length ≤ 1000) : (∀ v, I64 v → s = itoa v → intaglioref17_Int_M s = some (v, true)) ∧ ((∀ v, I64 v → s ≠ itoa v) → intaglioref17_Int_M s = some (0, false)) := by
  have none : (∀ v, I64 v → s ≠ itoa v) → intaglioref17_Int_M s = some (0, false) → (∀ v, I64 v → s = itoa v → intaglioref17_Int_M s = some (v, true)) ∧ ((∀ v, I64 v → s ≠ itoa v) → intaglioref17_Int_M s = some (0, false)) := fun h1 h2 => ⟨fun v hv e => absurd e (h1 v hv), fun _ => h2⟩
  match s, hl with
  | [], _ =>
    refine none (fun v hv e => ?_) rfl
    rcases itoa_cases hv with ⟨u, _, _, _, e2⟩ | ⟨u, _, _, e2⟩
    · rw [e2] at e; cases e
    · rw [e2] at e; exact dec_ne u e.symm
  | c :: r, hl =>
    have hix : ix (c :: r) 0 = some c := rfl
    by_cases hc : c.toNat = 45
    · -- behind '-'
      obtain rfl : c = 45 := UInt8.toNat_inj.1 hc
      have onlyneg : ∀ v, I64 v → 45 :: r = itoa v → ∃ u : Nat, v = -(u : Int) ∧ 1 ≤ u ∧ u ≤ 9223372036854775808 ∧ r = decDigits u := by
        intro v hv e
        rcases itoa_cases hv with ⟨u, h1, h2, h3, e2⟩ | ⟨u, _, _, e2⟩
        · rw [e2] at e; exact ⟨u, h1, h2, h3, (List.cons.inj e).2⟩
        · rw [e2] at e
          have := dec_head e.symm
          unfold DigC at this
          exact absurd this.1 (by decide)
      have hun : intaglioref17_Int_M (45 :: r) = if ((((45 :: r : List UInt8).length : Nat) : Int) == 1) = true then some (0, false) else if decide ((((45 :: r : List UInt8).length : Nat) : Int) > 20) = true then some (0, false) else
          Option.bind (loop intaglioref17_Int_L1_P (45 :: r, 1, 0, 1)) fun (v1 : ((List UInt8 × Int × Int) ⊕ (Int × Bool))) => Sum.elim (fun v2 => if (v2.2.1 == 0) = true then
            if (v2.2.2 == -9223372036854775808) = true then some (0, false) else Option.bind (intaglioref17_Text_M (IntKind.i64.wrap (0 - v2.2.2))) fun v4 => if (!v4 == v2.1) = true then some (0, false) else some (IntKind.i64.wrap (0 - v2.2.2), true)
          else Option.bind (intaglioref17_Text_M v2.2.2) fun v5 => if (!v5 == v2.1) = true then some (0, false) else some (v2.2.2, true)) (fun v3 => some (v3.1, v3.2)) v1 := by
        unfold intaglioref17_Int_M
        rw [if_pos (by simp), hix, Option.bind_some, if_pos (by decide)]
        rfl
      by_cases h1 : r = []
      · subst h1
        refine none (fun v hv e => ?_) rfl
        obtain ⟨u, _, _, _, e2⟩ := onlyneg v hv e
        exact dec_ne u e2.symm
      · have hrl : 1 ≤ r.length := by cases r with
          | nil => exact absurd rfl h1
          | cons _ _ => simp
        rw [hun, if_neg (by simp; omega)]
        by_cases h20 : 20 < (45 :: r : List UInt8).length
        · rw [if_pos (decide_eq_true (by omega))]
          refine ⟨fun v hv e => ?_, fun _ => rfl⟩
          obtain ⟨u, _, _, h3, e2⟩ := onlyneg v hv e
          have := dec_len19 h3
          rw [← e2] at this
          simp at h20; omega
        · rw [if_neg (by simp at h20 ⊢; omega)]
          obtain ⟨q, hq, hQ⟩ := rInt_loop (s := 45 :: r) (f := 1) hl (by simp)
          rw [show (((1 : Nat) : Int)) = 1 from rfl] at hq
          rw [hq, Option.bind_some]
          rcases hQ with ⟨rfl, hbad⟩ | ⟨rfl, hv⟩
          · refine ⟨fun v hv e => ?_, fun _ => rfl⟩
            obtain ⟨u, _, _, h3, e2⟩ := onlyneg v hv e
            refine absurd ⟨?_, ?_⟩ hbad
            · show Digs r
              rw [e2]; exact dec_digs u
            · show valF 0 r ≤ _
              rw [e2, dec_val]; exact h3
          · have hv : valF 0 r ≤ 9223372036854775808 := hv
            rw [Sum.elim_inl]
            simp only
            rw [if_neg (by decide)]
            have hI : I64 (-((valF 0 r : Nat) : Int)) := ⟨by omega, by omega⟩
            rw [show List.drop 1 (45 :: r) = r from rfl, rText_is hI, Option.bind_some]
            by_cases he : itoa (-((valF 0 r : Nat) : Int)) = 45 :: r
            · rw [if_neg (by simp [he])]
              refine ⟨fun v hv' e => ?_, fun h => absurd he.symm (h _ hI)⟩
              obtain ⟨u, rfl, _, h3, e2⟩ := onlyneg v hv' e
              rw [e2, dec_val]
            · rw [if_pos (by simpa using he)]
              refine ⟨fun v hv' e => ?_, fun _ => rfl⟩
              obtain ⟨u, rfl, _, h3, e2⟩ := onlyneg v hv' e
              exact absurd (by rw [e2, dec_val]; rw [e2] at e; exact e.symm) he
    · -- digits alone
      have onlypos : ∀ v, I64 v → c :: r = itoa v → ∃ u : Nat, v = (u : Int) ∧ u ≤ 9223372036854775807 ∧ c :: r = decDigits u := by
        intro v hv e
        rcases itoa_cases hv with ⟨u, h1, h2, h3, e2⟩ | ⟨u, h1, h2, e2⟩
        · rw [e2] at e
          exact absurd (by rw [(List.cons.inj e).1]; rfl) hc
        · exact ⟨u, h1, h2, e.trans e2⟩
      have hun : intaglioref17_Int_M (c :: r) = if ((((c :: r : List UInt8).length : Nat) : Int) == 0) = true then some (0, false) else if decide ((((c :: r : List UInt8).length : Nat) : Int) > 20) = true then some (0, false) else
          Option.bind (loop intaglioref17_Int_L1_P (c :: r, 0, 0, 0)) fun (v1 : ((List UInt8 × Int × Int) ⊕ (Int × Bool))) => Sum.elim (fun v2 => if (v2.2.1 == 0) = true then
            if (v2.2.2 == -9223372036854775808) = true then some (0, false) else Option.bind (intaglioref17_Text_M (IntKind.i64.wrap (0 - v2.2.2))) fun v4 => if (!v4 == v2.1) = true then some (0, false) else some (IntKind.i64.wrap (0 - v2.2.2), true)
          else Option.bind (intaglioref17_Text_M v2.2.2) fun v5 => if (!v5 == v2.1) = true then some (0, false) else some (v2.2.2, true)) (fun v3 => some (v3.1, v3.2)) v1 := by
        unfold intaglioref17_Int_M
        rw [if_pos (by simp), hix, Option.bind_some, if_neg (by simp; omega)]
        rfl
      rw [hun, if_neg (by simp; omega)]
      by_cases h20 : 20 < (c :: r : List UInt8).length
      · rw [if_pos (decide_eq_true (by omega))]
        refine ⟨fun v hv e => ?_, fun _ => rfl⟩
        obtain ⟨u, _, h3, e2⟩ := onlypos v hv e
        have := dec_len19 (u := u) (by omega)
        rw [← e2] at this
        omega
      · rw [if_neg (by simp at h20 ⊢; omega)]
        obtain ⟨q, hq, hQ⟩ := rInt_loop (s := c :: r) (f := 0) hl (by simp)
        rw [show (((0 : Nat) : Int)) = 0 from rfl] at hq hQ
        rw [List.drop_zero] at hQ
        rw [hq, Option.bind_some]
        rcases hQ with ⟨rfl, hbad⟩ | ⟨rfl, hv⟩
        · refine ⟨fun v hv e => ?_, fun _ => rfl⟩
          obtain ⟨u, _, h3, e2⟩ := onlypos v hv e
          refine absurd ⟨?_, ?_⟩ hbad
          · rw [e2]; exact dec_digs u
          · rw [e2, dec_val]; omega
        · rw [Sum.elim_inl]
          simp only
          rw [if_pos (by decide)]
          by_cases hmin : valF 0 (c :: r) = 9223372036854775808
          · rw [if_pos (by rw [hmin]; rfl)]
            refine ⟨fun v hv' e => ?_, fun _ => rfl⟩
            obtain ⟨u, _, h3, e2⟩ := onlypos v hv' e
            rw [e2, dec_val] at hmin
            omega
          · rw [if_neg (by simp; omega), i64_id (by omega) (by omega), show (0 : Int) - -((valF 0 (c :: r) : Nat) : Int) = ((valF 0 (c :: r) : Nat) : Int) by omega]
            have hI : I64 ((valF 0 (c :: r) : Nat) : Int) := ⟨by omega, by omega⟩
            rw [rText_is hI, Option.bind_some]
            by_cases he : itoa ((valF 0 (c :: r) : Nat) : Int) = c :: r
            · rw [if_neg (by simp [he])]
              refine ⟨fun v hv' e => ?_, fun h => absurd he.symm (h _ hI)⟩
              obtain ⟨u, rfl, h3, e2⟩ := onlypos v hv' e
              rw [e2, dec_val]
            · rw [if_pos (by simpa using he)]
              refine ⟨fun v hv' e => ?_, fun _ => rfl⟩
              obtain ⟨u, rfl, h3, e2⟩ := onlypos v hv' e
              exact absurd (by rw [e2, dec_val]; rw [e2] at e; exact e.symm) he
end Go.Proofs.YtlkcgjablhpfcaaDoor
