/- Commands by their names: what the package verb and the document's answer know of them. -/
import Derived.Test.YtekofbmeofhejaaDoorNm
import Derived.KernelRfl
namespace Go.Proofs.YtekofbmeofhejaaDoor
open Go Go.Lift Go.Lib
set_option maxRecDepth 100000
set_option maxHeartbeats 4000000
set_option linter.unusedVariables false

/-! ### Capital letters -/

def up1 (c : UInt8) : UInt8 := if 97 ≤ c.toNat ∧ c.toNat ≤ 122 then UInt8.ofNat (c.toNat - 32) else c
def upS (s : List UInt8) : List UInt8 := s.map up1
theorem bnums_app (l m : List UInt8) : bnums (l ++ m) = bnums l ++ bnums m := List.map_append ..
theorem bnums_len (l : List UInt8) : (bnums l).length = l.length := List.length_map ..
theorem b8_bnums (l : List UInt8) : b8 (bnums l) = l := by
  unfold b8 bnums
  rw [List.map_map]
  conv => rhs; rw [← List.map_id l]
  refine List.map_congr_left fun c _ => ?_
  show UInt8.ofNat ((c.toNat : Int)).toNat = c
  rw [Int.toNat_natCast, UInt8.ofNat_toNat]
theorem mid_getD (A D : List Int) (c d : Int) : (A ++ c :: D).getD A.length d = c := by simp [List.getD]
theorem mid_setD (A D : List Int) (c e : Int) : (A ++ c :: D).set A.length e = A ++ e :: D := by simp

theorem vUpper_is {s : List UInt8} (hl : s.length ≤ 1000000) : verb_Upper_M s = some (upS s) := by
  unfold verb_Upper_M
  rw [loop_is (r := bnums (upS s)) (fun (x : Int × Int × List Int) => x.1 = ((bnums s).length : Int) ∧ ∃ i : Nat, i ≤ s.length ∧ x.2.1 = (i : Int) ∧ x.2.2 = bnums (upS (s.take i)) ++ bnums (s.drop i)) (fun x => s.length - x.2.1.toNat)
    ⟨rfl, 0, Nat.zero_le _, rfl, by simp [upS, bnums]⟩ (by simp only [Int.toNat_zero]; omega) ?_]
  · rw [Option.bind_some, b8_bnums]
  · rintro ⟨n, i', r⟩ ⟨e1, i, hi, e2, e3⟩
    simp only at e1 e2 e3
    subst e1 e2 e3
    simp only [verb_Upper_L1_P, verb_Upper_L1]
    have hA : (bnums (upS (s.take i))).length = i := by rw [bnums_len, upS, List.length_map, List.length_take]; omega
    rw [bnums_len]
    by_cases hlt : i < s.length
    · left
      have hc8 := (s[i]).toNat_lt
      have hdrop : bnums (s.drop i) = ((s[i]).toNat : Int) :: bnums (s.drop (i + 1)) := by rw [List.drop_eq_getElem_cons hlt]; rfl
      have hup : ∀ c : Int, c = (((up1 s[i]).toNat : Nat) : Int) → bnums (upS (s.take i)) ++ c :: bnums (s.drop (i + 1)) = bnums (upS (s.take (i + 1))) ++ bnums (s.drop (i + 1)) := by
        intro c hc
        rw [List.take_succ_eq_append_getElem hlt, upS, upS, List.map_append, bnums_app, List.append_assoc, hc]; rfl
      have hg : ∀ d, List.getD (bnums (upS (s.take i)) ++ ((s[i]).toNat : Int) :: bnums (s.drop (i + 1))) i d = ((s[i]).toNat : Int) := fun d => by
        conv => lhs; arg 2; rw [← hA]
        exact mid_getD ..
      have hs : ∀ e, List.set (bnums (upS (s.take i)) ++ ((s[i]).toNat : Int) :: bnums (s.drop (i + 1))) i e = bnums (upS (s.take i)) ++ e :: bnums (s.drop (i + 1)) := fun e => by
        conv => lhs; arg 2; rw [← hA]
        exact mid_setD ..
      have hin : i < (bnums (upS (s.take i)) ++ ((s[i]).toNat : Int) :: bnums (s.drop (i + 1))).length := by rw [List.length_append, hA]; simp
      rw [if_pos (decide_eq_true (by omega)), hdrop, inb_ok hin, Option.bind_some, Int.toNat_natCast, hg]
      by_cases h1 : 97 ≤ (s[i]).toNat
      · rw [if_pos (decide_eq_true (by omega))]
        by_cases h2 : (s[i]).toNat ≤ 122
        · rw [if_pos (decide_eq_true (by omega)), Option.bind_some, hs]
          refine ⟨_, rfl, ⟨rfl, i + 1, hlt, i64_succ (by omega), hup _ ?_⟩, by simp only; rw [i64_succ (by omega)]; omega⟩
          unfold up1
          rw [if_pos ⟨h1, h2⟩, UInt8.toNat_ofNat', IntKind.wrap_u8, IntKind.wrap_u8]
          omega
        · rw [if_neg (by simp; omega)]
          refine ⟨_, rfl, ⟨rfl, i + 1, hlt, i64_succ (by omega), hup _ ?_⟩, by simp only; rw [i64_succ (by omega)]; omega⟩
          unfold up1; rw [if_neg (by omega)]
      · rw [if_neg (by simp; omega)]
        refine ⟨_, rfl, ⟨rfl, i + 1, hlt, i64_succ (by omega), hup _ ?_⟩, by simp only; rw [i64_succ (by omega)]; omega⟩
        unfold up1; rw [if_neg (by omega)]
    · right
      obtain rfl : i = s.length := by omega
      rw [if_neg (by simp), List.take_length, List.drop_length]
      show some (Sum.inr (bnums (upS s) ++ [])) = _
      rw [List.append_nil]

theorem rUpper_is {s : List UInt8} (hl : s.length ≤ 1000000) : intaglioref17_Upper_M s = some (upS s) := by
  unfold intaglioref17_Upper_M
  rw [loop_is (r := upS s) (fun (x : List UInt8 × List UInt8 × Int) => x.1 = s ∧ ∃ i : Nat, i ≤ s.length ∧ x.2.2 = (i : Int) ∧ x.2.1 = upS (s.take i)) (fun x => s.length - x.2.2.toNat)
    ⟨rfl, 0, Nat.zero_le _, rfl, rfl⟩ (by simp only [Int.toNat_zero]; omega) ?_]
  · rfl
  · rintro ⟨s', o, i'⟩ ⟨e1, i, hi, e2, e3⟩
    simp only at e1 e2 e3
    subst e1 e2 e3
    simp only [intaglioref17_Upper_L1_P, intaglioref17_Upper_L1]
    by_cases hlt : i < s'.length
    · left
      have hc8 := (s'[i]).toNat_lt
      have hlen : (upS (s'.take i)).length = i := by rw [upS, List.length_map, List.length_take]; omega
      have hup : ∀ c : Int, c.toNat = (up1 s'[i]).toNat → upS (s'.take i) ++ b8 [c] = upS (s'.take (i + 1)) := by
        intro c hc
        rw [List.take_succ_eq_append_getElem hlt, upS, upS, List.map_append]
        congr 1
        show [UInt8.ofNat c.toNat] = [up1 s'[i]]
        rw [hc, UInt8.ofNat_toNat]
      have hroom : ∀ c : Int, room 1 ((upS (s'.take i)).length + (b8 [c]).length) = some () := fun c => room_one (by rw [hlen]; show i + 1 ≤ _; omega)
      rw [if_pos (decide_eq_true (by omega)), ix_nat hlt, Option.bind_some]
      by_cases h1 : 97 ≤ (s'[i]).toNat
      · rw [if_pos (decide_eq_true (by omega))]
        by_cases h2 : (s'[i]).toNat ≤ 122
        · rw [if_pos (decide_eq_true (by omega)), hroom, Option.bind_some]
          refine ⟨_, rfl, ⟨rfl, i + 1, hlt, i64_succ (by omega), hup _ ?_⟩, by simp only; rw [i64_succ (by omega)]; omega⟩
          unfold up1
          rw [if_pos ⟨h1, h2⟩, UInt8.toNat_ofNat', IntKind.wrap_u8]
          omega
        · rw [if_neg (by simp; omega), hroom, Option.bind_some]
          refine ⟨_, rfl, ⟨rfl, i + 1, hlt, i64_succ (by omega), hup _ ?_⟩, by simp only; rw [i64_succ (by omega)]; omega⟩
          unfold up1; rw [if_neg (by omega)]; omega
      · rw [if_neg (by simp; omega), hroom, Option.bind_some]
        refine ⟨_, rfl, ⟨rfl, i + 1, hlt, i64_succ (by omega), hup _ ?_⟩, by simp only; rw [i64_succ (by omega)]; omega⟩
        unfold up1; rw [if_neg (by omega)]; omega
    · right
      obtain rfl : i = s'.length := by omega
      rw [if_neg (by simp), List.take_length]

/-! ### The tables -/

abbrev SpecT : Type := Int × Int × Int × List UInt8 × Int × Int × Bool × Bool × Bool × Bool
def noSpec : SpecT := (0, 0, 0, [], 0, 0, false, false, false, false)
def lk (u : List UInt8) : List (List UInt8 × SpecT) → Option SpecT
  | [] => some noSpec
  | (n, r) :: l => if (u == n) = true then some r else lk u l
theorem lk_none {u : List UInt8} : ∀ {l : List (List UInt8 × SpecT)}, (∀ p ∈ l, (u == p.1) = false) → lk u l = some noSpec
  | [], _ => rfl
  | (n, r) :: l, h => by
    unfold lk
    rw [if_neg (by rw [h (n, r) (by simp)]; decide)]
    exact lk_none fun p hp => h p (by simp [hp])
def shortL : List (List UInt8 × SpecT) := [([(80 : UInt8), (73 : UInt8), (78 : UInt8), (71 : UInt8)], ((0 : Int), (0 : Int), (0 : Int), [], (1 : Int), (2 : Int), false, false, false, true)), ([(69 : UInt8), (67 : UInt8), (72 : UInt8), (79 : UInt8)], ((0 : Int), (0 : Int), (0 : Int), [], (2 : Int), (2 : Int), false, false, false, true)), ([(75 : UInt8), (69 : UInt8), (89 : UInt8), (83 : UInt8)], ((0 : Int), (0 : Int), (0 : Int), [], (2 : Int), (2 : Int), false, false, false, true)), ([(68 : UInt8), (66 : UInt8), (83 : UInt8), (73 : UInt8), (90 : UInt8), (69 : UInt8)], ((0 : Int), (0 : Int), (0 : Int), [], (1 : Int), (1 : Int), false, false, false, true)), ([(77 : UInt8), (85 : UInt8), (76 : UInt8), (84 : UInt8), (73 : UInt8)], ((0 : Int), (0 : Int), (0 : Int), [], (1 : Int), (1 : Int), false, false, false, true)), ([(69 : UInt8), (88 : UInt8), (69 : UInt8), (67 : UInt8)], ((0 : Int), (0 : Int), (0 : Int), [], (1 : Int), (1 : Int), false, false, false, true)), ([(68 : UInt8), (73 : UInt8), (83 : UInt8), (67 : UInt8), (65 : UInt8), (82 : UInt8), (68 : UInt8)], ((0 : Int), (0 : Int), (0 : Int), [], (1 : Int), (1 : Int), false, false, false, true)), ([(85 : UInt8), (78 : UInt8), (87 : UInt8), (65 : UInt8), (84 : UInt8), (67 : UInt8), (72 : UInt8)], ((0 : Int), (0 : Int), (0 : Int), [], (1 : Int), (1 : Int), false, false, false, true)), ([(70 : UInt8), (76 : UInt8), (85 : UInt8), (83 : UInt8), (72 : UInt8), (65 : UInt8), (76 : UInt8), (76 : UInt8)], ((0 : Int), (0 : Int), (0 : Int), [], (1 : Int), (1 : Int), true, false, false, true)), ([(71 : UInt8), (69 : UInt8), (84 : UInt8)], (tb_intaglio_verb_one.fst, tb_intaglio_verb_one.snd.fst, tb_intaglio_verb_one.snd.snd.fst, [], (2 : Int), (2 : Int), false, false, false, true)), ([(83 : UInt8), (84 : UInt8), (82 : UInt8), (76 : UInt8), (69 : UInt8), (78 : UInt8)], (tb_intaglio_verb_one.fst, tb_intaglio_verb_one.snd.fst, tb_intaglio_verb_one.snd.snd.fst, [], (2 : Int), (2 : Int), false, false, false, true)), ([(84 : UInt8), (89 : UInt8), (80 : UInt8), (69 : UInt8)], (tb_intaglio_verb_one.fst, tb_intaglio_verb_one.snd.fst, tb_intaglio_verb_one.snd.snd.fst, [], (2 : Int), (2 : Int), false, false, false, true)), ([(84 : UInt8), (84 : UInt8), (76 : UInt8)], (tb_intaglio_verb_one.fst, tb_intaglio_verb_one.snd.fst, tb_intaglio_verb_one.snd.snd.fst, [], (2 : Int), (2 : Int), false, false, false, true)), ([(80 : UInt8), (84 : UInt8), (84 : UInt8), (76 : UInt8)], (tb_intaglio_verb_one.fst, tb_intaglio_verb_one.snd.fst, tb_intaglio_verb_one.snd.snd.fst, [], (2 : Int), (2 : Int), false, false, false, true)), ([(72 : UInt8), (76 : UInt8), (69 : UInt8), (78 : UInt8)], (tb_intaglio_verb_one.fst, tb_intaglio_verb_one.snd.fst, tb_intaglio_verb_one.snd.snd.fst, [], (2 : Int), (2 : Int), false, false, false, true)), ([(72 : UInt8), (71 : UInt8), (69 : UInt8), (84 : UInt8), (65 : UInt8), (76 : UInt8), (76 : UInt8)], (tb_intaglio_verb_one.fst, tb_intaglio_verb_one.snd.fst, tb_intaglio_verb_one.snd.snd.fst, [], (2 : Int), (2 : Int), false, false, false, true)), ([(72 : UInt8), (75 : UInt8), (69 : UInt8), (89 : UInt8), (83 : UInt8)], (tb_intaglio_verb_one.fst, tb_intaglio_verb_one.snd.fst, tb_intaglio_verb_one.snd.snd.fst, [], (2 : Int), (2 : Int), false, false, false, true)), ([(72 : UInt8), (86 : UInt8), (65 : UInt8), (76 : UInt8), (83 : UInt8)], (tb_intaglio_verb_one.fst, tb_intaglio_verb_one.snd.fst, tb_intaglio_verb_one.snd.snd.fst, [], (2 : Int), (2 : Int), false, false, false, true)), ([(76 : UInt8), (76 : UInt8), (69 : UInt8), (78 : UInt8)], (tb_intaglio_verb_one.fst, tb_intaglio_verb_one.snd.fst, tb_intaglio_verb_one.snd.snd.fst, [], (2 : Int), (2 : Int), false, false, false, true)), ([(83 : UInt8), (67 : UInt8), (65 : UInt8), (82 : UInt8), (68 : UInt8)], (tb_intaglio_verb_one.fst, tb_intaglio_verb_one.snd.fst, tb_intaglio_verb_one.snd.snd.fst, [], (2 : Int), (2 : Int), false, false, false, true)), ([(83 : UInt8), (77 : UInt8), (69 : UInt8), (77 : UInt8), (66 : UInt8), (69 : UInt8), (82 : UInt8), (83 : UInt8)], (tb_intaglio_verb_one.fst, tb_intaglio_verb_one.snd.fst, tb_intaglio_verb_one.snd.snd.fst, [], (2 : Int), (2 : Int), false, false, false, true)), ([(83 : UInt8), (82 : UInt8), (65 : UInt8), (78 : UInt8), (68 : UInt8), (77 : UInt8), (69 : UInt8), (77 : UInt8), (66 : UInt8), (69 : UInt8), (82 : UInt8)], (tb_intaglio_verb_one.fst, tb_intaglio_verb_one.snd.fst, tb_intaglio_verb_one.snd.snd.fst, [], (2 : Int), (2 : Int), false, false, false, true)), ([(90 : UInt8), (67 : UInt8), (65 : UInt8), (82 : UInt8), (68 : UInt8)], (tb_intaglio_verb_one.fst, tb_intaglio_verb_one.snd.fst, tb_intaglio_verb_one.snd.snd.fst, [], (2 : Int), (2 : Int), false, false, false, true)), ([(73 : UInt8), (78 : UInt8), (67 : UInt8), (82 : UInt8)], (tb_intaglio_verb_one.fst, tb_intaglio_verb_one.snd.fst, tb_intaglio_verb_one.snd.snd.fst, [], (2 : Int), (2 : Int), true, false, false, true)), ([(68 : UInt8), (69 : UInt8), (67 : UInt8), (82 : UInt8)], (tb_intaglio_verb_one.fst, tb_intaglio_verb_one.snd.fst, tb_intaglio_verb_one.snd.snd.fst, [], (2 : Int), (2 : Int), true, false, false, true)), ([(80 : UInt8), (69 : UInt8), (82 : UInt8), (83 : UInt8), (73 : UInt8), (83 : UInt8), (84 : UInt8)], (tb_intaglio_verb_one.fst, tb_intaglio_verb_one.snd.fst, tb_intaglio_verb_one.snd.snd.fst, [], (2 : Int), (2 : Int), true, false, false, true)), ([(76 : UInt8), (80 : UInt8), (79 : UInt8), (80 : UInt8)], (tb_intaglio_verb_one.fst, tb_intaglio_verb_one.snd.fst, tb_intaglio_verb_one.snd.snd.fst, [], (2 : Int), (2 : Int), true, false, false, true)), ([(82 : UInt8), (80 : UInt8), (79 : UInt8), (80 : UInt8)], (tb_intaglio_verb_one.fst, tb_intaglio_verb_one.snd.fst, tb_intaglio_verb_one.snd.snd.fst, [], (2 : Int), (2 : Int), true, false, false, true)), ([(83 : UInt8), (80 : UInt8), (79 : UInt8), (80 : UInt8)], (tb_intaglio_verb_one.fst, tb_intaglio_verb_one.snd.fst, tb_intaglio_verb_one.snd.snd.fst, [], (2 : Int), (2 : Int), true, false, false, true))]
def middleL : List (List UInt8 × SpecT) := [([(87 : UInt8), (65 : UInt8), (84 : UInt8), (67 : UInt8), (72 : UInt8)], (tb_intaglio_verb_all.fst, tb_intaglio_verb_all.snd.fst, tb_intaglio_verb_all.snd.snd.fst, [], (2 : Int), (40 : Int), false, false, false, true)), ([(69 : UInt8), (88 : UInt8), (73 : UInt8), (83 : UInt8), (84 : UInt8), (83 : UInt8)], (tb_intaglio_verb_all.fst, tb_intaglio_verb_all.snd.fst, tb_intaglio_verb_all.snd.snd.fst, [], (2 : Int), (40 : Int), false, false, false, true)), ([(77 : UInt8), (71 : UInt8), (69 : UInt8), (84 : UInt8)], (tb_intaglio_verb_all.fst, tb_intaglio_verb_all.snd.fst, tb_intaglio_verb_all.snd.snd.fst, [], (2 : Int), (40 : Int), false, false, false, true)), ([(83 : UInt8), (73 : UInt8), (78 : UInt8), (84 : UInt8), (69 : UInt8), (82 : UInt8)], (tb_intaglio_verb_all.fst, tb_intaglio_verb_all.snd.fst, tb_intaglio_verb_all.snd.snd.fst, [], (2 : Int), (40 : Int), false, false, false, true)), ([(83 : UInt8), (85 : UInt8), (78 : UInt8), (73 : UInt8), (79 : UInt8), (78 : UInt8)], (tb_intaglio_verb_all.fst, tb_intaglio_verb_all.snd.fst, tb_intaglio_verb_all.snd.snd.fst, [], (2 : Int), (40 : Int), false, false, false, true)), ([(83 : UInt8), (68 : UInt8), (73 : UInt8), (70 : UInt8), (70 : UInt8)], (tb_intaglio_verb_all.fst, tb_intaglio_verb_all.snd.fst, tb_intaglio_verb_all.snd.snd.fst, [], (2 : Int), (40 : Int), false, false, false, true)), ([(68 : UInt8), (69 : UInt8), (76 : UInt8)], (tb_intaglio_verb_all.fst, tb_intaglio_verb_all.snd.fst, tb_intaglio_verb_all.snd.snd.fst, [], (2 : Int), (40 : Int), true, false, false, true)), ([(83 : UInt8), (69 : UInt8), (84 : UInt8)], (tb_intaglio_verb_one.fst, tb_intaglio_verb_one.snd.fst, tb_intaglio_verb_one.snd.snd.fst, [], (3 : Int), (7 : Int), true, false, false, true)), ([(71 : UInt8), (69 : UInt8), (84 : UInt8), (83 : UInt8), (69 : UInt8), (84 : UInt8)], (tb_intaglio_verb_one.fst, tb_intaglio_verb_one.snd.fst, tb_intaglio_verb_one.snd.snd.fst, [], (3 : Int), (3 : Int), true, false, false, true)), ([(83 : UInt8), (69 : UInt8), (84 : UInt8), (78 : UInt8), (88 : UInt8)], (tb_intaglio_verb_one.fst, tb_intaglio_verb_one.snd.fst, tb_intaglio_verb_one.snd.snd.fst, [], (3 : Int), (3 : Int), true, false, false, true)), ([(65 : UInt8), (80 : UInt8), (80 : UInt8), (69 : UInt8), (78 : UInt8), (68 : UInt8)], (tb_intaglio_verb_one.fst, tb_intaglio_verb_one.snd.fst, tb_intaglio_verb_one.snd.snd.fst, [], (3 : Int), (3 : Int), true, false, false, true)), ([(73 : UInt8), (78 : UInt8), (67 : UInt8), (82 : UInt8), (66 : UInt8), (89 : UInt8)], (tb_intaglio_verb_one.fst, tb_intaglio_verb_one.snd.fst, tb_intaglio_verb_one.snd.snd.fst, [], (3 : Int), (3 : Int), true, false, false, true)), ([(68 : UInt8), (69 : UInt8), (67 : UInt8), (82 : UInt8), (66 : UInt8), (89 : UInt8)], (tb_intaglio_verb_one.fst, tb_intaglio_verb_one.snd.fst, tb_intaglio_verb_one.snd.snd.fst, [], (3 : Int), (3 : Int), true, false, false, true)), ([(69 : UInt8), (88 : UInt8), (80 : UInt8), (73 : UInt8), (82 : UInt8), (69 : UInt8)], (tb_intaglio_verb_one.fst, tb_intaglio_verb_one.snd.fst, tb_intaglio_verb_one.snd.snd.fst, [], (3 : Int), (3 : Int), true, false, false, true)), ([(80 : UInt8), (69 : UInt8), (88 : UInt8), (80 : UInt8), (73 : UInt8), (82 : UInt8), (69 : UInt8)], (tb_intaglio_verb_one.fst, tb_intaglio_verb_one.snd.fst, tb_intaglio_verb_one.snd.snd.fst, [], (3 : Int), (3 : Int), true, false, false, true)), ([(80 : UInt8), (69 : UInt8), (88 : UInt8), (80 : UInt8), (73 : UInt8), (82 : UInt8), (69 : UInt8), (65 : UInt8), (84 : UInt8)], (tb_intaglio_verb_one.fst, tb_intaglio_verb_one.snd.fst, tb_intaglio_verb_one.snd.snd.fst, [], (3 : Int), (3 : Int), true, false, false, true)), ([(82 : UInt8), (69 : UInt8), (78 : UInt8), (65 : UInt8), (77 : UInt8), (69 : UInt8)], (tb_intaglio_verb_two.fst, tb_intaglio_verb_two.snd.fst, tb_intaglio_verb_two.snd.snd.fst, [], (3 : Int), (3 : Int), true, false, false, true)), ([(82 : UInt8), (80 : UInt8), (79 : UInt8), (80 : UInt8), (76 : UInt8), (80 : UInt8), (85 : UInt8), (83 : UInt8), (72 : UInt8)], (tb_intaglio_verb_two.fst, tb_intaglio_verb_two.snd.fst, tb_intaglio_verb_two.snd.snd.fst, [], (3 : Int), (3 : Int), true, false, false, true)), ([(77 : UInt8), (83 : UInt8), (69 : UInt8), (84 : UInt8)], ((1 : Int), (-1 : Int), (2 : Int), [], (3 : Int), (40 : Int), true, true, false, true)), ([(72 : UInt8), (71 : UInt8), (69 : UInt8), (84 : UInt8)], (tb_intaglio_verb_one.fst, tb_intaglio_verb_one.snd.fst, tb_intaglio_verb_one.snd.snd.fst, [], (3 : Int), (3 : Int), false, false, false, true)), ([(72 : UInt8), (69 : UInt8), (88 : UInt8), (73 : UInt8), (83 : UInt8), (84 : UInt8), (83 : UInt8)], (tb_intaglio_verb_one.fst, tb_intaglio_verb_one.snd.fst, tb_intaglio_verb_one.snd.snd.fst, [], (3 : Int), (3 : Int), false, false, false, true)), ([(76 : UInt8), (73 : UInt8), (78 : UInt8), (68 : UInt8), (69 : UInt8), (88 : UInt8)], (tb_intaglio_verb_one.fst, tb_intaglio_verb_one.snd.fst, tb_intaglio_verb_one.snd.snd.fst, [], (3 : Int), (3 : Int), false, false, false, true)), ([(83 : UInt8), (73 : UInt8), (83 : UInt8), (77 : UInt8), (69 : UInt8), (77 : UInt8), (66 : UInt8), (69 : UInt8), (82 : UInt8)], (tb_intaglio_verb_one.fst, tb_intaglio_verb_one.snd.fst, tb_intaglio_verb_one.snd.snd.fst, [], (3 : Int), (3 : Int), false, false, false, true)), ([(90 : UInt8), (83 : UInt8), (67 : UInt8), (79 : UInt8), (82 : UInt8), (69 : UInt8)], (tb_intaglio_verb_one.fst, tb_intaglio_verb_one.snd.fst, tb_intaglio_verb_one.snd.snd.fst, [], (3 : Int), (3 : Int), false, false, false, true)), ([(90 : UInt8), (82 : UInt8), (65 : UInt8), (78 : UInt8), (75 : UInt8)], (tb_intaglio_verb_one.fst, tb_intaglio_verb_one.snd.fst, tb_intaglio_verb_one.snd.snd.fst, [], (3 : Int), (3 : Int), false, false, false, true)), ([(90 : UInt8), (82 : UInt8), (69 : UInt8), (86 : UInt8), (82 : UInt8), (65 : UInt8), (78 : UInt8), (75 : UInt8)], (tb_intaglio_verb_one.fst, tb_intaglio_verb_one.snd.fst, tb_intaglio_verb_one.snd.snd.fst, [], (3 : Int), (3 : Int), false, false, false, true)), ([(72 : UInt8), (77 : UInt8), (71 : UInt8), (69 : UInt8), (84 : UInt8)], (tb_intaglio_verb_one.fst, tb_intaglio_verb_one.snd.fst, tb_intaglio_verb_one.snd.snd.fst, [], (3 : Int), (40 : Int), false, false, false, true)), ([(72 : UInt8), (68 : UInt8), (69 : UInt8), (76 : UInt8)], (tb_intaglio_verb_one.fst, tb_intaglio_verb_one.snd.fst, tb_intaglio_verb_one.snd.snd.fst, [], (3 : Int), (40 : Int), true, false, false, true)), ([(76 : UInt8), (80 : UInt8), (85 : UInt8), (83 : UInt8), (72 : UInt8)], (tb_intaglio_verb_one.fst, tb_intaglio_verb_one.snd.fst, tb_intaglio_verb_one.snd.snd.fst, [], (3 : Int), (40 : Int), true, false, false, true)), ([(82 : UInt8), (80 : UInt8), (85 : UInt8), (83 : UInt8), (72 : UInt8)], (tb_intaglio_verb_one.fst, tb_intaglio_verb_one.snd.fst, tb_intaglio_verb_one.snd.snd.fst, [], (3 : Int), (40 : Int), true, false, false, true)), ([(83 : UInt8), (65 : UInt8), (68 : UInt8), (68 : UInt8)], (tb_intaglio_verb_one.fst, tb_intaglio_verb_one.snd.fst, tb_intaglio_verb_one.snd.snd.fst, [], (3 : Int), (40 : Int), true, false, false, true)), ([(83 : UInt8), (82 : UInt8), (69 : UInt8), (77 : UInt8)], (tb_intaglio_verb_one.fst, tb_intaglio_verb_one.snd.fst, tb_intaglio_verb_one.snd.snd.fst, [], (3 : Int), (40 : Int), true, false, false, true)), ([(90 : UInt8), (82 : UInt8), (69 : UInt8), (77 : UInt8)], (tb_intaglio_verb_one.fst, tb_intaglio_verb_one.snd.fst, tb_intaglio_verb_one.snd.snd.fst, [], (3 : Int), (40 : Int), true, false, false, true))]
def wideL : List (List UInt8 × SpecT) := [([(71 : UInt8), (69 : UInt8), (84 : UInt8), (82 : UInt8), (65 : UInt8), (78 : UInt8), (71 : UInt8), (69 : UInt8)], (tb_intaglio_verb_one.fst, tb_intaglio_verb_one.snd.fst, tb_intaglio_verb_one.snd.snd.fst, [], (4 : Int), (4 : Int), false, false, false, true)), ([(76 : UInt8), (82 : UInt8), (65 : UInt8), (78 : UInt8), (71 : UInt8), (69 : UInt8)], (tb_intaglio_verb_one.fst, tb_intaglio_verb_one.snd.fst, tb_intaglio_verb_one.snd.snd.fst, [], (4 : Int), (4 : Int), false, false, false, true)), ([(90 : UInt8), (82 : UInt8), (69 : UInt8), (86 : UInt8), (82 : UInt8), (65 : UInt8), (78 : UInt8), (71 : UInt8), (69 : UInt8)], (tb_intaglio_verb_one.fst, tb_intaglio_verb_one.snd.fst, tb_intaglio_verb_one.snd.snd.fst, [], (4 : Int), (4 : Int), false, false, false, true)), ([(90 : UInt8), (82 : UInt8), (65 : UInt8), (78 : UInt8), (71 : UInt8), (69 : UInt8), (66 : UInt8), (89 : UInt8), (83 : UInt8), (67 : UInt8), (79 : UInt8), (82 : UInt8), (69 : UInt8)], (tb_intaglio_verb_one.fst, tb_intaglio_verb_one.snd.fst, tb_intaglio_verb_one.snd.snd.fst, [], (4 : Int), (4 : Int), false, false, false, true)), ([(90 : UInt8), (67 : UInt8), (79 : UInt8), (85 : UInt8), (78 : UInt8), (84 : UInt8)], (tb_intaglio_verb_one.fst, tb_intaglio_verb_one.snd.fst, tb_intaglio_verb_one.snd.snd.fst, [], (4 : Int), (4 : Int), false, false, false, true)), ([(83 : UInt8), (69 : UInt8), (84 : UInt8), (82 : UInt8), (65 : UInt8), (78 : UInt8), (71 : UInt8), (69 : UInt8)], (tb_intaglio_verb_one.fst, tb_intaglio_verb_one.snd.fst, tb_intaglio_verb_one.snd.snd.fst, [], (4 : Int), (4 : Int), true, false, false, true)), ([(72 : UInt8), (83 : UInt8), (69 : UInt8), (84 : UInt8), (78 : UInt8), (88 : UInt8)], (tb_intaglio_verb_one.fst, tb_intaglio_verb_one.snd.fst, tb_intaglio_verb_one.snd.snd.fst, [], (4 : Int), (4 : Int), true, false, false, true)), ([(72 : UInt8), (73 : UInt8), (78 : UInt8), (67 : UInt8), (82 : UInt8), (66 : UInt8), (89 : UInt8)], (tb_intaglio_verb_one.fst, tb_intaglio_verb_one.snd.fst, tb_intaglio_verb_one.snd.snd.fst, [], (4 : Int), (4 : Int), true, false, false, true)), ([(76 : UInt8), (83 : UInt8), (69 : UInt8), (84 : UInt8)], (tb_intaglio_verb_one.fst, tb_intaglio_verb_one.snd.fst, tb_intaglio_verb_one.snd.snd.fst, [], (4 : Int), (4 : Int), true, false, false, true)), ([(76 : UInt8), (84 : UInt8), (82 : UInt8), (73 : UInt8), (77 : UInt8)], (tb_intaglio_verb_one.fst, tb_intaglio_verb_one.snd.fst, tb_intaglio_verb_one.snd.snd.fst, [], (4 : Int), (4 : Int), true, false, false, true)), ([(76 : UInt8), (82 : UInt8), (69 : UInt8), (77 : UInt8)], (tb_intaglio_verb_one.fst, tb_intaglio_verb_one.snd.fst, tb_intaglio_verb_one.snd.snd.fst, [], (4 : Int), (4 : Int), true, false, false, true)), ([(90 : UInt8), (73 : UInt8), (78 : UInt8), (67 : UInt8), (82 : UInt8), (66 : UInt8), (89 : UInt8)], (tb_intaglio_verb_one.fst, tb_intaglio_verb_one.snd.fst, tb_intaglio_verb_one.snd.snd.fst, [], (4 : Int), (4 : Int), true, false, false, true)), ([(90 : UInt8), (82 : UInt8), (69 : UInt8), (77 : UInt8), (82 : UInt8), (65 : UInt8), (78 : UInt8), (71 : UInt8), (69 : UInt8), (66 : UInt8), (89 : UInt8), (83 : UInt8), (67 : UInt8), (79 : UInt8), (82 : UInt8), (69 : UInt8)], (tb_intaglio_verb_one.fst, tb_intaglio_verb_one.snd.fst, tb_intaglio_verb_one.snd.snd.fst, [], (4 : Int), (4 : Int), true, false, false, true)), ([(83 : UInt8), (77 : UInt8), (79 : UInt8), (86 : UInt8), (69 : UInt8)], (tb_intaglio_verb_two.fst, tb_intaglio_verb_two.snd.fst, tb_intaglio_verb_two.snd.snd.fst, [], (4 : Int), (4 : Int), true, false, false, true)), ([(90 : UInt8), (82 : UInt8), (65 : UInt8), (78 : UInt8), (71 : UInt8), (69 : UInt8)], (tb_intaglio_verb_one.fst, tb_intaglio_verb_one.snd.fst, tb_intaglio_verb_one.snd.snd.fst, [], (4 : Int), (5 : Int), false, false, false, true)), ([(72 : UInt8), (83 : UInt8), (69 : UInt8), (84 : UInt8)], (tb_intaglio_verb_one.fst, tb_intaglio_verb_one.snd.fst, tb_intaglio_verb_one.snd.snd.fst, [], (4 : Int), (40 : Int), true, false, true, true)), ([(90 : UInt8), (65 : UInt8), (68 : UInt8), (68 : UInt8)], (tb_intaglio_verb_one.fst, tb_intaglio_verb_one.snd.fst, tb_intaglio_verb_one.snd.snd.fst, [], (4 : Int), (40 : Int), true, false, true, true))]

theorem short_is (u : List UInt8) : verb_short_M u = lk u shortL := rfl
theorem middle_is (u : List UInt8) : verb_middle_M u = lk u middleL := rfl
theorem wide_is (u : List UInt8) : verb_wide_M u = lk u wideL := rfl
def names : List (List UInt8) := shortL.map (·.1) ++ middleL.map (·.1) ++ wideL.map (·.1)

theorem vFind_up {s : List UInt8} (hl : s.length ≤ 1000000) (hu : upS (upS s) = upS s) : verb_Find_M s = verb_Find_M (upS s) := by
  have h2 := vUpper_is (s := upS s) (by rw [upS, List.length_map]; exact hl)
  unfold verb_Find_M
  simp only [verb_Upper_P]
  rw [vUpper_is hl, h2, hu]
theorem rFind_up {s : List UInt8} (hl : s.length ≤ 1000000) (hu : upS (upS s) = upS s) : intaglioref17_Find_M s = intaglioref17_Find_M (upS s) := by
  have h2 := rUpper_is (s := upS s) (by rw [upS, List.length_map]; exact hl)
  unfold intaglioref17_Find_M
  simp only [intaglioref17_Upper_P]
  rw [rUpper_is hl, h2, hu]

theorem vFind_no {s : List UInt8} (hl : s.length ≤ 1000000) (hn : ∀ n ∈ names, (upS s == n) = false) : verb_Find_M s = some noSpec := by
  unfold verb_Find_M
  simp only [verb_Upper_P, verb_short_P, verb_middle_P, verb_wide_P]
  have h1 : verb_short_M (upS s) = some noSpec := (short_is _).trans (lk_none fun p hp => hn _ (by unfold names; exact List.mem_append_left _ (List.mem_append_left _ (List.mem_map_of_mem hp))))
  have h2 : verb_middle_M (upS s) = some noSpec := (middle_is _).trans (lk_none fun p hp => hn _ (by unfold names; exact List.mem_append_left _ (List.mem_append_right _ (List.mem_map_of_mem hp))))
  have h3 : verb_wide_M (upS s) = some noSpec := (wide_is _).trans (lk_none fun p hp => hn _ (by unfold names; exact List.mem_append_right _ (List.mem_map_of_mem hp)))
  rw [vUpper_is hl, Option.bind_some, h1, Option.bind_some, h2]
  rw [if_pos (by decide), Option.bind_some, if_pos (by decide), h3, Option.bind_some, if_neg (by decide)]

abbrev RowT : Type := List (List UInt8) × Int × Int × Bool × Int × Int × Int × Bool × Bool × Unit
def tab : List RowT := (intaglioref17_table_M).getD []
theorem tab_is : intaglioref17_table_M = some tab := rfl
theorem tab_names : (tab.flatMap fun r => r.1).all (fun n => names.contains n) = true := by kernel_rfl
theorem tab_len : tab.length = 20 := by kernel_rfl

theorem rFind_inner {u : List UInt8} (hu : ∀ r ∈ tab, ∀ n ∈ r.1, (n == u) = false) {i : Nat} (hi : i < tab.length) (a : List UInt8) (b c : Int) (d : Bool) (e f g : Int) (h k : Bool) (hrow : (tab[i]).1.length ≤ 1000) :
    loop intaglioref17_Find_L2_P (u, (i : Int), 0, a, b, c, d, e, f, g, h, k, tab) = some (.inl (u, (i : Int), a, b, c, d, e, f, g, h, k, tab)) := by
  refine loop_is (fun (x : List UInt8 × Int × Int × List UInt8 × Int × Int × Bool × Int × Int × Int × Bool × Bool × List RowT) => ∃ j : Nat, j ≤ (tab[i]).1.length ∧ x = (u, (i : Int), (j : Int), a, b, c, d, e, f, g, h, k, tab))
    (fun x => (tab[i]).1.length - x.2.2.1.toNat) ⟨0, Nat.zero_le _, rfl⟩ (by simp only [Int.toNat_zero]; omega) ?_
  rintro x ⟨j, hj, rfl⟩
  simp only [intaglioref17_Find_L2_P, intaglioref17_Find_L2]
  have hg : ∀ dd : RowT, List.getD tab i dd = tab[i] := fun dd => by simp [List.getD, List.getElem?_eq_getElem hi]
  rw [inb_ok hi, Option.bind_some, Int.toNat_natCast]
  erw [hg]
  by_cases hlt : j < (tab[i]).1.length
  · left
    have hne := hu _ (List.getElem_mem hi) _ (List.getElem_mem hlt)
    rw [if_pos (decide_eq_true (by omega)), Option.bind_some, ix_nat hlt, Option.bind_some, if_neg (by rw [hne]; decide)]
    exact ⟨_, rfl, ⟨j + 1, hlt, by rw [i64_succ (by omega)]⟩, by simp only; rw [i64_succ (by omega)]; simp only [Int.toNat_natCast]; omega⟩
  · right
    rw [if_neg (by simp; omega)]

theorem tab_rows : (tab.all fun r => decide (r.1.length ≤ 1000)) = true := by kernel_rfl

theorem rFind_no {s : List UInt8} (hl : s.length ≤ 1000000) (hn : ∀ n ∈ names, (upS s == n) = false) : intaglioref17_Find_M s = some ([], 0, 0, false, 0, 0, 0, false, false, false) := by
  have hu : ∀ r ∈ tab, ∀ n ∈ r.1, (n == upS s) = false := by
    intro r hr n hn'
    have h1 := List.all_eq_true.1 tab_names n (List.mem_flatMap.2 ⟨r, hr, hn'⟩)
    have h2 := hn n (List.contains_iff_mem.1 h1)
    rw [beq_eq_false_iff_ne] at h2 ⊢
    exact fun e => h2 e.symm
  unfold intaglioref17_Find_M
  simp only [intaglioref17_table_P, intaglioref17_Upper_P]
  rw [tab_is, Option.bind_some, rUpper_is hl, Option.bind_some]
  rw [loop_is (r := .inl ([], 0, 0, false, 0, 0, 0, false, false)) (s := (upS s, 0, [], 0, 0, false, 0, 0, 0, false, false, tab)) (fun (x : List UInt8 × Int × List UInt8 × Int × Int × Bool × Int × Int × Int × Bool × Bool × List RowT) => ∃ i : Nat, i ≤ tab.length ∧ x = (upS s, (i : Int), [], 0, 0, false, 0, 0, 0, false, false, tab))
    (fun x => tab.length - x.2.1.toNat) ⟨0, Nat.zero_le _, rfl⟩ (by rw [tab_len]; simp) ?_]
  · rfl
  · rintro x ⟨i, hi, rfl⟩
    simp only [intaglioref17_Find_L1_P, intaglioref17_Find_L1]
    have htl := tab_len
    by_cases hlt : i < tab.length
    · left
      rw [if_pos (decide_eq_true (by omega)), rFind_inner hu hlt _ _ _ _ _ _ _ _ _ (of_decide_eq_true (List.all_eq_true.1 tab_rows _ (List.getElem_mem hlt))), Option.bind_some]
      exact ⟨_, rfl, ⟨i + 1, hlt, by rw [i64_succ (by omega)]⟩, by simp only; rw [i64_succ (by omega)]; simp only [Int.toNat_natCast]; omega⟩
    · right
      rw [if_neg (by simp; omega)]

/-- At each name both know the same. -/
def chk (n : List UInt8) : Bool := match verb_Find_M n, intaglioref17_Find_M n with
  | some a, some b => upS n == n && (a.2.2.2.2.2.2.2.2.2 == b.2.2.2.2.2.2.2.2.2) && (intagliolaw17_same_M a.1 a.2.1 a.2.2.1 a.2.2.2.1 a.2.2.2.2.1 a.2.2.2.2.2.1 a.2.2.2.2.2.2.1 a.2.2.2.2.2.2.2.1 a.2.2.2.2.2.2.2.2.1 b.1 b.2.1 b.2.2.1 b.2.2.2.1 b.2.2.2.2.1 b.2.2.2.2.2.1 b.2.2.2.2.2.2.1 b.2.2.2.2.2.2.2.1 b.2.2.2.2.2.2.2.2.1 == some true)
  | _, _ => false
theorem chk_all : names.all chk = true := by kernel_rfl
end Go.Proofs.YtekofbmeofhejaaDoor
