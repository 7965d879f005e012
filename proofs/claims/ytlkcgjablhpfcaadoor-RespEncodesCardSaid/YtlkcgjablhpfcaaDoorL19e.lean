/- The law RespEncodes: what its model answers, whatever comes in. -/
import Derived.Test.YtlkcgjablhpfcaaDoorL19
namespace Go.Proofs.YtlkcgjablhpfcaaDoor
open Go Go.Lift Go.Lib
set_option maxRecDepth 100000
set_option maxHeartbeats 4000000
set_option linter.unusedVariables false

/-! ### Texts without line ends -/

def fb (c : UInt8) : UInt8 := if c = 13 ∨ c = 10 then 32 else c
def flatR (t : List UInt8) : List UInt8 := t.map fb
theorem bnums_app (a b : List UInt8) : bnums (a ++ b) = bnums a ++ bnums b := by simp [bnums]
theorem bnums_len (a : List UInt8) : (bnums a).length = a.length := by simp [bnums]
theorem getD_mid {A D : List Int} {c : Int} {i : Nat} (h : A.length = i) : (A ++ c :: D).getD i 0 = c := by subst h; simp
theorem set_mid {A D : List Int} {c x : Int} {i : Nat} (h : A.length = i) : (A ++ c :: D).set i x = A ++ x :: D := by subst h; simp
theorem u8_ne {c d : UInt8} (h : c ≠ d) : ¬ ((((UInt8.toNat c : Nat) : Int) == ((UInt8.toNat d : Nat) : Int)) = true) := by
  intro e
  rw [beq_iff_eq] at e
  exact h (UInt8.toNat_inj.1 (by omega))

theorem pflat {t : List UInt8} (ht : t.length ≤ 100000) : resp_flat_M t = some (flatR t) := by
  unfold resp_flat_M
  rw [bnums_len]
  have hfl : (flatR t).length = t.length := by simp [flatR]
  obtain ⟨q, hq, _⟩ := loop_count' (body := resp_flat_L1_P) (T := Unit) t.length (fun i _ => (((t.length : Nat) : Int), (i : Int), bnums ((flatR t).take i ++ t.drop i))) (fun _ _ => ()) (fun _ => bnums (flatR t)) (fun _ _ => True)
    (fun i u hi _ => ⟨by
      show resp_flat_L1 ((t.length : Nat) : Int) (i : Int) (bnums ((flatR t).take i ++ t.drop i)) = _
      unfold resp_flat_L1
      have hA : (bnums ((flatR t).take i)).length = i := by rw [bnums_len, List.length_take]; omega
      have e1 : bnums ((flatR t).take i ++ t.drop i) = bnums ((flatR t).take i) ++ ((UInt8.toNat t[i] : Nat) : Int) :: bnums (t.drop (i + 1)) := by
        rw [bnums_app, List.drop_eq_getElem_cons hi]; rfl
      have e2 : ∀ c : UInt8, fb t[i] = c → bnums ((flatR t).take i) ++ ((UInt8.toNat c : Nat) : Int) :: bnums (t.drop (i + 1)) = bnums ((flatR t).take (i + 1) ++ t.drop (i + 1)) := by
        intro c hc
        rw [List.take_succ_eq_append_getElem (by omega : i < (flatR t).length), bnums_app, bnums_app, List.append_assoc]
        congr 1
        rw [show (flatR t)[i]'(by omega) = c by rw [← hc]; simp [flatR]]
        rfl
      have hl : (bnums ((flatR t).take i) ++ ((UInt8.toNat t[i] : Nat) : Int) :: bnums (t.drop (i + 1))).length = t.length := by
        rw [← e1, bnums_len, List.length_append, List.length_take, List.length_drop]; omega
      rw [if_pos (by simpa using hi), e1, inb_ok (by rw [hl]; exact hi), Option.bind_some, Int.toNat_natCast, getD_mid hA, i64_succ (by omega)]
      by_cases h1 : t[i] = 13
      · rw [if_pos (by rw [h1]; rfl), Option.bind_some, set_mid hA]
        rw [← e2 32 (by rw [h1]; rfl)]; rfl
      · rw [if_neg (show ¬ ((((UInt8.toNat t[i] : Nat) : Int) == (13 : Int)) = true) from u8_ne (d := 13) h1)]
        by_cases h2 : t[i] = 10
        · rw [if_pos (by rw [h2]; rfl), Option.bind_some, set_mid hA]
          rw [← e2 32 (by rw [h2]; rfl)]; rfl
        · rw [if_neg (show ¬ ((((UInt8.toNat t[i] : Nat) : Int) == (10 : Int)) = true) from u8_ne (d := 10) h2), e2 t[i] (by unfold fb; rw [if_neg (by simp [h1, h2])])], trivial⟩)
    (fun u _ => by
      show resp_flat_L1 ((t.length : Nat) : Int) (t.length : Int) _ = _
      unfold resp_flat_L1
      rw [if_neg (by simp), List.drop_length, List.append_nil, List.take_of_length_le (by omega)]) (i := 0) (t := ()) (Nat.zero_le _) (by omega) trivial
  have e0 : (((t.length : Nat) : Int), ((0 : Nat) : Int), bnums ((flatR t).take 0 ++ t.drop 0)) = (((t.length : Nat) : Int), (0 : Int), bnums t) := rfl
  rw [e0] at hq
  rw [hq, Option.bind_some, b8_bnums]

theorem rflat {t : List UInt8} (ht : t.length ≤ 100000) : intaglioref19_flat_M t = some (flatR t) := by
  unfold intaglioref19_flat_M
  have hfl : (flatR t).length = t.length := by simp [flatR]
  obtain ⟨q, hq, _⟩ := loop_count' (body := intaglioref19_flat_L1_P) (T := Unit) t.length (fun i _ => (t, (i : Int), bnums ((flatR t).take i))) (fun _ _ => ()) (fun _ => bnums (flatR t)) (fun _ _ => True)
    (fun i u hi _ => ⟨by
      show intaglioref19_flat_L1 t (i : Int) (bnums ((flatR t).take i)) = _
      unfold intaglioref19_flat_L1
      have hA : (bnums ((flatR t).take i)).length = i := by rw [bnums_len, List.length_take]; omega
      have e2 : ∀ c : UInt8, fb t[i] = c → bnums ((flatR t).take i) ++ [((UInt8.toNat c : Nat) : Int)] = bnums ((flatR t).take (i + 1)) := by
        intro c hc
        rw [List.take_succ_eq_append_getElem (by omega : i < (flatR t).length), bnums_app]
        congr 1
        rw [show (flatR t)[i]'(by omega) = c by rw [← hc]; simp [flatR]]
        rfl
      rw [if_pos (by simpa using hi), ix_nat hi, Option.bind_some, i64_succ (by omega)]
      by_cases h1 : t[i] = 13
      · rw [if_pos (by rw [h1]; rfl), room1 (by omega), Option.bind_some, ← e2 32 (by rw [h1]; rfl)]; rfl
      · rw [if_neg (show ¬ ((((UInt8.toNat t[i] : Nat) : Int) == (13 : Int)) = true) from u8_ne (d := 13) h1)]
        by_cases h2 : t[i] = 10
        · rw [if_pos (by rw [h2]; rfl), room1 (by omega), Option.bind_some, ← e2 32 (by rw [h2]; rfl)]; rfl
        · rw [if_neg (show ¬ ((((UInt8.toNat t[i] : Nat) : Int) == (10 : Int)) = true) from u8_ne (d := 10) h2), room1 (by rw [hA]; show i + 1 ≤ _; omega), Option.bind_some, e2 t[i] (by unfold fb; rw [if_neg (by simp [h1, h2])])], trivial⟩)
    (fun u _ => by
      show intaglioref19_flat_L1 t (t.length : Int) _ = _
      unfold intaglioref19_flat_L1
      rw [if_neg (by simp), List.take_of_length_le (by omega)]) (i := 0) (t := ()) (Nat.zero_le _) (by omega) trivial
  have e0 : (t, ((0 : Nat) : Int), bnums ((flatR t).take 0)) = (t, (0 : Int), ([] : List Int)) := rfl
  rw [e0] at hq
  rw [hq, Option.bind_some, b8_bnums]

/-! ### Texts of a length -/

theorem bulk_both {w : List UInt8} (hw : w.length ≤ 3000) : resp_bulk_M w = some (sc_bulk w) ∧ intaglioref19_bulk_M w = some (sc_bulk w) := by
  have := itoa_len (v := (w.length : Int)) (k := 7) (by omega)
  constructor
  · unfold resp_bulk_M
    rw [show verb_Text_P ((w.length : Nat) : Int) = verb_Text_M ((w.length : Nat) : Int) from rfl, verbText_is ⟨by omega, by omega⟩, Option.bind_some]
    rw [room1 (by omega), Option.bind_some, room1 (by simp only [List.length_cons, List.length_append, List.length_nil]; omega), Option.bind_some, room1 (by simp only [List.length_cons, List.length_append, List.length_nil]; omega), Option.bind_some, room1 (by simp only [List.length_cons, List.length_append, List.length_nil]; omega), Option.bind_some]
    unfold sc_bulk; simp
  · unfold intaglioref19_bulk_M
    rw [show intaglioref17_Text_P ((w.length : Nat) : Int) = intaglioref17_Text_M ((w.length : Nat) : Int) from rfl, rText_is ⟨by omega, by omega⟩, Option.bind_some]
    rw [room1 (by omega), Option.bind_some, room1 (by simp only [List.length_cons, List.length_append, List.length_nil]; omega), Option.bind_some, room1 (by simp only [List.length_cons, List.length_append, List.length_nil]; omega), Option.bind_some, room1 (by simp only [List.length_cons, List.length_append, List.length_nil]; omega), Option.bind_some]
    unfold sc_bulk; simp

/-! ### Trees: how deep they are, what they weigh, their bytes -/

def Lgt : Nat → Rep → Prop
  | 0, _ => False
  | j + 1, r => r.t.length ≤ 3000 ∧ r.l.length ≤ 60 ∧ ∀ c ∈ r.l, Lgt j c
def wtJ : Nat → Rep → Nat
  | 0, _ => 0
  | j + 1, r => 1 + r.t.length + (r.l.map (wtJ j)).sum
def encJ : Nat → Rep → List UInt8
  | 0, _ => []
  | j + 1, .mk k t n l =>
    if k = 1 then 43 :: (flatR t ++ [13, 10])
    else if k = 2 then 45 :: (flatR t ++ [13, 10])
    else if k = 3 then 58 :: (itoa n ++ [13, 10])
    else if k = 4 then sc_bulk t
    else if k = 5 then [36, 45, 49, 13, 10]
    else if k = 7 then [42, 45, 49, 13, 10]
    else if k = 6 then 42 :: (itoa (l.length : Int) ++ [13, 10]) ++ l.flatMap (encJ j)
    else []

theorem rep_ok : ∀ {r : Rep}, Rep.ok r → I64 r.n ∧ ∀ c ∈ r.l, Rep.ok c
  | .mk k t n l, h => by
    unfold Rep.ok at h
    obtain ⟨_, _, h3, _, h5⟩ := h
    refine ⟨wf_i64 h3, ?_⟩
    have key : ∀ l : List Rep, Rep.oks l → ∀ c ∈ l, Rep.ok c := by
      intro l
      induction l with
      | nil => intro _ c hc; cases hc
      | cons a l ih =>
        intro h c hc
        unfold Rep.oks at h
        rcases List.mem_cons.1 hc with rfl | hc
        · exact h.1
        · exact ih h.2 c hc
    exact key l h5

theorem sum_take {α : Type} (f : α → Nat) (l : List α) (i : Nat) : ((l.take i).map f).sum ≤ (l.map f).sum := by
  conv => rhs; rw [← List.take_append_drop i l, List.map_append, List.sum_append]
  omega
theorem sum_mem {α : Type} (f : α → Nat) : ∀ (l : List α) (c : α), c ∈ l → f c ≤ (l.map f).sum
  | a :: l, c, h => by
    rw [List.map_cons, List.sum_cons]
    rcases List.mem_cons.1 h with rfl | h
    · omega
    · have := sum_mem f l c h; omega
theorem flatMap_len {α : Type} (f : α → List UInt8) (g : α → Nat) : ∀ (l : List α), (∀ c ∈ l, (f c).length ≤ 40 * g c) → (l.flatMap f).length ≤ 40 * (l.map g).sum
  | [], _ => Nat.zero_le _
  | a :: l, h => by
    rw [List.flatMap_cons, List.length_append, List.map_cons, List.sum_cons]
    have := h a (List.mem_cons_self ..)
    have := flatMap_len f g l fun c hc => h c (List.mem_cons_of_mem _ hc)
    omega

theorem itoa20 {v : Int} (h : I64 v) : (itoa v).length ≤ 20 := itoa_len (k := 18) (by obtain ⟨h1, h2⟩ := h; omega)
theorem bulk_len {w : List UInt8} (hw : w.length ≤ 3000) : (sc_bulk w).length ≤ 20 + w.length := by
  have := itoa_len (v := (w.length : Int)) (k := 7) (by omega)
  unfold sc_bulk; simp only [List.length_cons, List.length_append, List.length_nil]; omega

theorem enc_len : ∀ (j : Nat) (r : Rep), Lgt j r → Rep.ok r → (encJ j r).length ≤ 40 * wtJ j r
  | 0, _, h, _ => h.elim
  | j + 1, .mk k t n l, h, ho => by
    obtain ⟨h1, h2, h3⟩ := h
    obtain ⟨o1, o2⟩ := rep_ok ho
    have h1 : t.length ≤ 3000 := h1
    have h2 : l.length ≤ 60 := h2
    have h3 : ∀ c ∈ l, Lgt j c := h3
    have o1 : I64 n := o1
    have o2 : ∀ c ∈ l, Rep.ok c := o2
    have hm := flatMap_len (encJ j) (wtJ j) l fun c hc => enc_len j c (h3 c hc) (o2 c hc)
    have hf : (flatR t).length = t.length := by simp [flatR]
    have hn := itoa20 o1
    have hl := itoa_len (v := (l.length : Int)) (k := 2) (by omega)
    have hb := bulk_len h1
    unfold encJ wtJ
    show _ ≤ 40 * (1 + t.length + (l.map (wtJ j)).sum)
    split
    · simp only [List.length_cons, List.length_append, List.length_nil]; omega
    · split
      · simp only [List.length_cons, List.length_append, List.length_nil]; omega
      · split
        · simp only [List.length_cons, List.length_append, List.length_nil]; omega
        · split
          · omega
          · split
            · simp only [List.length_cons, List.length_nil]; omega
            · split
              · simp only [List.length_cons, List.length_nil]; omega
              · split
                · simp only [List.length_cons, List.length_append, List.length_nil]; omega
                · simp only [List.length_nil]; omega

theorem enc_ok : ∀ (j : Nat) (r : Rep), Lgt j r → Rep.ok r → wtJ j r ≤ 10000 → ∀ n, j ≤ n → resp_Encode_F n (r.k, r.t, r.n, r.l) = some (bnums (encJ j r)) ∧ intaglioref19_Encode_F n (r.k, r.t, r.n, r.l) = some (encJ j r)
  | 0, _, h, _, _, _, _ => h.elim
  | j + 1, .mk k t x l, h, ho, hw, 0, hn => by omega
  | j + 1, .mk k t x l, h, ho, hw, n + 1, hn => by
    obtain ⟨h1, h2, h3⟩ := h
    obtain ⟨o1, o2⟩ := rep_ok ho
    have h1 : t.length ≤ 3000 := h1
    have h2 : l.length ≤ 60 := h2
    have h3 : ∀ c ∈ l, Lgt j c := h3
    have o1 : I64 x := o1
    have o2 : ∀ c ∈ l, Rep.ok c := o2
    have hw : 1 + t.length + (l.map (wtJ j)).sum ≤ 10000 := hw
    have hself : ∀ c ∈ l, resp_Encode_F n (c.k, c.t, c.n, c.l) = some (bnums (encJ j c)) ∧ intaglioref19_Encode_F n (c.k, c.t, c.n, c.l) = some (encJ j c) :=
      fun c hc => enc_ok j c (h3 c hc) (o2 c hc) (by have := sum_mem (wtJ j) l c hc; omega) n (by omega)
    have hpre : ∀ i, ((l.take i).flatMap (encJ j)).length ≤ 400000 := fun i => by
      have := flatMap_len (encJ j) (wtJ j) (l.take i) fun c hc => enc_len j c (h3 c (List.mem_of_mem_take hc)) (o2 c (List.mem_of_mem_take hc))
      have := sum_take (wtJ j) l i
      omega
    have hstep : ∀ i (hi : i < l.length), (l.take (i + 1)).flatMap (encJ j) = (l.take i).flatMap (encJ j) ++ encJ j l[i] := fun i hi => by
      rw [List.take_succ_eq_append_getElem hi, List.flatMap_append]; simp
    have hf : (flatR t).length = t.length := by simp [flatR]
    have hx := itoa20 o1
    have hl := itoa_len (v := (l.length : Int)) (k := 2) (by omega)
    constructor
    · show resp_Encode_S (resp_Encode_F n) k t x l = some (bnums (encJ (j + 1) (.mk k t x l)))
      unfold resp_Encode_S encJ
      by_cases e1 : k = 1
      · subst e1
        rw [if_pos (by decide), if_pos rfl, show resp_flat_P t = resp_flat_M t from rfl, pflat (by omega), Option.bind_some, room1 (by omega), Option.bind_some, room1 (by simp only [List.length_cons, List.length_append, List.length_nil]; omega), Option.bind_some]
        simp
      rw [if_neg (by simpa using e1), if_neg e1]
      by_cases e2 : k = 2
      · subst e2
        rw [if_pos (by decide), if_pos rfl, show resp_flat_P t = resp_flat_M t from rfl, pflat (by omega), Option.bind_some, room1 (by omega), Option.bind_some, room1 (by simp only [List.length_cons, List.length_append, List.length_nil]; omega), Option.bind_some]
        simp
      rw [if_neg (by simpa using e2), if_neg e2]
      by_cases e3 : k = 3
      · subst e3
        rw [if_pos (by decide), if_pos rfl, show verb_Text_P x = verb_Text_M x from rfl, verbText_is (v := x) o1, Option.bind_some, room1 (by omega), Option.bind_some, room1 (by simp only [List.length_cons, List.length_append, List.length_nil]; omega), Option.bind_some]
        simp
      rw [if_neg (by simpa using e3), if_neg e3]
      by_cases e4 : k = 4
      · subst e4
        rw [if_pos (by decide), if_pos rfl, show resp_bulk_P t = resp_bulk_M t from rfl, (bulk_both (w := t) h1).1, Option.bind_some]
      rw [if_neg (by simpa using e4), if_neg e4]
      by_cases e5 : k = 5
      · subst e5; rfl
      rw [if_neg (by simpa using e5), if_neg e5]
      by_cases e7 : k = 7
      · subst e7; rfl
      rw [if_neg (by simpa using e7), if_neg e7]
      by_cases e6 : k = 6
      · subst e6
        rw [if_pos (by decide), if_pos rfl, show verb_Text_P ((l.length : Nat) : Int) = verb_Text_M ((l.length : Nat) : Int) from rfl, verbText_is ⟨by omega, by omega⟩, Option.bind_some, room1 (by omega), Option.bind_some, room1 (by simp only [List.length_cons, List.length_append, List.length_nil]; omega), Option.bind_some]
        obtain ⟨q, hq, _⟩ := loop_count' (body := resp_Encode_L1_P (resp_Encode_F n)) (T := Unit) l.length (fun i _ => (l, ((l.length : Nat) : Int), (i : Int), bnums (42 :: (itoa (l.length : Int) ++ [13, 10]) ++ (l.take i).flatMap (encJ j)))) (fun _ _ => ())
          (fun _ => bnums (42 :: (itoa (l.length : Int) ++ [13, 10]) ++ l.flatMap (encJ j))) (fun _ _ => True)
          (fun i u hi _ => ⟨by
            show resp_Encode_L1 (resp_Encode_F n) l ((l.length : Nat) : Int) (i : Int) _ = _
            unfold resp_Encode_L1
            have hs := (hself l[i] (List.getElem_mem hi)).1
            have hp := hpre i
            have hp' := hpre (i + 1)
            rw [hstep i hi, List.length_append] at hp'
            rw [if_pos (by simpa using hi), ix_nat hi]
            show Option.bind (resp_Encode_F n (Rep.k l[i], Rep.t l[i], Rep.n l[i], Rep.l l[i])) _ = _
            rw [hs, Option.bind_some, room1 (by rw [bnums_len, bnums_len, List.length_append, List.length_cons, List.length_append, List.length_cons, List.length_cons, List.length_nil]; omega), Option.bind_some, i64_succ (by omega), hstep i hi, ← bnums_app]
            simp, trivial⟩)
          (fun u _ => by
            show resp_Encode_L1 (resp_Encode_F n) l ((l.length : Nat) : Int) (l.length : Int) _ = _
            unfold resp_Encode_L1
            rw [if_neg (by simp), List.take_length]) (i := 0) (t := ()) (Nat.zero_le _) (by omega) trivial
        have e0 : (l, ((l.length : Nat) : Int), ((0 : Nat) : Int), bnums (42 :: (itoa (l.length : Int) ++ [13, 10]) ++ (l.take 0).flatMap (encJ j))) = (l, ((l.length : Nat) : Int), (0 : Int), bnums ([(42 : UInt8)] ++ itoa (l.length : Int) ++ [13, 10])) := by
          rw [List.take_zero, List.flatMap_nil, List.append_nil]; rfl
        rw [e0] at hq
        rw [hq, Option.bind_some]
      rw [if_neg (by simpa using e6), if_neg e6]; rfl
    · show intaglioref19_Encode_S (intaglioref19_Encode_F n) k t x l = some (encJ (j + 1) (.mk k t x l))
      unfold intaglioref19_Encode_S encJ
      by_cases e1 : k = 1
      · subst e1
        rw [if_pos (by decide), if_pos rfl, show intaglioref19_flat_P t = intaglioref19_flat_M t from rfl, rflat (by omega), Option.bind_some, room1 (by omega), Option.bind_some, room1 (by simp only [List.length_cons, List.length_append, List.length_nil]; omega), Option.bind_some]
        simp
      rw [if_neg (by simpa using e1), if_neg e1]
      by_cases e2 : k = 2
      · subst e2
        rw [if_pos (by decide), if_pos rfl, show intaglioref19_flat_P t = intaglioref19_flat_M t from rfl, rflat (by omega), Option.bind_some, room1 (by omega), Option.bind_some, room1 (by simp only [List.length_cons, List.length_append, List.length_nil]; omega), Option.bind_some]
        simp
      rw [if_neg (by simpa using e2), if_neg e2]
      by_cases e3 : k = 3
      · subst e3
        rw [if_pos (by decide), if_pos rfl, show intaglioref17_Text_P x = intaglioref17_Text_M x from rfl, rText_is (v := x) o1, Option.bind_some, room1 (by omega), Option.bind_some, room1 (by simp only [List.length_cons, List.length_append, List.length_nil]; omega), Option.bind_some]
        simp
      rw [if_neg (by simpa using e3), if_neg e3]
      by_cases e4 : k = 4
      · subst e4
        rw [if_pos (by decide), if_pos rfl, show intaglioref19_bulk_P t = intaglioref19_bulk_M t from rfl, (bulk_both (w := t) h1).2, Option.bind_some]
      rw [if_neg (by simpa using e4), if_neg e4]
      by_cases e5 : k = 5
      · subst e5; rfl
      rw [if_neg (by simpa using e5), if_neg e5]
      by_cases e6 : k = 6
      · subst e6
        rw [if_pos (by decide), if_neg (by decide), if_pos rfl, show intaglioref17_Text_P ((l.length : Nat) : Int) = intaglioref17_Text_M ((l.length : Nat) : Int) from rfl, rText_is ⟨by omega, by omega⟩, Option.bind_some, room1 (by omega), Option.bind_some, room1 (by simp only [List.length_cons, List.length_append, List.length_nil]; omega), Option.bind_some]
        obtain ⟨q, hq, _⟩ := loop_count' (body := intaglioref19_Encode_L1_P (intaglioref19_Encode_F n)) (T := Unit) l.length (fun i _ => (42 :: (itoa (l.length : Int) ++ [13, 10]) ++ (l.take i).flatMap (encJ j), (i : Int), (6 : Int), t, x, l)) (fun _ _ => ())
          (fun _ => (42 :: (itoa (l.length : Int) ++ [13, 10]) ++ l.flatMap (encJ j), (6 : Int), t, x, l)) (fun _ _ => True)
          (fun i u hi _ => ⟨by
            show intaglioref19_Encode_L1 (intaglioref19_Encode_F n) _ (i : Int) 6 t x l = _
            unfold intaglioref19_Encode_L1
            have hs := (hself l[i] (List.getElem_mem hi)).2
            have hp := hpre i
            have hp' := hpre (i + 1)
            rw [hstep i hi, List.length_append] at hp'
            rw [if_pos (by simpa using hi), ix_nat hi]
            show Option.bind (intaglioref19_Encode_F n (Rep.k l[i], Rep.t l[i], Rep.n l[i], Rep.l l[i])) _ = _
            rw [hs, Option.bind_some, room1 (by rw [List.length_append, List.length_cons, List.length_append, List.length_cons, List.length_cons, List.length_nil]; omega), Option.bind_some, i64_succ (by omega), hstep i hi]
            simp, trivial⟩)
          (fun u _ => by
            show intaglioref19_Encode_L1 (intaglioref19_Encode_F n) _ (l.length : Int) 6 t x l = _
            unfold intaglioref19_Encode_L1
            rw [if_neg (by simp), List.take_length]) (i := 0) (t := ()) (Nat.zero_le _) (by omega) trivial
        have e0 : (42 :: (itoa (l.length : Int) ++ [13, 10]) ++ (l.take 0).flatMap (encJ j), ((0 : Nat) : Int), (6 : Int), t, x, l) = ([(42 : UInt8)] ++ itoa (l.length : Int) ++ [13, 10], (0 : Int), (6 : Int), t, x, l) := by
          rw [List.take_zero, List.flatMap_nil, List.append_nil]; rfl
        rw [e0] at hq
        rw [hq]; rfl
      rw [if_neg (by simpa using e6)]
      by_cases e7 : k = 7
      · subst e7; rfl
      rw [if_neg (by simpa using e7), if_neg e7, if_neg e6]

/-! ### What a tree weighs -/

theorem wt_ok : ∀ (j : Nat) (r : Rep) (d : Int), d = 13 - (j : Int) → j ≤ 13 → ∀ n, j + 1 ≤ n → ∃ w, intaglioref19_Weight_F n (r.k, r.t, r.n, r.l, d) = some w ∧ 0 ≤ w ∧ w ≤ 10000 + 10000 * (j : Int) ∧ (w < 10000 → Lgt j r ∧ w = ((wtJ j r : Nat) : Int))
  | j, r, d, hd, hj, 0, hn => by omega
  | 0, r, d, hd, hj, n + 1, hn => by
    refine ⟨10000, ?_, by omega, by omega, fun h => by omega⟩
    show intaglioref19_Weight_S _ r.k r.t r.n r.l d = _
    unfold intaglioref19_Weight_S
    rw [if_pos (by simp; omega)]
  | j + 1, .mk k t x l, d, hd, hj, n + 1, hn => by
    show ∃ w, intaglioref19_Weight_S (intaglioref19_Weight_F n) k t x l d = some w ∧ _
    unfold intaglioref19_Weight_S
    rw [if_neg (by simp; omega)]
    by_cases h1 : l.length > 60
    · rw [if_pos (by simp; omega)]; exact ⟨_, rfl, by omega, by omega, fun h => by omega⟩
    rw [if_neg (by simp; omega)]
    by_cases h2 : t.length > 3000
    · rw [if_pos (by simp; omega)]; exact ⟨_, rfl, by omega, by omega, fun h => by omega⟩
    rw [if_neg (by simp; omega), i64_id (by omega) (by omega)]
    obtain ⟨q, hq, i, a, hi, rfl, ha0, ha1, hc, hfin⟩ := loop_meas (body := intaglioref19_Weight_L1_P (intaglioref19_Weight_F n)) (s := (d, (1 : Int) + ((t.length : Nat) : Int), (0 : Int), k, t, x, l))
      (fun s => ∃ (i : Nat) (a : Int), i ≤ l.length ∧ s = (d, a, (i : Int), k, t, x, l) ∧ 0 ≤ a ∧ a ≤ 10000 + 10000 * ((j : Int) + 1) ∧ (a < 10000 → (∀ c ∈ l.take i, Lgt j c) ∧ a = 1 + (t.length : Int) + (((l.take i).map (wtJ j)).sum : Nat)))
      (fun s => l.length - s.2.2.1.toNat)
      (fun q => ∃ (i : Nat) (a : Int), i ≤ l.length ∧ q = (a, k, t, x, l) ∧ 0 ≤ a ∧ a ≤ 10000 + 10000 * ((j : Int) + 1) ∧ (a < 10000 → (∀ c ∈ l.take i, Lgt j c) ∧ a = 1 + (t.length : Int) + (((l.take i).map (wtJ j)).sum : Nat)) ∧ (a < 10000 → i = l.length))
      ⟨0, _, Nat.zero_le _, rfl, by omega, by omega, fun _ => ⟨fun c hc => by simp at hc, by simp⟩⟩ (by show l.length - 0 < _; omega) (by
        rintro s ⟨i, a, hi, rfl, ha0, ha1, hc⟩
        show (∃ s', intaglioref19_Weight_L1 (intaglioref19_Weight_F n) d a (i : Int) k t x l = _ ∧ _) ∨ ∃ r, intaglioref19_Weight_L1 (intaglioref19_Weight_F n) d a (i : Int) k t x l = _ ∧ _
        unfold intaglioref19_Weight_L1
        by_cases hlt : i < l.length
        · rw [if_pos (by simpa using hlt)]
          by_cases hsm : a < 10000
          · obtain ⟨w, hw, w0, w1, w2⟩ := wt_ok j l[i] (d + 1) (by omega) (by omega) n (by omega)
            rw [if_pos (by simpa using hsm), ix_nat hlt, i64_id (n := d + 1) (by omega) (by omega)]
            show (∃ s', Option.bind (intaglioref19_Weight_F n (Rep.k l[i], Rep.t l[i], Rep.n l[i], Rep.l l[i], d + 1)) _ = _ ∧ _) ∨ ∃ r, Option.bind (intaglioref19_Weight_F n (Rep.k l[i], Rep.t l[i], Rep.n l[i], Rep.l l[i], d + 1)) _ = _ ∧ _
            rw [hw, Option.bind_some, i64_id (by omega) (by omega), i64_succ (by omega)]
            refine .inl ⟨_, rfl, ⟨i + 1, a + w, hlt, rfl, by omega, by omega, fun hs => ?_⟩, by show l.length - ((i + 1 : Nat) : Int).toNat < l.length - (i : Int).toNat; omega⟩
            obtain ⟨c1, c2⟩ := hc hsm
            obtain ⟨g1, g2⟩ := w2 (by omega)
            rw [List.take_succ_eq_append_getElem hlt]
            refine ⟨fun c hc => ?_, ?_⟩
            · rcases List.mem_append.1 hc with hc | hc
              · exact c1 c hc
              · rw [List.mem_singleton.1 hc]; exact g1
            · rw [List.map_append, List.sum_append, List.map_singleton, List.sum_singleton, c2, g2]; omega
          · rw [if_neg (by simpa using hsm)]
            exact .inr ⟨_, rfl, i, a, hi, rfl, ha0, ha1, hc, fun h => absurd h hsm⟩
        · rw [if_neg (by simpa using hlt)]
          exact .inr ⟨_, rfl, i, a, hi, rfl, ha0, ha1, hc, fun _ => by omega⟩)
    rw [hq]
    refine ⟨a, rfl, ha0, by omega, fun h => ?_⟩
    obtain ⟨c1, c2⟩ := hc h
    obtain rfl := hfin h
    rw [List.take_length] at c1 c2
    exact ⟨⟨by show t.length ≤ 3000; omega, by show l.length ≤ 60; omega, c1⟩, by rw [c2]; show _ = ((1 + t.length + (l.map (wtJ j)).sum : Nat) : Int); omega⟩

theorem intagliolaw19_RespEncodes_pure (k : Int) (t : List UInt8) (n : Int) (l : List Rep) (o : Ty.ok .rep (Rep.mk k t n l)) : intagliolaw19_RespEncodes_M k t n l = some true := by
  have o : Rep.ok (Rep.mk k t n l) := o
  unfold intagliolaw19_RespEncodes_M
  simp only [intagliolaw19_RespEncodes_R1_P]
  unfold intagliolaw19_RespEncodes_R1
  have hfu : 14 ≤ fuel := by rw [fuel_is]; omega
  obtain ⟨w, hw, w0, w1, w2⟩ := wt_ok 13 (.mk k t n l) 0 (by omega) (by omega) fuel hfu
  have hw : intaglioref19_Weight_P (k, t, n, l, 0) = some w := hw
  rw [hw, Option.bind_some, show intagliolaw19_awake_P () = some true from awake_is]
  by_cases hs : w ≥ 10000
  · rw [if_pos (by simpa using hs)]; rfl
  · rw [if_neg (by simpa using hs)]
    obtain ⟨g1, g2⟩ := w2 (by omega)
    obtain ⟨e1, e2⟩ := enc_ok 13 (.mk k t n l) g1 o (by omega) fuel (by omega)
    rw [show resp_Encode_P (k, t, n, l) = some (bnums (encJ 13 (.mk k t n l))) from e1, Option.bind_some, show intaglioref19_Encode_P (k, t, n, l) = some (encJ 13 (.mk k t n l)) from e2, Option.bind_some, b8_bnums, if_pos (by simp)]
    rfl
end Go.Proofs.YtlkcgjablhpfcaaDoor
