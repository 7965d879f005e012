/- Entries as bytes: what the package packs, and the document. -/
import Derived.Test.YtknghpfoohchhaaL15
import Derived.Test.YtknghpfoohchhaaPk
namespace Go.Proofs.Ytknghpfoohchhaa
open Go Go.Lift
set_option maxRecDepth 100000
set_option maxHeartbeats 4000000
set_option linter.unusedVariables false

/-- A text's bytes, their length ahead. -/
def chunk (s : List UInt8) : List Int := be4 (s.length : Int) ++ bnums s
theorem bnums_len (s : List UInt8) : (bnums s).length = s.length := by simp [bnums]
theorem chunk_len (s : List UInt8) : (chunk s).length = 4 + s.length := by simp [chunk, bnums_len, be4]; omega
/-- A number of 64 bits, its sign in its first bit. -/
def u64w (n : Int) : Int := IntKind.wrap .u64 n
theorem u64w_range (n : Int) : 0 ≤ u64w n ∧ u64w n < 18446744073709551616 := by unfold u64w; rw [wrap_u64']; omega

theorem put_is {p : List Int} {s : List UInt8} (hp : p.length ≤ 500000000) (hs : s.length ≤ 100000) : pack_Put_M p (bnums s) = some (p ++ chunk s) := by
  unfold pack_Put_M chunk
  simp only [pack_Put32_P]
  rw [u32_id (by omega) (by rw [bnums_len]; omega), put32 _ (by omega), Option.bind_some, room_one (by simp [bnums_len, be4]; omega), Option.bind_some, bnums_len, List.append_assoc]
theorem rput_is {p : List Int} {s : List UInt8} (hp : p.length ≤ 500000000) (hs : s.length ≤ 100000) : intaglioref01_Put_M p (bnums s) = some (p ++ chunk s) := by
  unfold intaglioref01_Put_M chunk
  simp only [intaglioref01_Put32_P, intaglioref01_Both_P]
  rw [u32_id (by omega) (by rw [bnums_len]; omega)]
  unfold intaglioref01_Put32_M
  simp only [intaglioref01_High_P, intaglioref01_Both_P]
  rw [u64_id (by omega) (by rw [bnums_len]; omega), refhigh4 (by omega) (by rw [bnums_len]; omega), Option.bind_some, both (by rw [be4_len]; omega), Option.bind_some, Option.bind_some, both (by simp [be4, bnums_len]; omega), bnums_len, List.append_assoc]
  rfl

theorem puts_is {l : List (List UInt8)} {p : List Int} (hl : l.length ≤ 1000) (hs : ∀ s ∈ l, s.length ≤ 512) (hp : p.length ≤ 100000000) : value_put_r_M l p = some (p ++ l.flatMap chunk) := by
  unfold value_put_r_M
  have h := loop_list (body := value_put_r_L1_P) l (fun i (r : List Int) => (l, (l.length : Int), (i : Int), r)) (fun r s => r ++ chunk s) (fun r => r) (fun i r => r.length ≤ p.length + 516 * i)
    (fun i r hi hr => by
      simp only [value_put_r_L1_P, value_put_r_L1, pack_Put_P]
      have := hs l[i] (List.getElem_mem hi)
      rw [if_pos (decide_eq_true (by omega)), ix_nat hi, Option.bind_some, put_is (by omega) (by omega), Option.bind_some, i64_add1 (by omega)]
      exact ⟨rfl, by rw [List.length_append, chunk_len]; omega⟩)
    (fun r _ => by
      simp only [value_put_r_L1_P, value_put_r_L1]
      rw [if_neg (by simp)]) (t := p) (by omega) (by omega)
  rw [show loop value_put_r_L1_P (l, (l.length : Int), (0 : Int), p) = _ from h.1, Option.bind_some]
  have e : ∀ (l : List (List UInt8)) (r : List Int), l.foldl (fun r s => r ++ chunk s) r = r ++ l.flatMap chunk := by
    intro l
    induction l with
    | nil => intro r; simp
    | cons s l ih => intro r; rw [List.foldl_cons, ih, List.flatMap_cons, List.append_assoc]
  rw [e]
theorem putn_is {s : List UInt8} (hs : s.length ≤ 512) : value_put_n_M [s] = some (chunk s) := by
  unfold value_put_n_M
  have h : loop value_put_n_L1_P ([s], (([s].length : Nat) : Int), 0, []) = some (chunk s) := by
    refine loop_few 2 (by decide) ?_
    simp only [iter, value_put_n_L1_P, value_put_n_L1, pack_Put_P]
    rw [if_pos (by simp), show ix [s] (0 : Int) = some s from rfl, Option.bind_some, put_is (by simp) (by omega), Option.bind_some]
    rw [show IntKind.wrap IntKind.i64 ((0 : Int) + 1) = 1 from by decide]
    simp only [List.nil_append, List.length_cons, List.length_nil]
    rfl
  rw [h]; rfl

/-- The bytes of all elements. -/
def elB (ps : List PairT) (ls : List (List UInt8)) (ss : List ScoreT) : List Int := ps.flatMap (fun p => chunk p.1 ++ chunk p.2.1) ++ ls.flatMap chunk ++ ss.flatMap (fun s => chunk s.1 ++ be8 (u64w s.2.1))
/-- An entry's bytes. -/
def encB (key : List UInt8) (k : Int) (t : List UInt8) (ps : List PairT) (ls : List (List UInt8)) (ss : List ScoreT) (a : Int) : List Int :=
  chunk key ++ be8 a ++ [k] ++ (if k = 1 then chunk t else be8 (cnt ps ls ss : Int) ++ elB ps ls ss)

theorem entryZ_ok {key : List UInt8} {k : Int} {t : List UInt8} {ps : List PairT} {ls : List (List UInt8)} {ss : List ScoreT} {a : Int} (h : entryZ key k t ps ls ss a = 0) :
    key ≠ [] ∧ key.length ≤ 64 ∧ 0 ≤ a ∧ a ≤ 1099511627776 ∧ checkZ k t ps ls ss = 0 := by
  unfold entryZ at h
  split at h
  · cases h
  · rename_i h1
    simp only [not_or] at h1
    exact ⟨h1.1, by omega, by omega, by omega, h⟩

theorem mem_texts {t : List UInt8} {ps : List PairT} {ls : List (List UInt8)} {ss : List ScoreT} {n : Nat} (h : ∀ s ∈ texts t ps ls ss, s.length ≤ n) :
    t.length ≤ n ∧ (∀ p ∈ ps, p.1.length ≤ n ∧ p.2.1.length ≤ n) ∧ (∀ s ∈ ls, s.length ≤ n) ∧ ∀ s ∈ ss, s.1.length ≤ n := by
  unfold texts at h
  simp only [List.mem_append, List.mem_singleton, List.mem_flatMap, List.mem_map] at h
  refine ⟨h t (.inl (.inl (.inl rfl))), fun p hp => ⟨h _ (.inl (.inl (.inr ⟨p, hp, by simp⟩))), h _ (.inl (.inl (.inr ⟨p, hp, by simp⟩)))⟩, fun s hs => h s (.inl (.inr hs)), fun s hs => h _ (.inr ⟨s, hs, rfl⟩)⟩

theorem encode_is {key : List UInt8} {k : Int} {t : List UInt8} {ps : List PairT} {ls : List (List UInt8)} {ss : List ScoreT} {a : Int} (hf : Few ps ls ss) :
    value_Encode_M key k t ps ls ss a = some (if entryZ key k t ps ls ss a = 0 then (0, encB key k t ps ls ss a) else (entryZ key k t ps ls ss a, [])) := by
  unfold value_Encode_M
  simp only [value_Entry_P]
  rw [entry_is hf, Option.bind_some]
  by_cases h0 : entryZ key k t ps ls ss a = 0
  rotate_left
  · rw [if_pos (by simpa using h0), if_neg h0]
  rw [if_neg (by simpa using h0), if_pos h0]
  obtain ⟨_, hk1, ha, ha', hc⟩ := entryZ_ok h0
  obtain ⟨h1, h5, _, _, hcn, hlen, _⟩ := checkZ_ok hc
  obtain ⟨ht, hps, hls, hss⟩ := mem_texts hlen
  unfold Few at hf
  simp only [value_Encode_R1_P]
  unfold value_Encode_R1
  simp only [value_put_n_P, pack_PutNum_P]
  have e8 : ∀ x : Int, (be8 x).length = 8 := fun _ => rfl
  rw [putn_is (by omega), Option.bind_some, putNum (by rw [chunk_len]; omega) ha (by omega), Option.bind_some, room_one (by simp [chunk_len, e8]; omega), Option.bind_some, Option.bind_some]
  have hk : IntKind.wrap IntKind.u8 k = k := by rw [IntKind.wrap_u8]; omega
  simp only [hk]
  unfold encB
  by_cases hk1' : k = 1
  · subst hk1'
    rw [if_pos (by decide), if_pos rfl]
    simp only [value_put_r_P]
    rw [puts_is (by simp) (by simpa using ht) (by simp [chunk_len, e8]; omega), Option.bind_some]
    simp
  · rw [if_neg (by simpa using hk1'), if_neg hk1']
    simp only [value_count_P]
    rw [(count_is (by omega) (by omega) (by omega)).2, Option.bind_some]
    rw [putNum (by simp [chunk_len, e8]; omega) (by omega) (by omega), Option.bind_some]
    have g2 := loop_list (body := value_Encode_L2_P) ps (fun i (r : List Int) => (ps, (ps.length : Int), (i : Int), key, k, t, ps, ls, ss, a, r)) (fun r p => r ++ [p.1, p.2.1].flatMap chunk) (fun r => (key, k, t, ps, ls, ss, a, r)) (fun i r => r.length ≤ 1000 + 1032 * i)
      (fun i r hi hr => by
        simp only [value_Encode_L2_P, value_Encode_L2, value_put_r_P]
        have := hps ps[i] (List.getElem_mem hi)
        rw [if_pos (decide_eq_true (by omega)), ix_nat hi, Option.bind_some, puts_is (by simp) (by simp; omega) (by omega), Option.bind_some, i64_add1 (by omega)]
        exact ⟨rfl, by simp [chunk_len]; omega⟩)
      (fun r _ => by
        simp only [value_Encode_L2_P, value_Encode_L2]
        rw [if_neg (by simp)]) (t := chunk key ++ be8 a ++ [k] ++ be8 ((ps.length + ls.length + ss.length : Nat) : Int)) (by omega) (by simp [chunk_len, e8]; omega)
    rw [show loop value_Encode_L2_P (ps, (ps.length : Int), (0 : Int), key, k, t, ps, ls, ss, a, _) = _ from g2.1, Option.bind_some]
    simp only [value_put_r_P]
    have b2 := g2.2
    rw [puts_is (by omega) hls (by omega), Option.bind_some]
    have hll : (ls.flatMap chunk).length ≤ 516 * ls.length := by
      have : ∀ (l : List (List UInt8)), (∀ s ∈ l, s.length ≤ 512) → (l.flatMap chunk).length ≤ 516 * l.length := by
        intro l
        induction l with
        | nil => intro _; simp
        | cons s l ih =>
          intro h
          have h1 := h s (by simp)
          have h2 := ih fun x hx => h x (by simp [hx])
          simp [List.flatMap_cons, chunk_len] at h2 ⊢
          omega
      exact this ls hls
    have g3 := loop_list (body := value_Encode_L3_P) ss (fun i (r : List Int) => (ss, (ss.length : Int), (i : Int), r)) (fun r s => r ++ chunk s.1 ++ be8 (u64w s.2.1)) (fun r => r) (fun i r => r.length ≤ 1000000 + 1032 * i)
      (fun i r hi hr => by
        simp only [value_Encode_L3_P, value_Encode_L3, value_put_r_P, pack_Put64_P]
        have := hss ss[i] (List.getElem_mem hi)
        rw [if_pos (decide_eq_true (by omega)), ix_nat hi, Option.bind_some, puts_is (by simp) (by simp; omega) (by omega), Option.bind_some, put64 _ (by simp [chunk_len]; omega), Option.bind_some, i64_add1 (by omega)]
        simp only [List.flatMap_cons, List.flatMap_nil, List.append_nil]
        exact ⟨rfl, by simp [chunk_len, e8]; omega⟩)
      (fun r _ => by
        simp only [value_Encode_L3_P, value_Encode_L3]
        rw [if_neg (by simp)]) (t := ps.foldl (fun r p => r ++ [p.1, p.2.1].flatMap chunk) (chunk key ++ be8 a ++ [k] ++ be8 ((ps.length + ls.length + ss.length : Nat) : Int)) ++ ls.flatMap chunk) (by omega) (by rw [List.length_append]; omega)
    rw [show loop value_Encode_L3_P (ss, (ss.length : Int), (0 : Int), _) = _ from g3.1, Option.bind_some]
    have e1 : ∀ (l : List PairT) (r : List Int), l.foldl (fun r p => r ++ [p.1, p.2.1].flatMap chunk) r = r ++ l.flatMap (fun p => chunk p.1 ++ chunk p.2.1) := by
      intro l
      induction l with
      | nil => intro r; simp
      | cons p l ih => intro r; rw [List.foldl_cons, ih, List.flatMap_cons]; simp
    have e2 : ∀ (l : List ScoreT) (r : List Int), l.foldl (fun r s => r ++ chunk s.1 ++ be8 (u64w s.2.1)) r = r ++ l.flatMap (fun s => chunk s.1 ++ be8 (u64w s.2.1)) := by
      intro l
      induction l with
      | nil => intro r; simp
      | cons p l ih => intro r; rw [List.foldl_cons, ih, List.flatMap_cons]; simp
    rw [e1, e2]
    unfold elB cnt
    simp only [List.append_assoc]

theorem rencode_is {key : List UInt8} {k : Int} {t : List UInt8} {ps : List PairT} {ls : List (List UInt8)} {ss : List ScoreT} {a : Int} (hf : Few ps ls ss) :
    intaglioref15_Encode_M key k t ps ls ss a = some (if entryZ key k t ps ls ss a = 0 then (0, encB key k t ps ls ss a) else (entryZ key k t ps ls ss a, [])) := by
  unfold intaglioref15_Encode_M
  simp only [intaglioref15_Entry_P]
  rw [rentry_is hf, Option.bind_some]
  by_cases h0 : entryZ key k t ps ls ss a = 0
  rotate_left
  · rw [if_pos (by simpa using h0), if_neg h0]
  rw [if_neg (by simpa using h0), if_pos h0]
  obtain ⟨_, hk1, ha, ha', hc⟩ := entryZ_ok h0
  obtain ⟨h1, h5, _, _, hcn, hlen, _⟩ := checkZ_ok hc
  obtain ⟨ht, hps, hls, hss⟩ := mem_texts hlen
  unfold Few at hf
  simp only [intaglioref01_Put_P, intaglioref01_PutNum_P]
  have e8 : ∀ x : Int, (be8 x).length = 8 := fun _ => rfl
  rw [rput_is (p := []) (by simp) (by omega), Option.bind_some, List.nil_append, rputNum (by rw [chunk_len]; omega) ha (by omega), Option.bind_some, room_one (by simp [chunk_len, e8]; omega), Option.bind_some]
  have hk : IntKind.wrap IntKind.u8 k = k := by rw [IntKind.wrap_u8]; omega
  simp only [hk]
  unfold encB
  by_cases hk1' : k = 1
  · subst hk1'
    rw [if_pos (by decide), if_pos rfl]
    rw [rput_is (by simp [chunk_len, e8]; omega) (by omega), Option.bind_some]
  · rw [if_neg (by simpa using hk1'), if_neg hk1']
    simp only [intaglioref15_count_P]
    rw [(count_is (by omega) (by omega) (by omega)).1, Option.bind_some]
    rw [rputNum (by simp [chunk_len, e8]; omega) (by omega) (by omega), Option.bind_some]
    have g2 := loop_list (body := intaglioref15_Encode_L1_P) ps (fun i (r : List Int) => ((i : Int), key, k, t, ps, ls, ss, a, r)) (fun r p => r ++ (chunk p.1 ++ chunk p.2.1)) (fun r => (key, k, t, ps, ls, ss, a, r)) (fun i r => r.length ≤ 1000 + 1032 * i)
      (fun i r hi hr => by
        simp only [intaglioref15_Encode_L1_P, intaglioref15_Encode_L1, intaglioref15_Encode_R2_P, intaglioref15_Encode_R2, intaglioref01_Put_P]
        have := hps ps[i] (List.getElem_mem hi)
        rw [if_pos (decide_eq_true (by omega)), ix_nat hi, Option.bind_some, Option.bind_some, rput_is (by omega) (by omega), Option.bind_some, rput_is (by rw [List.length_append, chunk_len]; omega) (by omega), Option.bind_some, Option.bind_some, i64_add1 (by omega), List.append_assoc]
        exact ⟨rfl, by simp [chunk_len]; omega⟩)
      (fun r _ => by
        simp only [intaglioref15_Encode_L1_P, intaglioref15_Encode_L1]
        rw [if_neg (by simp)]) (t := chunk key ++ be8 a ++ [k] ++ be8 ((ps.length + ls.length + ss.length : Nat) : Int)) (by omega) (by simp [chunk_len, e8]; omega)
    rw [show loop intaglioref15_Encode_L1_P ((0 : Int), key, k, t, ps, ls, ss, a, _) = _ from g2.1, Option.bind_some]
    simp only
    have b2 := g2.2
    have g4 := loop_list (body := intaglioref15_Encode_L3_P) ls (fun i (r : List Int) => ((i : Int), key, k, t, ps, ls, ss, a, r)) (fun r s => r ++ chunk s) (fun r => (key, k, t, ps, ls, ss, a, r)) (fun i r => r.length ≤ 300000 + 1032 * i)
      (fun i r hi hr => by
        simp only [intaglioref15_Encode_L3_P, intaglioref15_Encode_L3, intaglioref01_Put_P]
        have := hls ls[i] (List.getElem_mem hi)
        rw [if_pos (decide_eq_true (by omega)), ix_nat hi, Option.bind_some, rput_is (by omega) (by omega), Option.bind_some, i64_add1 (by omega)]
        exact ⟨rfl, by rw [List.length_append, chunk_len]; omega⟩)
      (fun r _ => by
        simp only [intaglioref15_Encode_L3_P, intaglioref15_Encode_L3]
        rw [if_neg (by simp)]) (t := ps.foldl (fun r p => r ++ (chunk p.1 ++ chunk p.2.1)) (chunk key ++ be8 a ++ [k] ++ be8 ((ps.length + ls.length + ss.length : Nat) : Int))) (by omega) (by omega)
    rw [show loop intaglioref15_Encode_L3_P ((0 : Int), key, k, t, ps, ls, ss, a, _) = _ from g4.1, Option.bind_some]
    simp only
    have b4 := g4.2
    have g3 := loop_list (body := intaglioref15_Encode_L4_P) ss (fun i (r : List Int) => ((i : Int), key, k, t, ps, ls, ss, a, r)) (fun r s => r ++ (chunk s.1 ++ be8 (u64w s.2.1))) (fun r => (key, k, t, ps, ls, ss, a, r)) (fun i r => r.length ≤ 1000000 + 1032 * i)
      (fun i r hi hr => by
        simp only [intaglioref15_Encode_L4_P, intaglioref15_Encode_L4, intaglioref01_Put_P, intaglioref01_Put64_P]
        have := hss ss[i] (List.getElem_mem hi)
        have hw := u64w_range ss[i].2.1
        unfold u64w at hw
        rw [if_pos (decide_eq_true (by omega)), ix_nat hi, Option.bind_some, Option.bind_some, rput_is (by omega) (by omega), Option.bind_some, rput64 (by rw [List.length_append, chunk_len]; omega) hw.1 hw.2, Option.bind_some, i64_add1 (by omega), List.append_assoc]
        exact ⟨rfl, by simp [chunk_len, e8]; omega⟩)
      (fun r _ => by
        simp only [intaglioref15_Encode_L4_P, intaglioref15_Encode_L4]
        rw [if_neg (by simp)]) (t := ls.foldl (fun r s => r ++ chunk s) (ps.foldl (fun r p => r ++ (chunk p.1 ++ chunk p.2.1)) (chunk key ++ be8 a ++ [k] ++ be8 ((ps.length + ls.length + ss.length : Nat) : Int)))) (by omega) (by omega)
    rw [show loop intaglioref15_Encode_L4_P ((0 : Int), key, k, t, ps, ls, ss, a, _) = _ from g3.1, Option.bind_some]
    have e0 : ∀ {α : Type} (f : α → List Int) (l : List α) (r : List Int), l.foldl (fun r p => r ++ f p) r = r ++ l.flatMap f := by
      intro α f l
      induction l with
      | nil => intro r; simp
      | cons p l ih => intro r; rw [List.foldl_cons, ih, List.flatMap_cons, List.append_assoc]
    rw [e0, e0, e0]
    unfold elB cnt
    simp only [List.append_assoc]

theorem intagliolaw15_ValueEncodes_pure (key : List UInt8) (k : Int) (t : List UInt8) (ps : List PairT) (ls : List (List UInt8)) (ss : List ScoreT) (a : Int) (o : Ty.okS tyEntry (key, (k, t, ps, ls, ss, ()), a, ())) :
    intagliolaw15_ValueEncodes_M key k t ps ls ss a = some true := by
  obtain ⟨_, ⟨_, _, hp, hl, hs, _⟩, _, _⟩ := o
  unfold intagliolaw15_ValueEncodes_M
  simp only [intaglioref15_Light_P, intagliolaw15_awake_P, awake_is, Option.bind_some, value_Encode_P, intaglioref15_Encode_P, bytes_Equal_P]
  rcases light_is (k := k) (t := t) hp.1 hl.1 hs.1 with hL | ⟨hL, hf⟩
  · rw [hL, Option.bind_some, if_pos (by decide)]
  · rw [hL, Option.bind_some, if_neg (by decide)]
    split
    · rfl
    · rw [encode_is hf, rencode_is hf]
      simp only [Option.bind_some]
      rw [equal_self, Option.bind_some, if_pos rfl, if_pos (by simp)]
end Go.Proofs.Ytknghpfoohchhaa
