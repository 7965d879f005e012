/- Entries read again: what the package and the document take from bytes. -/
import Derived.Test.YtknghpfoohchhaaVe
import Derived.Test.YtknghpfoohchhaaVr
namespace Go.Proofs.Ytknghpfoohchhaa
open Go Go.Lift
set_option maxRecDepth 100000
set_option maxHeartbeats 4000000
set_option linter.unusedVariables false

theorem nums_b8 {l : List Int} (h : By l) : bnums (b8 l) = l := by
  unfold bnums b8
  rw [List.map_map]
  conv => rhs; rw [← List.map_id l]
  refine List.map_congr_left fun n hn => ?_
  have := h n hn
  simp
  omega
theorem b8_nums (s : List UInt8) : b8 (bnums s) = s := by
  unfold bnums b8
  rw [List.map_map]
  conv => rhs; rw [← List.map_id s]
  refine List.map_congr_left fun n hn => ?_
  simp
theorem nums_by (s : List UInt8) : By (bnums s) := by
  intro n hn
  unfold bnums at hn
  simp only [List.mem_map] at hn
  obtain ⟨b, _, rfl⟩ := hn
  have := b.toNat_lt
  omega
theorem b8_len (l : List Int) : (b8 l).length = l.length := by simp [b8]

theorem wrap_back {x : Int} (h0 : 0 ≤ x) (h1 : x < 18446744073709551616) : u64w (IntKind.wrap .i64 x) = x := by
  unfold u64w; rw [wrap_u64', IntKind.wrap_i64]; omega
theorem wrap_go {x : Int} (h0 : -9223372036854775808 ≤ x) (h1 : x ≤ 9223372036854775807) : IntKind.wrap .i64 (u64w x) = x := by
  unfold u64w; rw [wrap_u64', IntKind.wrap_i64]; omega

/-! ### The elements -/

abbrev VT := List Int × Int × List PairT × List (List UInt8) × List ScoreT
def stepV (k : Int) (s : VT) : VT :=
  if k = 2 then ((bytM (bytM s.1 s.2.1 512).2.1 (bytM s.1 s.2.1 512).2.2 512).2.1, (bytM (bytM s.1 s.2.1 512).2.1 (bytM s.1 s.2.1 512).2.2 512).2.2, s.2.2.1 ++ [(b8 (bytM s.1 s.2.1 512).1, b8 (bytM (bytM s.1 s.2.1 512).2.1 (bytM s.1 s.2.1 512).2.2 512).1, ())], s.2.2.2.1, s.2.2.2.2)
  else if k = 5 then ((uM (bytM s.1 s.2.1 512).2.1 (bytM s.1 s.2.1 512).2.2 8).2.1, (uM (bytM s.1 s.2.1 512).2.1 (bytM s.1 s.2.1 512).2.2 8).2.2, s.2.2.1, s.2.2.2.1, s.2.2.2.2 ++ [(b8 (bytM s.1 s.2.1 512).1, IntKind.wrap .i64 (uM (bytM s.1 s.2.1 512).2.1 (bytM s.1 s.2.1 512).2.2 8).1, ())])
  else ((bytM s.1 s.2.1 512).2.1, (bytM s.1 s.2.1 512).2.2, s.2.2.1, s.2.2.2.1 ++ [b8 (bytM s.1 s.2.1 512).1], s.2.2.2.2)

/-- As many elements as rounds, the reader in order. -/
def Good (i : Nat) (s : VT) : Prop := Fine s.1 s.2.1 ∧ s.2.2.1.length + s.2.2.2.1.length + s.2.2.2.2.length = i
theorem Good.step {k : Int} {i : Nat} {s : VT} (h : Good i s) : Good (i + 1) (stepV k s) := by
  obtain ⟨hf, hl⟩ := h
  have h1 := hf.bytM 512
  unfold stepV
  split
  · exact ⟨h1.bytM 512, by simp; omega⟩
  · split
    · exact ⟨h1.uM 8, by simp; omega⟩
    · exact ⟨h1, by simp; omega⟩

theorem dec_loop {m0 : List UInt8} {m1 : Int} {m2 : List UInt8} {m3 : Int} {key : List UInt8} {k : Int} {t : List UInt8} {a : Int} (n : Nat) (hn : n ≤ 200) {s : VT} (h : Good 0 s) :
    loop value_Decode_L2_P ((n : Int), 0, m0, m1, m2, m3, s.1, s.2.1, true, key, k, t, a, s.2.2.1, s.2.2.2.1, s.2.2.2.2)
      = some (m0, m1, m2, m3, (rounds (fun _ => stepV k) 0 n s).1, (rounds (fun _ => stepV k) 0 n s).2.1, true, key, k, t, a, (rounds (fun _ => stepV k) 0 n s).2.2.1, (rounds (fun _ => stepV k) 0 n s).2.2.2.1, (rounds (fun _ => stepV k) 0 n s).2.2.2.2) := by
  have g := loop_count (body := value_Decode_L2_P) n (fun i (s : VT) => ((n : Int), (i : Int), m0, m1, m2, m3, s.1, s.2.1, true, key, k, t, a, s.2.2.1, s.2.2.2.1, s.2.2.2.2)) (fun _ => stepV k) (fun s => (m0, m1, m2, m3, s.1, s.2.1, true, key, k, t, a, s.2.2.1, s.2.2.2.1, s.2.2.2.2)) Good
    (fun i s hi hs => by
      refine ⟨?_, hs.step⟩
      obtain ⟨hf, hl⟩ := hs
      have h1 := hf.bytM 512
      simp only [value_Decode_L2_P, value_Decode_L2, pack_Reader_Bytes_P, pack_Reader_U64_P]
      rw [if_pos (decide_eq_true (by omega)), Bytes_is hf, Option.bind_some]
      simp only
      unfold stepV
      by_cases h2 : k = 2
      · rw [if_pos (by simpa using h2), if_pos h2, Bytes_is h1, Option.bind_some, room_ok (by simp; omega) (by unfold maxLen; simp; omega), Option.bind_some, i64_add1 (by omega)]
      · rw [if_neg (by simpa using h2), if_neg h2]
        by_cases h5 : k = 5
        · rw [if_pos (by simpa using h5), if_pos h5, U64_is h1.by_, Option.bind_some, room_ok (by simp; omega) (by unfold maxLen; simp; omega), Option.bind_some, i64_add1 (by omega)]
        · rw [if_neg (by simpa using h5), if_neg h5, room_ok (by simp; omega) (by unfold maxLen; simp; omega), Option.bind_some, i64_add1 (by omega)])
    (fun s _ => by
      simp only [value_Decode_L2_P, value_Decode_L2]
      rw [if_neg (by simp)]) (i := 0) (t := s) (Nat.zero_le _) (by omega) h
  exact g.1

theorem rdec_loop {b : List Int} {m0 : List UInt8} {m1 : Int} {m2 : List UInt8} {m3 : Int} {key : List UInt8} {k : Int} {t : List UInt8} {a : Int} (n : Nat) (hn : n ≤ 200) {s : VT} (h : Good 0 s) :
    loop intaglioref15_Decode_L1_P (b, (n : Int), 0, m0, m1, m2, m3, s.1, s.2.1, key, k, t, a, s.2.2.1, s.2.2.2.1, s.2.2.2.2)
      = some (b, m0, m1, m2, m3, (rounds (fun _ => stepV k) 0 n s).1, (rounds (fun _ => stepV k) 0 n s).2.1, key, k, t, a, (rounds (fun _ => stepV k) 0 n s).2.2.1, (rounds (fun _ => stepV k) 0 n s).2.2.2.1, (rounds (fun _ => stepV k) 0 n s).2.2.2.2) := by
  have g := loop_count (body := intaglioref15_Decode_L1_P) n (fun i (s : VT) => (b, (n : Int), (i : Int), m0, m1, m2, m3, s.1, s.2.1, key, k, t, a, s.2.2.1, s.2.2.2.1, s.2.2.2.2)) (fun _ => stepV k) (fun s => (b, m0, m1, m2, m3, s.1, s.2.1, key, k, t, a, s.2.2.1, s.2.2.2.1, s.2.2.2.2)) Good
    (fun i s hi hs => by
      refine ⟨?_, hs.step⟩
      obtain ⟨hf, hl⟩ := hs
      have h1 := hf.bytM 512
      simp only [intaglioref15_Decode_L1_P, intaglioref15_Decode_L1, intaglioref01_In_Bytes_P, intaglioref01_In_U_P]
      rw [if_pos (decide_eq_true (by omega)), refBytes_is hf, Option.bind_some]
      simp only
      unfold stepV
      by_cases h2 : k = 2
      · rw [if_pos (by simpa using h2), if_pos h2, refBytes_is h1, Option.bind_some, room_ok (by simp; omega) (by unfold maxLen; simp; omega), Option.bind_some, i64_add1 (by omega)]
      · rw [if_neg (by simpa using h2), if_neg h2]
        by_cases h5 : k = 5
        · have hU := refU_is h1 8 (by decide) (by decide)
          rw [show ((8 : Nat) : Int) = 8 from rfl] at hU
          rw [if_pos (by simpa using h5), if_pos h5, hU, Option.bind_some, room_ok (by simp; omega) (by unfold maxLen; simp; omega), Option.bind_some, i64_add1 (by omega)]
        · rw [if_neg (by simpa using h5), if_neg h5, room_ok (by simp; omega) (by unfold maxLen; simp; omega), Option.bind_some, i64_add1 (by omega)])
    (fun s _ => by
      simp only [intaglioref15_Decode_L1_P, intaglioref15_Decode_L1]
      rw [if_neg (by simp)]) (i := 0) (t := s) (Nat.zero_le _) (by omega) h
  exact g.1

/-! ### All of it -/

/-- What stands first: the key, the time, the kind. -/
def keyV (l : List Int) := bytM l 0 64
def atV (l : List Int) := numM (keyV l).2.1 (keyV l).2.2 1099511627776
def kindV (l : List Int) := uM (atV l).2.1 (atV l).2.2 1
def textV (l : List Int) := bytM (kindV l).2.1 (kindV l).2.2 512
def cntV (l : List Int) := numM (kindV l).2.1 (kindV l).2.2 200
def elsV (l : List Int) : VT := rounds (fun _ => stepV (kindV l).1) 0 (cntV l).1.toNat ((cntV l).2.1, (cntV l).2.2, [], [], [])

abbrev DT := (List UInt8) × Int × (List UInt8) × (List PairT) × (List (List UInt8)) × (List ScoreT) × Int × Int
/-- An entry if all is well. -/
def okV (key : List UInt8) (k : Int) (t : List UInt8) (ps : List PairT) (ls : List (List UInt8)) (ss : List ScoreT) (a : Int) (l : List Int) (e : Int) : DT :=
  if e = 0 ∧ l = [] ∧ entryZ key k t ps ls ss a = 0 then (key, k, t, ps, ls, ss, a, 0) else ([], 0, [], [], [], [], 0, 3)
def decV (l : List Int) : DT :=
  if (kindV l).1 = 1 then okV (b8 (keyV l).1) (kindV l).1 (b8 (textV l).1) [] [] [] (atV l).1 (textV l).2.1 (textV l).2.2
  else okV (b8 (keyV l).1) (kindV l).1 [] (elsV l).2.2.1 (elsV l).2.2.2.1 (elsV l).2.2.2.2 (atV l).1 (elsV l).1 (elsV l).2.1

theorem fineK {l : List Int} (h : Fine l 0) : Fine (keyV l).2.1 (keyV l).2.2 := h.bytM 64
theorem fineA {l : List Int} (h : Fine l 0) : Fine (atV l).2.1 (atV l).2.2 := (fineK h).numM _
theorem fineU {l : List Int} (h : Fine l 0) : Fine (kindV l).2.1 (kindV l).2.2 := (fineA h).uM 1
theorem fineT {l : List Int} (h : Fine l 0) : Fine (textV l).2.1 (textV l).2.2 := (fineU h).bytM 512
theorem fineC {l : List Int} (h : Fine l 0) : Fine (cntV l).2.1 (cntV l).2.2 := (fineU h).numM 200
theorem num_le {l : List Int} {e : Int} (h : Fine l e) {mx : Int} (hm : 0 ≤ mx) : 0 ≤ (numM l e mx).1 ∧ (numM l e mx).1 ≤ mx := by
  have hr := uM_range (e := e) h.by_ 8
  unfold numM
  split
  · split
    · exact ⟨Int.le_refl 0, hm⟩
    · exact ⟨hr.1, by omega⟩
  · exact ⟨Int.le_refl 0, hm⟩
theorem cnt_le {l : List Int} (h : Fine l 0) : 0 ≤ (cntV l).1 ∧ (cntV l).1 ≤ 200 := num_le (fineU h) (by decide)
theorem goodE {l : List Int} (h : Fine l 0) : Good (cntV l).1.toNat (elsV l) := by
  have := rounds_inv (f := fun _ => stepV (kindV l).1) (fun i s => Good i s) (fun i s hs => hs.step) (cntV l).1.toNat 0 ((cntV l).2.1, (cntV l).2.2, [], [], []) ⟨fineC h, by simp⟩
  rw [Nat.zero_add] at this
  exact this

theorem end_is {l : List Int} {e : Int} (hl : l.length ≤ 1000000) : pack_Reader_End_M l e true = some (if e = 0 then (if l = [] then 0 else 3) else e, l, e, true) := by
  unfold pack_Reader_End_M
  simp only [pack_Reader_Err_P, pack_Reader_Left_P, pack_Reader_Err_M, pack_Reader_Left_M]
  by_cases he : e = 0
  · subst he
    cases l with
    | nil => rfl
    | cons x l => simp
  · rw [if_neg he]
    show (if (e == 0) = true then _ else _) = _
    rw [if_neg (by simp [he])]
    rfl

theorem dec_is {l : List Int} (h : Fine l 0) : value_Decode_M l = some (decV l) := by
  have hk := fineK h
  have ha := fineA h
  have hu := fineU h
  have ht := fineT h
  have hc := fineC h
  have hg := goodE h
  have hcl := cnt_le h
  unfold value_Decode_M
  simp only [pack_Read_P, pack_Read_M]
  have hll := h.len
  rw [room_one (by omega), Option.bind_some, Option.bind_some]
  simp only [value_Decode_R1_P]
  unfold value_Decode_R1
  simp only [pack_Reader_Bytes_P, pack_Reader_Num_P, pack_Reader_U8_P, pack_Reader_End_P, value_Entry_P]
  rw [Bytes_is h, Option.bind_some]
  change (Option.bind (Option.bind (pack_Reader_Num_M 1099511627776 (keyV l).2.1 (keyV l).2.2 true) _) _) = _
  rw [Num_is hk, Option.bind_some, Option.bind_some]
  change (Option.bind (pack_Reader_U8_M (atV l).2.1 (atV l).2.2 true) _) = _
  rw [U8_is ha.by_, Option.bind_some]
  change (if ((kindV l).1 == 1) = true then _ else _) = _
  unfold decV okV
  by_cases h1 : (kindV l).1 = 1
  · rw [if_pos (by simpa using h1), if_pos h1]
    change (Option.bind (pack_Reader_Bytes_M 512 (kindV l).2.1 (kindV l).2.2 true) _) = _
    rw [Bytes_is hu, Option.bind_some]
    change (Option.bind (pack_Reader_End_M (textV l).2.1 (textV l).2.2 true) _) = _
    rw [end_is ht.len, Option.bind_some]
    simp only
    by_cases he : (textV l).2.2 = 0
    · rw [if_pos he]
      by_cases hr : (textV l).2.1 = []
      · rw [if_pos hr, if_neg (by decide)]
        change (Option.bind (value_Entry_M (b8 (keyV l).1) (kindV l).1 (b8 (textV l).1) [] [] [] (atV l).1) _) = _
        rw [entry_is (by unfold Few; simp), Option.bind_some]
        by_cases hz : entryZ (b8 (keyV l).1) (kindV l).1 (b8 (textV l).1) [] [] [] (atV l).1 = 0
        · rw [if_neg (by simpa using hz), if_pos ⟨he, hr, hz⟩]; rfl
        · rw [if_pos (by simpa using hz), if_neg (fun x => hz x.2.2)]
      · rw [if_neg hr, if_pos (by decide), if_neg (fun x => hr x.2.1)]
    · rw [if_neg he, if_pos (by simpa using he), if_neg (fun x => he x.1)]
  · rw [if_neg (by simpa using h1), if_neg h1]
    change (Option.bind (pack_Reader_Num_M 200 (kindV l).2.1 (kindV l).2.2 true) _) = _
    rw [Num_is hu, Option.bind_some]
    have hL := dec_loop (m0 := []) (m1 := 0) (m2 := []) (m3 := 0) (key := b8 (keyV l).1) (k := (kindV l).1) (t := []) (a := (atV l).1) (cntV l).1.toNat (by omega) (s := ((cntV l).2.1, (cntV l).2.2, [], [], [])) ⟨hc, by simp⟩
    rw [Int.toNat_of_nonneg hcl.1] at hL
    change (Option.bind (loop value_Decode_L2_P ((cntV l).1, 0, [], 0, [], 0, (cntV l).2.1, (cntV l).2.2, true, b8 (keyV l).1, (kindV l).1, [], (atV l).1, [], [], [])) _) = _
    rw [show loop value_Decode_L2_P ((cntV l).1, 0, [], 0, [], 0, (cntV l).2.1, (cntV l).2.2, true, b8 (keyV l).1, (kindV l).1, [], (atV l).1, [], [], []) = some ([], 0, [], 0, (elsV l).1, (elsV l).2.1, true, b8 (keyV l).1, (kindV l).1, [], (atV l).1, (elsV l).2.2.1, (elsV l).2.2.2.1, (elsV l).2.2.2.2) from hL, Option.bind_some]
    change (Option.bind (pack_Reader_End_M (elsV l).1 (elsV l).2.1 true) _) = _
    rw [end_is hg.1.len, Option.bind_some]
    simp only
    by_cases he : (elsV l).2.1 = 0
    · rw [if_pos he]
      by_cases hr : (elsV l).1 = []
      · rw [if_pos hr, if_neg (by decide)]
        change (Option.bind (value_Entry_M (b8 (keyV l).1) (kindV l).1 [] (elsV l).2.2.1 (elsV l).2.2.2.1 (elsV l).2.2.2.2 (atV l).1) _) = _
        rw [entry_is (by unfold Few; have := hg.2; omega), Option.bind_some]
        by_cases hz : entryZ (b8 (keyV l).1) (kindV l).1 [] (elsV l).2.2.1 (elsV l).2.2.2.1 (elsV l).2.2.2.2 (atV l).1 = 0
        · rw [if_neg (by simpa using hz), if_pos ⟨he, hr, hz⟩]
        · rw [if_pos (by simpa using hz), if_neg (fun x => hz x.2.2)]
      · rw [if_neg hr, if_pos (by decide), if_neg (fun x => hr x.2.1)]
    · rw [if_neg he, if_pos (by simpa using he), if_neg (fun x => he x.1)]

/-! ### What was read stands there -/

theorem chunk_b8 {x : List Int} (h : By x) : chunk (b8 x) = be4 (x.length : Int) ++ x := by unfold chunk; rw [b8_len, nums_b8 h]

/-- Only what its kind has. -/
def Shape (k : Int) (ps : List PairT) (ls : List (List UInt8)) (ss : List ScoreT) : Prop :=
  if k = 2 then ls = [] ∧ ss = [] else if k = 5 then ps = [] ∧ ls = [] else ps = [] ∧ ss = []
theorem elB_2 (ps : List PairT) : elB ps [] [] = ps.flatMap (fun p => chunk p.1 ++ chunk p.2.1) := by simp [elB]
theorem elB_5 (ss : List ScoreT) : elB [] [] ss = ss.flatMap (fun s => chunk s.1 ++ be8 (u64w s.2.1)) := by simp [elB]
theorem elB_3 (ls : List (List UInt8)) : elB [] ls [] = ls.flatMap chunk := by simp [elB]

theorem els_step {k : Int} {i : Nat} {s : VT} {l0 : List Int} {e0 : Int} (hg : Good i s) (hs : Shape k s.2.2.1 s.2.2.2.1 s.2.2.2.2) (hb : s.2.1 = 0 → e0 = 0 ∧ l0 = elB s.2.2.1 s.2.2.2.1 s.2.2.2.2 ++ s.1) :
    Shape k (stepV k s).2.2.1 (stepV k s).2.2.2.1 (stepV k s).2.2.2.2 ∧ ((stepV k s).2.1 = 0 → e0 = 0 ∧ l0 = elB (stepV k s).2.2.1 (stepV k s).2.2.2.1 (stepV k s).2.2.2.2 ++ (stepV k s).1) := by
  obtain ⟨l, e, ps, ls, ss⟩ := s
  obtain ⟨hf, _⟩ := hg
  have h1 := hf.bytM 512
  have hy := bytM_by hf (mx := 512)
  unfold stepV Shape at *
  simp only at hf h1 hy hs hb ⊢
  by_cases h2 : k = 2
  · simp only [if_pos h2] at hs ⊢
    obtain ⟨rfl, rfl⟩ := hs
    refine ⟨⟨rfl, rfl⟩, fun h => ?_⟩
    obtain ⟨c0, c1, _⟩ := bytM_back h1.by_ h
    obtain ⟨d0, d1, _⟩ := bytM_back hf.by_ c0
    obtain ⟨g0, g1⟩ := hb d0
    refine ⟨g0, ?_⟩
    rw [elB_2] at g1 ⊢
    rw [g1, List.flatMap_append, List.flatMap_cons, List.flatMap_nil, List.append_nil, chunk_b8 hy, chunk_b8 (bytM_by h1)]
    simp only [List.append_assoc]
    congr 1
    conv => lhs; rw [d1, c1]
    simp only [List.append_assoc]
  · simp only [if_neg h2] at hs ⊢
    by_cases h5 : k = 5
    · simp only [if_pos h5] at hs ⊢
      obtain ⟨rfl, rfl⟩ := hs
      refine ⟨⟨rfl, rfl⟩, fun h => ?_⟩
      have hr := uM_range (e := (bytM l e 512).2.2) h1.by_ 8
      obtain ⟨c0, c1⟩ := uM8_back h1.by_ h
      obtain ⟨d0, d1, _⟩ := bytM_back hf.by_ c0
      obtain ⟨g0, g1⟩ := hb d0
      refine ⟨g0, ?_⟩
      rw [elB_5] at g1 ⊢
      rw [g1, List.flatMap_append, List.flatMap_cons, List.flatMap_nil, List.append_nil, chunk_b8 hy, wrap_back hr.1 (by simpa using hr.2)]
      simp only [List.append_assoc]
      congr 1
      conv => lhs; rw [d1, c1]
      simp only [List.append_assoc]
    · simp only [if_neg h5] at hs ⊢
      obtain ⟨rfl, rfl⟩ := hs
      refine ⟨⟨rfl, rfl⟩, fun h => ?_⟩
      obtain ⟨d0, d1, _⟩ := bytM_back hf.by_ h
      obtain ⟨g0, g1⟩ := hb d0
      refine ⟨g0, ?_⟩
      rw [elB_3] at g1 ⊢
      rw [g1, List.flatMap_append, List.flatMap_cons, List.flatMap_nil, List.append_nil, chunk_b8 hy]
      simp only [List.append_assoc]
      congr 1
      all_goals (conv => lhs; rw [d1])
      all_goals simp only [List.append_assoc]

theorem shape_nil (k : Int) : Shape k [] [] [] := by
  unfold Shape
  by_cases h2 : k = 2
  · rw [if_pos h2]; exact ⟨rfl, rfl⟩
  · rw [if_neg h2]
    by_cases h5 : k = 5
    · rw [if_pos h5]; exact ⟨rfl, rfl⟩
    · rw [if_neg h5]; exact ⟨rfl, rfl⟩
theorem els_back {l : List Int} (h : Fine l 0) (he : (elsV l).2.1 = 0) : (cntV l).2.2 = 0 ∧ (cntV l).2.1 = elB (elsV l).2.2.1 (elsV l).2.2.2.1 (elsV l).2.2.2.2 ++ (elsV l).1 := by
  have := rounds_inv (f := fun _ => stepV (kindV l).1) (fun i s => Good i s ∧ Shape (kindV l).1 s.2.2.1 s.2.2.2.1 s.2.2.2.2 ∧ (s.2.1 = 0 → (cntV l).2.2 = 0 ∧ (cntV l).2.1 = elB s.2.2.1 s.2.2.2.1 s.2.2.2.2 ++ s.1))
    (fun i s hs => ⟨hs.1.step, els_step hs.1 hs.2.1 hs.2.2⟩) (cntV l).1.toNat 0 ((cntV l).2.1, (cntV l).2.2, [], [], []) ⟨⟨fineC h, by simp⟩, shape_nil _, fun h0 => ⟨h0, by simp [elB]⟩⟩
  exact this.2.2 he

theorem head_back {l : List Int} (h : Fine l 0) (he : (kindV l).2.2 = 0) : l = chunk (b8 (keyV l).1) ++ be8 (atV l).1 ++ [(kindV l).1] ++ (kindV l).2.1 := by
  obtain ⟨a0, a1⟩ := uM1_back (fineA h).by_ he
  obtain ⟨b0, b1, _⟩ := numM_back (fineK h).by_ a0
  obtain ⟨_, c1, _⟩ := bytM_back h.by_ b0
  rw [show chunk (b8 (keyV l).1) = _ from chunk_b8 (bytM_by h)]
  conv => lhs; rw [c1]
  change be4 ((keyV l).1.length : Int) ++ (keyV l).1 ++ (keyV l).2.1 = _
  conv => lhs; rw [b1]
  change be4 ((keyV l).1.length : Int) ++ (keyV l).1 ++ (be8 (atV l).1 ++ (atV l).2.1) = _
  conv => lhs; rw [a1]
  change be4 ((keyV l).1.length : Int) ++ (keyV l).1 ++ (be8 (atV l).1 ++ ([(kindV l).1] ++ (kindV l).2.1)) = _
  simp only [List.append_assoc]

theorem text_back {l : List Int} (h : Fine l 0) (h1 : (kindV l).1 = 1) (he : (textV l).2.2 = 0) : l = encB (b8 (keyV l).1) (kindV l).1 (b8 (textV l).1) [] [] [] (atV l).1 ++ (textV l).2.1 := by
  obtain ⟨a0, a1, _⟩ := bytM_back (fineU h).by_ he
  unfold encB
  rw [if_pos h1, show chunk (b8 (textV l).1) = _ from chunk_b8 (bytM_by (fineU h))]
  conv => lhs; rw [head_back h a0, a1]
  simp only [List.append_assoc]
  rfl
theorem list_back {l : List Int} (h : Fine l 0) (h1 : (kindV l).1 ≠ 1) (he : (elsV l).2.1 = 0) : l = encB (b8 (keyV l).1) (kindV l).1 [] (elsV l).2.2.1 (elsV l).2.2.2.1 (elsV l).2.2.2.2 (atV l).1 ++ (elsV l).1 := by
  obtain ⟨a0, a1⟩ := els_back h he
  obtain ⟨b0, b1, _⟩ := numM_back (fineU h).by_ a0
  have hg := (goodE h).2
  have hc := cnt_le h
  unfold encB
  rw [if_neg h1]
  have hn : ((cnt (elsV l).2.2.1 (elsV l).2.2.2.1 (elsV l).2.2.2.2 : Nat) : Int) = (cntV l).1 := by unfold cnt; omega
  rw [hn]
  conv => lhs; rw [head_back h b0, b1]
  change _ ++ (be8 (cntV l).1 ++ (cntV l).2.1) = _
  conv => lhs; rw [a1]
  simp only [List.append_assoc]

theorem rsame_bytes {a b : List Int} (ha : a.length ≤ 1000000) : intaglioref07_Same_M a b = some (decide (a = b)) := by
  unfold intaglioref07_Same_M
  by_cases hl : a.length = b.length
  · rw [if_neg (by simp [hl])]
    have h := eq_loop (body := intaglioref07_Same_L1_P) a b hl (fun x y => x == y) (fun x y => beq_iff_eq) (fun i => (a, b, (i : Int))) (.inr false) (.inl ())
      (fun i h h' => by
        simp only [intaglioref07_Same_L1_P, intaglioref07_Same_L1]
        rw [if_pos (decide_eq_true (by omega)), ix_nat h, ix_nat h', Option.bind_some, Option.bind_some, i64_add1 (by omega)]
        by_cases e : a[i] = b[i]
        · simp [e]
        · simp [e])
      (by
        simp only [intaglioref07_Same_L1_P, intaglioref07_Same_L1]
        rw [if_neg (by simp)]) (by omega)
    by_cases e : a = b
    · rw [show loop intaglioref07_Same_L1_P (a, b, (0 : Int)) = _ from h.1 e, decide_eq_true e]; rfl
    · rw [show loop intaglioref07_Same_L1_P (a, b, (0 : Int)) = _ from h.2 e, decide_eq_false e]; rfl
  · rw [if_pos (by simp; omega), decide_eq_false (fun e => hl (by rw [e]))]

/-- The document's last step: is it this, byte by byte? -/
theorem rlast {key : List UInt8} {k : Int} {t : List UInt8} {ps : List PairT} {ls : List (List UInt8)} {ss : List ScoreT} {a : Int} {l r : List Int} {e : Int} (hf : Few ps ls ss) (hl : l.length ≤ 1000000)
    (hb : e = 0 → l = encB key k t ps ls ss a ++ r) :
    (Option.bind (intaglioref15_Encode_M key k t ps ls ss a) fun v : Int × List Int => if (e != (0 : Int)) = true then some (([], 0, [], [], [], [], 0, 3) : DT) else if (v.1 != (0 : Int)) = true then some ([], 0, [], [], [], [], 0, 3) else
      Option.bind (intaglioref07_Same_M v.2 l) fun b : Bool => if (!b) = true then some ([], 0, [], [], [], [], 0, 3) else some (key, k, t, ps, ls, ss, a, 0)) = some (okV key k t ps ls ss a r e) := by
  rw [rencode_is hf, Option.bind_some]
  unfold okV
  by_cases he : e = 0
  rotate_left
  · rw [if_pos (by simpa using he), if_neg (fun x => he x.1)]
  rw [if_neg (by simpa using he)]
  by_cases hz : entryZ key k t ps ls ss a = 0
  rotate_left
  · rw [if_neg hz, if_pos (by simpa using hz), if_neg (fun x => hz x.2.2)]
  have hb := hb he
  have hlen : (encB key k t ps ls ss a).length ≤ 1000000 := by rw [hb, List.length_append] at hl; omega
  rw [if_pos hz]
  simp only
  rw [if_neg (by decide), rsame_bytes hlen, Option.bind_some]
  by_cases hr : r = []
  · rw [decide_eq_true (by rw [hb, hr, List.append_nil]), if_neg (by decide), if_pos ⟨he, hr, hz⟩]
  · have hne : ¬ encB key k t ps ls ss a = l := by
      intro h
      have := congrArg List.length (h.trans hb)
      simp only [List.length_append] at this
      exact hr (List.length_eq_zero_iff.1 (by omega))
    rw [decide_eq_false hne, if_pos (by decide), if_neg (fun x => hr x.2.1)]

theorem rdec_is {l : List Int} (h : Fine l 0) : intaglioref15_Decode_M l = some (decV l) := by
  have hk := fineK h
  have ha := fineA h
  have hu := fineU h
  have ht := fineT h
  have hc := fineC h
  have hg := goodE h
  have hcl := cnt_le h
  have hll := h.len
  have hkr := uM_range (e := (atV l).2.2) ha.by_ 1
  have hkw : IntKind.wrap IntKind.i64 (kindV l).1 = (kindV l).1 := i64_id (by have := hkr.1; unfold kindV; omega) (by have := hkr.2; unfold kindV; simp at this; omega)
  unfold intaglioref15_Decode_M
  simp only [intaglioref01_Both_P, intaglioref01_In_Bytes_P, intaglioref01_In_Num_P, intaglioref01_In_U_P, intaglioref15_Encode_P, intaglioref07_Same_P]
  rw [both (by simp; omega), Option.bind_some, List.nil_append, refBytes_is h, Option.bind_some]
  change (Option.bind (intaglioref01_In_Num_M 1099511627776 (keyV l).2.1 (keyV l).2.2) _) = _
  rw [refNum_is hk, Option.bind_some]
  have hU := refU_is ha 1 (by decide) (by decide)
  rw [show ((1 : Nat) : Int) = 1 from rfl] at hU
  change (Option.bind (intaglioref01_In_U_M 1 (atV l).2.1 (atV l).2.2) _) = _
  rw [hU, Option.bind_some]
  change (if (IntKind.wrap IntKind.i64 (kindV l).1 == 1) = true then _ else _) = _
  unfold decV
  by_cases h1 : (kindV l).1 = 1
  · rw [hkw, if_pos (by simpa using h1), if_pos h1]
    change (Option.bind (intaglioref01_In_Bytes_M 512 (kindV l).2.1 (kindV l).2.2) _) = _
    rw [refBytes_is hu, Option.bind_some]
    have hL := rdec_loop (b := l) (m0 := []) (m1 := 0) (m2 := []) (m3 := 0) (key := b8 (keyV l).1) (k := (kindV l).1) (t := b8 (textV l).1) (a := (atV l).1) 0 (by omega) (s := ((textV l).2.1, (textV l).2.2, [], [], [])) ⟨ht, by simp⟩
    change (Option.bind (loop intaglioref15_Decode_L1_P (l, 0, 0, [], 0, [], 0, (textV l).2.1, (textV l).2.2, b8 (keyV l).1, IntKind.wrap IntKind.i64 (kindV l).1, b8 (textV l).1, (atV l).1, [], [], [])) _) = _
    rw [hkw, show loop intaglioref15_Decode_L1_P (l, 0, 0, [], 0, [], 0, (textV l).2.1, (textV l).2.2, b8 (keyV l).1, (kindV l).1, b8 (textV l).1, (atV l).1, [], [], []) = some (l, [], 0, [], 0, (textV l).2.1, (textV l).2.2, b8 (keyV l).1, (kindV l).1, b8 (textV l).1, (atV l).1, [], [], []) from hL, Option.bind_some]
    exact rlast (by unfold Few; simp) hll (text_back h h1)
  · rw [hkw, if_neg (by simpa using h1), if_neg h1]
    change (Option.bind (intaglioref01_In_Num_M 200 (kindV l).2.1 (kindV l).2.2) _) = _
    rw [refNum_is hu, Option.bind_some]
    have hL := rdec_loop (b := l) (m0 := []) (m1 := 0) (m2 := []) (m3 := 0) (key := b8 (keyV l).1) (k := (kindV l).1) (t := []) (a := (atV l).1) (cntV l).1.toNat (by omega) (s := ((cntV l).2.1, (cntV l).2.2, [], [], [])) ⟨hc, by simp⟩
    rw [Int.toNat_of_nonneg hcl.1] at hL
    change (Option.bind (loop intaglioref15_Decode_L1_P (l, (cntV l).1, 0, [], 0, [], 0, (cntV l).2.1, (cntV l).2.2, b8 (keyV l).1, IntKind.wrap IntKind.i64 (kindV l).1, [], (atV l).1, [], [], [])) _) = _
    rw [hkw, show loop intaglioref15_Decode_L1_P (l, (cntV l).1, 0, [], 0, [], 0, (cntV l).2.1, (cntV l).2.2, b8 (keyV l).1, (kindV l).1, [], (atV l).1, [], [], []) = some (l, [], 0, [], 0, (elsV l).1, (elsV l).2.1, b8 (keyV l).1, (kindV l).1, [], (atV l).1, (elsV l).2.2.1, (elsV l).2.2.2.1, (elsV l).2.2.2.2) from hL, Option.bind_some]
    have hfe : Few (elsV l).2.2.1 (elsV l).2.2.2.1 (elsV l).2.2.2.2 := by unfold Few; have := hg.2; omega
    exact rlast hfe hll (list_back h h1)

/-! ### Law ValueDecodes -/

abbrev EntryT := List UInt8 × (Int × List UInt8 × List PairT × List (List UInt8) × List ScoreT × Unit) × Int × Unit
/-- The same entry is the same. -/
theorem sameE {key : List UInt8} {k : Int} {t : List UInt8} {ps : List PairT} {ls : List (List UInt8)} {ss : List ScoreT} {a : Int} (hf : Few ps ls ss) :
    intaglioref15_SameEntries_M [(key, (k, t, ps, ls, ss, ()), a, ())] [(key, (k, t, ps, ls, ss, ()), a, ())] = some true := by
  unfold Few at hf
  unfold intaglioref15_SameEntries_M
  have h : loop intaglioref15_SameEntries_L1_P ([(key, (k, t, ps, ls, ss, ()), a, ())], [(key, (k, t, ps, ls, ss, ()), a, ())], 0) = some (.inl ()) := by
    refine loop_few 2 (by decide) ?_
    simp only [iter, intaglioref15_SameEntries_L1_P, intaglioref15_SameEntries_L1, intaglioref15_Same_P]
    rw [if_pos (by simp), show ix [(key, (k, t, ps, ls, ss, ()), a, ())] (0 : Int) = some (key, (k, t, ps, ls, ss, ()), a, ()) from rfl]
    simp only [Option.bind_some]
    rw [if_neg (by simp), if_neg (by simp), rsame_is (by omega) (by omega) (by omega), Option.bind_some, if_neg (by simp [sameB])]
    rw [show IntKind.wrap IntKind.i64 ((0 : Int) + 1) = 1 from by decide]
    simp only [List.length_cons, List.length_nil]
    rfl
  rw [if_neg (by simp), h]
  rfl

theorem okV_few {key : List UInt8} {k : Int} {t : List UInt8} {ps : List PairT} {ls : List (List UInt8)} {ss : List ScoreT} {a : Int} {l : List Int} {e : Int} (hf : Few ps ls ss) :
    Few (okV key k t ps ls ss a l e).2.2.2.1 (okV key k t ps ls ss a l e).2.2.2.2.1 (okV key k t ps ls ss a l e).2.2.2.2.2.1 := by
  unfold okV
  split
  · exact hf
  · unfold Few; simp
theorem decV_few {l : List Int} (h : Fine l 0) : Few (decV l).2.2.2.1 (decV l).2.2.2.2.1 (decV l).2.2.2.2.2.1 := by
  have hg := (goodE h).2
  have hc := cnt_le h
  unfold decV
  split
  · exact okV_few (by unfold Few; simp)
  · exact okV_few (by unfold Few; omega)

theorem by_of {l : List Int} (h : ∀ y, List.Mem y l → (Lit.int .u8 y).wf = true) : By l := by
  intro y hy
  have := h y hy
  simp [Lit.wf, IntKind.min, IntKind.max, IntKind.signed, IntKind.bits] at this
  omega

theorem intagliolaw15_ValueDecodes_pure (l : List Int) (o : Ty.okS (.slc (.int .u8)) l) : intagliolaw15_ValueDecodes_M l = some true := by
  unfold intagliolaw15_ValueDecodes_M
  simp only [intagliolaw15_awake_P, awake_is, Option.bind_some, value_Decode_P, intaglioref15_Decode_P, intaglioref15_SameEntries_P]
  by_cases hl : (l.length : Int) > 5000
  · rw [if_pos (decide_eq_true hl)]
  · rw [if_neg (by simpa using hl)]
    have h : Fine l 0 := ⟨by_of o.2, by omega, fun h => absurd rfl h⟩
    rw [dec_is h, rdec_is h, Option.bind_some, Option.bind_some, sameE (decV_few h), Option.bind_some, if_pos rfl, if_pos (by simp)]

/-! ### What was packed is read -/

theorem go_pairs : ∀ (ps : List PairT) (i : Nat) (ps0 : List PairT) (r : List Int), (∀ p ∈ ps, p.1.length ≤ 512 ∧ p.2.1.length ≤ 512) →
    rounds (fun _ => stepV 2) i ps.length (ps.flatMap (fun p => chunk p.1 ++ chunk p.2.1) ++ r, 0, ps0, [], []) = (r, 0, ps0 ++ ps, [], [])
  | [], i, ps0, r, _ => by simp [rounds]
  | p :: ps, i, ps0, r, h => by
    have hp := h p (by simp)
    rw [List.length_cons, Go.Lift.rounds_succ]
    have e : stepV 2 ((p :: ps).flatMap (fun p => chunk p.1 ++ chunk p.2.1) ++ r, 0, ps0, [], []) = (ps.flatMap (fun p => chunk p.1 ++ chunk p.2.1) ++ r, 0, ps0 ++ [p], [], []) := by
      unfold stepV
      simp only [if_true]
      rw [List.flatMap_cons]
      rw [show chunk p.1 ++ chunk p.2.1 ++ ps.flatMap (fun p => chunk p.1 ++ chunk p.2.1) ++ r = be4 ((bnums p.1).length : Int) ++ bnums p.1 ++ (chunk p.2.1 ++ (ps.flatMap (fun p => chunk p.1 ++ chunk p.2.1) ++ r)) from by rw [bnums_len]; simp only [chunk, List.append_assoc]]
      rw [bytM_go (by rw [bnums_len]; omega) (by rw [bnums_len]; omega)]
      simp only
      rw [show chunk p.2.1 ++ (ps.flatMap (fun p => chunk p.1 ++ chunk p.2.1) ++ r) = be4 ((bnums p.2.1).length : Int) ++ bnums p.2.1 ++ (ps.flatMap (fun p => chunk p.1 ++ chunk p.2.1) ++ r) from by rw [bnums_len]; simp only [chunk, List.append_assoc]]
      rw [bytM_go (by rw [bnums_len]; omega) (by rw [bnums_len]; omega)]
      simp only [b8_nums]
    rw [e, go_pairs ps (i + 1) (ps0 ++ [p]) r (fun q hq => h q (by simp [hq])), List.append_assoc]
    rfl
theorem go_list {k : Int} (h2 : k ≠ 2) (h5 : k ≠ 5) : ∀ (ls : List (List UInt8)) (i : Nat) (l0 : List (List UInt8)) (r : List Int), (∀ s ∈ ls, s.length ≤ 512) →
    rounds (fun _ => stepV k) i ls.length (ls.flatMap chunk ++ r, 0, [], l0, []) = (r, 0, [], l0 ++ ls, [])
  | [], i, l0, r, _ => by simp [rounds]
  | s :: ls, i, l0, r, h => by
    have hp := h s (by simp)
    rw [List.length_cons, Go.Lift.rounds_succ]
    have e : stepV k ((s :: ls).flatMap chunk ++ r, 0, [], l0, []) = (ls.flatMap chunk ++ r, 0, [], l0 ++ [s], []) := by
      unfold stepV
      simp only [if_neg h2, if_neg h5]
      rw [List.flatMap_cons]
      rw [show chunk s ++ ls.flatMap chunk ++ r = be4 ((bnums s).length : Int) ++ bnums s ++ (ls.flatMap chunk ++ r) from by rw [bnums_len]; simp only [chunk, List.append_assoc]]
      rw [bytM_go (by rw [bnums_len]; omega) (by rw [bnums_len]; omega)]
      simp only [b8_nums]
    rw [e, go_list h2 h5 ls (i + 1) (l0 ++ [s]) r (fun q hq => h q (by simp [hq])), List.append_assoc]
    rfl
theorem go_scores : ∀ (ss : List ScoreT) (i : Nat) (s0 : List ScoreT) (r : List Int), (∀ s ∈ ss, s.1.length ≤ 512) → (∀ s ∈ ss, -9223372036854775808 ≤ s.2.1 ∧ s.2.1 ≤ 9223372036854775807) →
    rounds (fun _ => stepV 5) i ss.length (ss.flatMap (fun s => chunk s.1 ++ be8 (u64w s.2.1)) ++ r, 0, [], [], s0) = (r, 0, [], [], s0 ++ ss)
  | [], i, s0, r, _, _ => by simp [rounds]
  | s :: ss, i, s0, r, h, hw => by
    have hp := h s (by simp)
    have hq := hw s (by simp)
    have hu := u64w_range s.2.1
    rw [List.length_cons, Go.Lift.rounds_succ]
    have e : stepV 5 ((s :: ss).flatMap (fun s => chunk s.1 ++ be8 (u64w s.2.1)) ++ r, 0, [], [], s0) = (ss.flatMap (fun s => chunk s.1 ++ be8 (u64w s.2.1)) ++ r, 0, [], [], s0 ++ [s]) := by
      unfold stepV
      simp only [if_true, if_neg (show ¬ (5 : Int) = 2 from by decide)]
      rw [List.flatMap_cons]
      rw [show chunk s.1 ++ be8 (u64w s.2.1) ++ ss.flatMap (fun s => chunk s.1 ++ be8 (u64w s.2.1)) ++ r = be4 ((bnums s.1).length : Int) ++ bnums s.1 ++ (be8 (u64w s.2.1) ++ (ss.flatMap (fun s => chunk s.1 ++ be8 (u64w s.2.1)) ++ r)) from by rw [bnums_len]; simp only [chunk, List.append_assoc]]
      rw [bytM_go (by rw [bnums_len]; omega) (by rw [bnums_len]; omega)]
      simp only
      rw [uM8_go hu.1 hu.2]
      simp only [b8_nums]
      rw [wrap_go hq.1 hq.2]
    rw [e, go_scores ss (i + 1) (s0 ++ [s]) r (fun q hq => h q (by simp [hq])) (fun q hq => hw q (by simp [hq])), List.append_assoc]
    rfl

theorem By.one {k : Int} (h0 : 0 ≤ k) (h1 : k ≤ 255) : By [k] := by
  intro n hn
  rw [List.mem_singleton] at hn
  subst hn
  exact ⟨h0, h1⟩
theorem chunk_by (s : List UInt8) : By (chunk s) := (By.be4 _).app (nums_by s)
theorem flat_by {α : Type} {f : α → List Int} (hf : ∀ x, By (f x)) (l : List α) : By (l.flatMap f) := by
  intro n hn
  rw [List.mem_flatMap] at hn
  obtain ⟨x, _, hx⟩ := hn
  exact hf x n hx
theorem flat_len {α : Type} {f : α → List Int} {m : Nat} : ∀ (l : List α), (∀ x ∈ l, (f x).length ≤ m) → (l.flatMap f).length ≤ m * l.length
  | [], _ => by simp
  | x :: l, h => by
    have h1 := h x (by simp)
    have h2 := flat_len l fun y hy => h y (by simp [hy])
    rw [List.flatMap_cons, List.length_append, List.length_cons, Nat.mul_succ]
    omega
theorem enc_fine {key : List UInt8} {k : Int} {t : List UInt8} {ps : List PairT} {ls : List (List UInt8)} {ss : List ScoreT} {a : Int} (hz : entryZ key k t ps ls ss a = 0) : Fine (encB key k t ps ls ss a) 0 := by
  obtain ⟨_, hk1, ha, ha', hc⟩ := entryZ_ok hz
  obtain ⟨h1, h5, _, _, hcn, hlen, _⟩ := checkZ_ok hc
  obtain ⟨ht, hps, hls, hss⟩ := mem_texts hlen
  unfold cnt at hcn
  have e8 : ∀ x : Int, (be8 x).length = 8 := fun _ => rfl
  unfold encB
  refine ⟨?_, ?_, fun h => absurd rfl h⟩
  · refine (((chunk_by key).app (By.be8 a)).app (By.one (by omega) (by omega))).app ?_
    split
    · exact chunk_by t
    · refine (By.be8 _).app ?_
      unfold elB
      exact (((flat_by (f := fun p : PairT => chunk p.1 ++ chunk p.2.1) (fun p => (chunk_by p.1).app (chunk_by p.2.1)) ps).app (flat_by (f := chunk) chunk_by ls)).app (flat_by (f := fun s : ScoreT => chunk s.1 ++ be8 (u64w s.2.1)) (fun s => (chunk_by s.1).app (By.be8 _)) ss))
  · have g1 := flat_len (m := 1032) (f := fun p : PairT => chunk p.1 ++ chunk p.2.1) ps (fun p hp => by have := hps p hp; simp [chunk_len]; omega)
    have g2 := flat_len (m := 1032) (f := chunk) ls (fun p hp => by have := hls p hp; simp [chunk_len]; omega)
    have g3 := flat_len (m := 1032) (f := fun s : ScoreT => chunk s.1 ++ be8 (u64w s.2.1)) ss (fun p hp => by have := hss p hp; simp [chunk_len, e8]; omega)
    split
    · simp only [List.length_append, chunk_len, e8, List.length_cons, List.length_nil]; omega
    · unfold elB
      simp only [List.length_append, e8, List.length_cons, List.length_nil] at g1 g2 g3 ⊢
      rw [chunk_len]
      omega

theorem len0 {α : Type} {l : List α} (h : l.length = 0) : l = [] := List.length_eq_zero_iff.1 h
theorem dec_enc {key : List UInt8} {k : Int} {t : List UInt8} {ps : List PairT} {ls : List (List UInt8)} {ss : List ScoreT} {a : Int} (hz : entryZ key k t ps ls ss a = 0)
    (hw : ∀ s ∈ ss, -9223372036854775808 ≤ s.2.1 ∧ s.2.1 ≤ 9223372036854775807) : decV (encB key k t ps ls ss a) = (key, k, t, ps, ls, ss, a, 0) := by
  obtain ⟨_, hk1, ha, ha', hc⟩ := entryZ_ok hz
  obtain ⟨h1, h5, ho, _, hcn, hlen, _⟩ := checkZ_ok hc
  obtain ⟨ht, hps, hls, hss⟩ := mem_texts hlen
  have hK : keyV (encB key k t ps ls ss a) = (bnums key, be8 a ++ ([k] ++ (if k = 1 then chunk t else be8 (cnt ps ls ss : Int) ++ elB ps ls ss)), 0) := by
    unfold keyV encB
    rw [show chunk key ++ be8 a ++ [k] ++ (if k = 1 then chunk t else be8 (cnt ps ls ss : Int) ++ elB ps ls ss) = be4 ((bnums key).length : Int) ++ bnums key ++ (be8 a ++ ([k] ++ (if k = 1 then chunk t else be8 (cnt ps ls ss : Int) ++ elB ps ls ss))) from by rw [bnums_len]; simp only [chunk, List.append_assoc]]
    exact bytM_go (by rw [bnums_len]; omega) (by rw [bnums_len]; omega)
  have hA : atV (encB key k t ps ls ss a) = (a, [k] ++ (if k = 1 then chunk t else be8 (cnt ps ls ss : Int) ++ elB ps ls ss), 0) := by
    unfold atV
    rw [hK]
    exact numM_go ha (by omega) ha'
  have hU : kindV (encB key k t ps ls ss a) = (k, (if k = 1 then chunk t else be8 (cnt ps ls ss : Int) ++ elB ps ls ss), 0) := by
    unfold kindV
    rw [hA]
    exact uM1_go
  have ho' := ho
  unfold oddB at ho'
  rw [Bool.not_eq_false'] at ho'
  unfold decV
  rw [hK, hA, hU]
  simp only
  by_cases hk : k = 1
  · rw [if_pos hk] at ho' ⊢
    have hn := of_decide_eq_true ho'
    unfold cnt at hn
    obtain rfl : ps = [] := len0 (by omega)
    obtain rfl : ls = [] := len0 (by omega)
    obtain rfl : ss = [] := len0 (by omega)
    have hT : textV (encB key k t [] [] [] a) = (bnums t, [], 0) := by
      unfold textV
      rw [hU, if_pos hk]
      simp only
      rw [show chunk t = be4 ((bnums t).length : Int) ++ bnums t ++ [] from by rw [bnums_len]; simp [chunk]]
      exact bytM_go (by rw [bnums_len]; omega) (by rw [bnums_len]; omega)
    rw [hT]
    simp only [b8_nums]
    unfold okV
    rw [if_pos ⟨rfl, rfl, hz⟩]
  · rw [if_neg hk] at ho' ⊢
    rw [Bool.and_eq_true] at ho'
    obtain ⟨ht0, ho'⟩ := ho'
    obtain rfl : t = [] := by simpa using ht0
    have hC : cntV (encB key k [] ps ls ss a) = ((cnt ps ls ss : Int), elB ps ls ss, 0) := by
      unfold cntV
      rw [hU, if_neg hk]
      exact numM_go (by omega) (by omega) (by omega)
    have hE : elsV (encB key k [] ps ls ss a) = ([], 0, ps, ls, ss) := by
      unfold elsV
      rw [hC, hU]
      simp only [Int.toNat_natCast]
      by_cases h2 : k = 2
      · rw [if_pos h2] at ho'
        have hn := of_decide_eq_true ho'
        unfold cnt at hn ⊢
        obtain rfl : ls = [] := len0 (by omega)
        obtain rfl : ss = [] := len0 (by omega)
        subst h2
        have := go_pairs ps 0 [] [] hps
        rw [List.append_nil, List.nil_append] at this
        rw [elB_2]
        simpa using this
      · rw [if_neg h2] at ho'
        by_cases h34 : k = 3 ∨ k = 4
        · rw [if_pos h34] at ho'
          have hn := of_decide_eq_true ho'
          unfold cnt at hn ⊢
          obtain rfl : ps = [] := len0 (by omega)
          obtain rfl : ss = [] := len0 (by omega)
          have := go_list h2 (by omega) ls 0 [] [] hls
          rw [List.append_nil, List.nil_append] at this
          rw [elB_3]
          simpa using this
        · rw [if_neg h34] at ho'
          have hn := of_decide_eq_true ho'
          unfold cnt at hn ⊢
          obtain rfl : ps = [] := len0 (by omega)
          obtain rfl : ls = [] := len0 (by omega)
          obtain rfl : k = 5 := by omega
          have := go_scores ss 0 [] [] hss hw
          rw [List.append_nil, List.nil_append] at this
          rw [elB_5]
          simpa using this
    rw [hE]
    simp only [b8_nums]
    unfold okV
    rw [if_pos ⟨rfl, rfl, hz⟩]

/-- What is read packs to what was there. -/
theorem enc_dec {l : List Int} (h : Fine l 0) : decV l = ([], 0, [], [], [], [], 0, 3) ∨
    (entryZ (decV l).1 (decV l).2.1 (decV l).2.2.1 (decV l).2.2.2.1 (decV l).2.2.2.2.1 (decV l).2.2.2.2.2.1 (decV l).2.2.2.2.2.2.1 = 0 ∧ (decV l).2.2.2.2.2.2.2 = 0 ∧
      encB (decV l).1 (decV l).2.1 (decV l).2.2.1 (decV l).2.2.2.1 (decV l).2.2.2.2.1 (decV l).2.2.2.2.2.1 (decV l).2.2.2.2.2.2.1 = l) := by
  unfold decV
  split
  · rename_i h1
    unfold okV
    split
    · rename_i hx
      refine .inr ⟨hx.2.2, rfl, ?_⟩
      have := text_back h h1 hx.1
      rw [hx.2.1, List.append_nil] at this
      exact this.symm
    · exact .inl rfl
  · rename_i h1
    unfold okV
    split
    · rename_i hx
      refine .inr ⟨hx.2.2, rfl, ?_⟩
      have := list_back h h1 hx.1
      rw [hx.2.1, List.append_nil] at this
      exact this.symm
    · exact .inl rfl

/-! ### Law ValueBack -/

theorem intagliolaw15_ValueBack_pure (key : List UInt8) (k : Int) (t : List UInt8) (ps : List PairT) (ls : List (List UInt8)) (ss : List ScoreT) (a : Int) (l : List Int) (o : Ty.okS tyEntry (key, (k, t, ps, ls, ss, ()), a, ())) (o' : Ty.okS (.slc (.int .u8)) l) :
    intagliolaw15_ValueBack_M key k t ps ls ss a l = some true := by
  obtain ⟨_, ⟨_, _, hp, hl, hs, _⟩, _, _⟩ := o
  unfold intagliolaw15_ValueBack_M
  simp only [intaglioref15_Light_P, intagliolaw15_awake_P, awake_is, Option.bind_some, value_Encode_P, value_Decode_P, intaglioref15_SameEntries_P, bytes_Equal_P]
  rcases light_is (k := k) (t := t) hp.1 hl.1 hs.1 with hL | ⟨hL, hf⟩
  · rw [hL, Option.bind_some, if_pos (by decide)]
  · rw [hL, Option.bind_some, if_neg (by decide)]
    split
    · rfl
    · by_cases hl5 : (l.length : Int) > 5000
      · rw [if_pos (decide_eq_true hl5)]
      · rw [if_neg (by simpa using hl5)]
        have h : Fine l 0 := ⟨by_of o'.2, by omega, fun h => absurd rfl h⟩
        have hlast : (Option.bind (value_Decode_M l) fun v : DT => if (v.2.2.2.2.2.2.2 != (0 : Int)) = true then (if (v.1 == []) = true then if (v.2.2.2.2.2.2.1 == (0 : Int)) = true then if (v.2.1 == (0 : Int)) = true then some true else some false else some false else some false)
            else Option.bind (value_Encode_M v.1 v.2.1 v.2.2.1 v.2.2.2.1 v.2.2.2.2.1 v.2.2.2.2.2.1 v.2.2.2.2.2.2.1) fun w : Int × List Int => Option.bind (bytes_Equal_M w.2 l) fun b : Bool => if b = true then some true else some false) = some true := by
          rw [dec_is h, Option.bind_some]
          rcases enc_dec h with e | ⟨e1, e2, e3⟩
          · rw [e]; rfl
          · rw [if_neg (by simp [e2]), encode_is (decV_few h), if_pos e1, Option.bind_some, e3, equal_self]
            rfl
        rw [encode_is hf, Option.bind_some]
        by_cases hz : entryZ key k t ps ls ss a = 0
        · rw [if_pos hz]
          simp only
          have hw : ∀ s ∈ ss, -9223372036854775808 ≤ s.2.1 ∧ s.2.1 ≤ 9223372036854775807 := fun s hs' => wf_i64 (hs.2 s hs').2.1
          rw [dec_is (enc_fine hz), dec_enc hz hw, Option.bind_some, if_pos (by decide), if_neg (by simp), sameE hf, Option.bind_some, if_neg (by decide)]
          exact hlast
        · rw [if_neg hz]
          simp only
          have hnil : Fine [] 0 := ⟨By.nil, by simp, fun _ => rfl⟩
          rw [dec_is hnil, Option.bind_some, if_neg (by simpa using hz)]
          exact hlast
end Go.Proofs.Ytknghpfoohchhaa
