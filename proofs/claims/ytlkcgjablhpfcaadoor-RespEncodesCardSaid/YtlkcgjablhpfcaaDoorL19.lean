/- The laws of chapter 19 on parsers: what their models answer, whatever comes in. -/
import Derived.Test.YtlkcgjablhpfcaaDoorRpD
import Derived.Test.YtlkcgjablhpfcaaDoorEd
namespace Go.Proofs.YtlkcgjablhpfcaaDoor
open Go Go.Lift Go.Lib
set_option maxRecDepth 100000
set_option maxHeartbeats 4000000
set_option linter.unusedVariables false

theorem rSame_self {l : List (List UInt8)} (hl : l.length ≤ 100000) : intaglioref17_Same_M l l = some true := by
  unfold intaglioref17_Same_M
  rw [if_neg (by simp)]
  rw [loop_is (r := .inl ()) (s := (l, l, 0)) (fun (x : List (List UInt8) × List (List UInt8) × Int) => ∃ k : Nat, k ≤ l.length ∧ x = (l, l, (k : Int))) (fun x => l.length - x.2.2.toNat) ⟨0, Nat.zero_le _, rfl⟩ (by simp only [Int.toNat_zero]; omega) ?_]
  · rfl
  · rintro x ⟨k, hk, rfl⟩
    simp only [intaglioref17_Same_L1_P, intaglioref17_Same_L1]
    by_cases hlt : k < l.length
    · left
      rw [if_pos (decide_eq_true (by omega)), ix_nat hlt, Option.bind_some, Option.bind_some, if_neg (by simp)]
      refine ⟨_, rfl, ⟨k + 1, hlt, by rw [show IntKind.wrap IntKind.i64 ((k : Int) + 1) = ((k + 1 : Nat) : Int) from i64_succ (by omega)]⟩, ?_⟩
      simp only
      rw [show IntKind.wrap IntKind.i64 ((k : Int) + 1) = ((k + 1 : Nat) : Int) from i64_succ (by omega)]
      simp only [Int.toNat_natCast]; omega
    · right
      rw [if_neg (by simp; omega)]
theorem sameC_self {l : List (List (List UInt8))} (hl : l.length ≤ 100000) (hc : ∀ c ∈ l, c.length ≤ 40) : intaglioref19_SameCommands_M l l = some true := by
  unfold intaglioref19_SameCommands_M
  rw [if_neg (by simp)]
  rw [loop_is (r := .inl ()) (s := (l, l, 0)) (fun (x : List (List (List UInt8)) × List (List (List UInt8)) × Int) => ∃ k : Nat, k ≤ l.length ∧ x = (l, l, (k : Int))) (fun x => l.length - x.2.2.toNat) ⟨0, Nat.zero_le _, rfl⟩ (by simp only [Int.toNat_zero]; omega) ?_]
  · rfl
  · rintro x ⟨k, hk, rfl⟩
    simp only [intaglioref19_SameCommands_L1_P, intaglioref19_SameCommands_L1]
    by_cases hlt : k < l.length
    · left
      rw [if_pos (decide_eq_true (by omega)), ix_nat hlt, Option.bind_some, Option.bind_some]
      rw [show intaglioref17_Same_P (l[k], l[k]) = intaglioref17_Same_M l[k] l[k] from rfl, rSame_self (by have := hc _ (List.getElem_mem hlt); omega), Option.bind_some, if_neg (by simp)]
      refine ⟨_, rfl, ⟨k + 1, hlt, by rw [show IntKind.wrap IntKind.i64 ((k : Int) + 1) = ((k + 1 : Nat) : Int) from i64_succ (by omega)]⟩, ?_⟩
      simp only
      rw [show IntKind.wrap IntKind.i64 ((k : Int) + 1) = ((k + 1 : Nat) : Int) from i64_succ (by omega)]
      simp only [Int.toNat_natCast]; omega
    · right
      rw [if_neg (by simp; omega)]

/-! ### The example -/

def exC : List (List UInt8) := [[71, 69, 84], [107]]
def exB : List UInt8 := [42, 50, 13, 10, 36, 51, 13, 10, 71, 69, 84, 13, 10, 36, 49, 13, 10, 107, 13, 10]
theorem exC_is : sc_command exC = exB := by
  have h1 : itoa 1 = [49] := by rw [show (1 : Int) = ((1 : Nat) : Int) from rfl, itoa_nonneg, decDigits_one (by decide)]; rfl
  have h2 : itoa 2 = [50] := by rw [show (2 : Int) = ((2 : Nat) : Int) from rfl, itoa_nonneg, decDigits_one (by decide)]; rfl
  have h3 : itoa 3 = [51] := by rw [show (3 : Int) = ((3 : Nat) : Int) from rfl, itoa_nonneg, decDigits_one (by decide)]; rfl
  unfold sc_command exC
  simp only [List.flatMap_cons, List.flatMap_nil, sc_bulk]
  rw [show (([[71, 69, 84], [107]] : List (List UInt8)).length : Int) = 2 from rfl, show (([71, 69, 84] : List UInt8).length : Int) = 3 from rfl, show (([107] : List UInt8).length : Int) = 1 from rfl, h1, h2, h3]
  rfl
theorem b8_bnums (l : List UInt8) : b8 (bnums l) = l := by
  unfold b8 bnums
  rw [List.map_map]
  conv => rhs; rw [← List.map_id l]
  refine List.map_congr_left fun x _ => ?_
  simp
theorem awake_is : intagliolaw19_awake_M = some true := by
  unfold intagliolaw19_awake_M
  have hc : resp_Command_M exC = some (bnums exB) := by
    unfold resp_Command_M
    rw [exC_is, if_pos (by decide)]
  rw [show resp_Command_P [[71, 69, 84], [107]] = resp_Command_M exC from rfl, hc, Option.bind_some]
  rw [show resp_New_P () = some (0, true, []) from rfl, Option.bind_some]
  obtain ⟨e, l, r, hf, hh, h1, h2⟩ := feed_is (v := bnums exB) holds_nil (by decide)
  rw [List.nil_append, b8_bnums] at hh h1 h2
  have h0 : prsF [] = ([], 0, []) := by
    obtain ⟨q1, q2⟩ := holds_nil
    obtain ⟨f1, f2, _⟩ := prsF_facts []
    have h1 : (prsF []).1 = [] := List.eq_nil_of_length_eq_zero (by simp at f2; omega)
    calc prsF [] = ((prsF []).1, (prsF []).2.1, (prsF []).2.2) := rfl
      _ = _ := by rw [h1, ← q1, ← q2]; rfl
  have hp : prsF exB = ([exC], 0, []) := by
    have hcmd := cmd_command (l := exC) (by decide) (by decide) []
    rw [List.append_nil, exC_is] at hcmd
    rw [prsF_eq, hcmd]
    simp only
    rw [List.drop_length, h0, if_neg (by decide)]
  rw [hp, h0] at h1
  rw [hp] at h2
  simp only [List.nil_append] at h1
  subst h1 h2
  show Option.bind (resp_Parser_Feed_M (bnums exB) 0 true []) _ = _
  rw [hf, Option.bind_some, b8_bnums]
  simp only
  rw [if_pos (by rfl), if_pos (by rfl), show intaglioref19_SameCommands_P ([exC], [[[71, 69, 84], [107]]]) = intaglioref19_SameCommands_M [exC] [exC] from rfl, sameC_self (by decide) (by decide), Option.bind_some]

/-! ### The laws -/

theorem intagliolaw19_RespParses_pure (s : List (List Int)) (hs : Ty.okS (.slc (.slc (.int .u8))) s) : intagliolaw19_RespParses_M s = some true := by
  unfold intagliolaw19_RespParses_M
  split
  · rw [show intagliolaw19_awake_P () = intagliolaw19_awake_M from rfl, awake_is]; rfl
  · rename_i h40
    simp at h40
    rw [show resp_New_P () = some (0, true, []) from rfl, Option.bind_some]
    simp only
    refine Exists.elim (loop_meas (body := intagliolaw19_RespParses_L1_P) (s := (s, 0, 0, 0, true, [], []))
      (fun x => ∃ (k : Nat) (all r : List Int) (e : Int), k ≤ s.length ∧ all.length ≤ 6000 ∧ Holds (b8 all) e r ∧ x = (s, ((prsF (b8 all)).1.length : Int), (k : Int), e, true, all, r))
      (fun x => s.length - x.2.2.1.toNat) (fun y => (∃ a, y = .inl a) ∨ (∃ a b c, y = .inr (true, a, b, c)))
      (by
        refine ⟨0, [], [], 0, Nat.zero_le _, by simp, holds_nil, ?_⟩
        obtain ⟨f1, f2, _⟩ := prsF_facts []
        have h1 : (prsF []).1.length = 0 := by simp at f2; omega
        show _ = (s, ((prsF []).1.length : Int), _)
        rw [h1]; rfl) (by simp only [Int.toNat_zero]; omega) ?_) ?_
    · rintro x ⟨k, all, r, e, hk, hall, hh, rfl⟩
      simp only [intagliolaw19_RespParses_L1_P, intagliolaw19_RespParses_L1]
      by_cases hlt : k < s.length
      · rw [if_pos (decide_eq_true (by omega)), ix_nat hlt, Option.bind_some]
        by_cases hbig : IntKind.i64.wrap (((s[k].length : Nat) : Int) + ((all.length : Nat) : Int)) > 6000
        · right
          rw [if_pos (decide_eq_true hbig), show intagliolaw19_awake_P () = intagliolaw19_awake_M from rfl, awake_is, Option.bind_some]
          exact ⟨_, rfl, .inr ⟨_, _, _, rfl⟩⟩
        · left
          have hsk : (s[k]).length ≤ 140737488355328 := (hs.2 s[k] (List.getElem_mem hlt)).1
          have hb2 : (s[k]).length + all.length ≤ 6000 := by
            rw [i64_id (by omega) (by omega)] at hbig; omega
          rw [if_neg (by simpa using hbig), Option.bind_some, room_ok (by omega) (by unfold maxLen; omega), Option.bind_some, Option.bind_some]
          have hbl : (b8 all).length = all.length := by simp [b8]
          obtain ⟨e', l, r', hf, hh', h1, h2⟩ := feed_is (v := s[k]) hh (by omega)
          have hb8 : b8 all ++ b8 s[k] = b8 (all ++ s[k]) := by simp [b8]
          rw [hb8] at hh' h1 h2
          have hbl' : (b8 (all ++ s[k])).length ≤ 6000 := by rw [← hb8, List.length_append, hbl]; simp [b8]; omega
          obtain ⟨f1, f2, f3, f4, f5⟩ := prsF_facts (b8 (all ++ s[k]))
          rw [show resp_Parser_Feed_P (s[k], e, true, r) = resp_Parser_Feed_M s[k] e true r from rfl, hf, Option.bind_some]
          rw [show intaglioref19_Parse_P (b8 (all ++ s[k])) = intaglioref19_Parse_M (b8 (all ++ s[k])) from rfl, rparse_is (by omega), Option.bind_some]
          simp only
          rw [h1] at f2 f4
          rw [if_neg (by rw [h1]; simp; omega), sub_ok (by omega) (by rw [h1]; simp; omega) (by omega), Option.bind_some, h1, Int.toNat_natCast, Int.toNat_natCast, List.take_length, List.drop_append_of_le_length (Nat.le_refl _), List.drop_length, List.nil_append]
          rw [show intaglioref19_SameCommands_P (l, l) = intaglioref19_SameCommands_M l l from rfl, sameC_self (by simp at f2; omega) (fun c hc => f4 c (List.mem_append_right _ hc)), Option.bind_some, if_neg (by simp), if_neg (by rw [h2]; simp)]
          show ∃ s', Option.bind (some (((r'.length : Nat) : Int), e', true, r')) _ = _ ∧ _
          rw [Option.bind_some]
          have hr' : r'.length = (prsF (b8 (all ++ s[k]))).2.2.length := by rw [← hh'.2]; simp [b8]
          simp only
          rw [if_neg (by rw [hr']; simp), i64_succ (by omega)]
          refine ⟨_, rfl, ⟨k + 1, all ++ s[k], r', e', hlt, by rw [List.length_append]; omega, hh', ?_⟩, by simp only [Int.toNat_natCast]; omega⟩
          rw [h1]
      · right
        rw [if_neg (by simp; omega)]
        exact ⟨_, rfl, .inl ⟨_, rfl⟩⟩
    · rintro q ⟨hq, hQ⟩
      rw [hq, Option.bind_some]
      rcases hQ with ⟨a, rfl⟩ | ⟨a, b, c, rfl⟩
      · rw [Sum.elim_inl, show intagliolaw19_awake_P () = intagliolaw19_awake_M from rfl, awake_is]; rfl
      · rfl


theorem holds_start : prsF [] = ([], 0, []) := by
  obtain ⟨q1, q2⟩ := holds_nil
  obtain ⟨f1, f2, _⟩ := prsF_facts []
  have h1 : (prsF []).1 = [] := List.eq_nil_of_length_eq_zero (by simp at f2; omega)
  calc prsF [] = ((prsF []).1, (prsF []).2.1, (prsF []).2.2) := rfl
    _ = _ := by rw [h1, ← q1, ← q2]; rfl

theorem intagliolaw19_RespPieces_pure (s : List Int) (c : Arr 2 Int) (hs : Ty.ok (.slc (.int .u8)) s) (hc : Ty.ok (.arr 2 (.int .u16)) c) : intagliolaw19_RespPieces_M s c = some true := by
  unfold intagliolaw19_RespPieces_M
  split
  · rw [show intagliolaw19_awake_P () = intagliolaw19_awake_M from rfl, awake_is]; rfl
  · rename_i h6
    simp at h6
    have hcr : ∀ j, j < 2 → 0 ≤ c.val.getD j 0 ∧ c.val.getD j 0 < 65536 := by
      intro j hj
      have hl := c.2
      have hm : List.Mem (c.val[j]'(by omega)) c.val := List.getElem_mem (by omega)
      have := hc _ hm
      have hw := wf_u16 this
      rw [List.getD_eq_getElem?_getD, List.getElem?_eq_getElem (by omega), Option.getD_some]
      omega
    obtain ⟨c00, c01⟩ := hcr 0 (by decide)
    obtain ⟨c10, c11⟩ := hcr 1 (by decide)
    rw [inb_ok' (by decide) (by decide), Option.bind_some, show List.getD c.val (nat_lit 0) (0 : Int) = c.val.getD 0 0 from rfl, i64_id (n := c.val.getD 0 0) (by omega) (by omega), i64_id (n := ((s.length : Nat) : Int) + 1) (by omega) (by omega), grem_nat c00 (by omega), Option.bind_some, inb_ok' (by decide) (by decide), Option.bind_some]
    obtain ⟨i, hi⟩ := Int.eq_ofNat_of_zero_le (Int.emod_nonneg (c.val.getD 0 0) (show ((s.length : Nat) : Int) + 1 ≠ 0 by omega))
    have hi' := Int.emod_lt_of_pos (c.val.getD 0 0) (show (0 : Int) < ((s.length : Nat) : Int) + 1 by omega)
    rw [hi] at hi' ⊢
    have hi2 : i ≤ s.length := by omega
    rw [show List.getD c.val (nat_lit 1) (0 : Int) = c.val.getD 1 0 from rfl, i64_id (n := c.val.getD 1 0) (by omega) (by omega), i64_id (n := ((s.length : Nat) : Int) - (i : Int)) (by omega) (by omega), i64_id (by omega) (by omega), grem_nat c10 (by omega), Option.bind_some]
    obtain ⟨d, hd⟩ := Int.eq_ofNat_of_zero_le (Int.emod_nonneg (c.val.getD 1 0) (show ((s.length : Nat) : Int) - (i : Int) + 1 ≠ 0 by omega))
    have hd' := Int.emod_lt_of_pos (c.val.getD 1 0) (show (0 : Int) < ((s.length : Nat) : Int) - (i : Int) + 1 by omega)
    rw [hd] at hd' ⊢
    have hid : i + d ≤ s.length := by omega
    rw [i64_id (n := (i : Int) + (d : Int)) (by omega) (by omega), show (i : Int) + (d : Int) = ((i + d : Nat) : Int) by omega]
    rw [show resp_New_P () = some (0, true, []) from rfl, Option.bind_some, Option.bind_some]
    simp only
    have hb : ∀ l : List Int, (b8 l).length = l.length := fun l => by simp [b8]
    have happ : ∀ l m : List Int, b8 (l ++ m) = b8 l ++ b8 m := fun l m => by simp [b8]
    obtain ⟨e, l, r, hf, hh, h1, h2⟩ := feed_is (v := s) holds_nil (by simp; omega)
    rw [show resp_Parser_Feed_P (s, 0, true, []) = resp_Parser_Feed_M s 0 true [] from rfl, hf, Option.bind_some, sub_ok (by decide) (by omega) (by omega), Option.bind_some, Int.toNat_natCast, show (0 : Int).toNat = 0 from rfl, List.drop_zero]
    simp only
    obtain ⟨e1, l1, r1, hf1, hh1, h11, h12⟩ := feed_is (v := s.take i) holds_nil (by simp; omega)
    rw [show resp_Parser_Feed_P (s.take i, 0, true, []) = resp_Parser_Feed_M (s.take i) 0 true [] from rfl, hf1, Option.bind_some, sub_ok (by omega) (by omega) (by omega), Option.bind_some, Int.toNat_natCast, Int.toNat_natCast]
    simp only
    rw [List.nil_append] at hh hh1 h11 h12 h1 h2
    obtain ⟨e2, l2, r2, hf2, hh2, h21, h22⟩ := feed_is (v := (s.take (i + d)).drop i) hh1 (by rw [hb]; simp; omega)
    rw [show resp_Parser_Feed_P ((s.take (i + d)).drop i, e1, true, r1) = resp_Parser_Feed_M ((s.take (i + d)).drop i) e1 true r1 from rfl, hf2, Option.bind_some, sub_ok (by omega) (by omega) (by omega), Option.bind_some, Int.toNat_natCast, Int.toNat_natCast, List.take_length]
    simp only
    have e12 : s.take i ++ (s.take (i + d)).drop i = s.take (i + d) := by
      conv => rhs; rw [← List.take_append_drop i (s.take (i + d)), List.take_take, Nat.min_eq_left (by omega)]
    rw [← happ, e12] at hh2 h21 h22
    obtain ⟨e3, l3, r3, hf3, hh3, h31, h32⟩ := feed_is (v := s.drop (i + d)) hh2 (by rw [hb]; simp; omega)
    rw [show resp_Parser_Feed_P (s.drop (i + d), e2, true, r2) = resp_Parser_Feed_M (s.drop (i + d)) e2 true r2 from rfl, hf3, Option.bind_some]
    simp only
    rw [← happ, List.take_append_drop] at hh3 h31 h32
    obtain ⟨f1, f2, f3, f4, f5⟩ := prsF_facts (b8 s)
    rw [hb] at f1 f2
    rw [holds_start] at h1 h11
    simp only [List.nil_append] at h1 h11 ⊢
    rw [h21, h11] at h31
    have hll : l = l1 ++ l2 ++ l3 := by rw [← h1, h31]
    rw [h1] at f2 f4
    have hsum : l.length = l1.length + l2.length + l3.length := by rw [hll]; simp; omega
    rw [room_ok (by omega) (by unfold maxLen; omega), Option.bind_some, room_ok (by omega) (by unfold maxLen; omega), Option.bind_some, room_ok (by rw [List.length_append]; omega) (by unfold maxLen; rw [List.length_append]; omega), Option.bind_some, ← hll]
    rw [show intaglioref19_SameCommands_P (l, l) = intaglioref19_SameCommands_M l l from rfl, sameC_self (by omega) f4, Option.bind_some, if_pos rfl, if_pos (by rw [h2, h32]; simp)]
    show Option.bind (some (((r.length : Nat) : Int), e, true, r)) _ = _
    rw [Option.bind_some]
    show Option.bind (some (((r3.length : Nat) : Int), e3, true, r3)) _ = _
    rw [Option.bind_some]
    have hr : r.length = r3.length := by rw [← hb r, ← hb r3, hh.2, hh3.2]
    simp only
    rw [if_pos (by rw [hr]; simp), show intagliolaw19_awake_P () = intagliolaw19_awake_M from rfl, awake_is]; rfl

theorem intagliolaw19_RespNobody_pure (s t : List Int) (hs : Ty.ok (.slc (.int .u8)) s) (ht : Ty.ok (.slc (.int .u8)) t) : intagliolaw19_RespNobody_M s t = some true := by
  unfold intagliolaw19_RespNobody_M
  have aw : intagliolaw19_awake_P () = some true := awake_is
  split
  · rw [aw]; rfl
  split
  · rw [aw]; rfl
  rename_i h1 h2
  simp at h1 h2
  rw [show inb 2 0 = some () from rfl, Option.bind_some, show resp_Parser_Feed_n_P s = some 2 from rfl, Option.bind_some, Option.bind_some, show resp_Parser_Left_n_P () = some 0 from rfl, Option.bind_some, if_neg (by decide), if_neg (by decide)]
  rw [show inb 2 1 = some () from rfl, Option.bind_some, show resp_Parser_Feed_P (s, 0, false, []) = some (2, 0, false, [], []) from rfl, Option.bind_some, Option.bind_some]
  show Option.bind (some (((([] : List Int).length : Nat) : Int), 0, false, [])) _ = _
  rw [Option.bind_some, if_neg (by decide), if_neg (by decide), show resp_New_P () = some (0, true, []) from rfl, Option.bind_some]
  simp only
  have hb : ∀ l : List Int, (b8 l).length = l.length := fun l => by simp [b8]
  obtain ⟨e, l, r, hf, hh, h3, h4⟩ := feed_is (v := s) holds_nil (by simp; omega)
  rw [show resp_Parser_Feed_P (s, 0, true, []) = resp_Parser_Feed_M s 0 true [] from rfl, hf, Option.bind_some]
  simp only
  by_cases he : e = 0
  · rw [if_pos (by simp [he]), aw]; rfl
  · rw [if_neg (by simpa using he)]
    have hf2 : resp_Parser_Feed_P (t, e, true, r) = some (e, e, true, [], r) := by
      show resp_Parser_Feed_M t e true r = _
      unfold resp_Parser_Feed_M
      rw [if_neg (by simp), if_pos (by simpa using he)]
    have hr : r = [] := by
      obtain ⟨f1, f2, f3, f4, f5⟩ := prsF_facts ([] ++ b8 s)
      have := f3 (by rw [← h4]; exact he)
      have h5 := hh.2
      rw [this] at h5
      exact List.eq_nil_of_length_eq_zero (by rw [← hb r, h5]; rfl)
    rw [hf2, Option.bind_some]
    show Option.bind (some (((r.length : Nat) : Int), e, true, r)) _ = _
    rw [Option.bind_some, hr, if_pos (by rfl), if_pos (by simp), aw]; rfl

end Go.Proofs.YtlkcgjablhpfcaaDoor
