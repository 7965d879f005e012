/- The law VerbChecks of chapter 17: what its model answers, whatever comes in. -/
import Derived.Test.YtekofbmeofhejaaDoorL17
import Derived.Test.YtekofbmeofhejaaDoorCk
namespace Go.Proofs.YtekofbmeofhejaaDoor
open Go Go.Lift Go.Lib
set_option maxRecDepth 100000
set_option maxHeartbeats 4000000
set_option linter.unusedVariables false

/-- At each name both know the same, and the places of its keys are simple. -/
def chk2 (n : List UInt8) : Bool := match verb_Find_M n, intaglioref17_Find_M n with
  | some (f, l, st, nm, mn, mx, wr, od, ev, ok), some b => upS n == n && ok && (b == (nm, mn, mx, wr, f, l, st, od, ev, ok)) && (f == 0 || f == 1 && (st == 1 || st == 2) && decide (l ≤ 2))
  | _, _ => false
theorem chk2_all : names.all chk2 = true := by kernel_rfl

theorem find_both {s : List UInt8} (hl : s.length ≤ 1000000) : ∃ f l st nm mn mx wr od ev ok, verb_Find_M s = some (f, l, st, nm, mn, mx, wr, od, ev, ok) ∧ intaglioref17_Find_M s = some (nm, mn, mx, wr, f, l, st, od, ev, ok) ∧
    (f = 0 ∨ (f = 1 ∧ (st = 1 ∨ st = 2) ∧ l ≤ 2)) := by
  by_cases hn : ∀ n ∈ names, (upS s == n) = false
  · exact ⟨0, 0, 0, [], 0, 0, false, false, false, false, vFind_no hl hn, rFind_no hl hn, .inl rfl⟩
  · simp only [Classical.not_forall] at hn
    obtain ⟨n, hm, hne⟩ := hn
    have he : upS s = n := by
      cases hb : (upS s == n) with
      | true => exact eq_of_beq hb
      | false => exact absurd hb hne
    have hc := List.all_eq_true.1 chk2_all n hm
    unfold chk2 at hc
    split at hc
    · rename_i f l st nm mn mx wr od ev ok b ha hb
      simp only [Bool.and_eq_true, Bool.or_eq_true, beq_iff_eq, decide_eq_true_eq] at hc
      obtain ⟨⟨⟨h1, h2⟩, h3⟩, h4⟩ := hc
      have hu : upS (upS s) = upS s := by rw [he]; exact h1
      refine ⟨f, l, st, nm, mn, mx, wr, od, ev, ok, by rw [vFind_up hl hu, he, ha], by rw [rFind_up hl hu, he, hb, h3], ?_⟩
      rcases h4 with h4 | ⟨⟨h4, h5⟩, h6⟩
      · exact .inl h4
      · exact .inr ⟨h4, h5, h6⟩
    · cases hc

/-! ### Keys -/

theorem rKeys_loop {args : List (List UInt8)} {last : Int} {st : Nat} (hn : args.length ≤ 100000) (h1 : 1 ≤ args.length) (hst : st = 1 ∨ st = 2) (nm : List UInt8) (mn mx : Int) (wr od ev : Bool) :
    loop intaglioref17_Keys_L1_P (args, true, 1, nm, mn, mx, wr, 1, last, (st : Int), od, ev, []) = some (nm, mn, mx, wr, 1, last, (st : Int), od, ev, keysTo args last st args.length) := by
  refine loop_is (fun (x : List (List UInt8) × Bool × Int × List UInt8 × Int × Int × Bool × Int × Int × Int × Bool × Bool × List (List UInt8)) => ∃ i : Nat, 1 ≤ i ∧ i ≤ args.length ∧ x = (args, true, (i : Int), nm, mn, mx, wr, 1, last, (st : Int), od, ev, keysTo args last st i))
    (fun x => args.length - x.2.2.1.toNat) ⟨1, Nat.le_refl _, h1, ?_⟩ (by simp only [Int.toNat_one]; omega) ?_
  · have : keysTo args last st 1 = [] := by
      show [] ++ (if keyAt args.length last st 0 = true then _ else _) = []
      rw [show keyAt args.length last st 0 = false from rfl, if_neg (by decide)]; rfl
    rw [this]; rfl
  · rintro x ⟨i, hi1, hil, rfl⟩
    simp only [intaglioref17_Keys_L1_P, intaglioref17_Keys_L1]
    rw [if_pos trivial, if_pos (by simp)]
    by_cases hlt : i < args.length
    · left
      have hkl := keysTo_len args last st i
      have hroom : room 16 ((keysTo args last st i).length + [args[i]].length) = some () := room_ok (by simp; omega) (by unfold maxLen; simp; omega)
      have hgd : args.getD i [] = args[i] := by simp [List.getD, List.getElem?_eq_getElem hlt]
      have hup : ∀ b, keyAt args.length last st i = b → keysTo args last st (i + 1) = if b = true then keysTo args last st i ++ [args[i]] else keysTo args last st i := by
        intro b hb
        show keysTo args last st i ++ (if keyAt args.length last st i = true then [args.getD i []] else []) = _
        rw [hb, hgd]
        cases b <;> simp
      have hm : IntKind.wrap IntKind.i64 ((i : Int) - 1) = ((i - 1 : Nat) : Int) := by rw [i64_id (by omega) (by omega)]; omega
      have hg : grem IntKind.i64 (IntKind.wrap IntKind.i64 ((i : Int) - 1)) (st : Int) = some (((i - 1) % st : Nat) : Int) := by
        rw [show IntKind.wrap IntKind.i64 ((i : Int) - 1) = ((i - 1 : Nat) : Int) from hm, grem_nat (by omega) (by rcases hst with rfl | rfl <;> decide)]
        rfl
      rw [if_pos (decide_eq_true (by omega)), hg, Option.bind_some]
      have fin : ∀ b, keyAt args.length last st i = b → ∃ t, (some (Sum.inl (args, true, IntKind.wrap IntKind.i64 ((i : Int) + 1), nm, mn, mx, wr, 1, last, (st : Int), od, ev, if b = true then keysTo args last st i ++ [args[i]] else keysTo args last st i)) : Option ((List (List UInt8) × Bool × Int × List UInt8 × Int × Int × Bool × Int × Int × Int × Bool × Bool × List (List UInt8)) ⊕ (List UInt8 × Int × Int × Bool × Int × Int × Int × Bool × Bool × List (List UInt8)))) = some (Sum.inl t) ∧
          (∃ i : Nat, 1 ≤ i ∧ i ≤ args.length ∧ t = (args, true, (i : Int), nm, mn, mx, wr, 1, last, (st : Int), od, ev, keysTo args last st i)) ∧ args.length - t.2.2.1.toNat < args.length - ((i : Nat) : Int).toNat := by
        intro b hb
        refine ⟨_, rfl, ⟨i + 1, by omega, hlt, ?_⟩, ?_⟩
        · rw [hup b hb, show IntKind.wrap IntKind.i64 ((i : Int) + 1) = ((i + 1 : Nat) : Int) from i64_succ (by omega)]
        · simp only
          rw [show IntKind.wrap IntKind.i64 ((i : Int) + 1) = ((i + 1 : Nat) : Int) from i64_succ (by omega)]
          omega
      by_cases hmod : (i - 1) % st = 0
      · rw [if_pos (by simp [hmod])]
        by_cases hneg : last < 0
        · rw [if_pos (decide_eq_true hneg), ix_nat hlt, Option.bind_some, hroom, Option.bind_some]
          exact fin true (by unfold keyAt; simp [hi1, hmod, hneg, hlt])
        · rw [if_neg (by simp; omega)]
          by_cases hle : (i : Int) ≤ last
          · rw [if_pos (decide_eq_true hle), ix_nat hlt, Option.bind_some, hroom, Option.bind_some]
            exact fin true (by unfold keyAt; simp [hi1, hmod, hle, hlt])
          · rw [if_neg (by simp; omega)]
            exact fin false (by unfold keyAt; rw [Bool.eq_false_iff]; simp only [ne_eq, Bool.and_eq_true, Bool.or_eq_true, decide_eq_true_eq]; omega)
      · rw [if_neg (by simp; omega)]
        exact fin false (by unfold keyAt; rw [Bool.eq_false_iff]; simp only [ne_eq, Bool.and_eq_true, Bool.or_eq_true, decide_eq_true_eq]; omega)
    · right
      obtain rfl : i = args.length := by omega
      rw [if_neg (by simp)]

theorem keys_both {args : List (List UInt8)} (hn : args.length ≤ 60) (hw : ∀ w ∈ args, w.length ≤ 600) : ∃ ks, verb_Keys_M args = some ks ∧ intaglioref17_Keys_M args = some ks ∧ ks.length ≤ args.length := by
  unfold verb_Keys_M intaglioref17_Keys_M
  simp only [verb_Find_P, intaglioref17_Find_P]
  cases args with
  | nil => exact ⟨[], rfl, rfl, Nat.le_refl _⟩
  | cons a as =>
    obtain ⟨f, l, st, nm, mn, mx, wr, od, ev, ok, hv, hr, hk⟩ := find_both (s := a) (by have := hw a (by simp); omega)
    have hix : ix (a :: as) (0 : Int) = some a := ix_nat (xs := a :: as) (i := 0) (by simp)
    rw [if_neg (by simp; omega), if_neg (by simp; omega), hix, Option.bind_some, Option.bind_some, hv, hr, Option.bind_some, Option.bind_some]
    simp only
    have hnone : (ok = false ∨ f = 0) → loop intaglioref17_Keys_L1_P (a :: as, ok, 1, nm, mn, mx, wr, f, l, st, od, ev, []) = some (nm, mn, mx, wr, f, l, st, od, ev, []) := by
      intro h
      refine loop_is (fun x => x = (a :: as, ok, 1, nm, mn, mx, wr, f, l, st, od, ev, [])) (fun _ => 0) rfl (by decide) ?_
      rintro x rfl
      right
      simp only [intaglioref17_Keys_L1_P, intaglioref17_Keys_L1]
      rcases h with rfl | rfl
      · rw [if_neg (by decide)]
      · cases ok
        · rw [if_neg (by decide)]
        · rw [if_pos rfl, if_neg (by simp)]
    by_cases hno : ok = false ∨ f = 0
    · refine ⟨[], ?_, ?_, by simp⟩
      · rcases hno with rfl | rfl
        · rw [if_pos (by decide)]
        · split
          · rfl
          · rw [if_pos (by decide)]
      · rw [hnone hno]; rfl
    · have hok : ok = true := by cases ok <;> simp_all
      have hf : f ≠ 0 := fun e => hno (.inr e)
      subst hok
      rcases hk with hk | ⟨rfl, hst, hl2⟩
      · exact absurd hk hf
      obtain ⟨sn, hsn, hst'⟩ : ∃ sn : Nat, st = (sn : Int) ∧ (sn = 1 ∨ sn = 2) := by
        rcases hst with rfl | rfl
        · exact ⟨1, rfl, .inl rfl⟩
        · exact ⟨2, rfl, .inr rfl⟩
      subst hsn
      refine ⟨keysTo (a :: as) l sn (a :: as).length, ?_, ?_, keysTo_len ..⟩
      · rw [if_neg (by decide), if_neg (by decide)]
        have hlen : IntKind.wrap IntKind.i64 (((a :: as).length : Int) - 1) = ((a :: as).length : Int) - 1 := i64_id (by omega) (by omega)
        by_cases h1 : l < 0
        · rw [if_pos (decide_eq_true h1), hlen, vKeys_loop (args := a :: as) (last := l) (by omega) (by simp) hst' (by omega) (by rw [if_pos (.inl h1)])]; rfl
        · rw [if_neg (by simp; omega)]
          by_cases h2 : ((a :: as).length : Int) ≤ l
          · rw [if_pos (decide_eq_true (by omega)), hlen, vKeys_loop (args := a :: as) (last := l) (by omega) (by simp) hst' (by omega) (by rw [if_pos (.inr h2)])]; rfl
          · rw [if_neg (by rw [decide_eq_true_eq]; omega), vKeys_loop (args := a :: as) (last := l) (by omega) (by simp) hst' (by omega) (by rw [if_neg (by omega)])]; rfl
      · rw [rKeys_loop (by omega) (by simp) hst']; rfl

/-! ### Check -/

def errLong : List UInt8 := [(69 : UInt8), (82 : UInt8), (82 : UInt8), (32 : UInt8), (116 : UInt8), (111 : UInt8), (111 : UInt8), (32 : UInt8), (108 : UInt8), (111 : UInt8), (110 : UInt8), (103 : UInt8)]
def errKey : List UInt8 := [(69 : UInt8), (82 : UInt8), (82 : UInt8), (32 : UInt8), (98 : UInt8), (97 : UInt8), (100 : UInt8), (32 : UInt8), (107 : UInt8), (101 : UInt8), (121 : UInt8)]

theorem cL1 {args : List (List UInt8)} (hl : args.length ≤ 100000) (nm : List UInt8) (mn mx : Int) (wr : Bool) (f l st : Int) (od ev : Bool) :
    loop intaglioref17_Check_L1_P (args, (args.length : Int), 0, [], 0, 0, false, 0, 0, 0, false, false, nm, mn, mx, wr, f, l, st, od, ev) =
      some (if args.any (fun w => decide (512 < w.length)) = true then .inr (errLong, [], 0, 0, false, 0, 0, 0, false, false, nm, mn, mx, wr, f, l, st, od, ev) else .inl (args, [], 0, 0, false, 0, 0, 0, false, false, nm, mn, mx, wr, f, l, st, od, ev)) := by
  refine loop_is (fun x => ∃ k : Nat, k ≤ args.length ∧ x = (args, (args.length : Int), (k : Int), [], 0, 0, false, 0, 0, 0, false, false, nm, mn, mx, wr, f, l, st, od, ev) ∧ (args.take k).any (fun w => decide (512 < w.length)) = false)
    (fun x => args.length - x.2.2.1.toNat) ⟨0, Nat.zero_le _, rfl, rfl⟩ (by simp only [Int.toNat_zero]; omega) ?_
  rintro x ⟨k, hk, rfl, hn⟩
  simp only [intaglioref17_Check_L1_P, intaglioref17_Check_L1]
  by_cases hlt : k < args.length
  · rw [if_pos (decide_eq_true (by omega)), ix_nat hlt, Option.bind_some]
    by_cases hb : 512 < (args[k]).length
    · right
      rw [if_pos (decide_eq_true (by omega)), if_pos (List.any_eq_true.2 ⟨args[k], List.getElem_mem hlt, decide_eq_true hb⟩)]
      rfl
    · left
      rw [if_neg (by simp; omega)]
      refine ⟨_, rfl, ⟨k + 1, hlt, by rw [show IntKind.wrap IntKind.i64 ((k : Int) + 1) = ((k + 1 : Nat) : Int) from i64_succ (by omega)], ?_⟩, ?_⟩
      · rw [List.take_succ_eq_append_getElem hlt, List.any_append, hn]
        simp; omega
      · simp only
        rw [show IntKind.wrap IntKind.i64 ((k : Int) + 1) = ((k + 1 : Nat) : Int) from i64_succ (by omega)]
        simp only [Int.toNat_natCast]; omega
  · right
    obtain rfl : k = args.length := by omega
    rw [List.take_length] at hn
    rw [if_neg (by simp), if_neg (by rw [hn]; decide)]

theorem cL2 {ks : List (List UInt8)} (hl : ks.length ≤ 100000) (nm : List UInt8) (mn mx : Int) (wr : Bool) (f l st : Int) (od ev : Bool) :
    loop intaglioref17_Check_L2_P (0, [], 0, 0, false, 0, 0, 0, false, false, nm, mn, mx, wr, f, l, st, od, ev, ks) =
      some (if ks.any badKey = true then .inr (errKey, [], 0, 0, false, 0, 0, 0, false, false, nm, mn, mx, wr, f, l, st, od, ev) else .inl ([], 0, 0, false, 0, 0, 0, false, false, nm, mn, mx, wr, f, l, st, od, ev)) := by
  refine loop_is (fun x => ∃ k : Nat, k ≤ ks.length ∧ x = ((k : Int), [], 0, 0, false, 0, 0, 0, false, false, nm, mn, mx, wr, f, l, st, od, ev, ks) ∧ (ks.take k).any badKey = false)
    (fun x => ks.length - x.1.toNat) ⟨0, Nat.zero_le _, rfl, rfl⟩ (by simp only [Int.toNat_zero]; omega) ?_
  rintro x ⟨k, hk, rfl, hn⟩
  simp only [intaglioref17_Check_L2_P, intaglioref17_Check_L2]
  by_cases hlt : k < ks.length
  · have hg : List.getD ks (Int.toNat (k : Int)) (Ty.zero Ty.str) = ks[k] := by
      rw [Int.toNat_natCast]; exact (by simp [List.getD, List.getElem?_eq_getElem hlt] : List.getD ks k _ = ks[k])
    rw [if_pos (decide_eq_true (by omega)), inb_ok hlt, Option.bind_some, Option.bind_some, hg]
    by_cases hb : badKey ks[k] = true
    · right
      rw [if_pos (List.any_eq_true.2 ⟨ks[k], List.getElem_mem hlt, hb⟩)]
      by_cases h0 : (ks[k]).length < 1
      · rw [if_pos (decide_eq_true (by omega))]; rfl
      · rw [if_neg (by simp; omega), if_pos]
        · rfl
        · unfold badKey at hb
          simp only [Bool.or_eq_true, beq_iff_eq, decide_eq_true_eq] at hb
          rcases hb with hb | hb
          · rw [hb] at h0; simp at h0
          · exact decide_eq_true (by omega)
    · left
      have hb' := Bool.eq_false_iff.2 hb
      unfold badKey at hb'
      simp only [Bool.or_eq_false_iff, beq_eq_false_iff_ne, ne_eq, decide_eq_false_iff_not] at hb'
      have hpos : 0 < (ks[k]).length := List.length_pos_iff.2 hb'.1
      rw [if_neg (by rw [decide_eq_true_eq]; omega), if_neg (by rw [decide_eq_true_eq]; omega)]
      refine ⟨_, rfl, ⟨k + 1, hlt, by rw [show IntKind.wrap IntKind.i64 ((k : Int) + 1) = ((k + 1 : Nat) : Int) from i64_succ (by omega)], ?_⟩, ?_⟩
      · rw [List.take_succ_eq_append_getElem hlt, List.any_append, hn]
        simp [Bool.eq_false_iff.2 hb]
      · simp only
        rw [show IntKind.wrap IntKind.i64 ((k : Int) + 1) = ((k + 1 : Nat) : Int) from i64_succ (by omega)]
        simp only [Int.toNat_natCast]; omega
  · right
    obtain rfl : k = ks.length := by omega
    rw [List.take_length] at hn
    rw [if_neg (by simp), if_neg (by rw [hn]; decide)]

theorem check_both {args : List (List UInt8)} (hn : args.length ≤ 60) (hw : ∀ w ∈ args, w.length ≤ 600) : ∃ f l st nm mn mx wr od ev e, verb_Check_M args = some (f, l, st, nm, mn, mx, wr, od, ev, e) ∧
    intaglioref17_Check_M args = some (nm, mn, mx, wr, f, l, st, od, ev, e) := by
  obtain ⟨ks, hkv, hkr, hkl⟩ := keys_both hn hw
  unfold verb_Check_M intaglioref17_Check_M
  simp only [verb_Find_P, intaglioref17_Find_P, verb_Spec_fits_P, slices_ContainsFunc_string_string_a_P, slices_ContainsFunc_string_string_b_P, verb_Keys_P, intaglioref17_Keys_P]
  cases args with
  | nil => exact ⟨_, _, _, _, _, _, _, _, _, _, rfl, rfl⟩
  | cons a as =>
    generalize hargs : a :: as = args at hn hw hkv hkr hkl ⊢
    have hpos : 0 < args.length := by rw [← hargs]; simp
    have ha : a ∈ args := by rw [← hargs]; simp
    obtain ⟨f, l, st, nm, mn, mx, wr, od, ev, ok, hv, hr, hk⟩ := find_both (s := a) (by have := hw a ha; omega)
    have hix : ix args (0 : Int) = some a := by rw [← hargs]; exact ix_nat (xs := a :: as) (i := 0) (by simp)
    rw [if_neg (by rw [beq_iff_eq]; omega), if_neg (by rw [beq_iff_eq]; omega), hix, Option.bind_some, Option.bind_some, hv, hr, Option.bind_some, Option.bind_some]
    simp only
    cases ok with
    | false => exact ⟨_, _, _, _, _, _, _, _, _, _, by rw [if_pos (by decide)], by rw [if_pos (by decide)]⟩
    | true =>
      rw [if_neg (by decide), if_neg (by decide)]
      rw [cL1 (by omega), find_a (by omega), hkv]
      simp only [Option.bind_some]
      rw [find_b (by omega)]
      simp only [Option.bind_some]
      unfold verb_Spec_fits_M
      rw [grem_nat (by omega) (by decide)]
      simp only [Option.bind_some]
      by_cases c1 : (args.length : Int) < mn
      · rw [if_neg (show ¬ decide ((args.length : Int) ≥ mn) = true by simp; omega), if_pos (decide_eq_true c1)]
        exact ⟨_, _, _, _, _, _, _, _, _, _, by rfl, by rfl⟩
      rw [if_pos (show decide ((args.length : Int) ≥ mn) = true by simp; omega), if_neg (show ¬ decide ((args.length : Int) < mn) = true by simp; omega)]
      by_cases c2 : (args.length : Int) > mx
      · rw [if_neg (show ¬ decide ((args.length : Int) ≤ mx) = true by simp; omega), if_pos (decide_eq_true c2)]
        exact ⟨_, _, _, _, _, _, _, _, _, _, by rfl, by rfl⟩
      rw [if_pos (show decide ((args.length : Int) ≤ mx) = true by simp; omega), if_neg (show ¬ decide ((args.length : Int) > mx) = true by simp; omega)]
      have h01 : (args.length : Int) % 2 = 0 ∨ (args.length : Int) % 2 = 1 := by omega
      cases h3 : (args.any (fun w => decide (512 < w.length)))
      · simp only [Bool.false_eq_true, if_false, if_true, Sum.elim_inl, Option.bind_some, hkr]
        rw [cL2 (ks := ks) (by omega)]
        cases h4 : ks.any badKey
        · simp only [Bool.false_eq_true, if_false, if_true, Sum.elim_inl, Option.bind_some]
          rcases h01 with h01 | h01 <;> rw [h01] <;> cases od <;> cases ev <;> exact ⟨_, _, _, _, _, _, _, _, _, _, rfl, rfl⟩
        · simp only [Bool.false_eq_true, if_false, if_true, Sum.elim_inr, Option.bind_some]
          rcases h01 with h01 | h01 <;> rw [h01] <;> cases od <;> cases ev <;> exact ⟨_, _, _, _, _, _, _, _, _, _, rfl, rfl⟩
      · simp only [Bool.false_eq_true, if_false, if_true, Sum.elim_inr, Option.bind_some]
        rcases h01 with h01 | h01 <;> rw [h01] <;> cases od <;> cases ev <;> exact ⟨_, _, _, _, _, _, _, _, _, _, rfl, rfl⟩

theorem rSame_self {l : List (List UInt8)} (hl : l.length ≤ 100000) : intaglioref17_Same_M l l = some true := by
  unfold intaglioref17_Same_M
  rw [if_neg (by simp)]
  rw [loop_is (r := .inl ()) (s := (l, l, 0)) (fun (x : List (List UInt8) × List (List UInt8) × Int) => ∃ k : Nat, k ≤ l.length ∧ x = (l, l, (k : Int))) (fun x => l.length - x.2.2.toNat) ⟨0, Nat.zero_le _, rfl⟩ (by simp only [Int.toNat_zero]; omega) ?_]
  · rfl
  · rintro x ⟨k, hk, rfl⟩
    simp only [intaglioref17_Same_L1_P, intaglioref17_Same_L1]
    by_cases hlt : k < l.length
    · left
      rw [if_pos (decide_eq_true (by omega)), ix_nat hlt, Option.bind_some, Option.bind_some, if_neg (by simp)]
      refine ⟨_, rfl, ⟨k + 1, hlt, by rw [show IntKind.wrap IntKind.i64 ((k : Int) + 1) = ((k + 1 : Nat) : Int) from i64_succ (by omega)]⟩, ?_⟩
      simp only
      rw [show IntKind.wrap IntKind.i64 ((k : Int) + 1) = ((k + 1 : Nat) : Int) from i64_succ (by omega)]
      simp only [Int.toNat_natCast]; omega
    · right
      rw [if_neg (by simp; omega)]

theorem light_is {l : List (List UInt8)} : intagliolaw17_light_M l = some false ∨ (intagliolaw17_light_M l = some true ∧ l.length ≤ 60 ∧ ∀ w ∈ l, w.length ≤ 600) := by
  unfold intagliolaw17_light_M
  split
  · exact .inl rfl
  · rename_i h
    simp at h
    refine Exists.elim (loop_meas (body := intagliolaw17_light_L1_P) (fun (x : List (List UInt8) × Int) => ∃ k : Nat, k ≤ l.length ∧ x = (l, (k : Int)) ∧ ∀ w ∈ l.take k, w.length ≤ 600)
      (fun x => l.length - x.2.toNat) (fun (y : Unit ⊕ Bool) => (y = .inl () ∧ ∀ w ∈ l, w.length ≤ 600) ∨ y = .inr false) (s := (l, 0)) ⟨0, Nat.zero_le _, rfl, by simp⟩ (by simp only [Int.toNat_zero]; omega) ?_) ?_
    · rintro x ⟨k, hk, rfl, hn⟩
      simp only [intagliolaw17_light_L1_P, intagliolaw17_light_L1]
      by_cases hlt : k < l.length
      · rw [if_pos (decide_eq_true (by omega)), ix_nat hlt, Option.bind_some]
        by_cases hb : 600 < (l[k]).length
        · right
          rw [if_pos (decide_eq_true (by omega))]
          exact ⟨_, rfl, .inr rfl⟩
        · left
          rw [if_neg (by simp; omega)]
          refine ⟨_, rfl, ⟨k + 1, hlt, by rw [show IntKind.wrap IntKind.i64 ((k : Int) + 1) = ((k + 1 : Nat) : Int) from i64_succ (by omega)], ?_⟩, ?_⟩
          · rw [List.take_succ_eq_append_getElem hlt]
            intro w hw
            rcases List.mem_append.1 hw with hw | hw
            · exact hn w hw
            · rw [List.mem_singleton] at hw; subst hw; omega
          · simp only
            rw [show IntKind.wrap IntKind.i64 ((k : Int) + 1) = ((k + 1 : Nat) : Int) from i64_succ (by omega)]
            simp only [Int.toNat_natCast]; omega
      · right
        obtain rfl : k = l.length := by omega
        rw [if_neg (by simp)]
        rw [List.take_length] at hn
        exact ⟨_, rfl, .inl ⟨rfl, hn⟩⟩
    · rintro q ⟨hq, hh⟩
      rw [hq]
      rcases hh with ⟨rfl, hw⟩ | rfl
      · exact .inr ⟨rfl, by omega, hw⟩
      · exact .inl rfl

theorem same_self (f l st : Int) (nm : List UInt8) (mn mx : Int) (wr od ev : Bool) : intagliolaw17_same_M f l st nm mn mx wr od ev nm mn mx wr f l st od ev = some true := by
  unfold intagliolaw17_same_M
  simp

theorem intagliolaw17_VerbChecks_pure (args : List (List UInt8)) (h : Ty.ok (.slc .str) args) : intagliolaw17_VerbChecks_M args = some true := by
  unfold intagliolaw17_VerbChecks_M
  simp only [intagliolaw17_light_P, intagliolaw17_awake_P, awake_is, Option.bind_some, verb_Check_P, intaglioref17_Check_P, intagliolaw17_same_P, verb_Keys_P, intaglioref17_Keys_P, intaglioref17_Same_P]
  rcases light_is (l := args) with hL | ⟨hL, hn, hw⟩
  · rw [hL, Option.bind_some, if_pos (by decide)]
  · rw [hL, Option.bind_some, if_neg (by decide)]
    obtain ⟨f, l, st, nm, mn, mx, wr, od, ev, e, hv, hr⟩ := check_both hn hw
    obtain ⟨ks, hkv, hkr, hkl⟩ := keys_both hn hw
    rw [hv, hr, Option.bind_some, Option.bind_some]
    simp only
    rw [same_self, Option.bind_some, if_pos rfl, if_pos (by simp), hkv, hkr, Option.bind_some, Option.bind_some, rSame_self (by omega), Option.bind_some, if_pos rfl]
end Go.Proofs.YtekofbmeofhejaaDoor
