/- The laws of chapter 17: what their models answer, whatever comes in. -/
import Derived.Test.YtekofbmeofhejaaDoorFd
import Derived.Test.YtekofbmeofhejaaDoorEd
namespace Go.Proofs.YtekofbmeofhejaaDoor
open Go Go.Lift Go.Lib
set_option maxRecDepth 100000
set_option maxHeartbeats 4000000
set_option linter.unusedVariables false

theorem ok_i64 {n : Int} (h : Ty.ok (.int .i64) n) : I64 n := wf_i64 h

/-! ### The example -/

theorem int007 : verb_Int_M [48, 48, 55] = some (0, false) := by
  refine (verbInt_is (by decide)).2 fun v hv e => ?_
  rcases itoa_cases hv with ⟨u, _, _, _, e2⟩ | ⟨u, _, _, e2⟩
  · rw [e2] at e; exact absurd (List.cons.inj e).1 (by decide)
  · rw [e2] at e
    have h := dec_val u
    rw [← e] at h
    have h7 : u = 7 := h.symm
    rw [h7, decDigits_one (by decide)] at e
    exact absurd (congrArg List.length e) (by decide)
theorem find_get : verb_Find_M [103, 101, 116] = some (1, 1, 1, [71, 69, 84], 2, 2, false, false, false, true) := by kernel_rfl
theorem match_ex : verb_Match_M [104, 91, 97, 45, 99, 93, 63, 42] [104, 98, 120] = some true := by kernel_rfl

theorem awake_is : intagliolaw17_awake_M = some true := by
  unfold intagliolaw17_awake_M
  simp only [verb_Int_P, verb_Find_P, verb_Match_P]
  rw [int007, Option.bind_some, find_get, Option.bind_some, match_ex, Option.bind_some]
  rfl

/-! ### The laws -/

theorem intagliolaw17_VerbSpecs_pure (s : List UInt8) (hs : Ty.ok .str s) : intagliolaw17_VerbSpecs_M s = some true := by
  unfold intagliolaw17_VerbSpecs_M
  simp only [intagliolaw17_awake_P, awake_is, Option.bind_some, verb_Find_P, intaglioref17_Find_P, intagliolaw17_same_P, verb_Upper_P, intaglioref17_Upper_P]
  split
  · rfl
  · rename_i hl
    simp at hl
    have hl : s.length ≤ 1000000 := by omega
    have fin : (Option.bind (verb_Upper_M s) fun (v4 : List UInt8) => Option.bind (intaglioref17_Upper_M s) fun (v5 : List UInt8) => if (v4 == v5) = true then some true else some false) = some true := by
      rw [vUpper_is hl, Option.bind_some, rUpper_is hl, Option.bind_some, if_pos (by simp)]
    by_cases hn : ∀ n ∈ names, (upS s == n) = false
    · rw [vFind_no hl hn, Option.bind_some, rFind_no hl hn, Option.bind_some, if_pos (by decide)]
      rw [show intagliolaw17_same_M _ _ _ _ _ _ _ _ _ _ _ _ _ _ _ _ _ _ = some true from rfl, Option.bind_some, if_pos rfl]
      exact fin
    · simp only [Classical.not_forall] at hn
      obtain ⟨n, hm, hne⟩ := hn
      have he : upS s = n := by
        cases hb : (upS s == n) with
        | true => exact eq_of_beq hb
        | false => exact absurd hb hne
      have hc := List.all_eq_true.1 chk_all n hm
      unfold chk at hc
      split at hc
      · rename_i a b ha hb
        simp only [Bool.and_eq_true] at hc
        obtain ⟨⟨h1, h2⟩, h3⟩ := hc
        have hu : upS (upS s) = upS s := by rw [he]; exact eq_of_beq h1
        rw [vFind_up hl hu, rFind_up hl hu, he, ha, hb, Option.bind_some, Option.bind_some, if_pos h2]
        rw [eq_of_beq h3, Option.bind_some, if_pos rfl]
        exact fin
      · cases hc

theorem intagliolaw17_VerbInts_pure (s : List UInt8) (hs : Ty.ok .str s) : intagliolaw17_VerbInts_M s = some true := by
  unfold intagliolaw17_VerbInts_M
  simp only [intagliolaw17_awake_P, awake_is, Option.bind_some, verb_Int_P, intaglioref17_Int_P]
  split
  · rfl
  · rename_i hl
    simp at hl
    obtain ⟨a1, a2⟩ := verbInt_is (s := s) (by omega)
    obtain ⟨b1, b2⟩ := rInt_is (s := s) (by omega)
    by_cases h : ∃ v, I64 v ∧ s = itoa v
    · obtain ⟨v, hv, e⟩ := h
      rw [a1 v hv e, b1 v hv e, Option.bind_some, Option.bind_some, if_pos (by simp), if_pos (by simp)]
    · have h : ∀ v, I64 v → s ≠ itoa v := fun v hv e => h ⟨v, hv, e⟩
      rw [a2 h, b2 h, Option.bind_some, Option.bind_some, if_pos (by simp), if_pos (by simp)]

theorem intagliolaw17_VerbNumbers_pure (n : Int) (hn : Ty.ok (.int .i64) n) : intagliolaw17_VerbNumbers_M n = some true := by
  have hn := ok_i64 hn
  unfold intagliolaw17_VerbNumbers_M
  simp only [intagliolaw17_awake_P, awake_is, Option.bind_some, verb_Int_P, verb_Text_P, intaglioref17_Text_P]
  rw [verbText_is hn, Option.bind_some, (verbInt_is (by have := itoa_length_le n hn.1 hn.2; omega)).1 n hn rfl, Option.bind_some, rText_is hn, Option.bind_some, if_pos (by simp), if_pos rfl, if_pos (by simp)]
end Go.Proofs.YtekofbmeofhejaaDoor
