/- The ids' law, in plain words. -/
import Derived.Test.YtcpddgjmopdlbaaMKeysIds
import Derived.Test.YtcpddgjmopdlbaaNums
namespace Go.Proofs.Ytcpddgjmopdlbaa
open Go Go.Lift
set_option maxRecDepth 100000
set_option maxHeartbeats 4000000
set_option linter.unusedVariables false

theorem awake_is' : intagliolaw07_awake_M = some true := by kernel_rfl

def inR (x : Int) : Prop := 0 ≤ x ∧ x ≤ 1099511627776
def Good (a b c d e f : Int) : Prop := 1 ≤ a ∧ a ≤ 6 ∧ inR b ∧ inR c ∧ inR d ∧ inR f ∧ 0 ≤ e ∧ e ≤ 1
instance (x : Int) : Decidable (inR x) := by unfold inR; exact inferInstance
instance (a b c d e f : Int) : Decidable (Good a b c d e f) := by unfold Good; exact inferInstance

theorem in_is (x : Int) : intaglioref07_in_M x = some (decide (inR x)) := by
  unfold intaglioref07_in_M
  by_cases h : x ≥ 0
  · rw [if_pos (by simpa using h)]
    have e : inR x ↔ x ≤ 1099511627776 := ⟨fun hh => hh.2, fun hh => ⟨h, hh⟩⟩
    simp only [e]
  · rw [if_neg (by simpa using h), decide_eq_false (fun hh : inR x => h hh.1)]

theorem refValid_is (a b c d e f : Int) : intaglioref07_Valid_M a b c d e f = some (decide (Good a b c d e f)) := by
  unfold intaglioref07_Valid_M intaglioref07_Valid_J1 Good
  simp only [in_is, Option.bind_some]
  by_cases h1 : 1 ≤ a
  · by_cases h2 : a ≤ 6
    · by_cases h3 : inR b
      · by_cases h4 : inR c
        · by_cases h5 : inR d
          · by_cases h6 : inR f
            · by_cases h7 : e = 0
              · simp [h1, h2, h3, h4, h5, h6, h7]
              · by_cases h8 : e = 1
                · simp [h1, h2, h3, h4, h5, h6, h8]
                · have : ¬ (0 ≤ e ∧ e ≤ 1) := by omega
                  simp [h1, h2, h3, h4, h5, h6, h7, h8]
                  have e1 : (e == 1) = false := beq_eq_false_iff_ne.2 h8
                  have e2 : (decide (0 ≤ e) && decide (e ≤ 1)) = false := by
                    rw [Bool.and_eq_false_iff]
                    rcases Int.lt_or_le e 0 with hh | hh
                    · exact .inl (decide_eq_false (by omega))
                    · exact .inr (decide_eq_false (by omega))
                  rw [e1, e2]
            · simp [h1, h2, h3, h4, h5, h6]
          · simp [h1, h2, h3, h4, h5]
        · simp [h1, h2, h3, h4]
      · simp [h1, h2, h3]
    · simp [h1, h2]
  · simp [h1]

theorem valid_loop (a b c d e f : Int) : ∃ r, loop (fun (s : Int) => keys_Valid_L1 a b c d e f s) 0 = some r ∧ ((r = .inl () ∧ ∀ y ∈ [a, b, c, d, e, f], inR y) ∨ (r = .inr false ∧ ¬ ∀ y ∈ [a, b, c, d, e, f], inR y)) := by
  refine loop_meas (fun s => ∃ i : Nat, i ≤ 6 ∧ s = (i : Int) ∧ ∀ y ∈ [a, b, c, d, e, f].take i, inR y) (fun s => 6 - s.toNat) _ ⟨0, by omega, rfl, by simp⟩ (by omega) ?_
  rintro _ ⟨i, hi, rfl, h⟩
  unfold keys_Valid_L1
  by_cases hi' : i < 6
  · rw [if_pos (by simp; omega)]
    have hl : i < [a, b, c, d, e, f].length := hi'
    simp only [ix_nat hl, Option.bind_some]
    have hmem := List.getElem_mem hl
    generalize hg : [a, b, c, d, e, f][i] = y at *
    by_cases h0 : y < 0
    · exact .inr ⟨_, by rw [if_pos (by simpa using h0)], .inr ⟨rfl, fun hall => by have := (hall y hmem).1; omega⟩⟩
    · by_cases h1 : y > 1099511627776
      · exact .inr ⟨_, by rw [if_neg (by simpa using h0), if_pos (by simpa using h1)], .inr ⟨rfl, fun hall => by have := (hall y hmem).2; omega⟩⟩
      · refine .inl ⟨((i + 1 : Nat) : Int), ?_, ⟨i + 1, by omega, rfl, ?_⟩, by omega⟩
        · rw [if_neg (by simpa using h0), if_neg (by simpa using h1), i64_id (by omega) (by omega)]; rfl
        · rw [List.take_succ_eq_append_getElem hl, hg]
          intro z hz
          rcases List.mem_append.1 hz with hz | hz
          · exact h z hz
          · simp at hz; subst hz; exact ⟨by omega, by omega⟩
  · have : i = 6 := by omega
    subst this
    exact .inr ⟨_, by rw [if_neg (by simp)], .inl ⟨rfl, h⟩⟩

theorem valid_is (a b c d e f : Int) : keys_Valid_M a b c d e f = some (decide (Good a b c d e f)) := by
  unfold keys_Valid_M keys_numbers_M
  simp only [Option.bind_some]
  obtain ⟨r, hr, hq⟩ := valid_loop a b c d e f
  rw [hr]
  simp only [Option.bind_some]
  rcases hq with ⟨rfl, h⟩ | ⟨rfl, h⟩
  · simp only [List.mem_cons, List.not_mem_nil, or_false, forall_eq_or_imp, forall_eq] at h
    obtain ⟨ha, hb, hc, hd, he, hf⟩ := h
    unfold keys_Valid_J1
    by_cases h1 : 1 ≤ a
    · by_cases h2 : a ≤ 6
      · by_cases h3 : e ≤ 1
        · have : Good a b c d e f := ⟨h1, h2, hb, hc, hd, hf, he.1, h3⟩
          simp [h1, h2, h3, this]
        · have : ¬ Good a b c d e f := fun hg => h3 hg.2.2.2.2.2.2.2
          simp [h1, h2, h3, this]
      · have : ¬ Good a b c d e f := fun hg => h2 hg.2.1
        simp [h1, h2, this]
    · have : ¬ Good a b c d e f := fun hg => h1 hg.1
      simp [h1, this]
  · have : ¬ Good a b c d e f := fun hg => h (by
      simp only [List.mem_cons, List.not_mem_nil, or_false, forall_eq_or_imp, forall_eq]
      obtain ⟨h1, h2, h3, h4, h5, h6, h7, h8⟩ := hg
      exact ⟨⟨by omega, by omega⟩, h3, h4, h5, ⟨by omega, by omega⟩, h6⟩)
    simp [this]

def idBytes (a b c d e f : Int) : List Int := be8 a ++ be8 b ++ be8 c ++ be8 d ++ be8 e ++ be8 f

theorem pn {l : List Int} {x : Int} (h : l.length ≤ 1000) (hx : inR x) : pack_PutNum_M l x = some (l ++ be8 x) := by
  have := hx.1; have := hx.2
  rw [putNum x (by omega) (by omega), if_neg (by omega)]
theorem rpn {l : List Int} {x : Int} (h : l.length ≤ 1000) (hx : inR x) : intaglioref01_PutNum_M l x = some (l ++ be8 x) := by
  have := hx.1; have := hx.2
  rw [rputNum (by omega) (by omega), if_neg (by omega)]

theorem bytes_is {a b c d e f : Int} : keys_Bytes_M a b c d e f = some (if Good a b c d e f then idBytes a b c d e f else []) := by
  unfold keys_Bytes_M
  rw [valid_is]
  simp only [Option.bind_some]
  by_cases hg : Good a b c d e f
  · rw [if_pos hg, if_neg (by simp [hg])]
    obtain ⟨h1, h2, h3, h4, h5, h6, h7, h8⟩ := hg
    have ha : inR a := ⟨by omega, by omega⟩
    have he : inR e := ⟨by omega, by omega⟩
    unfold keys_numbers_M
    simp only [Option.bind_some]
    rw [loop_few (r := idBytes a b c d e f) 7 (by decide) ?_]
    · rfl
    · simp (disch := first | assumption | (simp [be8]; done)) [iter, keys_Bytes_L1, ix_ok, IntKind.wrap_i64, pn, idBytes]
  · rw [if_neg hg, if_pos (by simp [hg])]
theorem refBytes_is {a b c d e f : Int} : intaglioref07_Bytes_M a b c d e f = some (if Good a b c d e f then idBytes a b c d e f else []) := by
  unfold intaglioref07_Bytes_M
  rw [refValid_is]
  simp only [Option.bind_some]
  by_cases hg : Good a b c d e f
  · rw [if_pos hg, if_neg (by simp [hg])]
    obtain ⟨h1, h2, h3, h4, h5, h6, h7, h8⟩ := hg
    have ha : inR a := ⟨by omega, by omega⟩
    have he : inR e := ⟨by omega, by omega⟩
    simp (disch := first | assumption | (simp [be8]; done)) [rpn, idBytes]
  · rw [if_neg hg, if_pos (by simp [hg])]

theorem intagliolaw07_KeysIds_pure (a b c d e f : Int) : intagliolaw07_KeysIds_M a b c d e f = some true := by
  unfold intagliolaw07_KeysIds_M
  rw [valid_is, refValid_is]
  simp only [Option.bind_some, beq_self_eq_true, if_true]
  rw [bytes_is, refBytes_is]
  simp only [Option.bind_some, equal_self, if_true, awake_is']
end Go.Proofs.Ytcpddgjmopdlbaa
