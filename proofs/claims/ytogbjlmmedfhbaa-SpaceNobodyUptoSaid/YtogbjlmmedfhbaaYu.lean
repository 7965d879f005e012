/- What a law's argument is, where each text and each slice is at most B long (a bound on all that is read together). -/
import Derived.Test.YtogbjlmmedfhbaaEd
namespace Go.Lift
open Go
set_option linter.unusedVariables false

/-- Within their kinds' bounds, and no longer than B. -/
def Ty.okN (B : Nat) : (t : Ty) → t.den → Prop
  | .int k, x => (Lit.int k x).wf = true
  | .bool, _ => True
  | .err, _ => True
  | .nd, _ => True
  | .any, _ => True
  | .rep, x => Rep.ok x
  | .pt _, _ => True
  | .str, x => List.length x ≤ B
  | .unit, _ => True
  | .pair a b, x => a.okN B x.1 ∧ b.okN B x.2
  | .arr _ t, x => ∀ y, List.Mem y x.1 → t.okN B y
  | .slc t, x => List.length x ≤ B ∧ ∀ y, List.Mem y x → t.okN B y

/-- A bound on readings that its parts keep. -/
structure BndN {H : Type} (B : Nat) (Q : DataW H → Prop) : Prop where
  s : ∀ b, Q (.lit (.string b)) → b.length ≤ B
  l : ∀ e r, Q (.slice e r) → e.length ≤ B ∧ ∀ d ∈ e, Q d
  g : ∀ p, Q (.agg p) → ∀ d ∈ p, Q d

section
variable {B : Nat} {H : Type} {Q : DataW H → Prop} {enc : TypeId × Value → H} {P : Program} {W : World} {held : Bool}

theorem flds_openN {r : TypeId → Ty → Bool} {cs : List Value} {m : Nat} (hr : ∀ t T x cs, r t T = true → DataW.trod enc P W 0 (fun _ => true) held m t cs = some x → Q x.1 → ∃ y, T.holds (allZ W) y cs ∧ T.okN B y) :
    ∀ (fs : List Field) (off : Nat) (T : Ty), fldB P r fs off T = true → cs.length = off + T.sz →
      (∀ f ∈ fs, ∃ x, DataW.trod enc P W 0 (fun _ => true) held m f.type ((cs.drop f.offset).take (P.cellsOf f.type)) = some x ∧ Q x.1) → ∃ y, T.holds (allZ W) y (cs.drop off) ∧ T.okN B y
  | [], off, T, h, hl, _ => by
    cases T <;> simp only [fldB] at h <;> try cases h
    refine ⟨(), ?_, trivial⟩
    show cs.drop off = []
    exact List.drop_of_length_le (by rw [hl]; exact Nat.le_refl _)
  | f :: fs, off, T, h, hl, hx => by
    cases T with
    | pair a b =>
      simp only [fldB, Bool.and_eq_true] at h
      obtain ⟨⟨⟨h1, h2⟩, h3⟩, h4⟩ := h
      have e1 := Nat.eq_of_beq_eq_true h1
      have e2 := Nat.eq_of_beq_eq_true h2
      obtain ⟨x, hx0, hz⟩ := hx f (by simp)
      rw [e1, e2] at hx0
      obtain ⟨y, hy, oy⟩ := hr _ _ _ _ h3 hx0 hz
      obtain ⟨q, hq, oq⟩ := flds_openN hr fs (off + a.sz) b h4 (by rw [hl]; exact (Nat.add_assoc _ _ _).symm) fun g hg => hx g (by simp [hg])
      refine ⟨(y, q), ⟨_, _, ?_, hy, hq⟩, oy, oq⟩
      rw [← List.drop_drop, List.take_append_drop]
    | _ => simp only [fldB] at h; cases h

theorem open_tn (hB : BndN B Q) : ∀ (n : Nat) (t : TypeId) (T : Ty) (m : Nat) (x : DataW H × List MemPlace) (cs : List Value), tyS P n t T = true → DataW.trod enc P W 0 (fun _ => true) held m t cs = some x → Q x.1 → ∃ y, T.holds (allZ W) y cs ∧ T.okN B y
  | 0, _, _, _, _, _, h, _, _ => by simp [tyS] at h
  | n + 1, t, T, m, x, cs, h, hd, hz => by
    unfold tyS at h
    split at h
    · rename_i k k' hu
      rw [kind_of_beq h] at hu
      obtain ⟨i, rfl, _, hw⟩ := DataW.trod_int hu hd
      exact ⟨i, rfl, hw⟩
    · rename_i hu
      obtain ⟨b, rfl, _⟩ := DataW.trod_bool hu hd
      exact ⟨b, rfl, trivial⟩
    · rename_i hu
      obtain ⟨s, rfl, rfl, hs⟩ := DataW.trod_string hu hd
      exact ⟨s.data.toList, rfl, hB.s _ hz⟩
    · rename_i e E hu
      simp only [Bool.and_eq_true] at h
      obtain ⟨⟨h1, h2⟩, h3⟩ := h
      have hsz := Nat.eq_of_beq_eq_true h2
      have hby := Nat.le_of_ble_eq_true h3
      rcases DataW.trod_slice hu hd with ⟨rfl, _⟩ | ⟨a, len, cap, elems, rest, k, _, rfl, rfl, _, hlc, hcm, hel, hE, _, _⟩
      · exact ⟨[], ⟨none, 0, [], rfl, Nat.le_refl _, Els.nil, .inl ⟨rfl, rfl⟩⟩, Nat.zero_le _, fun y hy => by cases hy⟩
      · obtain ⟨hz1, hz2⟩ := hB.l _ _ hz
        have hlen : elems.length ≤ B := by simpa using hz1
        have key : ∀ i, i < len → ∃ y, (∃ c, W.cells? 0 (a.add (i * E.sz)) E.sz = some c ∧ E.holds (allZ W) y c) ∧ E.okN B y := by
          intro i hi
          have hi' := hE i hi
          rw [List.getElem?_eq_getElem (by omega), hsz] at hi'
          obtain ⟨c, hc, hc'⟩ := Option.bind_eq_some_iff.1 hi'
          obtain ⟨y, h5, h6⟩ := open_tn hB n e E k _ c h1 hc' (hz2 _ (List.mem_map.2 ⟨_, List.getElem_mem (by omega), rfl⟩))
          exact ⟨y, ⟨c, hc, h5⟩, h6⟩
        obtain ⟨l, hl, hp⟩ := list_of key
        obtain ⟨ch, h5, h6⟩ := els_zone (t := E) (z := allZ W) (a := a) l fun j y hj => by
          obtain ⟨⟨c, hc, hh⟩, _⟩ := hp j y hj
          obtain ⟨c', rfl⟩ := Ty.holds_chunk hh
          refine ⟨c', hh, fun i u hu => cellAt_old ?_⟩
          obtain ⟨_, hlen, hget⟩ := World.cells?_some hc
          rw [hget i (by rw [← hlen]; exact (List.getElem?_eq_some_iff.1 hu).1)]
          exact hu
        refine ⟨l, ⟨some a, cap, ch, by rw [hl], by rw [hl]; exact hlc, h5, .inr ⟨a, rfl, h6⟩⟩, ?_, fun y hy => ?_⟩
        · show List.length l ≤ B
          rw [hl]; omega
        · obtain ⟨i, hi⟩ := List.mem_iff_getElem?.1 (show y ∈ (l : List E.den) from hy)
          exact (hp i y hi).2
    · rename_i fs hu
      simp only [Bool.and_eq_true] at h
      have hsz := Nat.eq_of_beq_eq_true h.1
      obtain ⟨xs, j, _, rfl, hlen, hxl, hx⟩ := DataW.trod_struct hu hd
      have hz2 := hB.g _ hz
      have := flds_openN (enc := enc) (held := held) (W := W) (P := P) (r := tyS P n) (cs := cs) (m := j) (fun t T x cs => open_tn hB n t T j x cs) fs.toList 0 _ h.2 (by omega) fun f hf => by
        obtain ⟨i, hi⟩ := List.mem_iff_getElem?.1 hf
        have hi' : fs[i]? = some f := by simpa using hi
        have hlt := (Array.getElem?_eq_some_iff.1 hi').1
        rw [hx i f hi', List.getElem?_eq_getElem (by omega)]
        exact ⟨_, rfl, hz2 _ (List.mem_map.2 ⟨_, List.getElem_mem (by omega), rfl⟩)⟩
      simpa using this
    · cases h

theorem opn_dat (hB : BndN B Q) {n : Nat} {t : TypeId} {T : Ty} {v : Value} {d : DataW H} {ps : List MemPlace} (h : tyS P n t T = true) (hagg : T.agg = false) (hone : ∃ u, v.cells = #[u] ∧ v = u) (hd : DataW.Trod enc P W 0 (fun _ => true) held t v d ps) (hz : Q d) :
    ∃ x, (AV.vl false [.dat T x]).at noρ (allZ W) 0 v ∧ T.okN B x := by
  obtain ⟨m, hm⟩ := hd
  obtain ⟨y, h1, h2⟩ := open_tn hB n t T m _ _ h hm hz
  obtain ⟨u, e1, rfl⟩ := hone
  rw [e1] at h1
  exact ⟨y, Cmp.one h1, h2⟩
theorem opn_agg (hB : BndN B Q) {n : Nat} {t : TypeId} {T : Ty} {v : Value} {d : DataW H} {ps : List MemPlace} (h : tyS P n t T = true) (ht : ∃ cs, v = .agg cs) (hd : DataW.Trod enc P W 0 (fun _ => true) held t v d ps) (hz : Q d) :
    ∃ x, (AV.vl true [.dat T x]).at noρ (allZ W) 0 v ∧ T.okN B x := by
  obtain ⟨m, hm⟩ := hd
  obtain ⟨cs, rfl⟩ := ht
  obtain ⟨y, h1, h2⟩ := open_tn hB n t T m _ _ h hm hz
  refine ⟨y, ⟨cs.toList, ⟨cs.toList, [], (List.append_nil _).symm, h1, rfl⟩, by simp⟩, h2⟩
end
end Go.Lift
