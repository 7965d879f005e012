/- Regions that draw their order: the first operations are quiet (each yields one value in every world of a class), the others wait for all before them. -/
import Derived.Test.YtcpddgjmopdlbaaMore
import Derived.StillTail
namespace Go.Lift
open Go

section
variable {P : Program} {Q : Exit → Act → World → Prop}

/-- What operation k waits for. -/
def waits (o : Oper) (j : Nat) : Bool := o.after.any fun e => Region.binds .any e && e.on == j

def seesB (l : List Oper) (m : Nat) (o : Oper) : Bool :=
  (o.looksAt l.toArray).all fun t => (List.range m).all fun j => match (l[j]?).bind (·.dst) with
    | some d => d != t || waits o j
    | none => true

def drawB (l : List Oper) (m : Nat) : Bool :=
  decide (m ≤ l.length) && Region.noSelect l.toArray
  && ((List.range m).all fun k => match l[k]? with
    | some o => seesB l m o && o.after.all fun e => !Region.binds .any e || decide (e.on < k)
    | none => false)
  && (decide (m = l.length) || ((List.range m).all fun j => (List.range (m + 1)).any fun k => decide (j < k) && match l[k]? with
    | some o => waits o j
    | none => false))
  && ((List.range l.length).all fun i => decide (i ≤ m) || match l[i]? with
    | some o => o.after.any fun e => Region.binds .any e && decide (m ≤ e.on) && decide (e.on < l.length)
    | none => true)
  && Region.seqB .any l.toArray (l.length - m) m (List.replicate m true ++ List.replicate (l.length - m) false).toArray

theorem waits_spec {o : Oper} {j : Nat} (h : waits o j = true) : ∃ e ∈ o.after, Region.binds .any e = true ∧ e.on = j := by
  unfold waits at h
  rw [Array.any_eq_true'] at h
  obtain ⟨e, he, h⟩ := h
  simp only [Bool.and_eq_true, beq_iff_eq] at h
  exact ⟨e, he, h.1, h.2⟩

def cnt (L : Nat → Bool) : Nat → Nat
  | 0 => 0
  | m + 1 => cnt L m + (if L m then 0 else 1)

theorem cnt_congr {L L' : Nat → Bool} : ∀ m, (∀ j, j < m → L' j = L j) → cnt L' m = cnt L m
  | 0, _ => rfl
  | m + 1, h => by simp only [cnt, cnt_congr m (fun j hj => h j (by omega)), h m (by omega)]

theorem cnt_set {L L' : Nat → Bool} {i : Nat} : ∀ m, i < m → L i = false → L' i = true → (∀ j, j ≠ i → L' j = L j) → cnt L' m + 1 = cnt L m
  | 0, h, _, _, _ => by omega
  | m + 1, h, h0, h1, h2 => by
    simp only [cnt]
    by_cases e : i = m
    · subst e
      rw [cnt_congr i (fun j hj => h2 j (by omega)), h0, h1]; simp
    · have := cnt_set m (by omega) h0 h1 h2
      rw [h2 m (fun h => e h.symm)]; omega

theorem cnt_zero {L : Nat → Bool} : ∀ m, cnt L m = 0 → ∀ j, j < m → L j = true
  | 0, _, _, hj => by omega
  | m + 1, h, j, hj => by
    simp only [cnt] at h
    by_cases e : j = m
    · subst e
      cases hL : L j with
      | true => rfl
      | false => simp [hL] at h
    · exact cnt_zero m (by omega) j (by omega)

theorem cnt_pos {L : Nat → Bool} : ∀ m, cnt L m ≠ 0 → ∃ j, j < m ∧ L j = false ∧ ∀ i, i < j → L i = true
  | 0, h => absurd rfl h
  | m + 1, h => by
    by_cases e : cnt L m = 0
    · refine ⟨m, by omega, ?_, fun i hi => cnt_zero m e i hi⟩
      cases hL : L m with
      | false => rfl
      | true => simp [cnt, e, hL] at h
    · obtain ⟨j, hj, h0, h1⟩ := cnt_pos m e
      exact ⟨j, by omega, h0, h1⟩

theorem wpAny_more {md : Region.Mode} {ops : Array Oper} : ∀ (f : Nat) (listed : Array Bool) (a : Act) (w : World), wpAny P md ops Q f listed a w → wpAny P md ops Q (f + 1) listed a w
  | 0, listed, a, w, h => ⟨fun _ => h.2, fun i hi => by rw [h.1] at hi; cases hi⟩
  | f + 1, listed, a, w, h => ⟨h.1, fun i hi => wpOp_mono (fun a' w' h' => wpAny_more f _ a' w' h') (h.2 i hi)⟩

/-- The frame with this of the first operations done. -/
structure Mixed (l : List Oper) (m : Nat) (l0 ls : List Value) (listed : Array Bool) (a : Act) : Prop where
  df : a.defers = []
  sz : a.tmps.size = ls.length
  off : ∀ t, (∀ k o, k < m → listed.getD k true = true → l[k]? = some o → o.dst ≠ some t) → a.tmps[t]? = l0[t]?
  on : ∀ k o t, k < m → listed.getD k true = true → l[k]? = some o → o.dst = some t → a.tmps[t]? = ls[t]?

/-- What is asked of a quiet operation, at the frame in which all values stand. -/
def Qv (C : World → Prop) (ls : List Value) : Exit → Act → World → Prop := fun e a w => e = .normal ∧ a = Fr ls ∧ C w

theorem not_lets {C : World → Prop} {ls : List Value} : ¬ LetsOut (Qv C ls) := fun ⟨_, _, h⟩ => by cases h.1

theorem set_same {ls : List Value} {t : Nat} {v : Value} (h : ls.set t v = ls) (ht : t < ls.length) : ls[t]? = some v := by
  rw [← h, List.getElem?_set_self ht]

/-- A quiet operation, at a frame that agrees where it looks. -/
theorem quiet_op {ops : Array Oper} {C : World → Prop} {ls : List Value} {o : Oper} {a : Act} {w : World} {K : Act → World → Prop} (hs : ∀ cs b, o.op ≠ .select cs b)
    (hev : ∀ x ∈ o.op.operands, a.eval x = (Fr ls).eval x) (hwn : Region.wanted o (yielded ops a.tmps) = Region.wanted o (yielded ops (Fr ls).tmps))
    (hq : WL P ops (Qv C ls) [o] (Fr ls) w)
    (hK : ∀ v w', dstSet o.dst ls v = ls → C w' → K (a.put o.dst v) w') :
    if Region.wanted o (yielded ops a.tmps) then o.wp P a w K Q ∨ (o.asks P a w ∧ LetsOut Q) else K (a.put o.dst undef) w := by
  have hf : ∀ v, (Fr ls).put o.dst v = Fr ls → dstSet o.dst ls v = ls := fun v hv => by
    rw [Fr.put_dst] at hv
    have := congrArg Act.tmps hv
    simpa using this
  have h := hq.out
  unfold wpList at h
  rw [hwn]
  split at h
  · rename_i hw
    rw [if_pos hw]
    refine .inl ?_
    have h := h.resolve_right fun h => not_lets h.2
    unfold Oper.wp at h ⊢
    rw [execOp_congr o hs hev]
    generalize (execOp (Fr ls).eval o).run P w = r at h ⊢
    cases r with
    | ok n w' =>
      cases n with
      | value u => exact hK _ _ (hf _ h.2.1) h.2.2
      | skip => exact hK _ _ (hf _ h.2.1) h.2.2
      | enter f args =>
        refine Calls.mono h fun e w'' he => ?_
        cases e with
        | returned v => exact hK _ _ (hf _ he.2.1) he.2.2
        | panicked c => cases he.1
        | outgrown => exact (not_lets he).elim
      | row nm args => exact Rows.mono h fun v w'' he => hK _ _ (hf _ he.2.1) he.2.2
      | defer d =>
        simp only [Oper.upon] at h
        have h2 := congrArg Act.defers h.2.1
        cases hd : o.dst with
        | none => rw [hd] at h2; simp [Act.put] at h2
        | some t => rw [hd] at h2; simp [Act.put] at h2
      | _ => exact h.elim
    | halt x w' =>
      cases x with
      | panic v => cases h.1
      | _ => exact h.elim
  · rename_i hw
    rw [if_neg hw]
    exact hK _ _ (hf _ h.2.1) h.2.2

/-- The operations ahead, one after the other. -/
inductive Heads (P : Program) (ops : Array Oper) (C : World → Prop) (ls : List Value) : List Oper → Prop
  | nil : Heads P ops C ls []
  | cons {o : Oper} {os : List Oper} : (∀ w, C w → WL P ops (Qv C ls) [o] (Fr ls) w) → Heads P ops C ls os → Heads P ops C ls (o :: os)

theorem Heads.pure {ops : Array Oper} {C : World → Prop} {ls : List Value} {o : Oper} {os : List Oper} (h : pstep P ops o ls = some ls) (t : Heads P ops C ls os) : Heads P ops C ls (o :: os) :=
  .cons (fun _ hC => pstep_wp h (wl_nil ⟨rfl, rfl, hC⟩)) t

theorem Heads.get {ops : Array Oper} {C : World → Prop} {ls : List Value} : ∀ {os : List Oper}, Heads P ops C ls os → ∀ (k : Nat) (o : Oper), os[k]? = some o → ∀ w, C w → WL P ops (Qv C ls) [o] (Fr ls) w
  | _, .nil, k, o, h => by simp at h
  | _, .cons h t, 0, o, e => by simp at e; subst e; exact h
  | _, .cons h t, k + 1, o, e => by simp at e; exact t.get k o e

def fill1 (ls l : List Value) (o : Oper) : List Value := match o.dst with
  | some d => l.set d (ls.getD d undef)
  | none => l

def fillAll (os : List Oper) (ls l : List Value) : List Value := match os with
  | [] => l
  | o :: os => fillAll os ls (fill1 ls l o)

theorem fillAll_len (ls : List Value) : ∀ (os : List Oper) (l : List Value), (fillAll os ls l).length = l.length
  | [], l => rfl
  | o :: os, l => by
    unfold fillAll
    rw [fillAll_len]
    unfold fill1
    split <;> simp

theorem fillAll_off {ls : List Value} {t : Nat} : ∀ (os : List Oper) (l : List Value), (∀ o ∈ os, o.dst ≠ some t) → (fillAll os ls l)[t]? = l[t]?
  | [], l, _ => rfl
  | o :: os, l, h => by
    unfold fillAll
    rw [fillAll_off os _ fun o' ho' => h o' (List.mem_cons_of_mem _ ho')]
    unfold fill1
    split
    · rename_i d hd
      rw [List.getElem?_set_ne]
      intro e; subst e; exact h o List.mem_cons_self hd
    · rfl

end

section
variable {P : Program} {Q : Exit → Act → World → Prop} {l : List Oper} {m : Nat} {l0 ls : List Value} {C : World → Prop}

theorem mixed_eval {listed : Array Bool} {a : Act} {o : Oper} (hm : Mixed l m l0 ls listed a) (hoff : ∀ t : Nat, (∀ (k : Nat) (o : Oper), k < m → l[k]? = some o → o.dst ≠ some t) → ls[t]? = l0[t]?)
    (hsee : seesB l m o = true) (hdone : ∀ j, j < m → waits o j = true → listed.getD j true = true) :
    ∀ t ∈ o.looksAt l.toArray, a.tmps[t]? = ls[t]? := by
  intro t ht
  unfold seesB at hsee
  have h1 := List.all_eq_true.1 hsee t ht
  rw [List.all_eq_true] at h1
  by_cases hex : ∃ k o', k < m ∧ l[k]? = some o' ∧ o'.dst = some t
  · obtain ⟨k, o', hk, ho', hd⟩ := hex
    have h2 := h1 k (List.mem_range.2 hk)
    rw [ho'] at h2
    simp only [Option.bind_some, hd, Bool.or_eq_true, bne_self_eq_false, Bool.false_eq_true, false_or] at h2
    exact hm.on k o' t hk (hdone k hk h2) ho' hd
  · rw [hoff t fun k o' hk ho' hd => hex ⟨k, o', hk, ho', hd⟩]
    exact hm.off t fun k o' hk _ ho' hd => hex ⟨k, o', hk, ho', hd⟩

theorem eval_of_tmps {a : Act} {x : Operand} (h : ∀ t, x = .tmp t → a.tmps[t]? = ls[t]?) : a.eval x = (Fr ls).eval x := by
  cases x with
  | tmp t =>
    have := h t rfl
    simp only [Act.eval, Array.getD_eq_getD_getElem?, List.getElem?_toArray]; rw [this]
  | _ => rfl


theorem looks_tmp {ops : Array Oper} {o : Oper} {t : Tmp} (h : .tmp t ∈ o.op.operands) : t ∈ o.looksAt ops := by
  unfold Oper.looksAt
  refine List.mem_append_left _ (List.mem_filterMap.2 ⟨.tmp t, by simpa using h, rfl⟩)

theorem wanted_of_tmps {ops : Array Oper} {o : Oper} {a : Act} (h : ∀ t ∈ o.looksAt ops, a.tmps[t]? = ls[t]?) :
    Region.wanted o (yielded ops a.tmps) = Region.wanted o (yielded ops (Fr ls).tmps) := by
  cases hg : o.guard with
  | none => unfold Region.wanted; rw [hg]
  | some g =>
    obtain ⟨g, b⟩ := g
    have e : yielded ops a.tmps g = yielded ops (Fr ls).tmps g := by
      unfold yielded
      cases ht : (ops[g]?).bind (·.dst) with
      | none => rfl
      | some t =>
        have := h t (by unfold Oper.looksAt; rw [hg]; simp [ht])
        simp only [Option.bind_some, List.getElem?_toArray]
        rw [this]
    unfold Region.wanted
    rw [hg]
    simp only [e]

theorem mixed_core (hB : drawB l m = true) (hlen : ls.length = l0.length) (hoff : ∀ t : Nat, (∀ (k : Nat) (o : Oper), k < m → l[k]? = some o → o.dst ≠ some t) → ls[t]? = l0[t]?)
    (heads : Heads P l.toArray C ls (l.take m)) (tail : ∀ w, C w → WL P l.toArray Q (l.drop m) (Fr ls) w) :
    ∀ (u : Nat) (listed : Array Bool) (a : Act) (w : World), C w → Mixed l m l0 ls listed a → listed.size = l.length →
      (∀ (k : Nat) (o : Oper), k < m → listed.getD k true = true → l[k]? = some o → ∀ e ∈ o.after, Region.binds .any e = true → listed.getD e.on true = true) →
      (∀ k, m ≤ k → k < l.length → listed.getD k true = false) → cnt (fun k => listed.getD k true) m = u →
      wpAny P .any l.toArray Q (u + (l.length - m)) listed a w := by
  unfold drawB at hB
  simp only [Bool.and_eq_true, decide_eq_true_eq, List.all_eq_true, List.mem_range, Bool.or_eq_true, List.any_eq_true] at hB
  obtain ⟨⟨⟨⟨⟨hml, hsel⟩, hhead⟩, hcov⟩, htl⟩, hseq⟩ := hB
  intro u
  induction u with
  | zero =>
    intro listed a w hC hM hsz hcl hno hcnt
    have hall := cnt_zero m hcnt
    have hls : listed = (List.replicate m true ++ List.replicate (l.length - m) false).toArray := by
      apply Array.ext (by simp [hsz]; omega)
      intro i h1 h2
      by_cases hi : i < m
      · have := hall i hi
        simp only [Array.getD_eq_getD_getElem?, Array.getElem?_eq_getElem h1, Option.getD_some] at this
        simp [this, List.getElem_append, hi]
      · have := hno i (by omega) (by omega)
        simp only [Array.getD_eq_getD_getElem?, Array.getElem?_eq_getElem h1, Option.getD_some] at this
        simp [this, List.getElem_append, hi]
    have ha : a = Fr ls := by
      have ht : a.tmps = ls.toArray := by
        apply Array.ext (by simp [hM.sz])
        intro i h1 h2
        have h3 : a.tmps[i]? = ls[i]? := by
          by_cases hex : ∃ (k : Nat) (o' : Oper), k < m ∧ l[k]? = some o' ∧ o'.dst = some i
          · obtain ⟨k, o', hk, ho', hd⟩ := hex
            exact hM.on k o' i hk (hall k hk) ho' hd
          · rw [hoff i fun k o' hk ho' hd => hex ⟨k, o', hk, ho', hd⟩]
            exact hM.off i fun k o' hk _ ho' hd => hex ⟨k, o', hk, ho', hd⟩
        have h2' : i < ls.length := by simpa using h2
        rw [Array.getElem?_eq_getElem h1, List.getElem?_eq_getElem h2'] at h3
        simpa using h3
      cases a
      simp only at ht
      have := hM.df
      simp only at this
      rw [ht, this]
    subst ha
    have h := wpAny_of_seq (P := P) (md := .any) (Q' := Q) (ops := l.toArray) (l.drop m) m listed (Fr ls) w (fun j => by simp) (by
      rw [hls]; simpa [List.length_drop] using hseq) (tail w hC).out
    simpa using h
  | succ u ih =>
    intro listed a w hC hM hsz hcl hno hcnt
    rw [show u + 1 + (l.length - m) = (u + (l.length - m)) + 1 by omega]
    obtain ⟨k0, hk0, hk0f, hk0l⟩ := cnt_pos (L := fun k => listed.getD k true) m (by omega)
    refine ⟨fun hnil => ?_, fun i hi => ?_⟩
    · exfalso
      have h1 := hhead k0 hk0
      cases ho : l[k0]? with
      | none => rw [ho] at h1; cases h1
      | some o =>
        rw [ho] at h1
        simp only [Bool.and_eq_true, Array.all_eq_true_iff_forall_mem, Bool.or_eq_true, Bool.not_eq_true', decide_eq_true_eq] at h1
        have : k0 ∈ Region.ready .any l.toArray listed := mem_ready.2 ⟨hk0f, o, by simpa using ho, fun e he hb => by
          have h2 := (h1.2 e he).resolve_left (by simp [hb])
          have h3 := hk0l e.on h2
          simp only [Array.getD_eq_getD_getElem?] at h3 ⊢
          rw [Array.getElem?_eq_getElem (show e.on < listed.size by omega)] at h3 ⊢
          simpa using h3⟩
        rw [hnil] at this; cases this
    · obtain ⟨hiun, o, ho, hdeps⟩ := mem_ready.1 hi
      have ho' : l[i]? = some o := by simpa using ho
      have hil : i < l.length := (List.getElem?_eq_some_iff.1 ho').1
      have hdone : ∀ j, waits o j = true → listed.getD j true = true := fun j hj => by
        obtain ⟨e, he, hb, rfl⟩ := waits_spec hj
        have := hdeps e he hb
        simp only [Array.getD_eq_getD_getElem?] at this ⊢
        cases h : listed[e.on]? with
        | none => rw [h] at this; cases this
        | some b => rw [h] at this; simpa using this
      have him : i < m := by
        rcases Nat.lt_or_ge i m with h | h
        · exact h
        · exfalso
          rcases Nat.eq_or_lt_of_le h with h | h
          · subst h
            have hc := hcov.resolve_left (by omega)
            have key : ∀ d, d ≤ m → ∀ j, m - d ≤ j → j < m → listed.getD j true = true := by
              intro d
              induction d with
              | zero => intro _ j h1 h2; omega
              | succ d ihd =>
                intro hd j h1 h2
                by_cases hj : m - d ≤ j
                · exact ihd (by omega) j hj h2
                · obtain ⟨k, hk, hjk, hw⟩ := hc j h2
                  cases hok : l[k]? with
                  | none => rw [hok] at hw; cases hw
                  | some ok =>
                    rw [hok] at hw
                    simp only at hw
                    by_cases hkm : k = m
                    · subst hkm
                      rw [ho'] at hok
                      injection hok with hok
                      subst hok
                      exact hdone j hw
                    · obtain ⟨e, he, hb, hej⟩ := waits_spec hw
                      have := hcl k ok (by omega) (ihd (by omega) k (by omega) (by omega)) hok e he hb
                      rw [hej] at this; exact this
            have := key m (Nat.le_refl m) k0 (by omega) hk0
            rw [this] at hk0f; cases hk0f
          · have h1 := (htl i hil).resolve_left (by omega)
            rw [ho'] at h1
            simp only [Array.any_eq_true'] at h1
            obtain ⟨e, he, h2⟩ := h1
            simp only [Bool.and_eq_true, decide_eq_true_eq] at h2
            have h3 := hdeps e he h2.1.1
            have h4 := hno e.on h2.1.2 h2.2
            simp only [Array.getD_eq_getD_getElem?] at h3 h4
            rw [Array.getElem?_eq_getElem (show e.on < listed.size by omega)] at h3 h4
            simp at h3 h4
            rw [h3] at h4; cases h4
      have h1 := hhead i him
      rw [ho'] at h1
      simp only [Bool.and_eq_true] at h1
      have hag := mixed_eval hM hoff h1.1 (fun j _ hj => hdone j hj)
      have hstep := quiet_op (Q := Q) (ops := l.toArray) (K := wpAny P .any l.toArray Q (u + (l.length - m)) (listed.setIfInBounds i true)) (Region.noSelect_spec hsel i o · · ho)
        (fun x hx => eval_of_tmps fun t ht => hag t (looks_tmp (by subst ht; exact hx))) (wanted_of_tmps hag) (heads.get i o (by rw [List.getElem?_take, if_pos him]; exact ho') w hC)
        (fun v w' hv hC' => ?_)
      · unfold wpOp; simp only [ho]; exact hstep
      · have hset : ∀ j, j ≠ i → (listed.setIfInBounds i true).getD j true = listed.getD j true := fun j hj => getD_set_ne true (fun h => hj h.symm)
        have hself : (listed.setIfInBounds i true).getD i true = true := by
          simp only [Array.getD_eq_getD_getElem?]
          rw [Array.getElem?_setIfInBounds_self_of_lt (by omega)]; rfl
        refine ih _ _ _ hC' ?_ (by simpa using hsz) ?_ ?_ ?_
        · -- the frame
          refine ⟨?_, ?_, ?_, ?_⟩
          · cases hd : o.dst <;> simp [Act.put, hM.df]
          · cases hd : o.dst <;> simp [Act.put, hM.sz]
          · intro t ht
            have h2 : o.dst ≠ some t := ht i o him hself ho'
            have h3 : (a.put o.dst v).tmps[t]? = a.tmps[t]? := by
              cases hd : o.dst with
              | none => rfl
              | some d =>
                have : d ≠ t := fun h => h2 (by rw [hd, h])
                simp [Act.put, Array.getElem?_setIfInBounds_ne this]
            rw [h3]
            refine hM.off t fun k o' hk hl ho'' => ht k o' hk ?_ ho''
            by_cases hki : k = i
            · subst hki; exact hself
            · rw [hset k hki]; exact hl
          · intro k o' t hk hl hok hd
            by_cases hti : o.dst = some t
            · rw [hti] at hv ⊢
              simp only [dstSet] at hv
              by_cases hlt : t < ls.length
              · rw [set_same hv hlt]
                simp only [Act.put]
                rw [Array.getElem?_setIfInBounds_self_of_lt (by rw [hM.sz]; exact hlt)]
              · have hge : ls.length ≤ t := Nat.le_of_not_lt hlt
                rw [List.getElem?_eq_none hge]
                simp only [Act.put]
                rw [Array.getElem?_eq_none (by simp only [Array.size_setIfInBounds, hM.sz]; exact hge)]
            · have h3 : (a.put o.dst v).tmps[t]? = a.tmps[t]? := by
                cases hd' : o.dst with
                | none => rfl
                | some d =>
                  have : d ≠ t := fun h => hti (by rw [hd', h])
                  simp [Act.put, Array.getElem?_setIfInBounds_ne this]
              rw [h3]
              have hki : k ≠ i := fun h => by
                subst h
                rw [ho'] at hok
                injection hok with hok
                subst hok
                exact hti hd
              rw [hset k hki] at hl
              exact hM.on k o' t hk hl hok hd
        · intro k o' hk hl hok e he hb
          by_cases hei : e.on = i
          · rw [hei]; exact hself
          · rw [hset _ hei]
            by_cases hki : k = i
            · subst hki
              rw [ho'] at hok
              injection hok with hok
              subst hok
              have := hdeps e he hb
              simp only [Array.getD_eq_getD_getElem?] at this ⊢
              cases h : listed[e.on]? with
              | none => rw [h] at this; cases this
              | some b => rw [h] at this; simpa using this
            · rw [hset k hki] at hl
              exact hcl k o' hk hl hok e he hb
        · intro k hk hkl
          rw [hset k (by omega)]; exact hno k hk hkl
        · have := cnt_set (L := fun k => listed.getD k true) (L' := fun k => (listed.setIfInBounds i true).getD k true) m him hiun hself hset
          omega

/-- A region that draws its order. -/
theorem region_mixed {id : Nat} {w : World} (m : Nat) (ls : List Value) (C : World → Prop) (hm : P.follows .mixedOrders = true) (hB : drawB l m = true) (hfill : fillAll (l.take m) ls l0 = ls)
    (hC : C { w with drawn := w.drawn + 1 }) (heads : Heads P l.toArray C ls (l.take m)) (tail : ∀ w, C w → WL P l.toArray Q (l.drop m) (Fr ls) w) :
    (Code.region id l.toArray true).wp P Q (Fr l0) w := by
  have hB' := hB
  unfold drawB at hB'
  simp only [Bool.and_eq_true, decide_eq_true_eq] at hB'
  have hml := hB'.1.1.1.1.1
  have hlen : ls.length = l0.length := by rw [← hfill]; exact fillAll_len _ _ _
  have hoff : ∀ t : Nat, (∀ (k : Nat) (o : Oper), k < m → l[k]? = some o → o.dst ≠ some t) → ls[t]? = l0[t]? := fun t h => by
    rw [← hfill]
    refine fillAll_off _ _ fun o ho => ?_
    obtain ⟨k, hk, e⟩ := List.getElem_of_mem ho
    have hkm : k < m := by simp at hk; omega
    have : l[k]? = some o := by
      rw [List.getElem_take] at e
      rw [List.getElem?_eq_some_iff]; exact ⟨_, e⟩
    exact h k o hkm this
  refine wp_region_any hm ?_
  have hc : cnt (fun k => (Array.replicate l.toArray.size false).getD k true) m = m := by
    have : ∀ n, n ≤ m → cnt (fun k => (Array.replicate l.toArray.size false).getD k true) n = n := by
      intro n
      induction n with
      | zero => intro _; rfl
      | succ n ih =>
        intro hn
        have e : (Array.replicate l.toArray.size false).getD n true = false := getD_in (by simp; omega) (getD_replicate_false _ _)
        simp only [cnt, e]
        rw [ih (by omega)]; simp
    exact this m (Nat.le_refl m)
  have H := mixed_core hB hlen hoff heads tail m (Array.replicate l.toArray.size false) (Fr l0) { w with drawn := w.drawn + 1 } hC
    ⟨rfl, by simp [hlen], fun t _ => by simp, fun k o t hk hl => by
      rw [getD_in (by simp; omega) (getD_replicate_false _ _)] at hl; cases hl⟩ (by simp)
    (fun k o hk hl => by rw [getD_in (by simp; omega) (getD_replicate_false _ _)] at hl; cases hl)
    (fun k hk hkl => getD_in (by simpa using hkl) (getD_replicate_false _ _)) hc
  rw [show m + (l.length - m) = l.toArray.size by simp; omega] at H
  exact H

end

theorem Own.draw {w0 w : World} {D R : Nat → Prop} {X S : List Atom} (h : Own w0 D R w X S) (n : Nat) : Own w0 D R { w with drawn := n } X S :=
  ⟨⟨h.keep.os, h.keep.tape, h.keep.output, h.keep.size, h.keep.block⟩, h.xok, h.sok, h.xdom, h.sdom, h.xx, h.xs⟩

theorem ElP.uniq {A : Option Addr} {n k : Nat} {p q : Addr} (h : ElP A n k p) (h' : ElP A n k q) : p = q := by
  obtain ⟨a, rfl, rfl⟩ := h
  obtain ⟨b, e, rfl⟩ := h'
  injection e with e
  rw [e]

theorem SlR.elP {α : Type} {w : World} {e : Enc α} {A : Option Addr} {xs : List α} (h : SlR w e A xs) {i : Int} (h0 : 0 ≤ i) (h1 : i < xs.length) : ∃ p, ElP A e.sz i.toNat p := by
  obtain ⟨a, rfl, _⟩ := h.some_of_pos (by omega)
  exact ⟨_, a, rfl, rfl⟩

end Go.Lift
