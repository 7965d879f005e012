/- Regions that draw their order: a chain of operations that come one after the other, and among them some that only look, and may come up late. -/
import Derived.Test.YtcpddgjmopdlbaaRecs
namespace Go.Lift
open Go

/-- After the operation o (number i) was reckoned ahead of time, it may come up till the first link of the chain that waits for it: till then nothing touches what it reads and writes. -/
def chk (l : List Oper) (o : Oper) (i : Nat) : List (Bool × Nat) → Bool
  | [] => true
  | (b, j) :: rest => match l[j]? with
    | none => false
    | some x => (waits x i && !b) ||
      ((match o.dst with | some d => x.dst != some d && (waits x i || !(x.looksAt l.toArray).contains d) | none => true)
        && (match x.dst with | some d => !(o.looksAt l.toArray).contains d | none => true) && chk l o i rest)

def ownB (l : List Oper) (o : Oper) : Bool := match o.dst with | some d => !(o.looksAt l.toArray).contains d | none => true

def spineOk (l : List Oper) : List (Bool × Nat) → List Nat → Bool
  | [], _ => true
  | (b, i) :: rest, grp => (match l[i]? with
      | none => false
      | some o => (grp.isEmpty || grp.any fun g => waits o g) && !(rest.any fun x => x.2 == i) && (!b || (chk l o i rest && ownB l o)))
    && spineOk l rest (if b then (if grp.isEmpty then [] else i :: grp) else [i])

def spineB (l : List Oper) (π : List (Bool × Nat)) : Bool :=
  Region.noSelect l.toArray && spineOk l π []
  && (List.range l.length).all fun i => (π.any fun x => x.2 == i) && match l[i]? with
    | some o => o.after.all fun e => !Region.binds .any e || decide (e.on < i)
    | none => true

section
variable {P : Program} {Q : Exit → Act → World → Prop} {C : World → Prop} {l : List Oper}

def Walk (P : Program) (Q : Exit → Act → World → Prop) (C : World → Prop) (l : List Oper) : List (Bool × Nat) → List Value → World → Prop
  | [], m, w => C w ∧ Q .normal (Fr m) w
  | (true, i) :: rest, m, w => ∃ o m', l[i]? = some o ∧ m' = fill1 m' m o ∧ (∀ w', C w' → WL P l.toArray (Qv (fun x => x = w') m') [o] (Fr m') w') ∧ Walk P Q C l rest m' w
  | (false, i) :: rest, m, w => C w ∧ ∃ o, l[i]? = some o ∧ WL P l.toArray (fun e a w' => e = .normal ∧ ∃ m', a = Fr m' ∧ Walk P Q C l rest m' w') [o] (Fr m) w

structure Pend (P : Program) (C : World → Prop) (l : List Oper) (rest : List (Bool × Nat)) (m : List Value) (i : Nat) (o : Oper) (li : List Value) : Prop where
  ho : l[i]? = some o
  q : ∀ w, C w → WL P l.toArray (Qv (fun x => x = w) li) [o] (Fr li) w
  see : ∀ t ∈ o.looksAt l.toArray, li[t]? = m[t]?
  val : ∀ t, o.dst = some t → li[t]? = m[t]?
  len : li.length = m.length
  ck : chk l o i rest = true
  own : ∀ t, o.dst = some t → t ∉ o.looksAt l.toArray

structure Inv (P : Program) (C : World → Prop) (l : List Oper) (rest : List (Bool × Nat)) (F : List Nat) (m : List Value) (listed : Array Bool) (a : Act) : Prop where
  df : a.defers = []
  sz : a.tmps.size = m.length
  glob : ∀ t : Nat, (∀ (x : Nat) (o : Oper), x ∈ F → l[x]? = some o → o.dst ≠ some t) → a.tmps[t]? = m[t]?
  lsz : listed.size = l.length
  cov : ∀ i : Nat, i < l.length → listed.getD i true = false → i ∈ F ∨ ∃ b, (b, i) ∈ rest
  unF : ∀ i ∈ F, listed.getD i true = false
  unR : ∀ x ∈ rest, listed.getD x.2 true = false
  disj : ∀ i ∈ F, ∀ x ∈ rest, x.2 ≠ i
  pend : ∀ i ∈ F, ∃ o li, Pend P C l rest m i o li
  pair : ∀ x ∈ F, ∀ y ∈ F, x ≠ y → ∀ (ox oy : Oper), l[x]? = some ox → l[y]? = some oy → ∀ t, ox.dst = some t → oy.dst ≠ some t ∧ (t ∈ oy.looksAt l.toArray → waits oy x = true)

theorem fill1_len (m' m : List Value) (o : Oper) : (fill1 m' m o).length = m.length := by unfold fill1; split <;> simp
theorem fill1_ne {m' m : List Value} {o : Oper} {t : Nat} (h : o.dst ≠ some t) : (fill1 m' m o)[t]? = m[t]? := by
  unfold fill1
  split
  · rename_i d hd
    rw [List.getElem?_set_ne]
    intro e; subst e; exact h hd
  · rfl

/-- What the check says of the next one. -/
theorem chk_cons {o x : Oper} {i j : Nat} {b : Bool} {rest : List (Bool × Nat)} (h : chk l o i ((b, j) :: rest) = true) (hx : l[j]? = some x) (hd : ¬ (waits x i = true ∧ b = false)) :
    (∀ t, o.dst = some t → x.dst ≠ some t ∧ (t ∈ x.looksAt l.toArray → waits x i = true)) ∧ (∀ t, x.dst = some t → t ∉ o.looksAt l.toArray) ∧ chk l o i rest = true := by
  unfold chk at h
  rw [hx] at h
  simp only [Bool.or_eq_true, Bool.and_eq_true, Bool.not_eq_true'] at h
  have h := h.resolve_left hd
  refine ⟨fun t ht => ?_, fun t ht => ?_, h.2⟩
  · have h1 := h.1.1
    rw [ht] at h1
    simp only [Bool.and_eq_true, bne_iff_ne, ne_eq, Bool.or_eq_true, Bool.not_eq_true', List.contains_eq_mem, decide_eq_false_iff_not] at h1
    exact ⟨h1.1, fun hm => h1.2.resolve_right (fun hn => hn hm)⟩
  · have h1 := h.1.2
    rw [ht] at h1
    simpa using h1

theorem waits_listed {listed : Array Bool} {o : Oper} (hdeps : ∀ e ∈ o.after, Region.binds .any e = true → listed.getD e.on false = true) {j : Nat} (hj : waits o j = true) : listed.getD j true = true := by
  obtain ⟨e, he, hb, rfl⟩ := waits_spec hj
  have := hdeps e he hb
  simp only [Array.getD_eq_getD_getElem?] at this ⊢
  cases h : listed[e.on]? with
  | none => rw [h] at this; cases this
  | some b => rw [h] at this; simpa using this

/-- The ones that only look, at the head of what is left, are reckoned ahead. -/
theorem norm {w : World} {listed : Array Bool} {a : Act} : ∀ (rest : List (Bool × Nat)) (grp F : List Nat) (m : List Value), Inv P C l rest F m listed a → Walk P Q C l rest m w → spineOk l rest grp = true →
    ∃ rest' grp' F' m', Inv P C l rest' F' m' listed a ∧ Walk P Q C l rest' m' w ∧ spineOk l rest' grp' = true ∧ (rest' = [] ∨ ∃ i r, rest' = (false, i) :: r)
  | [], grp, F, m, hI, hW, hB => ⟨[], grp, F, m, hI, hW, hB, .inl rfl⟩
  | (false, i) :: r, grp, F, m, hI, hW, hB => ⟨_, grp, F, m, hI, hW, hB, .inr ⟨i, r, rfl⟩⟩
  | (true, i) :: r, grp, F, m, hI, hW, hB => by
    obtain ⟨o, m', ho, hm', hq, hW'⟩ := hW
    unfold spineOk at hB
    rw [ho] at hB
    simp only [Bool.and_eq_true, Bool.or_eq_true, Bool.not_eq_true', Bool.true_eq_false, false_or] at hB
    obtain ⟨⟨⟨_, hnd⟩, hck, hown⟩, hB'⟩ := hB
    have hlen : m'.length = m.length := by rw [hm']; exact fill1_len _ _ _
    have hne : ∀ t, o.dst ≠ some t → m'[t]? = m[t]? := fun t ht => by rw [hm']; exact fill1_ne ht
    have hsep : ∀ x ∈ F, ∀ ox lx, Pend P C l ((true, i) :: r) m x ox lx → _ := fun x hx ox lx hp => chk_cons hp.ck ho (fun h => by cases h.2)
    refine norm r _ (i :: F) m' ⟨hI.df, by rw [hlen]; exact hI.sz, ?_, hI.lsz, ?_, ?_, fun x hx => hI.unR x (List.mem_cons_of_mem _ hx), ?_, ?_, ?_⟩ hW' hB'
    · intro t ht
      rw [hne t (ht i o List.mem_cons_self ho)]
      exact hI.glob t fun x o' hx => ht x o' (List.mem_cons_of_mem _ hx)
    · intro j hj hu
      rcases hI.cov j hj hu with h | ⟨b, h⟩
      · exact .inl (List.mem_cons_of_mem _ h)
      · rcases List.mem_cons.1 h with h | h
        · injection h with _ h; subst h; exact .inl List.mem_cons_self
        · exact .inr ⟨b, h⟩
    · intro j hj
      rcases List.mem_cons.1 hj with h | h
      · subst h; exact hI.unR (true, j) List.mem_cons_self
      · exact hI.unF j h
    · intro j hj x hx
      rcases List.mem_cons.1 hj with h | h
      · subst h
        intro e
        rw [List.any_eq_false] at hnd
        exact hnd x hx (by simp [e])
      · exact hI.disj j h x (List.mem_cons_of_mem _ hx)
    · intro j hj
      rcases List.mem_cons.1 hj with h | h
      · subst h
        refine ⟨o, m', ho, hq, fun _ _ => rfl, fun _ _ => rfl, rfl, hck, fun t ht => ?_⟩
        unfold ownB at hown
        rw [ht] at hown
        simpa using hown
      · obtain ⟨ox, lx, hp⟩ := hI.pend j h
        obtain ⟨s1, s2, s3⟩ := hsep j h ox lx hp
        exact ⟨ox, lx, hp.ho, hp.q, fun t ht => by rw [hp.see t ht, hne t (fun e => s2 t e ht)], fun t ht => by rw [hp.val t ht, hne t (s1 t ht).1], by rw [hp.len, hlen], s3, hp.own⟩
    · intro x hx y hy hxy ox oy hox hoy t ht
      rcases List.mem_cons.1 hx with h | h
      · subst h
        rcases List.mem_cons.1 hy with h' | h'
        · exact absurd h'.symm hxy
        · obtain ⟨ox', lx, hp⟩ := hI.pend y h'
          obtain ⟨s1, s2, s3⟩ := hsep y h' ox' lx hp
          rw [ho] at hox; injection hox with hox; subst hox
          rw [hp.ho] at hoy; injection hoy with hoy; subst hoy
          exact ⟨fun e => (s1 t e).1 ht, fun hm => absurd hm (s2 t ht)⟩
      · rcases List.mem_cons.1 hy with h' | h'
        · subst h'
          obtain ⟨ox', lx, hp⟩ := hI.pend x h
          obtain ⟨s1, s2, s3⟩ := hsep x h ox' lx hp
          rw [ho] at hoy; injection hoy with hoy; subst hoy
          rw [hp.ho] at hox; injection hox with hox; subst hox
          exact s1 t ht
        · exact hI.pair x h y h' hxy ox oy hox hoy t ht

theorem not_ready {listed : Array Bool} : ∀ (π : List (Bool × Nat)) (grp : List Nat), spineOk l π grp = true → grp ≠ [] → (∀ g ∈ grp, listed.getD g true = false) → (∀ x ∈ π, listed.getD x.2 true = false) →
    ∀ x ∈ π, x.2 ∉ Region.ready .any l.toArray listed
  | [], _, _, _, _, _, x, hx => by cases hx
  | (b, i) :: r, grp, hB, hg, hgu, hu, x, hx => by
    unfold spineOk at hB
    cases ho : l[i]? with
    | none => rw [ho] at hB; simp at hB
    | some o =>
      rw [ho] at hB
      simp only [Bool.and_eq_true, Bool.or_eq_true, Bool.not_eq_true'] at hB
      obtain ⟨⟨⟨hact, _⟩, _⟩, hB'⟩ := hB
      rcases List.mem_cons.1 hx with h | h
      · subst h
        intro hr
        obtain ⟨_, o', ho', hdeps⟩ := mem_ready.1 hr
        have : o' = o := by
          have h1 : l[i]? = some o' := by simpa using ho'
          rw [ho] at h1; injection h1 with h1; exact h1.symm
        subst this
        have hact := hact.resolve_left (by simpa using hg)
        obtain ⟨g, hgm, hw⟩ := List.any_eq_true.1 hact
        have := waits_listed hdeps hw
        rw [hgu g hgm] at this; cases this
      · refine not_ready r _ hB' ?_ ?_ (fun y hy => hu y (List.mem_cons_of_mem _ hy)) x h
        · cases b
          · simp
          · simp [hg]
        · intro g hgm
          cases b
          · simp at hgm; subst hgm; exact hu (false, g) List.mem_cons_self
          · simp only [if_true] at hgm
            split at hgm
            · cases hgm
            · rcases List.mem_cons.1 hgm with h1 | h1
              · subst h1; exact hu (true, g) List.mem_cons_self
              · exact hgu g h1

theorem getD_self {listed : Array Bool} {i : Nat} (h : i < listed.size) : (listed.setIfInBounds i true).getD i true = true := by
  simp only [Array.getD_eq_getD_getElem?]
  rw [Array.getElem?_setIfInBounds_self_of_lt h]; rfl

theorem put_tmps_ne {a : Act} {d : Option Tmp} {v : Value} {t : Nat} (h : d ≠ some t) : (a.put d v).tmps[t]? = a.tmps[t]? := by
  cases d with
  | none => rfl
  | some d =>
    have : d ≠ t := fun e => h (by rw [e])
    simp [Act.put, Array.getElem?_setIfInBounds_ne this]
theorem put_tmps_eq {a : Act} {v : Value} {t : Nat} (h : t < a.tmps.size) : (a.put (some t) v).tmps[t]? = some v := by
  simp only [Act.put]
  rw [Array.getElem?_setIfInBounds_self_of_lt h]

theorem spine_core (hsel : Region.noSelect l.toArray = true)
    (hlow : ∀ (k : Nat) (o : Oper), l[k]? = some o → ∀ e ∈ o.after, Region.binds .any e = true → e.on < k) :
    ∀ (u : Nat) (rest : List (Bool × Nat)) (grp F : List Nat) (m : List Value) (listed : Array Bool) (a : Act) (w : World), Inv P C l rest F m listed a → Walk P Q C l rest m w → spineOk l rest grp = true →
      cnt (fun k => listed.getD k true) l.length = u → wpAny P .any l.toArray Q u listed a w := by
  intro u
  induction u with
  | zero =>
    intro rest grp F m listed a w hI hW hB hcnt
    obtain ⟨rest, grp, F, m, hI, hW, hB, hh⟩ := norm rest grp F m hI hW hB
    have hall := cnt_zero _ hcnt
    have hF : F = [] := by
      cases F with
      | nil => rfl
      | cons i F =>
        obtain ⟨o, li, hp⟩ := hI.pend i List.mem_cons_self
        have := hall i (List.getElem?_eq_some_iff.1 hp.ho).1
        rw [hI.unF i List.mem_cons_self] at this; cases this
    have hR : rest = [] := by
      rcases hh with h | ⟨i, r, h⟩
      · exact h
      · subst h
        obtain ⟨_, o, ho, _⟩ := hW
        have := hall i (List.getElem?_eq_some_iff.1 ho).1
        rw [hI.unR (false, i) List.mem_cons_self] at this; cases this
    subst hF; subst hR
    have ha : a = Fr m := by
      have ht : a.tmps = m.toArray := by
        apply Array.ext (by simp [hI.sz])
        intro i h1 h2
        have h3 := hI.glob i fun x o hx => by cases hx
        have h2' : i < m.length := by simpa using h2
        rw [Array.getElem?_eq_getElem h1, List.getElem?_eq_getElem h2'] at h3
        simpa using h3
      cases a
      simp only at ht
      have := hI.df
      simp only at this
      rw [ht, this]
    subst ha
    refine ⟨?_, hW.2⟩
    cases hr : Region.ready .any l.toArray listed with
    | nil => rfl
    | cons i r =>
      obtain ⟨hu, o, ho, _⟩ := mem_ready.1 (show i ∈ Region.ready .any l.toArray listed by rw [hr]; exact List.mem_cons_self)
      have ho' : l[i]? = some o := by simpa using ho
      rw [hall i (List.getElem?_eq_some_iff.1 ho').1] at hu; cases hu
  | succ u ih =>
    intro rest grp F m listed a w hI hW hB hcnt
    obtain ⟨rest, grp, F, m, hI, hW, hB, hh⟩ := norm rest grp F m hI hW hB
    refine ⟨fun hnil => ?_, fun i hi => ?_⟩
    · exfalso
      obtain ⟨k0, hk0, hk0f, hk0l⟩ := cnt_pos (L := fun k => listed.getD k true) l.length (by omega)
      have hk0f : listed.getD k0 true = false := hk0f
      obtain ⟨o, ho⟩ : ∃ o, l[k0]? = some o := ⟨_, List.getElem?_eq_getElem hk0⟩
      have : k0 ∈ Region.ready .any l.toArray listed := mem_ready.2 ⟨hk0f, o, by simpa using ho, fun e he hb => by
        have h2 := hlow k0 o ho e he hb
        have h3 : listed.getD e.on true = true := hk0l e.on h2
        simp only [Array.getD_eq_getD_getElem?] at h3 ⊢
        rw [Array.getElem?_eq_getElem (show e.on < listed.size by rw [hI.lsz]; omega)] at h3 ⊢
        simpa using h3⟩
      rw [hnil] at this; cases this
    · obtain ⟨hiun, o, ho0, hdeps⟩ := mem_ready.1 hi
      have ho : l[i]? = some o := by simpa using ho0
      have hil : i < l.length := (List.getElem?_eq_some_iff.1 ho).1
      have hset : ∀ j, j ≠ i → (listed.setIfInBounds i true).getD j true = listed.getD j true := fun j hj => getD_set_ne true (fun h => hj h.symm)
      have hself := getD_self (listed := listed) (i := i) (by rw [hI.lsz]; exact hil)
      have hcnt' : cnt (fun k => (listed.setIfInBounds i true).getD k true) l.length = u := by
        have := cnt_set (L := fun k => listed.getD k true) (L' := fun k => (listed.setIfInBounds i true).getD k true) l.length hil hiun hself hset
        omega
      have hselo := (Region.noSelect_spec hsel i o · · ho0)
      by_cases hF : i ∈ F
      · -- one of those that were reckoned ahead
        obtain ⟨o', li, hp⟩ := hI.pend i hF
        have e : o' = o := by have h1 := hp.ho; rw [ho] at h1; injection h1 with h1; exact h1.symm
        subst e
        have hag : ∀ t ∈ o'.looksAt l.toArray, a.tmps[t]? = li[t]? := fun t ht => by
          rw [hp.see t ht]
          refine hI.glob t fun x ox hx hox e => ?_
          by_cases hxi : x = i
          · subst hxi
            rw [ho] at hox; injection hox with hox; subst hox
            exact hp.own t e ht
          · have := waits_listed hdeps ((hI.pair x hx i hF hxi ox o' hox ho t e).2 ht)
            rw [hI.unF x hx] at this; cases this
        unfold wpOp
        simp only [ho0]
        refine quiet_op hselo (fun x hx => eval_of_tmps fun t ht => hag t (looks_tmp (by subst ht; exact hx))) (wanted_of_tmps hag) (hp.q w (by
          have : ∀ (r : List (Bool × Nat)), (r = [] ∨ ∃ i r', r = (false, i) :: r') → Walk P Q C l r m w → C w := by
            rintro r (h | ⟨j, r', h⟩) hw
            · subst h; exact hw.1
            · subst h; exact hw.1
          exact this rest hh hW)) fun v w' hv hw' => ?_
        subst hw'
        refine ih rest grp (F.filter (· != i)) m _ _ _ ⟨?_, ?_, ?_, by simpa using hI.lsz, ?_, ?_, ?_, ?_, ?_, ?_⟩ hW hB hcnt'
        · cases hd : o'.dst <;> simp [Act.put, hI.df]
        · cases hd : o'.dst <;> simp [Act.put, hI.sz]
        · intro t ht
          by_cases hdt : o'.dst = some t
          · rw [hdt] at hv ⊢
            simp only [dstSet] at hv
            rw [← hp.val t hdt]
            by_cases hlt : t < li.length
            · rw [set_same hv hlt, put_tmps_eq (by rw [hI.sz, ← hp.len]; exact hlt)]
            · rw [List.getElem?_eq_none (Nat.le_of_not_lt hlt), Array.getElem?_eq_none]
              simp only [Act.put, Array.size_setIfInBounds, hI.sz, ← hp.len]; exact Nat.le_of_not_lt hlt
          · rw [put_tmps_ne hdt]
            refine hI.glob t fun x ox hx hox => ?_
            by_cases hxi : x = i
            · subst hxi
              rw [ho] at hox; injection hox with hox; subst hox
              exact hdt
            · exact ht x ox (List.mem_filter.2 ⟨hx, by simpa using hxi⟩) hox
        · intro j hj hu
          have hji : j ≠ i := fun e => by subst e; rw [hself] at hu; cases hu
          rw [hset j hji] at hu
          rcases hI.cov j hj hu with h | h
          · exact .inl (List.mem_filter.2 ⟨h, by simpa using hji⟩)
          · exact .inr h
        · intro j hj
          have h := List.mem_filter.1 hj
          rw [hset j (by simpa using h.2)]; exact hI.unF j h.1
        · intro x hx
          rw [hset x.2 (hI.disj i hF x hx)]; exact hI.unR x hx
        · intro j hj; exact hI.disj j (List.mem_filter.1 hj).1
        · intro j hj; exact hI.pend j (List.mem_filter.1 hj).1
        · intro x hx y hy; exact hI.pair x (List.mem_filter.1 hx).1 y (List.mem_filter.1 hy).1
      · -- the next link of the chain
        obtain ⟨b, hmem⟩ := (hI.cov i hil hiun).resolve_left hF
        rcases hh with h | ⟨i', r, h⟩
        · subst h; cases hmem
        subst h
        have hB0 := hB
        unfold spineOk at hB
        obtain ⟨hCw, o1, ho1, hwl⟩ := hW
        rw [ho1] at hB
        simp only [Bool.and_eq_true, Bool.or_eq_true, Bool.not_eq_true'] at hB
        obtain ⟨⟨⟨_, hnd⟩, _⟩, hB'⟩ := hB
        have hB' : spineOk l r [i'] = true := by simpa using hB'
        have hii : i = i' := by
          rcases List.mem_cons.1 hmem with h | h
          · injection h
          · exfalso
            exact not_ready r [i'] hB' (by simp) (fun g hg => by simp at hg; subst hg; exact hI.unR (false, g) List.mem_cons_self) (fun y hy => hI.unR y (List.mem_cons_of_mem _ hy)) (b, i) h hi
        subst hii
        have e : o1 = o := by rw [ho] at ho1; injection ho1 with h; exact h.symm
        subst e
        have hnw : ∀ x ∈ F, ¬ (waits o1 x = true) := fun x hx hw => by
          have := waits_listed hdeps hw
          rw [hI.unF x hx] at this; cases this
        have hsep : ∀ x ∈ F, ∀ ox lx, Pend P C l ((false, i) :: r) m x ox lx → _ := fun x hx ox lx hp => chk_cons hp.ck ho (fun h => hnw x hx h.1)
        have hag : ∀ t ∈ o1.looksAt l.toArray, a.tmps[t]? = m[t]? := fun t ht => by
          refine hI.glob t fun x ox hx hox e => ?_
          obtain ⟨ox', lx, hp⟩ := hI.pend x hx
          obtain ⟨s1, _, _⟩ := hsep x hx ox' lx hp
          rw [hp.ho] at hox; injection hox with hox; subst hox
          exact hnw x hx ((s1 t e).2 ht)
        have hwn := wanted_of_tmps (ls := m) hag
        have hev : ∀ x ∈ o1.op.operands, a.eval x = (Fr m).eval x := fun x hx => eval_of_tmps fun t ht => hag t (looks_tmp (by subst ht; exact hx))
        -- what is left, whatever it yields
        have next : ∀ v w' m', (Fr m).put o1.dst v = Fr m' → Walk P Q C l r m' w' → wpAny P .any l.toArray Q u (listed.setIfInBounds i true) (a.put o1.dst v) w' := by
          intro v w' m' hm' hW'
          have hm1 : dstSet o1.dst m v = m' := by
            rw [Fr.put_dst] at hm'
            have := congrArg Act.tmps hm'
            simpa using this
          have hne : ∀ t : Nat, o1.dst ≠ some t → m'[t]? = m[t]? := fun t ht => by
            rw [← hm1]
            cases hd : o1.dst with
            | none => rfl
            | some d =>
              simp only [dstSet]
              rw [List.getElem?_set_ne]
              intro e; subst e; exact ht hd
          have hlen : m'.length = m.length := by rw [← hm1]; cases o1.dst <;> simp [dstSet]
          refine ih r [i] F m' _ _ _ ⟨?_, ?_, ?_, by simpa using hI.lsz, ?_, ?_, ?_, fun j hj x hx => hI.disj j hj x (List.mem_cons_of_mem _ hx), ?_, hI.pair⟩ hW' hB' hcnt'
          · cases hd : o1.dst <;> simp [Act.put, hI.df]
          · rw [hlen]; cases hd : o1.dst <;> simp [Act.put, hI.sz]
          · intro t ht
            by_cases hdt : o1.dst = some t
            · rw [← hm1, hdt]
              simp only [dstSet]
              by_cases hlt : t < m.length
              · rw [put_tmps_eq (by rw [hI.sz]; exact hlt), List.getElem?_set_self hlt]
              · rw [List.getElem?_eq_none (by simp; omega), Array.getElem?_eq_none]
                simp only [Act.put, Array.size_setIfInBounds, hI.sz]; omega
            · rw [put_tmps_ne hdt, hne t hdt]; exact hI.glob t ht
          · intro j hj hu
            have hji : j ≠ i := fun e => by subst e; rw [hself] at hu; cases hu
            rw [hset j hji] at hu
            rcases hI.cov j hj hu with h | ⟨b', h⟩
            · exact .inl h
            · rcases List.mem_cons.1 h with h | h
              · injection h with _ h; exact absurd h hji
              · exact .inr ⟨b', h⟩
          · intro j hj
            rw [hset j (fun e => hF (e ▸ hj))]; exact hI.unF j hj
          · intro x hx
            have : x.2 ≠ i := fun e => by
              rw [List.any_eq_false] at hnd
              exact hnd x hx (by simp [e])
            rw [hset x.2 this]; exact hI.unR x (List.mem_cons_of_mem _ hx)
          · intro j hj
            obtain ⟨ox, lx, hp⟩ := hI.pend j hj
            obtain ⟨s1, s2, s3⟩ := hsep j hj ox lx hp
            exact ⟨ox, lx, hp.ho, hp.q, fun t ht => by rw [hp.see t ht, hne t (fun e => s2 t e ht)], fun t ht => by rw [hp.val t ht, hne t (s1 t ht).1], by rw [hp.len, hlen], s3, hp.own⟩
        have h := hwl.out
        unfold wpList at h
        unfold wpOp
        simp only [ho0]
        rw [hwn]
        split at h
        · rename_i hw
          rw [if_pos hw]
          refine .inl ?_
          have h := h.resolve_right fun h => by obtain ⟨_, _, h1⟩ := h.2; cases h1.1
          unfold Oper.wp at h ⊢
          rw [execOp_congr o1 hselo hev]
          generalize (execOp (Fr m).eval o1).run P w = res at h ⊢
          cases res with
          | ok n w' =>
            cases n with
            | value v => obtain ⟨_, m', hm', hW'⟩ := h; exact next v w' m' hm' hW'
            | skip => obtain ⟨_, m', hm', hW'⟩ := h; exact next _ w' m' hm' hW'
            | enter f args =>
              refine Calls.mono h fun e w'' he => ?_
              cases e with
              | returned v => obtain ⟨_, m', hm', hW'⟩ := he; exact next v w'' m' hm' hW'
              | panicked c => cases he.1
              | outgrown => obtain ⟨_, _, h1⟩ := he; cases h1.1
            | row nm args => exact Rows.mono h fun v w'' he => by obtain ⟨_, m', hm', hW'⟩ := he; exact next v w'' m' hm' hW'
            | defer d =>
              simp only [Oper.upon] at h
              obtain ⟨_, m', h2, _⟩ := h
              have h2 := congrArg Act.defers h2
              cases hd : o1.dst with
              | none => rw [hd] at h2; simp [Act.put] at h2
              | some t => rw [hd] at h2; simp [Act.put] at h2
            | _ => exact h.elim
          | halt x w' =>
            cases x with
            | panic v => cases h.1
            | _ => exact h.elim
        · rename_i hw
          rw [if_neg hw]
          obtain ⟨_, m', hm', hW'⟩ := h
          exact next _ w m' hm' hW'

/-- A region that draws its order, walked along a chain. -/
theorem region_spine {id : Nat} {w : World} {m : List Value} (π : List (Bool × Nat)) (C : World → Prop) (hm : P.follows .mixedOrders = true) (hB : spineB l π = true)
    (h : Walk P Q C l π m { w with drawn := w.drawn + 1 }) : (Code.region id l.toArray true).wp P Q (Fr m) w := by
  unfold spineB at hB
  simp only [Bool.and_eq_true, List.all_eq_true, List.mem_range, List.any_eq_true, beq_iff_eq] at hB
  obtain ⟨⟨hsel, hok⟩, hall⟩ := hB
  refine wp_region_any hm ?_
  have hc : cnt (fun k => (Array.replicate l.toArray.size false).getD k true) l.length = l.length := by
    have : ∀ n, n ≤ l.length → cnt (fun k => (Array.replicate l.toArray.size false).getD k true) n = n := by
      intro n
      induction n with
      | zero => intro _; rfl
      | succ n ih =>
        intro hn
        have e : (Array.replicate l.toArray.size false).getD n true = false := getD_in (by simp; omega) (getD_replicate_false _ _)
        simp only [cnt, e]
        rw [ih (by omega)]; simp
    exact this _ (Nat.le_refl _)
  have hin : ∀ x ∈ π, x.2 < l.length := by
    have : ∀ (π : List (Bool × Nat)) (grp : List Nat), spineOk l π grp = true → ∀ x ∈ π, x.2 < l.length := by
      intro π
      induction π with
      | nil => intro _ _ x hx; cases hx
      | cons y r ihr =>
        intro grp h x hx
        obtain ⟨b, i⟩ := y
        unfold spineOk at h
        simp only [Bool.and_eq_true] at h
        rcases List.mem_cons.1 hx with e | e
        · subst e
          cases ho : l[i]? with
          | none => rw [ho] at h; simp at h
          | some o => exact (List.getElem?_eq_some_iff.1 ho).1
        · exact ihr _ h.2 x e
    exact this π [] hok
  have H := spine_core (P := P) (Q := Q) (C := C) (l := l) hsel (fun k o ho e he hb => by
      have h1 := (hall k (List.getElem?_eq_some_iff.1 ho).1).2
      rw [ho] at h1
      simp only [Array.all_eq_true_iff_forall_mem, Bool.or_eq_true, Bool.not_eq_true', decide_eq_true_eq] at h1
      exact (h1 e he).resolve_left (by simp [hb])) l.length π [] [] m (Array.replicate l.toArray.size false) (Fr m) _
    ⟨rfl, by simp, fun t _ => by simp, by simp, fun i hi _ => .inr (by
        obtain ⟨x, hx, e⟩ := (hall i hi).1
        exact ⟨x.1, by rw [← e]; exact hx⟩), (fun i hi => by cases hi), fun x hx => getD_in (by simpa using hin x hx) (getD_replicate_false _ _), (fun i hi => by cases hi), (fun i hi => by cases hi), (fun x hx => by cases hx)⟩ h hok hc
  simpa using H
end
end Go.Lift
