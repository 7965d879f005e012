/- Plain data in cells, states, operations that only look. -/
import Derived.Test.YtogbjlmmedfhbaaEa
import Derived.Laws.Tables
import Derived.Laws.StructEq
import Derived.WideLaws
import Derived.Laws.Cover3
/- Regions that draw their order, once more: at a link that waits for all that is pending, what may be looked at is chosen anew. -/
namespace Go.Lift
open Go

section
variable {P : Program} {Q : Exit → Act → World → Prop} {C : World → Prop} {l : List Oper}

/-- It waits for it, or for what waits for it. -/
def wclo (l : List Oper) (i : Nat) : Nat → Oper → Bool
  | 0, o => waits o i
  | n + 1, o => waits o i || o.after.any fun e => Region.binds .any e && match l[e.on]? with
    | some o' => wclo l i n o'
    | none => false

/-- What an operation waits for. -/
def depsO (o : Oper) : List Nat := o.after.toList.filterMap fun e => if Region.binds .any e = true then some e.on else none
/-- And what that waits for. -/
def anc (l : List Oper) : Nat → List Nat → List Nat
  | 0, S => S
  | j + 1, S => match S.contains j, l[j]? with
    | true, some o => anc l j (depsO o ++ S)
    | _, _ => anc l j S
def wall (l : List Oper) (i : Nat) (o : Oper) : Bool := (anc l l.length (depsO o)).contains i

/-- Does it wait for all of these? -/
def barB (l : List Oper) (o : Oper) (fl : List Nat) : Bool := match anc l l.length (depsO o) with
  | S => fl.all fun i => S.contains i

/-- What is listed waits for nothing that is not. -/
def Closed (l : List Oper) (listed : Array Bool) : Prop := ∀ (j : Nat) (o : Oper), l[j]? = some o → listed.getD j true = true → ∀ x, waits o x = true → listed.getD x true = true

theorem wclo_listed {l : List Oper} {listed : Array Bool} (hc : Closed l listed) {i : Nat} : ∀ (n : Nat) (o : Oper), (∀ x, waits o x = true → listed.getD x true = true) → wclo l i n o = true → listed.getD i true = true
  | 0, o, h, hw => h i hw
  | n + 1, o, h, hw => by
    unfold wclo at hw
    rw [Bool.or_eq_true] at hw
    rcases hw with hw | hw
    · exact h i hw
    · rw [Array.any_eq_true'] at hw
      obtain ⟨e, he, hw⟩ := hw
      simp only [Bool.and_eq_true] at hw
      split at hw
      · rename_i o' ho'
        have hwe : waits o e.on = true := by
          unfold waits
          rw [Array.any_eq_true']
          exact ⟨e, he, by simp [hw.1]⟩
        exact wclo_listed hc n o' (hc e.on o' ho' (h e.on hwe)) hw.2
      · cases hw.2

theorem depsO_waits {o : Oper} {x : Nat} (h : x ∈ depsO o) : waits o x = true := by
  unfold depsO at h
  obtain ⟨e, he, h1⟩ := List.mem_filterMap.1 h
  split at h1
  · rename_i hb
    injection h1 with h1
    unfold waits
    rw [Array.any_eq_true']
    exact ⟨e, Array.mem_toList_iff.1 he, by simp [hb, h1]⟩
  · cases h1
theorem anc_listed {l : List Oper} {listed : Array Bool} (hc : Closed l listed) : ∀ (n : Nat) (S : List Nat), (∀ x ∈ S, listed.getD x true = true) → ∀ x ∈ anc l n S, listed.getD x true = true
  | 0, S, h, x, hx => h x hx
  | j + 1, S, h, x, hx => by
    unfold anc at hx
    split at hx
    · rename_i o hm ho
      refine anc_listed hc j _ (fun y hy => ?_) x hx
      rcases List.mem_append.1 hy with hy | hy
      · exact hc j o ho (h j (List.contains_iff_mem.1 hm)) y (depsO_waits hy)
      · exact h y hy
    · exact anc_listed hc j S h x hx
theorem wall_listed {l : List Oper} {listed : Array Bool} (hc : Closed l listed) {i : Nat} (o : Oper) (h : ∀ x, waits o x = true → listed.getD x true = true) (hw : (anc l l.length (depsO o)).contains i = true) : listed.getD i true = true :=
  anc_listed hc _ _ (fun x hx => h x (depsO_waits hx)) i (List.contains_iff_mem.1 hw)

/-- What is known while some floats are out: what those that are not on the list say holds in all worlds. -/
structure Inv2 (P : Program) (C : World → Prop) (fl : List Nat) (l : List Oper) (rest : List (Bool × Nat)) (F : List Nat) (m : List Value) (listed : Array Bool) (a : Act) : Prop where
  df : a.defers = []
  sz : a.tmps.size = m.length
  glob : ∀ t : Nat, (∀ (x : Nat) (o : Oper), x ∈ F → l[x]? = some o → o.dst ≠ some t) → a.tmps[t]? = m[t]?
  lsz : listed.size = l.length
  cov : ∀ i : Nat, i < l.length → listed.getD i true = false → i ∈ F ∨ ∃ b, (b, i) ∈ rest
  unF : ∀ i ∈ F, listed.getD i true = false
  unR : ∀ x ∈ rest, listed.getD x.2 true = false
  disj : ∀ i ∈ F, ∀ x ∈ rest, x.2 ≠ i
  pend : ∀ i ∈ F, ∃ o li, Pend P (fun w => i ∈ fl → C w) l rest m i o li
  pair : ∀ x ∈ F, ∀ y ∈ F, x ≠ y → ∀ (ox oy : Oper), l[x]? = some ox → l[y]? = some oy → ∀ t, ox.dst = some t → oy.dst ≠ some t ∧ (t ∈ oy.looksAt l.toArray → waits oy x = true)

def Walk2 (P : Program) (Q : Exit → Act → World → Prop) (l : List Oper) : List (Bool × Nat) → (World → Prop) → List Nat → List Value → World → Prop
  | [], C, _, m, w => C w ∧ Q .normal (Fr m) w
  | (true, i) :: rest, C, fl, m, w => ∃ o m' fl', l[i]? = some o ∧ m' = fill1 m' m o ∧ ((fl' = i :: fl ∧ ∀ w', C w' → WL P l.toArray (Qv (fun x => x = w') m') [o] (Fr m') w') ∨ (fl' = fl ∧ ∀ w', WL P l.toArray (Qv (fun x => x = w') m') [o] (Fr m') w')) ∧ Walk2 P Q l rest C fl' m' w
  | (false, i) :: rest, C, fl, m, w => C w ∧ ∃ o, l[i]? = some o ∧ WL P l.toArray (fun e a w' => e = .normal ∧ ∃ m' C' fl', (((∀ w, C' w → C w) ∧ fl' = fl) ∨ barB l o fl = true) ∧ a = Fr m' ∧ Walk2 P Q l rest C' fl' m' w') [o] (Fr m) w

theorem norm2 {w : World} {listed : Array Bool} {a : Act} : ∀ (rest : List (Bool × Nat)) (grp F fl : List Nat) (m : List Value), Inv2 P C fl l rest F m listed a → Walk2 P Q l rest C fl m w → spineOk l rest grp = true →
    ∃ rest' grp' F' fl' m', Inv2 P C fl' l rest' F' m' listed a ∧ Walk2 P Q l rest' C fl' m' w ∧ spineOk l rest' grp' = true ∧ (rest' = [] ∨ ∃ i r, rest' = (false, i) :: r)
  | [], grp, F, fl, m, hI, hW, hB => ⟨[], grp, F, fl, m, hI, hW, hB, .inl rfl⟩
  | (false, i) :: r, grp, F, fl, m, hI, hW, hB => ⟨_, grp, F, fl, m, hI, hW, hB, .inr ⟨i, r, rfl⟩⟩
  | (true, i) :: r, grp, F, fl, m, hI, hW, hB => by
    obtain ⟨o, m', fl', ho, hm', hq, hW'⟩ := hW
    unfold spineOk at hB
    rw [ho] at hB
    simp only [Bool.and_eq_true, Bool.or_eq_true, Bool.not_eq_true', Bool.true_eq_false, false_or] at hB
    obtain ⟨⟨⟨_, hnd⟩, hck, hown⟩, hB'⟩ := hB
    have hlen : m'.length = m.length := by rw [hm']; exact fill1_len _ _ _
    have hne : ∀ t, o.dst ≠ some t → m'[t]? = m[t]? := fun t ht => by rw [hm']; exact fill1_ne ht
    have hsep : ∀ x ∈ F, ∀ ox lx, Pend P (fun w => x ∈ fl → C w) l ((true, i) :: r) m x ox lx → _ := fun x hx ox lx hp => chk_cons hp.ck ho (fun h => by cases h.2)
    have hflj' : ∀ j, j ∈ fl → j ∈ fl' := fun j h => by
      rcases hq with ⟨e, _⟩ | ⟨e, _⟩
      · rw [e]; exact List.mem_cons_of_mem _ h
      · rw [e]; exact h
    refine norm2 r _ (i :: F) fl' m' ⟨hI.df, by rw [hlen]; exact hI.sz, ?_, hI.lsz, ?_, ?_, fun x hx => hI.unR x (List.mem_cons_of_mem _ hx), ?_, ?_, ?_⟩ hW' hB'
    · intro t ht
      rw [hne t (ht i o List.mem_cons_self ho)]
      exact hI.glob t fun x o' hx => ht x o' (List.mem_cons_of_mem _ hx)
    · intro j hj hu
      rcases hI.cov j hj hu with h | ⟨b, h⟩
      · exact .inl (List.mem_cons_of_mem _ h)
      · rcases List.mem_cons.1 h with h | h
        · injection h with _ h; subst h; exact .inl List.mem_cons_self
        · exact .inr ⟨b, h⟩
    · intro j hj
      rcases List.mem_cons.1 hj with h | h
      · subst h; exact hI.unR (true, j) List.mem_cons_self
      · exact hI.unF j h
    · intro j hj x hx
      rcases List.mem_cons.1 hj with h | h
      · subst h
        intro e
        rw [List.any_eq_false] at hnd
        exact hnd x hx (by simp [e])
      · exact hI.disj j h x (List.mem_cons_of_mem _ hx)
    · intro j hj
      rcases List.mem_cons.1 hj with h | h
      · subst h
        refine ⟨o, m', ho, fun w hw => (by
          rcases hq with ⟨e, hq⟩ | ⟨_, hq⟩
          · exact hq w (hw (by rw [e]; exact List.mem_cons_self))
          · exact hq w), fun _ _ => rfl, fun _ _ => rfl, rfl, hck, fun t ht => ?_⟩
        unfold ownB at hown
        rw [ht] at hown
        simpa using hown
      · obtain ⟨ox, lx, hp⟩ := hI.pend j h
        obtain ⟨s1, s2, s3⟩ := hsep j h ox lx hp
        exact ⟨ox, lx, hp.ho, fun w hw => hp.q w fun hj => hw (hflj' j hj), fun t ht => by rw [hp.see t ht, hne t (fun e => s2 t e ht)], fun t ht => by rw [hp.val t ht, hne t (s1 t ht).1], by rw [hp.len, hlen], s3, hp.own⟩
    · intro x hx y hy hxy ox oy hox hoy t ht
      rcases List.mem_cons.1 hx with h | h
      · subst h
        rcases List.mem_cons.1 hy with h' | h'
        · exact absurd h'.symm hxy
        · obtain ⟨ox', lx, hp⟩ := hI.pend y h'
          obtain ⟨s1, s2, s3⟩ := hsep y h' ox' lx hp
          rw [ho] at hox; injection hox with hox; subst hox
          rw [hp.ho] at hoy; injection hoy with hoy; subst hoy
          exact ⟨fun e => (s1 t e).1 ht, fun hm => absurd hm (s2 t ht)⟩
      · rcases List.mem_cons.1 hy with h' | h'
        · subst h'
          obtain ⟨ox', lx, hp⟩ := hI.pend x h
          obtain ⟨s1, s2, s3⟩ := hsep x h ox' lx hp
          rw [ho] at hoy; injection hoy with hoy; subst hoy
          rw [hp.ho] at hox; injection hox with hox; subst hox
          exact s1 t ht
        · exact hI.pair x h y h' hxy ox oy hox hoy t ht

theorem spine_core2 (hsel : Region.noSelect l.toArray = true)
    (hlow : ∀ (k : Nat) (o : Oper), l[k]? = some o → ∀ e ∈ o.after, Region.binds .any e = true → e.on < k) :
    ∀ (u : Nat) (C : World → Prop) (rest : List (Bool × Nat)) (grp F fl : List Nat) (m : List Value) (listed : Array Bool) (a : Act) (w : World), Closed l listed → Inv2 P C fl l rest F m listed a → Walk2 P Q l rest C fl m w → spineOk l rest grp = true →
      cnt (fun k => listed.getD k true) l.length = u → wpAny P .any l.toArray Q u listed a w := by
  intro u
  induction u with
  | zero =>
    intro C rest grp F fl m listed a w hcl hI hW hB hcnt
    obtain ⟨rest, grp, F, fl, m, hI, hW, hB, hh⟩ := norm2 rest grp F fl m hI hW hB
    have hall := cnt_zero _ hcnt
    have hF : F = [] := by
      cases F with
      | nil => rfl
      | cons i F =>
        obtain ⟨o, li, hp⟩ := hI.pend i List.mem_cons_self
        have := hall i (List.getElem?_eq_some_iff.1 hp.ho).1
        rw [hI.unF i List.mem_cons_self] at this; cases this
    have hR : rest = [] := by
      rcases hh with h | ⟨i, r, h⟩
      · exact h
      · subst h
        obtain ⟨_, o, ho, _⟩ := hW
        have := hall i (List.getElem?_eq_some_iff.1 ho).1
        rw [hI.unR (false, i) List.mem_cons_self] at this; cases this
    subst hF; subst hR
    have ha : a = Fr m := by
      have ht : a.tmps = m.toArray := by
        apply Array.ext (by simp [hI.sz])
        intro i h1 h2
        have h3 := hI.glob i fun x o hx => by cases hx
        have h2' : i < m.length := by simpa using h2
        rw [Array.getElem?_eq_getElem h1, List.getElem?_eq_getElem h2'] at h3
        simpa using h3
      cases a
      simp only at ht
      have := hI.df
      simp only at this
      rw [ht, this]
    subst ha
    refine ⟨?_, hW.2⟩
    cases hr : Region.ready .any l.toArray listed with
    | nil => rfl
    | cons i r =>
      obtain ⟨hu, o, ho, _⟩ := mem_ready.1 (show i ∈ Region.ready .any l.toArray listed by rw [hr]; exact List.mem_cons_self)
      have ho' : l[i]? = some o := by simpa using ho
      rw [hall i (List.getElem?_eq_some_iff.1 ho').1] at hu; cases hu
  | succ u ih =>
    intro C rest grp F fl m listed a w hcl hI hW hB hcnt
    obtain ⟨rest, grp, F, fl, m, hI, hW, hB, hh⟩ := norm2 rest grp F fl m hI hW hB
    refine ⟨fun hnil => ?_, fun i hi => ?_⟩
    · exfalso
      obtain ⟨k0, hk0, hk0f, hk0l⟩ := cnt_pos (L := fun k => listed.getD k true) l.length (by omega)
      have hk0f : listed.getD k0 true = false := hk0f
      obtain ⟨o, ho⟩ : ∃ o, l[k0]? = some o := ⟨_, List.getElem?_eq_getElem hk0⟩
      have : k0 ∈ Region.ready .any l.toArray listed := mem_ready.2 ⟨hk0f, o, by simpa using ho, fun e he hb => by
        have h2 := hlow k0 o ho e he hb
        have h3 : listed.getD e.on true = true := hk0l e.on h2
        simp only [Array.getD_eq_getD_getElem?] at h3 ⊢
        rw [Array.getElem?_eq_getElem (show e.on < listed.size by rw [hI.lsz]; omega)] at h3 ⊢
        simpa using h3⟩
      rw [hnil] at this; cases this
    · obtain ⟨hiun, o, ho0, hdeps⟩ := mem_ready.1 hi
      have ho : l[i]? = some o := by simpa using ho0
      have hil : i < l.length := (List.getElem?_eq_some_iff.1 ho).1
      have hset : ∀ j, j ≠ i → (listed.setIfInBounds i true).getD j true = listed.getD j true := fun j hj => getD_set_ne true (fun h => hj h.symm)
      have hself := getD_self (listed := listed) (i := i) (by rw [hI.lsz]; exact hil)
      have hcnt' : cnt (fun k => (listed.setIfInBounds i true).getD k true) l.length = u := by
        have := cnt_set (L := fun k => listed.getD k true) (L' := fun k => (listed.setIfInBounds i true).getD k true) l.length hil hiun hself hset
        omega
      have hmono : ∀ x, listed.getD x true = true → (listed.setIfInBounds i true).getD x true = true := fun x hx => by
        by_cases hxi : x = i
        · subst hxi; exact hself
        · rw [hset x hxi]; exact hx
      have hcl' : Closed l (listed.setIfInBounds i true) := fun j oj hj hl x hx => by
        by_cases hji : j = i
        · subst hji
          rw [ho] at hj; injection hj with hj; subst hj
          exact hmono x (waits_listed hdeps hx)
        · rw [hset j hji] at hl
          exact hmono x (hcl j oj hj hl x hx)
      have hselo := (Region.noSelect_spec hsel i o · · ho0)
      by_cases hF : i ∈ F
      · -- one of those that were reckoned ahead
        obtain ⟨o', li, hp⟩ := hI.pend i hF
        have e : o' = o := by have h1 := hp.ho; rw [ho] at h1; injection h1 with h1; exact h1.symm
        subst e
        have hag : ∀ t ∈ o'.looksAt l.toArray, a.tmps[t]? = li[t]? := fun t ht => by
          rw [hp.see t ht]
          refine hI.glob t fun x ox hx hox e => ?_
          by_cases hxi : x = i
          · subst hxi
            rw [ho] at hox; injection hox with hox; subst hox
            exact hp.own t e ht
          · have := waits_listed hdeps ((hI.pair x hx i hF hxi ox o' hox ho t e).2 ht)
            rw [hI.unF x hx] at this; cases this
        unfold wpOp
        simp only [ho0]
        refine quiet_op hselo (fun x hx => eval_of_tmps fun t ht => hag t (looks_tmp (by subst ht; exact hx))) (wanted_of_tmps hag) (hp.q w (by
          intro _
          have : ∀ (r : List (Bool × Nat)), (r = [] ∨ ∃ i r', r = (false, i) :: r') → Walk2 P Q l r C fl m w → C w := by
            rintro r (h | ⟨j, r', h⟩) hw
            · subst h; exact hw.1
            · subst h; exact hw.1
          exact this rest hh hW)) fun v w' hv hw' => ?_
        subst hw'
        refine ih C rest grp (F.filter (· != i)) fl m _ _ _ hcl' ⟨?_, ?_, ?_, by simpa using hI.lsz, ?_, ?_, ?_, ?_, ?_, ?_⟩ hW hB hcnt'
        · cases hd : o'.dst <;> simp [Act.put, hI.df]
        · cases hd : o'.dst <;> simp [Act.put, hI.sz]
        · intro t ht
          by_cases hdt : o'.dst = some t
          · rw [hdt] at hv ⊢
            simp only [dstSet] at hv
            rw [← hp.val t hdt]
            by_cases hlt : t < li.length
            · rw [set_same hv hlt, put_tmps_eq (by rw [hI.sz, ← hp.len]; exact hlt)]
            · rw [List.getElem?_eq_none (Nat.le_of_not_lt hlt), Array.getElem?_eq_none]
              simp only [Act.put, Array.size_setIfInBounds, hI.sz, ← hp.len]; exact Nat.le_of_not_lt hlt
          · rw [put_tmps_ne hdt]
            refine hI.glob t fun x ox hx hox => ?_
            by_cases hxi : x = i
            · subst hxi
              rw [ho] at hox; injection hox with hox; subst hox
              exact hdt
            · exact ht x ox (List.mem_filter.2 ⟨hx, by simpa using hxi⟩) hox
        · intro j hj hu
          have hji : j ≠ i := fun e => by subst e; rw [hself] at hu; cases hu
          rw [hset j hji] at hu
          rcases hI.cov j hj hu with h | h
          · exact .inl (List.mem_filter.2 ⟨h, by simpa using hji⟩)
          · exact .inr h
        · intro j hj
          have h := List.mem_filter.1 hj
          rw [hset j (by simpa using h.2)]; exact hI.unF j h.1
        · intro x hx
          rw [hset x.2 (hI.disj i hF x hx)]; exact hI.unR x hx
        · intro j hj; exact hI.disj j (List.mem_filter.1 hj).1
        · intro j hj; exact hI.pend j (List.mem_filter.1 hj).1
        · intro x hx y hy; exact hI.pair x (List.mem_filter.1 hx).1 y (List.mem_filter.1 hy).1
      · -- the next link of the chain
        obtain ⟨b, hmem⟩ := (hI.cov i hil hiun).resolve_left hF
        rcases hh with h | ⟨i', r, h⟩
        · subst h; cases hmem
        subst h
        have hB0 := hB
        unfold spineOk at hB
        obtain ⟨hCw, o1, ho1, hwl⟩ := hW
        rw [ho1] at hB
        simp only [Bool.and_eq_true, Bool.or_eq_true, Bool.not_eq_true'] at hB
        obtain ⟨⟨⟨_, hnd⟩, _⟩, hB'⟩ := hB
        have hB' : spineOk l r [i'] = true := by simpa using hB'
        have hii : i = i' := by
          rcases List.mem_cons.1 hmem with h | h
          · injection h
          · exfalso
            exact not_ready r [i'] hB' (by simp) (fun g hg => by simp at hg; subst hg; exact hI.unR (false, g) List.mem_cons_self) (fun y hy => hI.unR y (List.mem_cons_of_mem _ hy)) (b, i) h hi
        subst hii
        have e : o1 = o := by rw [ho] at ho1; injection ho1 with h; exact h.symm
        subst e
        have hnw : ∀ x ∈ F, ¬ (waits o1 x = true) := fun x hx hw => by
          have := waits_listed hdeps hw
          rw [hI.unF x hx] at this; cases this
        have hsep : ∀ x ∈ F, ∀ ox lx, Pend P (fun w => x ∈ fl → C w) l ((false, i) :: r) m x ox lx → _ := fun x hx ox lx hp => chk_cons hp.ck ho (fun h => hnw x hx h.1)
        have hag : ∀ t ∈ o1.looksAt l.toArray, a.tmps[t]? = m[t]? := fun t ht => by
          refine hI.glob t fun x ox hx hox e => ?_
          obtain ⟨ox', lx, hp⟩ := hI.pend x hx
          obtain ⟨s1, _, _⟩ := hsep x hx ox' lx hp
          rw [hp.ho] at hox; injection hox with hox; subst hox
          exact hnw x hx ((s1 t e).2 ht)
        have hwn := wanted_of_tmps (ls := m) hag
        have hev : ∀ x ∈ o1.op.operands, a.eval x = (Fr m).eval x := fun x hx => eval_of_tmps fun t ht => hag t (looks_tmp (by subst ht; exact hx))
        -- what is left, whatever it yields
        have next : ∀ v w' m' C' fl', (((∀ w, C' w → C w) ∧ fl' = fl) ∨ barB l o1 fl = true) → (Fr m).put o1.dst v = Fr m' → Walk2 P Q l r C' fl' m' w' → wpAny P .any l.toArray Q u (listed.setIfInBounds i true) (a.put o1.dst v) w' := by
          intro v w' m' C' fl' hbar hm' hW'
          have hF0 : ((∀ w, C' w → C w) ∧ fl' = fl) ∨ ∀ x ∈ F, x ∉ fl := hbar.imp id fun hb x hx hxf => by
            have h1 := List.all_eq_true.1 hb x hxf
            have h2 := wall_listed hcl o1 (fun y hy => waits_listed hdeps hy) h1
            rw [hI.unF x hx] at h2; cases h2
          have hm1 : dstSet o1.dst m v = m' := by
            rw [Fr.put_dst] at hm'
            have := congrArg Act.tmps hm'
            simpa using this
          have hne : ∀ t : Nat, o1.dst ≠ some t → m'[t]? = m[t]? := fun t ht => by
            rw [← hm1]
            cases hd : o1.dst with
            | none => rfl
            | some d =>
              simp only [dstSet]
              rw [List.getElem?_set_ne]
              intro e; subst e; exact ht hd
          have hlen : m'.length = m.length := by rw [← hm1]; cases o1.dst <;> simp [dstSet]
          refine ih C' r [i] F fl' m' _ _ _ hcl' ⟨?_, ?_, ?_, by simpa using hI.lsz, ?_, ?_, ?_, fun j hj x hx => hI.disj j hj x (List.mem_cons_of_mem _ hx), ?_, hI.pair⟩ hW' hB' hcnt'
          · cases hd : o1.dst <;> simp [Act.put, hI.df]
          · rw [hlen]; cases hd : o1.dst <;> simp [Act.put, hI.sz]
          · intro t ht
            by_cases hdt : o1.dst = some t
            · rw [← hm1, hdt]
              simp only [dstSet]
              by_cases hlt : t < m.length
              · rw [put_tmps_eq (by rw [hI.sz]; exact hlt), List.getElem?_set_self hlt]
              · rw [List.getElem?_eq_none (by simp; omega), Array.getElem?_eq_none]
                simp only [Act.put, Array.size_setIfInBounds, hI.sz]; omega
            · rw [put_tmps_ne hdt, hne t hdt]; exact hI.glob t ht
          · intro j hj hu
            have hji : j ≠ i := fun e => by subst e; rw [hself] at hu; cases hu
            rw [hset j hji] at hu
            rcases hI.cov j hj hu with h | ⟨b', h⟩
            · exact .inl h
            · rcases List.mem_cons.1 h with h | h
              · injection h with _ h; exact absurd h hji
              · exact .inr ⟨b', h⟩
          · intro j hj
            rw [hset j (fun e => hF (e ▸ hj))]; exact hI.unF j hj
          · intro x hx
            have : x.2 ≠ i := fun e => by
              rw [List.any_eq_false] at hnd
              exact hnd x hx (by simp [e])
            rw [hset x.2 this]; exact hI.unR x (List.mem_cons_of_mem _ hx)
          · intro j hj
            have hC : ∀ w, (j ∈ fl' → C' w) → (j ∈ fl → C w) := by
              rcases hF0 with ⟨h, e⟩ | h
              · intro w hw hjf; exact h w (hw (by rw [e]; exact hjf))
              · intro w hw hjf; exact absurd hjf (h j hj)
            obtain ⟨ox, lx, hp⟩ := hI.pend j hj
            obtain ⟨s1, s2, s3⟩ := hsep j hj ox lx hp
            exact ⟨ox, lx, hp.ho, fun w hw => hp.q w (hC w hw), fun t ht => by rw [hp.see t ht, hne t (fun e => s2 t e ht)], fun t ht => by rw [hp.val t ht, hne t (s1 t ht).1], by rw [hp.len, hlen], s3, hp.own⟩
        have h := hwl.out
        unfold wpList at h
        unfold wpOp
        simp only [ho0]
        rw [hwn]
        split at h
        · rename_i hw
          rw [if_pos hw]
          refine .inl ?_
          have h := h.resolve_right fun h => by obtain ⟨_, _, h1⟩ := h.2; cases h1.1
          unfold Oper.wp at h ⊢
          rw [execOp_congr o1 hselo hev]
          generalize (execOp (Fr m).eval o1).run P w = res at h ⊢
          cases res with
          | ok n w' =>
            cases n with
            | value v => obtain ⟨_, m', C', fl', hb, hm', hW'⟩ := h; exact next v w' m' C' fl' hb hm' hW'
            | skip => obtain ⟨_, m', C', fl', hb, hm', hW'⟩ := h; exact next _ w' m' C' fl' hb hm' hW'
            | enter f args =>
              refine Calls.mono h fun e w'' he => ?_
              cases e with
              | returned v => obtain ⟨_, m', C', fl', hb, hm', hW'⟩ := he; exact next v w'' m' C' fl' hb hm' hW'
              | panicked c => cases he.1
              | outgrown => obtain ⟨_, _, h1⟩ := he; cases h1.1
            | row nm args => exact Rows.mono h fun v w'' he => by obtain ⟨_, m', C', fl', hb, hm', hW'⟩ := he; exact next v w'' m' C' fl' hb hm' hW'
            | defer d =>
              simp only [Oper.upon] at h
              obtain ⟨_, m', _, _, _, h2, _⟩ := h
              have h2 := congrArg Act.defers h2
              cases hd : o1.dst with
              | none => rw [hd] at h2; simp [Act.put] at h2
              | some t => rw [hd] at h2; simp [Act.put] at h2
            | _ => exact h.elim
          | halt x w' =>
            cases x with
            | panic v => cases h.1
            | _ => exact h.elim
        · rename_i hw
          rw [if_neg hw]
          obtain ⟨_, m', C', fl', hb, hm', hW'⟩ := h
          exact next _ w m' C' fl' hb hm' hW'

/-- A region that draws its order, walked along a chain. -/
theorem region_spine2 {id : Nat} {w : World} {m : List Value} (π : List (Bool × Nat)) (C : World → Prop) (hm : P.follows .mixedOrders = true) (hB : spineB l π = true)
    (h : Walk2 P Q l π C [] m { w with drawn := w.drawn + 1 }) : (Code.region id l.toArray true).wp P Q (Fr m) w := by
  unfold spineB at hB
  simp only [Bool.and_eq_true, List.all_eq_true, List.mem_range, List.any_eq_true, beq_iff_eq] at hB
  obtain ⟨⟨hsel, hok⟩, hall⟩ := hB
  refine wp_region_any hm ?_
  have hc : cnt (fun k => (Array.replicate l.toArray.size false).getD k true) l.length = l.length := by
    have : ∀ n, n ≤ l.length → cnt (fun k => (Array.replicate l.toArray.size false).getD k true) n = n := by
      intro n
      induction n with
      | zero => intro _; rfl
      | succ n ih =>
        intro hn
        have e : (Array.replicate l.toArray.size false).getD n true = false := getD_in (by simp; omega) (getD_replicate_false _ _)
        simp only [cnt, e]
        rw [ih (by omega)]; simp
    exact this _ (Nat.le_refl _)
  have hin : ∀ x ∈ π, x.2 < l.length := by
    have : ∀ (π : List (Bool × Nat)) (grp : List Nat), spineOk l π grp = true → ∀ x ∈ π, x.2 < l.length := by
      intro π
      induction π with
      | nil => intro _ _ x hx; cases hx
      | cons y r ihr =>
        intro grp h x hx
        obtain ⟨b, i⟩ := y
        unfold spineOk at h
        simp only [Bool.and_eq_true] at h
        rcases List.mem_cons.1 hx with e | e
        · subst e
          cases ho : l[i]? with
          | none => rw [ho] at h; simp at h
          | some o => exact (List.getElem?_eq_some_iff.1 ho).1
        · exact ihr _ h.2 x e
    exact this π [] hok
  have H := spine_core2 (P := P) (Q := Q) (l := l) hsel (fun k o ho e he hb => by
      have h1 := (hall k (List.getElem?_eq_some_iff.1 ho).1).2
      rw [ho] at h1
      simp only [Array.all_eq_true_iff_forall_mem, Bool.or_eq_true, Bool.not_eq_true', decide_eq_true_eq] at h1
      exact (h1 e he).resolve_left (by simp [hb])) l.length C π [] [] [] m (Array.replicate l.toArray.size false) (Fr m) _ (fun j o ho hl => by
      have h1 : j < l.toArray.size := by simpa using (List.getElem?_eq_some_iff.1 ho).1
      rw [getD_in (by simpa using h1) (getD_replicate_false _ _)] at hl; cases hl)
    ⟨rfl, by simp, fun t _ => by simp, by simp, fun i hi _ => .inr (by
        obtain ⟨x, hx, e⟩ := (hall i hi).1
        exact ⟨x.1, by rw [← e]; exact hx⟩), (fun i hi => by cases hi), fun x hx => getD_in (by simpa using hin x hx) (getD_replicate_false _ _), (fun i hi => by cases hi), (fun i hi => by cases hi), (fun x hx => by cases hx)⟩ h hok hc
  simpa using H
end
end Go.Lift

/- Regions that draw their order, where some links may come in more than one order. -/
namespace Go.Lift
open Go

inductive Pl where
  | done
  | stop
  | fl (i : Nat) (t : Pl)
  | lk (i : Nat) (t more : Pl)

def Pl.heads : Pl → List Nat
  | .lk i _ more => i :: more.heads
  | _ => []
def Pl.sub : Pl → Nat → Pl
  | .lk i t more, j => match Nat.beq i j with
    | true => t
    | false => more.sub j
  | _, _ => .stop

/-- Two operations that keep out of each other's way, or the later one waits. -/
def apartB (l : List Oper) (o : Oper) (i : Nat) (x : Oper) : Bool :=
  (match o.dst with | some d => x.dst != some d && (waits x i || !(x.looksAt l.toArray).contains d) | none => true)
    && (match x.dst with | some d => !(o.looksAt l.toArray).contains d | none => true)

def chkT (l : List Oper) (o : Oper) (i : Nat) : Pl → Bool
  | .done | .stop => true
  | .fl j t => match l[j]? with
    | none => false
    | some x => apartB l o i x && chkT l o i t
  | .lk j t more => (match l[j]? with
    | none => false
    | some x => waits x i || (apartB l o i x && chkT l o i t)) && chkT l o i more

def frontB (l : List Oper) (hs todo : List Nat) : Bool := todo.all fun j => hs.contains j || match l[j]? with
  | some o => todo.any fun k => waits o k
  | none => false

def planOk (l : List Oper) : Bool → Pl → List Nat → Bool
  | top, .done, todo => top && todo.isEmpty
  | top, .stop, _ => !top
  | top, .fl i t, todo => top && todo.contains i && (match l[i]? with
    | some o => chkT l o i t && ownB l o
    | none => false) && planOk l true t (todo.filter fun j => !(Nat.beq j i))
  | top, .lk i t more, todo => (!top || frontB l (i :: more.heads) todo) && todo.contains i && !(more.heads.contains i) && planOk l true t (todo.filter fun j => !(Nat.beq j i)) && planOk l false more todo

def planB (l : List Oper) (pl : Pl) : Bool :=
  Region.noSelect l.toArray && planOk l true pl (List.range l.length)
  && (List.range l.length).all fun i => match l[i]? with
    | some o => o.after.all fun e => !Region.binds .any e || decide (e.on < i)
    | none => true

section
variable {P : Program} {Q : Exit → Act → World → Prop} {C : World → Prop} {l : List Oper}

def WalkT (P : Program) (Q : Exit → Act → World → Prop) (l : List Oper) : Pl → (World → Prop) → List Nat → List Value → World → Prop
  | .done, C, _, m, w => C w ∧ Q .normal (Fr m) w
  | .stop, C, _, _, w => C w
  | .fl i t, C, fl, m, w => ∃ o m' fl', l[i]? = some o ∧ m' = fill1 m' m o ∧ ((fl' = i :: fl ∧ ∀ w', C w' → WL P l.toArray (Qv (fun x => x = w') m') [o] (Fr m') w') ∨ (fl' = fl ∧ ∀ w', WL P l.toArray (Qv (fun x => x = w') m') [o] (Fr m') w')) ∧ WalkT P Q l t C fl' m' w
  | .lk i t more, C, fl, m, w => C w ∧ (∃ o, l[i]? = some o ∧ WL P l.toArray (fun e a w' => e = .normal ∧ ∃ m' C' fl', (((∀ w, C' w → C w) ∧ fl' = fl) ∨ barB l o fl = true) ∧ a = Fr m' ∧ WalkT P Q l t C' fl' m' w') [o] (Fr m) w) ∧ WalkT P Q l more C fl m w

structure PendT (P : Program) (C : World → Prop) (l : List Oper) (rest : Pl) (m : List Value) (i : Nat) (o : Oper) (li : List Value) : Prop where
  ho : l[i]? = some o
  q : ∀ w, C w → WL P l.toArray (Qv (fun x => x = w) li) [o] (Fr li) w
  see : ∀ t ∈ o.looksAt l.toArray, li[t]? = m[t]?
  val : ∀ t, o.dst = some t → li[t]? = m[t]?
  len : li.length = m.length
  ck : chkT l o i rest = true
  own : ∀ t, o.dst = some t → t ∉ o.looksAt l.toArray

structure InvT (P : Program) (C : World → Prop) (fl : List Nat) (l : List Oper) (rest : Pl) (todo F : List Nat) (m : List Value) (listed : Array Bool) (a : Act) : Prop where
  df : a.defers = []
  sz : a.tmps.size = m.length
  glob : ∀ t : Nat, (∀ (x : Nat) (o : Oper), x ∈ F → l[x]? = some o → o.dst ≠ some t) → a.tmps[t]? = m[t]?
  lsz : listed.size = l.length
  cov : ∀ i : Nat, i < l.length → listed.getD i true = false → i ∈ F ∨ i ∈ todo
  unF : ∀ i ∈ F, listed.getD i true = false
  unR : ∀ x ∈ todo, listed.getD x true = false
  disj : ∀ i ∈ F, ∀ x ∈ todo, x ≠ i
  pend : ∀ i ∈ F, ∃ o li, PendT P (fun w => i ∈ fl → C w) l rest m i o li
  pair : ∀ x ∈ F, ∀ y ∈ F, x ≠ y → ∀ (ox oy : Oper), l[x]? = some ox → l[y]? = some oy → ∀ t, ox.dst = some t → oy.dst ≠ some t ∧ (t ∈ oy.looksAt l.toArray → waits oy x = true)

theorem apart_spec {o x : Oper} {i : Nat} (h : apartB l o i x = true) : (∀ t, o.dst = some t → x.dst ≠ some t ∧ (t ∈ x.looksAt l.toArray → waits x i = true)) ∧ (∀ t, x.dst = some t → t ∉ o.looksAt l.toArray) := by
  unfold apartB at h
  simp only [Bool.and_eq_true] at h
  refine ⟨fun t ht => ?_, fun t ht => ?_⟩
  · have h1 := h.1
    rw [ht] at h1
    simp only [Bool.and_eq_true, Bool.or_eq_true, bne_iff_ne, ne_eq, Bool.not_eq_true', List.contains_eq_mem, decide_eq_false_iff_not] at h1
    exact ⟨h1.1, fun hm => h1.2.resolve_right fun h2 => h2 hm⟩
  · have h1 := h.2
    rw [ht] at h1
    simpa using h1

theorem mem_rem {todo : List Nat} {i j : Nat} : j ∈ todo.filter (fun j => !(Nat.beq j i)) ↔ j ∈ todo ∧ j ≠ i := by
  rw [List.mem_filter]
  constructor
  · rintro ⟨h1, h2⟩
    exact ⟨h1, fun e => by subst e; rw [Nat.beq_refl] at h2; cases h2⟩
  · rintro ⟨h1, h2⟩
    refine ⟨h1, ?_⟩
    cases hb : Nat.beq j i with
    | false => rfl
    | true => exact absurd (Nat.eq_of_beq_eq_true hb) h2

theorem walkT_C {pl : Pl} {fl : List Nat} {m : List Value} {w : World} (hn : ∀ i t, pl ≠ .fl i t) (h : WalkT P Q l pl C fl m w) : C w := by
  cases pl with
  | done => exact h.1
  | stop => exact h
  | fl i t => exact absurd rfl (hn i t)
  | lk i t more => exact h.1

theorem normT {w : World} {listed : Array Bool} {a : Act} : ∀ (pl : Pl) (todo F fl : List Nat) (m : List Value), InvT P C fl l pl todo F m listed a → WalkT P Q l pl C fl m w → planOk l true pl todo = true →
    ∃ pl' todo' F' fl' m', InvT P C fl' l pl' todo' F' m' listed a ∧ WalkT P Q l pl' C fl' m' w ∧ planOk l true pl' todo' = true ∧ (∀ i t, pl' ≠ .fl i t)
  | .done, todo, F, fl, m, hI, hW, hB => ⟨_, todo, F, fl, m, hI, hW, hB, fun _ _ e => by cases e⟩
  | .stop, todo, F, fl, m, hI, hW, hB => ⟨_, todo, F, fl, m, hI, hW, hB, fun _ _ e => by cases e⟩
  | .lk i t more, todo, F, fl, m, hI, hW, hB => ⟨_, todo, F, fl, m, hI, hW, hB, fun _ _ e => by cases e⟩
  | .fl i r, todo, F, fl, m, hI, hW, hB => by
    obtain ⟨o, m', fl', ho, hm', hq, hW'⟩ := hW
    unfold planOk at hB
    rw [ho] at hB
    simp only [Bool.and_eq_true, Bool.true_and] at hB
    obtain ⟨⟨hin, hck, hown⟩, hB'⟩ := hB
    have hit : i ∈ todo := by simpa using hin
    have hlen : m'.length = m.length := by rw [hm']; exact fill1_len _ _ _
    have hne : ∀ t, o.dst ≠ some t → m'[t]? = m[t]? := fun t ht => by rw [hm']; exact fill1_ne ht
    have hsep : ∀ x ∈ F, ∀ ox lx, PendT P (fun w => x ∈ fl → C w) l (.fl i r) m x ox lx → apartB l ox x o = true ∧ chkT l ox x r = true := fun x hx ox lx hp => by
      have := hp.ck
      unfold chkT at this
      rw [ho] at this
      simpa [Bool.and_eq_true] using this
    have hiF : i ∉ F := fun h => hI.disj i h i hit rfl
    have hflj' : ∀ j, j ∈ fl → j ∈ fl' := fun j h => by
      rcases hq with ⟨e, _⟩ | ⟨e, _⟩
      · rw [e]; exact List.mem_cons_of_mem _ h
      · rw [e]; exact h
    refine normT r _ (i :: F) fl' m' ⟨hI.df, by rw [hlen]; exact hI.sz, ?_, hI.lsz, ?_, ?_, fun x hx => hI.unR x (mem_rem.1 hx).1, ?_, ?_, ?_⟩ hW' hB'
    · intro t ht
      rw [hne t (ht i o List.mem_cons_self ho)]
      exact hI.glob t fun x o' hx => ht x o' (List.mem_cons_of_mem _ hx)
    · intro j hj hu
      rcases hI.cov j hj hu with h | h
      · exact .inl (List.mem_cons_of_mem _ h)
      · by_cases hji : j = i
        · subst hji; exact .inl List.mem_cons_self
        · exact .inr (mem_rem.2 ⟨h, hji⟩)
    · intro j hj
      rcases List.mem_cons.1 hj with h | h
      · subst h; exact hI.unR j hit
      · exact hI.unF j h
    · intro j hj x hx
      rcases List.mem_cons.1 hj with h | h
      · subst h; exact (mem_rem.1 hx).2
      · exact hI.disj j h x (mem_rem.1 hx).1
    · intro j hj
      rcases List.mem_cons.1 hj with h | h
      · subst h
        refine ⟨o, m', ho, fun w hw => (by
          rcases hq with ⟨e, hq⟩ | ⟨_, hq⟩
          · exact hq w (hw (by rw [e]; exact List.mem_cons_self))
          · exact hq w), fun _ _ => rfl, fun _ _ => rfl, rfl, hck, fun t ht => ?_⟩
        unfold ownB at hown
        rw [ht] at hown
        simpa using hown
      · obtain ⟨ox, lx, hp⟩ := hI.pend j h
        obtain ⟨s0, s3⟩ := hsep j h ox lx hp
        obtain ⟨s1, s2⟩ := apart_spec s0
        exact ⟨ox, lx, hp.ho, fun w hw => hp.q w fun hj => hw (hflj' j hj), fun t ht => by rw [hp.see t ht, hne t (fun e => s2 t e ht)], fun t ht => by rw [hp.val t ht, hne t (s1 t ht).1], by rw [hp.len, hlen], s3, hp.own⟩
    · intro x hx y hy hxy ox oy hox hoy t ht
      rcases List.mem_cons.1 hx with h | h
      · subst h
        rcases List.mem_cons.1 hy with h' | h'
        · exact absurd h'.symm hxy
        · obtain ⟨ox', lx, hp⟩ := hI.pend y h'
          obtain ⟨s0, _⟩ := hsep y h' ox' lx hp
          obtain ⟨s1, s2⟩ := apart_spec s0
          rw [ho] at hox; injection hox with hox; subst hox
          rw [hp.ho] at hoy; injection hoy with hoy; subst hoy
          exact ⟨fun e => (s1 t e).1 ht, fun hm => absurd hm (s2 t ht)⟩
      · rcases List.mem_cons.1 hy with h' | h'
        · subst h'
          obtain ⟨ox', lx, hp⟩ := hI.pend x h
          obtain ⟨s0, _⟩ := hsep x h ox' lx hp
          obtain ⟨s1, s2⟩ := apart_spec s0
          rw [ho] at hoy; injection hoy with hoy; subst hoy
          rw [hp.ho] at hox; injection hox with hox; subst hox
          exact s1 t ht
        · exact hI.pair x h y h' hxy ox oy hox hoy t ht

/-- The branch of a link that comes. -/
theorem lk_find {fl : List Nat} {m : List Value} {w : World} {i : Nat} : ∀ {pl : Pl} {top : Bool} {todo : List Nat}, i ∈ pl.heads → WalkT P Q l pl C fl m w → planOk l top pl todo = true →
    ∃ t, (∃ o, l[i]? = some o ∧ WL P l.toArray (fun e a w' => e = .normal ∧ ∃ m' C' fl', (((∀ w, C' w → C w) ∧ fl' = fl) ∨ barB l o fl = true) ∧ a = Fr m' ∧ WalkT P Q l t C' fl' m' w') [o] (Fr m) w) ∧
      planOk l true t (todo.filter fun j => !(Nat.beq j i)) = true ∧ i ∈ todo ∧ ∀ (x : Nat) (ox : Oper), chkT l ox x pl = true → ∀ o, l[i]? = some o → waits o x = true ∨ (apartB l ox x o = true ∧ chkT l ox x t = true)
  | .done, _, _, h, _, _ => by cases h
  | .stop, _, _, h, _, _ => by cases h
  | .fl _ _, _, _, h, _, _ => by cases h
  | .lk j t more, top, todo, h, hW, hB => by
    unfold planOk at hB
    simp only [Bool.and_eq_true] at hB
    obtain ⟨⟨⟨⟨_, hin⟩, _⟩, hBt⟩, hBm⟩ := hB
    rcases List.mem_cons.1 h with h | h
    · subst h
      refine ⟨t, hW.2.1, hBt, by simpa using hin, fun x ox hc o ho => ?_⟩
      unfold chkT at hc
      rw [ho] at hc
      simp only [Bool.and_eq_true, Bool.or_eq_true] at hc
      exact hc.1
    · obtain ⟨t', h1, h2, h3, h4⟩ := lk_find h hW.2.2 hBm
      refine ⟨t', h1, h2, h3, fun x ox hc => h4 x ox ?_⟩
      unfold chkT at hc
      simp only [Bool.and_eq_true] at hc
      exact hc.2

theorem spine_coreT (hsel : Region.noSelect l.toArray = true)
    (hlow : ∀ (k : Nat) (o : Oper), l[k]? = some o → ∀ e ∈ o.after, Region.binds .any e = true → e.on < k) :
    ∀ (u : Nat) (C : World → Prop) (pl : Pl) (todo F fl : List Nat) (m : List Value) (listed : Array Bool) (a : Act) (w : World), Closed l listed → InvT P C fl l pl todo F m listed a → WalkT P Q l pl C fl m w → planOk l true pl todo = true →
      cnt (fun k => listed.getD k true) l.length = u → wpAny P .any l.toArray Q u listed a w := by
  intro u
  induction u with
  | zero =>
    intro C pl todo F fl m listed a w hcl hI hW hB hcnt
    obtain ⟨pl, todo, F, fl, m, hI, hW, hB, hh⟩ := normT pl todo F fl m hI hW hB
    have hall := cnt_zero _ hcnt
    have hF : F = [] := by
      cases F with
      | nil => rfl
      | cons i F =>
        obtain ⟨o, li, hp⟩ := hI.pend i List.mem_cons_self
        have := hall i (List.getElem?_eq_some_iff.1 hp.ho).1
        rw [hI.unF i List.mem_cons_self] at this; cases this
    have hR : pl = .done := by
      cases pl with
      | done => rfl
      | stop => unfold planOk at hB; cases hB
      | fl i t => exact absurd rfl (hh i t)
      | lk i t more =>
        obtain ⟨_, _, _, hin, _⟩ := lk_find (i := i) (List.mem_cons_self ..) hW hB
        have h1 := hI.unR i hin
        by_cases hil : i < l.length
        · rw [hall i hil] at h1; cases h1
        · have : listed.getD i true = true := by
            simp [Array.getD, hI.lsz, hil]
          rw [this] at h1; cases h1
    subst hF; subst hR
    have ha : a = Fr m := by
      have ht : a.tmps = m.toArray := by
        apply Array.ext (by simp [hI.sz])
        intro i h1 h2
        have h3 := hI.glob i fun x o hx => by cases hx
        have h2' : i < m.length := by simpa using h2
        rw [Array.getElem?_eq_getElem h1, List.getElem?_eq_getElem h2'] at h3
        simpa using h3
      cases a
      simp only at ht
      have := hI.df
      simp only at this
      rw [ht, this]
    subst ha
    refine ⟨?_, hW.2⟩
    cases hr : Region.ready .any l.toArray listed with
    | nil => rfl
    | cons i r =>
      obtain ⟨hu, o, ho, _⟩ := mem_ready.1 (show i ∈ Region.ready .any l.toArray listed by rw [hr]; exact List.mem_cons_self)
      have ho' : l[i]? = some o := by simpa using ho
      rw [hall i (List.getElem?_eq_some_iff.1 ho').1] at hu; cases hu
  | succ u ih =>
    intro C pl todo F fl m listed a w hcl hI hW hB hcnt
    obtain ⟨pl, todo, F, fl, m, hI, hW, hB, hh⟩ := normT pl todo F fl m hI hW hB
    refine ⟨fun hnil => ?_, fun i hi => ?_⟩
    · exfalso
      obtain ⟨k0, hk0, hk0f, hk0l⟩ := cnt_pos (L := fun k => listed.getD k true) l.length (by omega)
      have hk0f : listed.getD k0 true = false := hk0f
      obtain ⟨o, ho⟩ : ∃ o, l[k0]? = some o := ⟨_, List.getElem?_eq_getElem hk0⟩
      have : k0 ∈ Region.ready .any l.toArray listed := mem_ready.2 ⟨hk0f, o, by simpa using ho, fun e he hb => by
        have h2 := hlow k0 o ho e he hb
        have h3 : listed.getD e.on true = true := hk0l e.on h2
        simp only [Array.getD_eq_getD_getElem?] at h3 ⊢
        rw [Array.getElem?_eq_getElem (show e.on < listed.size by rw [hI.lsz]; omega)] at h3 ⊢
        simpa using h3⟩
      rw [hnil] at this; cases this
    · obtain ⟨hiun, o, ho0, hdeps⟩ := mem_ready.1 hi
      have ho : l[i]? = some o := by simpa using ho0
      have hil : i < l.length := (List.getElem?_eq_some_iff.1 ho).1
      have hset : ∀ j, j ≠ i → (listed.setIfInBounds i true).getD j true = listed.getD j true := fun j hj => getD_set_ne true (fun h => hj h.symm)
      have hself := getD_self (listed := listed) (i := i) (by rw [hI.lsz]; exact hil)
      have hcnt' : cnt (fun k => (listed.setIfInBounds i true).getD k true) l.length = u := by
        have := cnt_set (L := fun k => listed.getD k true) (L' := fun k => (listed.setIfInBounds i true).getD k true) l.length hil hiun hself hset
        omega
      have hmono : ∀ x, listed.getD x true = true → (listed.setIfInBounds i true).getD x true = true := fun x hx => by
        by_cases hxi : x = i
        · subst hxi; exact hself
        · rw [hset x hxi]; exact hx
      have hcl' : Closed l (listed.setIfInBounds i true) := fun j oj hj hl x hx => by
        by_cases hji : j = i
        · subst hji
          rw [ho] at hj; injection hj with hj; subst hj
          exact hmono x (waits_listed hdeps hx)
        · rw [hset j hji] at hl
          exact hmono x (hcl j oj hj hl x hx)
      have hselo := (Region.noSelect_spec hsel i o · · ho0)
      by_cases hF : i ∈ F
      · -- one of those that were reckoned ahead
        obtain ⟨o', li, hp⟩ := hI.pend i hF
        have e : o' = o := by have h1 := hp.ho; rw [ho] at h1; injection h1 with h1; exact h1.symm
        subst e
        have hag : ∀ t ∈ o'.looksAt l.toArray, a.tmps[t]? = li[t]? := fun t ht => by
          rw [hp.see t ht]
          refine hI.glob t fun x ox hx hox e => ?_
          by_cases hxi : x = i
          · subst hxi
            rw [ho] at hox; injection hox with hox; subst hox
            exact hp.own t e ht
          · have := waits_listed hdeps ((hI.pair x hx i hF hxi ox o' hox ho t e).2 ht)
            rw [hI.unF x hx] at this; cases this
        unfold wpOp
        simp only [ho0]
        refine quiet_op hselo (fun x hx => eval_of_tmps fun t ht => hag t (looks_tmp (by subst ht; exact hx))) (wanted_of_tmps hag) (hp.q w fun _ => walkT_C hh hW) fun v w' hv hw' => ?_
        subst hw'
        refine ih C pl todo (F.filter (· != i)) fl m _ _ _ hcl' ⟨?_, ?_, ?_, by simpa using hI.lsz, ?_, ?_, ?_, ?_, ?_, ?_⟩ hW hB hcnt'
        · cases hd : o'.dst <;> simp [Act.put, hI.df]
        · cases hd : o'.dst <;> simp [Act.put, hI.sz]
        · intro t ht
          by_cases hdt : o'.dst = some t
          · rw [hdt] at hv ⊢
            simp only [dstSet] at hv
            rw [← hp.val t hdt]
            by_cases hlt : t < li.length
            · rw [set_same hv hlt, put_tmps_eq (by rw [hI.sz, ← hp.len]; exact hlt)]
            · rw [List.getElem?_eq_none (Nat.le_of_not_lt hlt), Array.getElem?_eq_none]
              simp only [Act.put, Array.size_setIfInBounds, hI.sz, ← hp.len]; exact Nat.le_of_not_lt hlt
          · rw [put_tmps_ne hdt]
            refine hI.glob t fun x ox hx hox => ?_
            by_cases hxi : x = i
            · subst hxi
              rw [ho] at hox; injection hox with hox; subst hox
              exact hdt
            · exact ht x ox (List.mem_filter.2 ⟨hx, by simpa using hxi⟩) hox
        · intro j hj hu
          have hji : j ≠ i := fun e => by subst e; rw [hself] at hu; cases hu
          rw [hset j hji] at hu
          rcases hI.cov j hj hu with h | h
          · exact .inl (List.mem_filter.2 ⟨h, by simpa using hji⟩)
          · exact .inr h
        · intro j hj
          have h := List.mem_filter.1 hj
          rw [hset j (by simpa using h.2)]; exact hI.unF j h.1
        · intro x hx
          rw [hset x (hI.disj i hF x hx)]; exact hI.unR x hx
        · intro j hj; exact hI.disj j (List.mem_filter.1 hj).1
        · intro j hj; exact hI.pend j (List.mem_filter.1 hj).1
        · intro x hx y hy; exact hI.pair x (List.mem_filter.1 hx).1 y (List.mem_filter.1 hy).1
      · -- the next link of the chain
        have hmem : i ∈ todo := (hI.cov i hil hiun).resolve_left hF
        have hhead : i ∈ pl.heads := by
          cases pl with
          | done =>
            unfold planOk at hB
            simp only [Bool.true_and, List.isEmpty_iff] at hB
            subst hB; cases hmem
          | stop => unfold planOk at hB; cases hB
          | fl j t => exact absurd rfl (hh j t)
          | lk j t more =>
            unfold planOk at hB
            simp only [Bool.and_eq_true, Bool.or_eq_true, Bool.not_eq_true', Bool.true_eq_false, false_or] at hB
            have hfr := hB.1.1.1.1
            unfold frontB at hfr
            have h1 := List.all_eq_true.1 hfr i hmem
            rw [Bool.or_eq_true] at h1
            rcases h1 with h1 | h1
            · simpa [Pl.heads] using h1
            · rw [ho] at h1
              simp only [List.any_eq_true] at h1
              obtain ⟨k, hk, hw⟩ := h1
              have h2 := waits_listed hdeps hw
              rw [hI.unR k hk] at h2; cases h2
        have hCw := walkT_C hh hW
        obtain ⟨r, ⟨o1, ho1, hwl⟩, hB', _, hfind⟩ := lk_find hhead hW hB
        have e : o1 = o := by rw [ho] at ho1; injection ho1 with h; exact h.symm
        subst e
        have hnw : ∀ x ∈ F, ¬ (waits o1 x = true) := fun x hx hw => by
          have := waits_listed hdeps hw
          rw [hI.unF x hx] at this; cases this
        have hsep : ∀ x ∈ F, ∀ ox lx, PendT P (fun w => x ∈ fl → C w) l pl m x ox lx → (∀ t, ox.dst = some t → o1.dst ≠ some t ∧ (t ∈ o1.looksAt l.toArray → waits o1 x = true)) ∧ (∀ t, o1.dst = some t → t ∉ ox.looksAt l.toArray) ∧ chkT l ox x r = true := fun x hx ox lx hp => by
          have h1 := (hfind x ox hp.ck o1 ho).resolve_left (hnw x hx)
          exact ⟨(apart_spec h1.1).1, (apart_spec h1.1).2, h1.2⟩
        have hag : ∀ t ∈ o1.looksAt l.toArray, a.tmps[t]? = m[t]? := fun t ht => by
          refine hI.glob t fun x ox hx hox e => ?_
          obtain ⟨ox', lx, hp⟩ := hI.pend x hx
          obtain ⟨s1, _, _⟩ := hsep x hx ox' lx hp
          rw [hp.ho] at hox; injection hox with hox; subst hox
          exact hnw x hx ((s1 t e).2 ht)
        have hwn := wanted_of_tmps (ls := m) hag
        have hev : ∀ x ∈ o1.op.operands, a.eval x = (Fr m).eval x := fun x hx => eval_of_tmps fun t ht => hag t (looks_tmp (by subst ht; exact hx))
        -- what is left, whatever it yields
        have next : ∀ v w' m' C' fl', (((∀ w, C' w → C w) ∧ fl' = fl) ∨ barB l o1 fl = true) → (Fr m).put o1.dst v = Fr m' → WalkT P Q l r C' fl' m' w' → wpAny P .any l.toArray Q u (listed.setIfInBounds i true) (a.put o1.dst v) w' := by
          intro v w' m' C' fl' hbar hm' hW'
          have hF0 : ((∀ w, C' w → C w) ∧ fl' = fl) ∨ ∀ x ∈ F, x ∉ fl := hbar.imp id fun hb x hx hxf => by
            have h1 := List.all_eq_true.1 hb x hxf
            have h2 := wall_listed hcl o1 (fun y hy => waits_listed hdeps hy) h1
            rw [hI.unF x hx] at h2; cases h2
          have hm1 : dstSet o1.dst m v = m' := by
            rw [Fr.put_dst] at hm'
            have := congrArg Act.tmps hm'
            simpa using this
          have hne : ∀ t : Nat, o1.dst ≠ some t → m'[t]? = m[t]? := fun t ht => by
            rw [← hm1]
            cases hd : o1.dst with
            | none => rfl
            | some d =>
              simp only [dstSet]
              rw [List.getElem?_set_ne]
              intro e; subst e; exact ht hd
          have hlen : m'.length = m.length := by rw [← hm1]; cases o1.dst <;> simp [dstSet]
          refine ih C' r (todo.filter fun j => !(Nat.beq j i)) F fl' m' _ _ _ hcl' ⟨?_, ?_, ?_, by simpa using hI.lsz, ?_, ?_, ?_, fun j hj x hx => hI.disj j hj x (mem_rem.1 hx).1, ?_, hI.pair⟩ hW' hB' hcnt'
          · cases hd : o1.dst <;> simp [Act.put, hI.df]
          · rw [hlen]; cases hd : o1.dst <;> simp [Act.put, hI.sz]
          · intro t ht
            by_cases hdt : o1.dst = some t
            · rw [← hm1, hdt]
              simp only [dstSet]
              by_cases hlt : t < m.length
              · rw [put_tmps_eq (by rw [hI.sz]; exact hlt), List.getElem?_set_self hlt]
              · rw [List.getElem?_eq_none (by simp; omega), Array.getElem?_eq_none]
                simp only [Act.put, Array.size_setIfInBounds, hI.sz]; omega
            · rw [put_tmps_ne hdt, hne t hdt]; exact hI.glob t ht
          · intro j hj hu
            have hji : j ≠ i := fun e => by subst e; rw [hself] at hu; cases hu
            rw [hset j hji] at hu
            rcases hI.cov j hj hu with h | h
            · exact .inl h
            · exact .inr (mem_rem.2 ⟨h, hji⟩)
          · intro j hj
            rw [hset j (fun e => hF (e ▸ hj))]; exact hI.unF j hj
          · intro x hx
            obtain ⟨h1, h2⟩ := mem_rem.1 hx
            rw [hset x h2]; exact hI.unR x h1
          · intro j hj
            have hC : ∀ w, (j ∈ fl' → C' w) → (j ∈ fl → C w) := by
              rcases hF0 with ⟨h, e⟩ | h
              · intro w hw hjf; exact h w (hw (by rw [e]; exact hjf))
              · intro w hw hjf; exact absurd hjf (h j hj)
            obtain ⟨ox, lx, hp⟩ := hI.pend j hj
            obtain ⟨s1, s2, s3⟩ := hsep j hj ox lx hp
            exact ⟨ox, lx, hp.ho, fun w hw => hp.q w (hC w hw), fun t ht => by rw [hp.see t ht, hne t (fun e => s2 t e ht)], fun t ht => by rw [hp.val t ht, hne t (s1 t ht).1], by rw [hp.len, hlen], s3, hp.own⟩
        have h := hwl.out
        unfold wpList at h
        unfold wpOp
        simp only [ho0]
        rw [hwn]
        split at h
        · rename_i hw
          rw [if_pos hw]
          refine .inl ?_
          have h := h.resolve_right fun h => by obtain ⟨_, _, h1⟩ := h.2; cases h1.1
          unfold Oper.wp at h ⊢
          rw [execOp_congr o1 hselo hev]
          generalize (execOp (Fr m).eval o1).run P w = res at h ⊢
          cases res with
          | ok n w' =>
            cases n with
            | value v => obtain ⟨_, m', C', fl', hb, hm', hW'⟩ := h; exact next v w' m' C' fl' hb hm' hW'
            | skip => obtain ⟨_, m', C', fl', hb, hm', hW'⟩ := h; exact next _ w' m' C' fl' hb hm' hW'
            | enter f args =>
              refine Calls.mono h fun e w'' he => ?_
              cases e with
              | returned v => obtain ⟨_, m', C', fl', hb, hm', hW'⟩ := he; exact next v w'' m' C' fl' hb hm' hW'
              | panicked c => cases he.1
              | outgrown => obtain ⟨_, _, h1⟩ := he; cases h1.1
            | row nm args => exact Rows.mono h fun v w'' he => by obtain ⟨_, m', C', fl', hb, hm', hW'⟩ := he; exact next v w'' m' C' fl' hb hm' hW'
            | defer d =>
              simp only [Oper.upon] at h
              obtain ⟨_, m', _, _, _, h2, _⟩ := h
              have h2 := congrArg Act.defers h2
              cases hd : o1.dst with
              | none => rw [hd] at h2; simp [Act.put] at h2
              | some t => rw [hd] at h2; simp [Act.put] at h2
            | _ => exact h.elim
          | halt x w' =>
            cases x with
            | panic v => cases h.1
            | _ => exact h.elim
        · rename_i hw
          rw [if_neg hw]
          obtain ⟨_, m', C', fl', hb, hm', hW'⟩ := h
          exact next _ w m' C' fl' hb hm' hW'

/-- A region that draws its order, by a plan. -/
theorem region_plan {id : Nat} {w : World} {m : List Value} (pl : Pl) (C : World → Prop) (hm : P.follows .mixedOrders = true) (hB : planB l pl = true)
    (h : WalkT P Q l pl C [] m { w with drawn := w.drawn + 1 }) : (Code.region id l.toArray true).wp P Q (Fr m) w := by
  unfold planB at hB
  simp only [Bool.and_eq_true, List.all_eq_true, List.mem_range] at hB
  obtain ⟨⟨hsel, hok⟩, hall⟩ := hB
  refine wp_region_any hm ?_
  have hc : cnt (fun k => (Array.replicate l.toArray.size false).getD k true) l.length = l.length := by
    have : ∀ n, n ≤ l.length → cnt (fun k => (Array.replicate l.toArray.size false).getD k true) n = n := by
      intro n
      induction n with
      | zero => intro _; rfl
      | succ n ih =>
        intro hn
        have e : (Array.replicate l.toArray.size false).getD n true = false := getD_in (by simp; omega) (getD_replicate_false _ _)
        simp only [cnt, e]
        rw [ih (by omega)]; simp
    exact this _ (Nat.le_refl _)
  have H := spine_coreT (P := P) (Q := Q) (l := l) hsel (fun k o ho e he hb => by
      have h1 := hall k (List.getElem?_eq_some_iff.1 ho).1
      rw [ho] at h1
      simp only [Array.all_eq_true_iff_forall_mem, Bool.or_eq_true, Bool.not_eq_true', decide_eq_true_eq] at h1
      exact (h1 e he).resolve_left (by simp [hb])) l.length C pl (List.range l.length) [] [] m (Array.replicate l.toArray.size false) (Fr m) _ (fun j o ho hl => by
      have h1 : j < l.toArray.size := by simpa using (List.getElem?_eq_some_iff.1 ho).1
      rw [getD_in (by simpa using h1) (getD_replicate_false _ _)] at hl; cases hl)
    ⟨rfl, by simp, fun t _ => by simp, by simp, fun i hi _ => .inr (List.mem_range.2 hi), (fun i hi => by cases hi), fun x hx => getD_in (by simpa using List.mem_range.1 hx) (getD_replicate_false _ _), (fun i hi => by cases hi), (fun i hi => by cases hi), (fun x hx => by cases hx)⟩ h hok hc
  simpa using H
end
end Go.Lift

/- Plain data and how they lie in cells. What is read alone lies in a zone, whose memory is known once and for all. -/
namespace Go.Lift
open Go
set_option linter.unusedVariables false

/-! ### Kinds of plain data -/

/-- A tree of replies: a number, a text, a number, and such trees. -/
inductive Rep where
  | mk (k : Int) (t : List UInt8) (n : Int) (l : List Rep)
def Rep.k : Rep → Int
  | .mk k _ _ _ => k
def Rep.t : Rep → List UInt8
  | .mk _ t _ _ => t
def Rep.n : Rep → Int
  | .mk _ _ n _ => n
def Rep.l : Rep → List Rep
  | .mk _ _ _ l => l
theorem Rep.eta (x : Rep) : Rep.mk x.k x.t x.n x.l = x := by cases x; rfl

inductive Ty where
  | int (k : IntKind)
  | bool
  | str
  /-- An error: is it one? -/
  | err
  /-- A pointer to a node of the arena, by its number; or nil. -/
  | nd
  /-- One cell, of which nothing is known. -/
  | any
  /-- A tree of replies. -/
  | rep
  | unit
  | pair (a b : Ty)
  | arr (n : Nat) (t : Ty)
  | slc (t : Ty)
  /-- A pointer to a variable that nobody changes any more; or nil. -/
  | pt (t : Ty)

def Ty.den : Ty → Type
  | .int _ => Int
  | .bool => Bool
  | .str => List UInt8
  | .err => Bool
  | .nd => Option Nat
  | .any => Unit
  | .rep => Rep
  | .unit => Unit
  | .pair a b => a.den × b.den
  | .arr n t => { l : List t.den // l.length = n }
  | .slc t => List t.den
  | .pt t => Option t.den

abbrev Arr (n : Nat) (α : Type) := { l : List α // l.length = n }

def Arr.rep {α : Type} (n : Nat) (x : α) : Arr n α := ⟨List.replicate n x, List.length_replicate⟩
def Arr.set {α : Type} {n : Nat} (a : Arr n α) (i : Nat) (y : α) : Arr n α := ⟨a.1.set i y, by rw [List.length_set]; exact a.2⟩
/-- The first n, as an array. -/
def Arr.tk {α : Type} (n : Nat) (d : α) (l : List α) : Arr n α := ⟨(l ++ List.replicate n d).take n, by simp⟩
theorem Arr.tk_val {α : Type} {n : Nat} (d : α) {l : List α} (h : n ≤ l.length) : (Arr.tk n d l).1 = l.take n := by
  show (l ++ List.replicate n d).take n = l.take n
  rw [List.take_append_of_le_length h]
def Arr.of {α : Type} (n : Nat) (l : List α) (h : l.length = n) : Arr n α := ⟨l, h⟩

def Ty.zero : (t : Ty) → t.den
  | .int _ => (0 : Int)
  | .bool => false
  | .str => ([] : List UInt8)
  | .err => false
  | .nd => (none : Option Nat)
  | .any => ()
  | .rep => Rep.mk 0 [] 0 []
  | .unit => ()
  | .pair a b => (a.zero, b.zero)
  | .arr n t => ⟨List.replicate n t.zero, List.length_replicate⟩
  | .slc t => ([] : List t.den)
  | .pt t => (none : Option t.den)

def Ty.sz : Ty → Nat
  | .unit => 0
  | .pair a b => a.sz + b.sz
  | .arr n t => n * t.sz
  | .rep => 4
  | _ => 1

def Ty.agg : Ty → Bool
  | .unit | .pair _ _ | .arr _ _ | .rep => true
  | _ => false

/-- Nothing of it lies elsewhere. -/
def Ty.flat : Ty → Bool
  | .slc _ => false
  | .nd => false
  | .rep => false
  | .pt _ => false
  | .pair a b => a.flat && b.flat
  | .arr _ t => t.flat
  | _ => true

/-- No node is pointed to. -/
def Ty.nond : Ty → Bool
  | .nd => false
  | .pair a b => a.nond && b.nond
  | .arr _ t => t.nond
  | .slc t => t.nond
  | .pt t => t.nond
  | _ => true

theorem Ty.one : ∀ t : Ty, t.agg = false → t.sz = 1
  | .int _, _ => rfl
  | .bool, _ => rfl
  | .str, _ => rfl
  | .err, _ => rfl
  | .nd, _ => rfl
  | .any, _ => rfl
  | .slc _, _ => rfl
  | .pt _, _ => rfl

def kindB : IntKind → IntKind → Bool
  | .i8, .i8 | .i16, .i16 | .i32, .i32 | .i64, .i64 | .u8, .u8 | .u16, .u16 | .u32, .u32 | .u64, .u64 => true
  | _, _ => false
theorem kind_of_beq {a b : IntKind} (h : kindB a b = true) : a = b := by cases a <;> cases b <;> first | rfl | cases h

def Ty.beq : Ty → Ty → Bool
  | .int k, .int k' => kindB k k'
  | .bool, .bool => true
  | .str, .str => true
  | .err, .err => true
  | .nd, .nd => true
  | .any, .any => true
  | .rep, .rep => true
  | .unit, .unit => true
  | .pair a b, .pair c d => a.beq c && b.beq d
  | .arr n a, .arr m b => Nat.beq n m && a.beq b
  | .slc a, .slc b => a.beq b
  | .pt a, .pt b => a.beq b
  | _, _ => false

theorem Ty.of_beq : ∀ {a b : Ty}, a.beq b = true → a = b
  | .int k, .int k', h => by rw [kind_of_beq h]
  | .bool, .bool, _ => rfl
  | .str, .str, _ => rfl
  | .err, .err, _ => rfl
  | .nd, .nd, _ => rfl
  | .any, .any, _ => rfl
  | .rep, .rep, _ => rfl
  | .unit, .unit, _ => rfl
  | .pair a b, .pair c d, h => by
    simp only [Ty.beq, Bool.and_eq_true] at h
    rw [Ty.of_beq h.1, Ty.of_beq h.2]
  | .arr n a, .arr m b, h => by
    simp only [Ty.beq, Bool.and_eq_true] at h
    rw [Nat.eq_of_beq_eq_true h.1, Ty.of_beq h.2]
  | .slc a, .slc b, h => by rw [Ty.of_beq (a := a) (b := b) h]
  | .pt a, .pt b, h => by rw [Ty.of_beq (a := a) (b := b) h]

theorem Ty.beq_refl : ∀ t : Ty, t.beq t = true
  | .int k => by cases k <;> rfl
  | .bool => rfl
  | .str => rfl
  | .err => rfl
  | .nd => rfl
  | .any => rfl
  | .rep => rfl
  | .unit => rfl
  | .pair a b => by simp [Ty.beq, Ty.beq_refl a, Ty.beq_refl b]
  | .arr n t => by simp [Ty.beq, Ty.beq_refl t]
  | .slc t => Ty.beq_refl t
  | .pt t => Ty.beq_refl t

/-- Data of one kind, asked for as of another one. -/
def Ty.as {R : Type} (F : Ty → Type) (a b : Ty) (x : F a) (K : F b → Option R) : Option R :=
  if h : a.beq b = true then K (Ty.of_beq h ▸ x) else none

theorem Ty.as_some {R : Type} {F : Ty → Type} {a b : Ty} {x : F a} {K : F b → Option R} {r : R} (h : Ty.as F a b x K = some r) :
    ∃ e : a = b, K (e ▸ x) = some r := by
  unfold Ty.as at h
  split at h
  · rename_i hb; exact ⟨Ty.of_beq hb, h⟩
  · cases h

/-! ### Cells -/

abbrev Chunk (n : Nat) := { c : List Value // c.length = n ∧ ∀ u ∈ c, u.oneCell' = true }

/-- Bytes? -/
def Ty.b8 : Ty → Bool
  | .int .u8 => true
  | _ => false
def Ty.enc (t : Ty) : Enc (Chunk t.sz) := ⟨t.agg, t.sz, fun c => c.1, fun c => c.2.1, t.one, fun c => c.2.2, t.b8⟩

/-- Elements, each in its cells. -/
def Els {t : Ty} (p : t.den → List Value → Prop) (xs : List t.den) (cs : List (Chunk t.sz)) : Prop :=
  xs.length = cs.length ∧ ∀ (i : Nat) (x : t.den) (c : Chunk t.sz), xs[i]? = some x → cs[i]? = some c → p x c.1

/-- Where a node of the arena lies: its variable, and the row of what it has beside. -/
structure NI where
  blk : Nat
  A : Option Addr
  cap : Nat
  len : Nat

/-- What is known once and for all: the memory of the zone, and where the nodes of the arena lie. -/
structure Zn where
  hp : Hp
  tb : Nat → NI
  nn : Nat
/-- Another memory, the same nodes. -/
def Zn.up (z : Zn) (h : Hp) : Zn := ⟨h, z.tb, z.nn⟩
theorem Zn.up_self (z : Zn) : z.up z.hp = z := rfl

/-- Cells of the zone. -/
def InZ (z : Zn) (a : Addr) (cs : List Value) : Prop := ∀ j u, cs[j]? = some u → cellAt z.hp (a.add j) = some u

/-- Is it an error, or nil? -/
def IfcIs : Bool → Value → Prop
  | false, v => v = .nilIface
  | true, v => ∃ t p, v = .iface t p

/-- Which pointer stands for a node. -/
def NdAt (z : Zn) : Option Nat → Option Addr → Prop
  | none, p => p = none
  | some i, p => i < z.nn ∧ p = some ⟨(z.tb i).blk, 0, none⟩

mutual
def Rep.holds (z : Zn) : Rep → List Value → Prop
  | .mk k t n l, cs => ∃ (A : Option Addr) (cap : Nat) (ch : List (Chunk Ty.rep.sz)), cs = [.int .i64 k, .string ⟨t.toArray⟩, .int .i64 n, .slice A l.length cap] ∧ l.length ≤ cap ∧ Rep.alls z l ch ∧
      ((A = none ∧ ch = []) ∨ ∃ a, A = some a ∧ InZ z a (_root_.Go.Lift.flat Ty.rep.enc ch))
def Rep.alls (z : Zn) : List Rep → List (Chunk Ty.rep.sz) → Prop
  | [], cs => cs = []
  | r :: rs, cs => ∃ c ds, cs = c :: ds ∧ Rep.holds z r c.1 ∧ Rep.alls z rs ds
end

mutual
theorem Rep.holds_mono {z z' : Zn} (H : ∀ a cs, InZ z a cs → InZ z' a cs) : ∀ (x : Rep) (cs : List Value), Rep.holds z x cs → Rep.holds z' x cs
  | .mk k t n l, cs, h => by
    unfold Rep.holds at h ⊢
    obtain ⟨A, cap, ch, e, hle, hel, ha⟩ := h
    exact ⟨A, cap, ch, e, hle, Rep.alls_mono H l ch hel, ha.imp id fun ⟨a, ea, hz⟩ => ⟨a, ea, H _ _ hz⟩⟩
theorem Rep.alls_mono {z z' : Zn} (H : ∀ a cs, InZ z a cs → InZ z' a cs) : ∀ (l : List Rep) (cs : List (Chunk Ty.rep.sz)), Rep.alls z l cs → Rep.alls z' l cs
  | [], _, h => h
  | r :: rs, _, h => by
    unfold Rep.alls at h ⊢
    obtain ⟨c, ds, e, h1, h2⟩ := h
    exact ⟨c, ds, e, Rep.holds_mono H r _ h1, Rep.alls_mono H rs ds h2⟩
end
theorem Rep.holds_cells {z : Zn} : ∀ (x : Rep) (cs : List Value), Rep.holds z x cs → ∃ a b c d, cs = [.int .i64 a, .string b, .int .i64 c, d] ∧ d.oneCell' = true
  | .mk k t n l, cs, h => by
    unfold Rep.holds at h
    obtain ⟨A, cap, ch, e, _⟩ := h
    exact ⟨_, _, _, _, e, rfl⟩

def Ty.holds (z : Zn) : (t : Ty) → t.den → List Value → Prop
  | .int k, x, cs => cs = [.int k x]
  | .bool, x, cs => cs = [.bool x]
  | .str, x, cs => cs = [.string ⟨List.toArray x⟩]
  | .err, x, cs => ∃ v, cs = [v] ∧ IfcIs x v
  | .nd, x, cs => ∃ p, cs = [.pointer p] ∧ NdAt z x p
  | .any, _, cs => ∃ v, cs = [v] ∧ v.oneCell' = true
  | .rep, x, cs => Rep.holds z x cs
  | .unit, _, cs => cs = []
  | .pair a b, x, cs => ∃ c d, cs = c ++ d ∧ a.holds z x.1 c ∧ b.holds z x.2 d
  | .arr _ t, x, cs => ∃ ch : List (Chunk t.sz), Els (fun y c => t.holds z y c) x.1 ch ∧ cs = _root_.Go.Lift.flat t.enc ch
  | .slc t, x, cs => ∃ (A : Option Addr) (cap : Nat) (ch : List (Chunk t.sz)), cs = [.slice A (List.length x) cap] ∧ List.length x ≤ cap ∧ Els (fun y c => t.holds z y c) x ch ∧
      ((A = none ∧ ch = []) ∨ ∃ a, A = some a ∧ InZ z a (_root_.Go.Lift.flat t.enc ch))
  | .pt t, x, cs => ∃ p, cs = [.pointer p] ∧ ((x = none ∧ p = none) ∨ ∃ y a c, x = some y ∧ p = some a ∧ t.holds z y c ∧ InZ z a c)

theorem Rep.alls_els {z : Zn} : ∀ (l : List Rep) (ch : List (Chunk Ty.rep.sz)), Rep.alls z l ch ↔ Els (t := .rep) (fun y c => Ty.rep.holds z y c) l ch
  | [], ch => by
    unfold Rep.alls
    exact ⟨fun h => by subst h; exact ⟨rfl, fun i x c hx => by cases i <;> cases hx⟩, fun h => List.eq_nil_of_length_eq_zero h.1.symm⟩
  | r :: rs, ch => by
    unfold Rep.alls
    constructor
    · rintro ⟨c, ds, rfl, h1, h2⟩
      obtain ⟨h3, h4⟩ := (Rep.alls_els rs ds).1 h2
      refine ⟨congrArg (· + 1) h3, fun i x d hx hd => ?_⟩
      cases i with
      | zero =>
        injection (show some r = some x from hx) with hx; injection (show some c = some d from hd) with hd
        subst hx hd; exact h1
      | succ i => exact h4 i x d (show rs[i]? = some x from hx) (show ds[i]? = some d from hd)
    · rintro ⟨h1, h2⟩
      match ch, h1 with
      | c :: ds, h1 =>
        exact ⟨c, ds, rfl, h2 0 r c rfl rfl, (Rep.alls_els rs ds).2 ⟨Nat.succ.inj h1, fun i x d hx hd => h2 (i + 1) x d hx hd⟩⟩
/-- A tree, as a struct. -/
abbrev Ty.repU : Ty := .pair (.int .i64) (.pair .str (.pair (.int .i64) (.pair (.slc .rep) .unit)))
theorem Rep.as_struct {z : Zn} : ∀ (x : Rep) (cs : List Value), Ty.rep.holds z x cs ↔ Ty.repU.holds z (x.k, x.t, x.n, x.l, ()) cs
  | .mk k t n l, cs => by
    constructor
    · intro h
      have h : Rep.holds z (.mk k t n l) cs := h
      unfold Rep.holds at h
      obtain ⟨A, cap, ch, e, hle, hel, ha⟩ := h
      exact ⟨[.int .i64 k], _, e, rfl, [.string ⟨t.toArray⟩], _, rfl, rfl, [.int .i64 n], _, rfl, rfl, [.slice A l.length cap], [], rfl, ⟨A, cap, ch, rfl, hle, (Rep.alls_els l ch).1 hel, ha⟩, rfl⟩
    · rintro ⟨c1, d1, e, h1, c2, d2, e2, h2, c3, d3, e3, h3, c4, d4, e4, ⟨A, cap, ch, e5, hle, hel, ha⟩, h5⟩
      have h1 : c1 = [.int .i64 k] := h1
      have h2 : c2 = [.string ⟨t.toArray⟩] := h2
      have h3 : c3 = [.int .i64 n] := h3
      have h5 : d4 = [] := h5
      have e5 : c4 = [.slice A l.length cap] := e5
      show Rep.holds z (.mk k t n l) cs
      unfold Rep.holds
      exact ⟨A, cap, ch, by rw [e, h1, e2, h2, e3, h3, e4, e5, h5]; rfl, hle, (Rep.alls_els l ch).2 hel, ha⟩

def ExtH (h h' : Hp) : Prop := ∀ b o, h b = some o → h' b = some o
structure Ext (z z' : Zn) : Prop where
  hp : ExtH z.hp z'.hp
  nn : z.nn ≤ z'.nn
  tb : ∀ i, i < z.nn → z'.tb i = z.tb i
theorem Ext.refl (z : Zn) : Ext z z := ⟨fun _ _ h => h, Nat.le_refl _, fun _ _ => rfl⟩
theorem Ext.trans {a b c : Zn} (h : Ext a b) (h' : Ext b c) : Ext a c := ⟨fun x o e => h'.hp x o (h.hp x o e), Nat.le_trans h.nn h'.nn, fun i hi => (h'.tb i (Nat.lt_of_lt_of_le hi h.nn)).trans (h.tb i hi)⟩
theorem Ext.up {z : Zn} {h : Hp} (e : ExtH z.hp h) : Ext z (z.up h) := ⟨e, Nat.le_refl _, fun _ _ => rfl⟩

theorem cellAt_extH {h h' : Hp} (H : ExtH h h') {a : Addr} {v : Value} (e : cellAt h a = some v) : cellAt h' a = some v := by
  unfold cellAt at *
  split at e
  · rename_i c t f hc
    rw [H _ _ hc]; exact e
  · cases e
theorem cellAt_ext {z z' : Zn} (h : Ext z z') {a : Addr} {v : Value} (e : cellAt z.hp a = some v) : cellAt z'.hp a = some v := cellAt_extH h.hp e
theorem InZ.ext {z z' : Zn} (h : Ext z z') {a : Addr} {cs : List Value} (e : InZ z a cs) : InZ z' a cs := fun j u hj => cellAt_ext h (e j u hj)

theorem NdAt.ext {z z' : Zn} (h : Ext z z') {x : Option Nat} {p : Option Addr} (e : NdAt z x p) : NdAt z' x p := by
  cases x with
  | none => exact e
  | some i => exact ⟨Nat.lt_of_lt_of_le e.1 h.nn, by rw [h.tb i e.1]; exact e.2⟩

theorem Ty.holds_ext {z z' : Zn} (h : Ext z z') : ∀ (t : Ty) (x : t.den) (cs : List Value), t.holds z x cs → t.holds z' x cs
  | .int _, _, _, e => e
  | .bool, _, _, e => e
  | .str, _, _, e => e
  | .err, _, _, e => e
  | .nd, _, _, ⟨p, e, hp⟩ => ⟨p, e, hp.ext h⟩
  | .any, _, _, e => e
  | .rep, x, cs, e => Rep.holds_mono (fun _ _ => InZ.ext h) x cs e
  | .unit, _, _, e => e
  | .pair a b, _, _, ⟨c, d, e, ha, hb⟩ => ⟨c, d, e, a.holds_ext h _ _ ha, b.holds_ext h _ _ hb⟩
  | .arr _ t, _, _, ⟨ch, ⟨hl, he⟩, e⟩ => ⟨ch, ⟨hl, fun i x c hx hc => t.holds_ext h _ _ (he i x c hx hc)⟩, e⟩
  | .slc t, _, _, ⟨A, cap, ch, e, hle, ⟨hl, he⟩, ha⟩ => ⟨A, cap, ch, e, hle, ⟨hl, fun i x c hx hc => t.holds_ext h _ _ (he i x c hx hc)⟩, ha.imp id fun ⟨a, ea, hz⟩ => ⟨a, ea, hz.ext h⟩⟩
  | .pt t, _, _, ⟨p, e, hp⟩ => ⟨p, e, hp.imp id fun ⟨y, a, c, h1, h2, h3, h4⟩ => ⟨y, a, c, h1, h2, t.holds_ext h _ _ h3, h4.ext h⟩⟩

theorem Ty.holds_len {z : Zn} : ∀ (t : Ty) (x : t.den) (cs : List Value), t.holds z x cs → cs.length = t.sz
  | .int _, _, _, e => by rw [show _ = _ from e]; rfl
  | .bool, _, _, e => by rw [show _ = _ from e]; rfl
  | .str, _, _, e => by rw [show _ = _ from e]; rfl
  | .err, _, _, ⟨_, e, _⟩ => by rw [e]; rfl
  | .nd, _, _, ⟨_, e, _⟩ => by rw [e]; rfl
  | .any, _, _, ⟨_, e, _⟩ => by rw [e]; rfl
  | .rep, x, cs, h => by obtain ⟨a, b, c, d, e, _⟩ := Rep.holds_cells x cs h; rw [e]; rfl
  | .pt _, _, _, ⟨_, e, _⟩ => by rw [e]; rfl
  | .unit, _, _, e => by rw [show _ = _ from e]; rfl
  | .pair a b, _, _, ⟨c, d, e, ha, hb⟩ => by rw [e, List.length_append, a.holds_len _ _ ha, b.holds_len _ _ hb]; rfl
  | .arr n t, x, _, ⟨ch, ⟨hl, _⟩, e⟩ => by
    rw [e, flat_len, ← hl, x.2]; rfl
  | .slc _, _, _, ⟨_, _, _, e, _⟩ => by rw [e]; rfl

theorem Ty.holds_leaf {z : Zn} : ∀ (t : Ty) (x : t.den) (cs : List Value), t.holds z x cs → ∀ u ∈ cs, u.oneCell' = true
  | .int _, _, _, e, u, hu => by rw [show _ = _ from e, List.mem_singleton] at hu; subst hu; rfl
  | .bool, _, _, e, u, hu => by rw [show _ = _ from e, List.mem_singleton] at hu; subst hu; rfl
  | .str, _, _, e, u, hu => by rw [show _ = _ from e, List.mem_singleton] at hu; subst hu; rfl
  | .err, x, _, ⟨v, e, hv⟩, u, hu => by
    rw [e, List.mem_singleton] at hu; subst hu
    cases x with
    | false => rw [show u = _ from hv]; rfl
    | true => obtain ⟨t, p, e⟩ := hv; rw [e]; rfl
  | .nd, _, _, ⟨_, e, _⟩, u, hu => by rw [e, List.mem_singleton] at hu; subst hu; rfl
  | .any, _, _, ⟨v, e, hv⟩, u, hu => by rw [e, List.mem_singleton] at hu; subst hu; exact hv
  | .rep, x, cs, h, u, hu => by
    obtain ⟨a, b, c, d, e, hd⟩ := Rep.holds_cells x cs h
    rw [e] at hu
    simp only [List.mem_cons, List.not_mem_nil, or_false] at hu
    rcases hu with rfl | rfl | rfl | rfl
    · rfl
    · rfl
    · rfl
    · exact hd
  | .pt _, _, _, ⟨_, e, _⟩, u, hu => by rw [e, List.mem_singleton] at hu; subst hu; rfl
  | .unit, _, _, e, u, hu => by rw [show _ = _ from e] at hu; cases hu
  | .pair a b, _, _, ⟨c, d, e, ha, hb⟩, u, hu => by
    rw [e] at hu
    rcases List.mem_append.1 hu with hu | hu
    · exact a.holds_leaf _ _ ha u hu
    · exact b.holds_leaf _ _ hb u hu
  | .arr n t, x, _, ⟨ch, _, e⟩, u, hu => flat_leaf (e := t.enc) ch u (e ▸ hu)
  | .slc _, _, _, ⟨_, _, _, e, _⟩, u, hu => by rw [e, List.mem_singleton] at hu; subst hu; rfl

/-- Flat data say nothing of the zone. -/
theorem Ty.holds_flat {z z' : Zn} : ∀ (t : Ty), t.flat = true → ∀ (x : t.den) (cs : List Value), t.holds z x cs → t.holds z' x cs
  | .int _, _, _, _, e => e
  | .bool, _, _, _, e => e
  | .str, _, _, _, e => e
  | .err, _, _, _, e => e
  | .unit, _, _, _, e => e
  | .pair a b, hf, _, _, ⟨c, d, e, ha, hb⟩ => by
    simp only [Ty.flat, Bool.and_eq_true] at hf
    exact ⟨c, d, e, a.holds_flat hf.1 _ _ ha, b.holds_flat hf.2 _ _ hb⟩
  | .arr _ t, hf, _, _, ⟨ch, ⟨hl, he⟩, e⟩ => ⟨ch, ⟨hl, fun i x c hx hc => t.holds_flat hf _ _ (he i x c hx hc)⟩, e⟩
  | .slc _, hf, _, _, _ => by cases hf
  | .nd, hf, _, _, _ => by cases hf
  | .any, _, _, _, e => e
  | .rep, hf, _, _, _ => by cases hf
  | .pt _, hf, _, _, _ => by cases hf

/-- Data that point to no node say nothing of the nodes. -/
theorem Ty.holds_nond {z z' : Zn} (h : ExtH z.hp z'.hp) : ∀ (t : Ty), t.nond = true → ∀ (x : t.den) (cs : List Value), t.holds z x cs → t.holds z' x cs
  | .int _, _, _, _, e => e
  | .bool, _, _, _, e => e
  | .str, _, _, _, e => e
  | .err, _, _, _, e => e
  | .nd, hf, _, _, _ => by cases hf
  | .any, _, _, _, e => e
  | .rep, _, x, cs, e => Rep.holds_mono (fun _ _ hz j u hj => cellAt_extH h (hz j u hj)) x cs e
  | .unit, _, _, _, e => e
  | .pair a b, hf, _, _, ⟨c, d, e, ha, hb⟩ => by
    simp only [Ty.nond, Bool.and_eq_true] at hf
    exact ⟨c, d, e, a.holds_nond h hf.1 _ _ ha, b.holds_nond h hf.2 _ _ hb⟩
  | .arr _ t, hf, _, _, ⟨ch, ⟨hl, he⟩, e⟩ => ⟨ch, ⟨hl, fun i x c hx hc => t.holds_nond h hf _ _ (he i x c hx hc)⟩, e⟩
  | .slc t, hf, _, _, ⟨A, cap, ch, e, hle, ⟨hl, he⟩, ha⟩ => ⟨A, cap, ch, e, hle, ⟨hl, fun i x c hx hc => t.holds_nond h hf _ _ (he i x c hx hc)⟩, ha.imp id fun ⟨a, ea, hz⟩ => ⟨a, ea, fun j u hj => cellAt_extH h (hz j u hj)⟩⟩
  | .pt t, hf, _, _, ⟨p, e, hp⟩ => ⟨p, e, hp.imp id fun ⟨y, a, c, h1, h2, h3, h4⟩ => ⟨y, a, c, h1, h2, t.holds_nond h hf _ _ h3, fun j u hj => cellAt_extH h (h4 j u hj)⟩⟩

theorem Ty.holds_chunk {z : Zn} {t : Ty} {x : t.den} {cs : List Value} (h : t.holds z x cs) : ∃ c : Chunk t.sz, c.1 = cs := ⟨⟨cs, t.holds_len _ _ h, t.holds_leaf _ _ h⟩, rfl⟩

/-- Plain data as one value. -/
def Ty.val (z : Zn) (t : Ty) (x : t.den) (u : Value) : Prop := ∃ cs, t.holds z x cs ∧ (match t.agg with | true => u = .agg cs.toArray | false => cs = [u])
theorem Ty.val_ext {z z' : Zn} (h : Ext z z') {t : Ty} {x : t.den} {u : Value} (e : t.val z x u) : t.val z' x u := by
  obtain ⟨cs, h1, h2⟩ := e; exact ⟨cs, t.holds_ext h _ _ h1, h2⟩

/-- There are cells for flat zeros. -/
theorem Els.nil {t : Ty} {p : t.den → List Value → Prop} : Els p ([] : List t.den) [] := ⟨rfl, fun _ _ _ h => by simp at h⟩
theorem Els.append {t : Ty} {p : t.den → List Value → Prop} {xs ys : List t.den} {cs ds : List (Chunk t.sz)} (h : Els p xs cs) (h' : Els p ys ds) : Els p (xs ++ ys) (cs ++ ds) := by
  refine ⟨by simp [h.1, h'.1], fun i x c hx hc => ?_⟩
  rw [List.getElem?_append] at hx hc
  rw [h.1] at hx
  split at hx
  · rw [if_pos (by assumption)] at hc; exact h.2 i x c hx hc
  · rw [if_neg (by assumption)] at hc; exact h'.2 _ x c hx hc
theorem Els.take {t : Ty} {p : t.den → List Value → Prop} {xs : List t.den} {cs : List (Chunk t.sz)} (h : Els p xs cs) (k : Nat) : Els p (xs.take k) (cs.take k) := by
  refine ⟨by simp [h.1], fun i x c hx hc => ?_⟩
  rw [List.getElem?_take] at hx hc
  split at hx
  · rw [if_pos (by assumption)] at hc; exact h.2 i x c hx hc
  · cases hx
theorem Els.drop {t : Ty} {p : t.den → List Value → Prop} {xs : List t.den} {cs : List (Chunk t.sz)} (h : Els p xs cs) (k : Nat) : Els p (xs.drop k) (cs.drop k) := by
  refine ⟨by simp [h.1], fun i x c hx hc => ?_⟩
  rw [List.getElem?_drop] at hx hc
  exact h.2 _ x c hx hc
theorem Els.set {t : Ty} {p : t.den → List Value → Prop} {xs : List t.den} {cs : List (Chunk t.sz)} (h : Els p xs cs) (k : Nat) {y : t.den} {d : Chunk t.sz} (hy : p y d.1) : Els p (xs.set k y) (cs.set k d) := by
  refine ⟨by simp [h.1], fun i x c hx hc => ?_⟩
  rw [List.getElem?_set] at hx hc
  split at hx
  · rw [if_pos (by assumption)] at hc
    split at hx
    · rw [if_pos (by rw [← h.1]; assumption)] at hc
      injection hx with hx; injection hc with hc; subst hx; subst hc; exact hy
    · cases hx
  · rw [if_neg (by assumption)] at hc; exact h.2 i x c hx hc
theorem Els.get {t : Ty} {p : t.den → List Value → Prop} {xs : List t.den} {cs : List (Chunk t.sz)} (h : Els p xs cs) {i : Nat} {x : t.den} (hx : xs[i]? = some x) : ∃ c, cs[i]? = some c ∧ p x c.1 := by
  have hi := (List.getElem?_eq_some_iff.1 hx).1
  have hi' : i < cs.length := h.1 ▸ hi
  exact ⟨cs[i], List.getElem?_eq_getElem hi', h.2 i x _ hx (List.getElem?_eq_getElem hi')⟩
theorem Els.mono {t : Ty} {p q : t.den → List Value → Prop} {xs : List t.den} {cs : List (Chunk t.sz)} (h : Els p xs cs) (hpq : ∀ x c, p x c → q x c) : Els q xs cs := ⟨h.1, fun i x c hx hc => hpq _ _ (h.2 i x c hx hc)⟩
theorem Els.one {t : Ty} {p : t.den → List Value → Prop} {x : t.den} {c : Chunk t.sz} (h : p x c.1) : Els p [x] [c] := ⟨rfl, fun i y d hy hd => by
  cases i with
  | zero => simp at hy hd; subst hy; subst hd; exact h
  | succ i => simp at hy⟩
theorem Els.replicate {t : Ty} {p : t.den → List Value → Prop} {x : t.den} {c : Chunk t.sz} (h : p x c.1) (n : Nat) : Els p (List.replicate n x) (List.replicate n c) := by
  refine ⟨by simp, fun i y d hy hd => ?_⟩
  rw [List.getElem?_replicate] at hy hd
  split at hy
  · rw [if_pos (by assumption)] at hd; injection hy with hy; injection hd with hd; subst hy; subst hd; exact h
  · cases hy
theorem Els.eq_nil {t : Ty} {p : t.den → List Value → Prop} {xs : List t.den} (h : Els p xs []) : xs = [] := List.eq_nil_of_length_eq_zero h.1

end Go.Lift

/- What is known of a frame and of memory: leaves, pieces, and what they stand for. -/
namespace Go.Lift
open Go
set_option linter.unusedVariables false

/-- What a piece's name stands for: an address, a capacity, a row's kind and length. -/
structure HI where
  A : Option Addr
  cap : Nat
  ty : Ty
  len : Nat

inductive Leaf where
  | top
  | dat (t : Ty) (x : t.den)
  | row (h : Nat)
  | part (h a b : Nat)
  | nils
  | nilp
  | ptr (h off : Nat)
  | pta (h off : Nat) (t : Ty) (n i : Nat)
  | elr (h i off : Nat)
  | eld (t : Ty) (x : t.den) (off : Nat)
  | bpart (h off : Nat) (t : Ty) (n a b : Nat)
  | rwa (h n : Nat)
  | bsl (h n : Nat)
  | clo (f : Nat) (caps : List (Nat × Nat))
  | nilf
  | fn (f : Nat)
  | mpl (h : Nat)
  | nilm
  /-- A cell of a node of the arena. -/
  | npt (i off : Nat)
  /-- The row of a node, as a slice. -/
  | nrw (i : Nat)
  /-- A cell of an element (of so many cells) of a node's row. -/
  | nel (s i j off : Nat)

def Leaf.sz : Leaf → Nat
  | .dat t _ => t.sz
  | _ => 1

inductive AV where
  | top
  | und
  | vl (agg : Bool) (ls : List Leaf)
  | tup (vs : List (Bool × List Leaf))

inductive Pc where
  | dead
  | box (ls : List Leaf)
  | row (t : Ty) (xs : List t.den)
  | mp (k v : Ty) (xs : List (k.den × v.den))
  /-- The arena: nodes, each with some data and a row. -/
  | ar (T U : Ty) (xs : List (T.den × List U.den))

def Pc.isAr : Pc → Bool
  | .ar .. => true
  | _ => false

structure St where
  fr : List AV
  mem : List Pc

/-- What a function value has captured: pointers to variables. -/
def CapsAt (ρ : Nat → HI) (n : Nat) : List (Nat × Nat) → List Value → Prop
  | [], vs => vs = []
  | c :: cs, vs => ∃ b us, c.1 < n ∧ (ρ c.1).A = some ⟨b, 0, none⟩ ∧ vs = .pointer (some ⟨b, c.2, none⟩) :: us ∧ CapsAt ρ n cs us

/-- The address of a part: where it begins; a part of nothing behind a row's end stands where an earlier cut left it. -/
def CutAt (A : Option Addr) (c a s : Nat) (p : Option Addr) : Prop := p = cutAddr A c a s ∨ (a = c ∧ ∃ k, k ≤ c ∧ p = A.map fun q => q.add (k * s))

theorem CutAt.blk {A p : Option Addr} {c a s b : Nat} (h : CutAt A c a s p) (hb : blkOf p b) : blkOf A b := by
  rcases h with rfl | ⟨_, k, _, rfl⟩
  · exact blk_cutAddr hb
  · obtain ⟨q, hq, rfl⟩ := hb
    cases A with
    | none => cases hq
    | some x =>
      injection hq with hq; subst hq
      exact ⟨x, rfl, by unfold Addr.add; split <;> rfl⟩

/-- A part of a part. -/
theorem CutAt.cut {A p : Option Addr} {c a d s : Nat} (h : CutAt A c a s p) (hc : a ≤ c) (hd : d ≤ c - a) : CutAt A c (a + d) s (cutAddr p (c - a) d s) := by
  by_cases e : c - a = d
  · rw [show cutAddr p (c - a) d s = p from by unfold cutAddr; rw [if_pos e]]
    refine .inr ⟨by omega, ?_⟩
    rcases h with rfl | ⟨_, k, hk, rfl⟩
    · unfold cutAddr
      by_cases e2 : c = a
      · rw [if_pos e2]
        refine ⟨0, Nat.zero_le _, ?_⟩
        cases A with
        | none => rfl
        | some x => simp only [Option.map_some, Nat.zero_mul, Addr.add_zero']
      · rw [if_neg e2]; exact ⟨a, hc, rfl⟩
    · exact ⟨k, hk, rfl⟩
  · rcases h with rfl | ⟨h1, k, hk, rfl⟩
    · refine .inl ?_
      have e2 : ¬ c = a := by omega
      have e3 : ¬ c = a + d := by omega
      unfold cutAddr
      rw [if_neg e, if_neg e2, if_neg e3]
      cases A with
      | none => rfl
      | some x => simp only [Option.map_some, add_add, Nat.add_mul]
    · omega

theorem row_cut {α : Type} {e : Enc α} {A p : Option Addr} {cap a b : Nat} {xs : List α} {w : World} (hab : a ≤ b) (hb : b ≤ xs.length) (h : (rowA e A cap xs).at w) (hp : CutAt A cap a e.sz p) :
    (rowA e p (cap - a) ((xs.take b).drop a)).at w := by
  rcases hp with rfl | ⟨rfl, k, hk, rfl⟩
  · exact row_part hab hb h
  · obtain ⟨hl, h'⟩ := row_facts h
    have hx : (xs.take b).drop a = [] := List.drop_of_length_le (by simp; omega)
    rw [hx, Nat.sub_self]
    rcases h' with ⟨rfl, _⟩ | ⟨bl, o', t, pre, sp, post, rfl, h2, h3, mk, h4, hz⟩
    · exact row_nil e w
    · simp only [Option.map_some, Addr.add_lit]
      have hm : k * e.sz ≤ a * e.sz := Nat.mul_le_mul_right _ hk
      have ht := List.take_append_drop (o' + k * e.sz) (pre ++ (flat e xs ++ (sp ++ post)))
      refine row_mk' (Nat.le_refl _) (pre := (pre ++ (flat e xs ++ (sp ++ post))).take (o' + k * e.sz)) (sp := []) (post := (pre ++ (flat e xs ++ (sp ++ post))).drop (o' + k * e.sz)) (t := t) (m := mk) ?_ (by simp [flat]) (hz.len ?_) ?_
      · rw [List.length_take]
        simp only [List.length_append]
        omega
      · rw [show flat e ([] : List α) = [] from rfl, List.nil_append, List.nil_append, ht]
      · rw [show flat e ([] : List α) = [] from rfl, List.nil_append, List.nil_append, ht]; exact h4

def Leaf.at (ρ : Nat → HI) (z : Zn) (n : Nat) : Leaf → List Value → Prop
  | .top, cs => ∃ v, cs = [v] ∧ v.oneCell' = true
  | .dat t x, cs => t.holds z x cs
  | .row h, cs => h < n ∧ cs = [.slice (ρ h).A (ρ h).len (ρ h).cap]
  | .part h a b, cs => h < n ∧ a ≤ b ∧ b ≤ (ρ h).len ∧ ∃ p, CutAt (ρ h).A (ρ h).cap a (ρ h).ty.sz p ∧ cs = [.slice p (b - a) ((ρ h).cap - a)]
  | .nils, cs => cs = [.slice none 0 0]
  | .nilp, cs => cs = [.pointer none]
  | .ptr h off, cs => h < n ∧ ∃ b, (ρ h).A = some ⟨b, 0, none⟩ ∧ cs = [.pointer (some ⟨b, off, none⟩)]
  | .pta h off t m i, cs => h < n ∧ i < m ∧ ∃ b, (ρ h).A = some ⟨b, 0, none⟩ ∧ cs = [.pointer (some ⟨b, off + i * t.sz, none⟩)]
  | .elr h i off, cs => h < n ∧ i < (ρ h).len ∧ ∃ a, (ρ h).A = some a ∧ cs = [.pointer (some ((a.add (i * (ρ h).ty.sz)).add off))]
  | .eld t x off, cs => ∃ p c, t.holds z x c ∧ InZ z p c ∧ cs = [.pointer (some (p.add off))]
  | .bpart h off t m a b, cs => h < n ∧ a ≤ b ∧ b ≤ m ∧ ∃ bl, (ρ h).A = some ⟨bl, 0, none⟩ ∧ cs = [.slice (some (if m = a then ⟨bl, off, none⟩ else ⟨bl, off + a * t.sz, none⟩)) (b - a) (m - a)]
  | .rwa h m, cs => h < n ∧ m ≤ (ρ h).len ∧ ∃ a, (ρ h).A = some a ∧ cs = [.pointer (some a)]
  | .bsl h m, cs => h < n ∧ ∃ b, (ρ h).A = some ⟨b, 0, none⟩ ∧ cs = [.slice (some ⟨b, 0, none⟩) m m]
  | .nilf, cs => cs = [.nilFunc]
  | .clo f caps, cs => ∃ vs, CapsAt ρ n caps vs ∧ cs = [.func (.func f) #[] vs.toArray]
  | .fn f, cs => cs = [.func (.func f) #[] #[]]
  | .mpl h, cs => h < n ∧ ∃ b, (ρ h).A = some ⟨b, 0, none⟩ ∧ cs = [.map (some b)]
  | .nilm, cs => cs = [.map none]
  | .npt i off, cs => i < z.nn ∧ cs = [.pointer (some ⟨(z.tb i).blk, off, none⟩)]
  | .nrw i, cs => i < z.nn ∧ cs = [.slice (z.tb i).A (z.tb i).len (z.tb i).cap]
  | .nel s i j off, cs => i < z.nn ∧ j < (z.tb i).len ∧ ∃ a, (z.tb i).A = some a ∧ cs = [.pointer (some ((a.add (j * s)).add off))]

def Lvs (ρ : Nat → HI) (z : Zn) (n : Nat) : List Leaf → List Value → Prop
  | [], cs => cs = []
  | l :: ls, cs => ∃ c d, cs = c ++ d ∧ l.at ρ z n c ∧ Lvs ρ z n ls d

def Cmp (ρ : Nat → HI) (z : Zn) (n : Nat) (agg : Bool) (ls : List Leaf) (v : Value) : Prop :=
  ∃ cs, Lvs ρ z n ls cs ∧ (match agg with | true => v = .agg cs.toArray | false => cs = [v])

def Cmps (ρ : Nat → HI) (z : Zn) (n : Nat) : List (Bool × List Leaf) → List Value → Prop
  | [], vs => vs = []
  | c :: cs, vs => ∃ v w, vs = v :: w ∧ Cmp ρ z n c.1 c.2 v ∧ Cmps ρ z n cs w

def AV.at (ρ : Nat → HI) (z : Zn) (n : Nat) : AV → Value → Prop
  | .top, _ => True
  | .und, x => x = undef
  | .vl a ls, x => Cmp ρ z n a ls x
  | .tup cs, x => ∃ vs, Cmps ρ z n cs vs ∧ x = .tuple vs.toArray

/-- A map in memory. -/
def mapA (b : Nat) (kvs : List (Value × Value)) : Atom := ⟨fun x => x = b, fun h => ∃ es clock, h b = some (.map es clock) ∧ es.toList.map (fun e => (e.key, e.val)) = kvs⟩
def Ents {α β : Type} (K : α → Value → Prop) (V : β → Value → Prop) : List (α × β) → List (Value × Value) → Prop
  | [], es => es = []
  | x :: xs, es => ∃ u v es', es = (u, v) :: es' ∧ K x.1 u ∧ V x.2 v ∧ Ents K V xs es'
theorem Ents.mono {α β : Type} {K K' : α → Value → Prop} {V V' : β → Value → Prop} (hk : ∀ a u, K a u → K' a u) (hv : ∀ a u, V a u → V' a u) : ∀ (xs : List (α × β)) (es : List (Value × Value)), Ents K V xs es → Ents K' V' xs es
  | [], _, h => h
  | _ :: xs, _, ⟨u, v, es', e, h1, h2, h3⟩ => ⟨u, v, es', e, hk _ _ h1, hv _ _ h2, Ents.mono hk hv xs es' h3⟩

def kv (e : MapEntry) : Value × Value := (e.key, e.val)
theorem map_heap {b : Nat} {kvs : List (Value × Value)} {w : World} (h : (mapA b kvs).at w) : ∃ es clock, w.heap[b]? = some (.map es clock) ∧ es.toList.map kv = kvs := by
  obtain ⟨es, clock, h1, h2⟩ := h
  exact ⟨es, clock, (cut_some h1).2, h2⟩
theorem map_mk {b : Nat} {kvs : List (Value × Value)} {w : World} {es : Array MapEntry} {clock : Nat} (h : w.heap[b]? = some (.map es clock)) (he : es.toList.map kv = kvs) : (mapA b kvs).at w :=
  ⟨es, clock, by rw [show cut (mapA b kvs).dom (look w) b = look w b from cut_pos rfl]; exact h, he⟩

theorem Ents.len {α β : Type} {K : α → Value → Prop} {V : β → Value → Prop} : ∀ {xs : List (α × β)} {es : List (Value × Value)}, Ents K V xs es → es.length = xs.length
  | [], _, h => by rw [show _ = _ from h]; rfl
  | _ :: xs, _, ⟨_, _, _, e, _, _, h⟩ => by rw [e, List.length_cons, h.len]; rfl

/-- What is said of the nodes of the arena. -/
structure ArOk (z : Zn) (T U : Ty) (xs : List (T.den × List U.den)) (cs : List (List Value × List (Chunk U.sz))) : Prop where
  nn : z.nn = xs.length
  len : cs.length = xs.length
  ok : ∀ (i : Nat) (x : T.den × List U.den) (c : List Value × List (Chunk U.sz)), xs[i]? = some x → cs[i]? = some c → T.holds z x.1 c.1 ∧ Els (t := U) (fun y d => U.holds z y d) x.2 c.2 ∧ (z.tb i).len = List.length x.2
  bb : ∀ i j, i < z.nn → j < z.nn → i ≠ j → (z.tb i).blk ≠ (z.tb j).blk
  br : ∀ i j, i < z.nn → j < z.nn → ¬ blkOf (z.tb j).A (z.tb i).blk
  rr : ∀ i j, i < z.nn → j < z.nn → i ≠ j → ∀ b, blkOf (z.tb i).A b → ¬ blkOf (z.tb j).A b

def NI.box (n : NI) (c : List Value) : Atom := boxA n.blk (c ++ [.slice n.A n.len n.cap])
def arA (tb : Nat → NI) (U : Ty) (cs : List (List Value × List (Chunk U.sz))) : Atom :=
  ⟨fun b => ∃ i, i < cs.length ∧ (b = (tb i).blk ∨ blkOf (tb i).A b), fun h => ∀ (i : Nat) (c : List Value × List (Chunk U.sz)), cs[i]? = some c →
    ((tb i).box c.1).ok (cut ((tb i).box c.1).dom h) ∧ (rowA U.enc (tb i).A (tb i).cap c.2).ok (cut (rowA U.enc (tb i).A (tb i).cap c.2).dom h)⟩

theorem cut_cut {D D' : Nat → Prop} {h : Hp} (hd : ∀ b, D b → D' b) : cut D (cut D' h) = cut D h := by
  funext b
  unfold cut
  split
  · rename_i hb; rw [if_pos (hd b hb)]
  · rfl
theorem arA_at {tb : Nat → NI} {U : Ty} {cs : List (List Value × List (Chunk U.sz))} {w : World} :
    (arA tb U cs).at w ↔ ∀ (i : Nat) (c : List Value × List (Chunk U.sz)), cs[i]? = some c → ((tb i).box c.1).at w ∧ (rowA U.enc (tb i).A (tb i).cap c.2).at w := by
  have e : ∀ (i : Nat) (c : List Value × List (Chunk U.sz)), cs[i]? = some c → cut ((tb i).box c.1).dom (cut (arA tb U cs).dom (look w)) = cut ((tb i).box c.1).dom (look w) ∧ cut (rowA U.enc (tb i).A (tb i).cap c.2).dom (cut (arA tb U cs).dom (look w)) = cut (rowA U.enc (tb i).A (tb i).cap c.2).dom (look w) := fun i c hi => by
    have hl := (List.getElem?_eq_some_iff.1 hi).1
    exact ⟨cut_cut fun b hb => ⟨i, hl, .inl hb⟩, cut_cut fun b hb => ⟨i, hl, .inr hb⟩⟩
  constructor
  · intro h i c hi
    obtain ⟨h1, h2⟩ := h i c hi
    rw [(e i c hi).1] at h1
    rw [(e i c hi).2] at h2
    exact ⟨h1, h2⟩
  · intro h i c hi
    obtain ⟨h1, h2⟩ := h i c hi
    rw [(e i c hi).1, (e i c hi).2]
    exact ⟨h1, h2⟩
theorem arA_congr {tb tb' : Nat → NI} {U : Ty} {cs : List (List Value × List (Chunk U.sz))} (h : ∀ i, i < cs.length → tb' i = tb i) : arA tb' U cs = arA tb U cs := by
  unfold arA
  congr 1
  · funext b; apply propext
    constructor
    · rintro ⟨i, hi, hb⟩; rw [h i hi] at hb; exact ⟨i, hi, hb⟩
    · rintro ⟨i, hi, hb⟩; rw [← h i hi] at hb; exact ⟨i, hi, hb⟩
  · funext hp; apply propext
    constructor
    · intro H i c hi
      have := H i c hi
      rwa [h i (List.getElem?_eq_some_iff.1 hi).1] at this
    · intro H i c hi
      have := H i c hi
      rwa [← h i (List.getElem?_eq_some_iff.1 hi).1] at this
theorem ArOk.ext {z z' : Zn} (e : Ext z z') (hn : z'.nn = z.nn) {T U : Ty} {xs : List (T.den × List U.den)} {cs : List (List Value × List (Chunk U.sz))} (h : ArOk z T U xs cs) : ArOk z' T U xs cs where
  nn := hn.trans h.nn
  len := h.len
  ok i x c hx hc := by
    obtain ⟨h1, h2, h3⟩ := h.ok i x c hx hc
    have hi : i < z.nn := by rw [h.nn]; exact (List.getElem?_eq_some_iff.1 hx).1
    exact ⟨T.holds_ext e _ _ h1, h2.mono fun _ _ => U.holds_ext e _ _, by rw [e.tb i hi]; exact h3⟩
  bb i j hi hj hij := by rw [hn] at hi hj; rw [e.tb i hi, e.tb j hj]; exact h.bb i j hi hj hij
  br i j hi hj := by rw [hn] at hi hj; rw [e.tb i hi, e.tb j hj]; exact h.br i j hi hj
  rr i j hi hj hij := by rw [hn] at hi hj; rw [e.tb i hi, e.tb j hj]; exact h.rr i j hi hj hij

def deadA : Atom := ⟨fun _ => False, fun _ => True⟩

def Pc.is (ρ : Nat → HI) (z : Zn) (n h : Nat) : Pc → Atom → Prop
  | .dead, _ => True
  | .box ls, A => ∃ b cs, (ρ h).A = some ⟨b, 0, none⟩ ∧ Lvs ρ z n ls cs ∧ A = boxA b cs
  | .row t xs, A => ((ρ h).ty = t ∧ (ρ h).len = xs.length) ∧ ∃ ch, Els (t.holds z) xs ch ∧ A = rowA t.enc (ρ h).A (ρ h).cap ch
  | .mp k v xs, A => ∃ b kvs, (ρ h).A = some ⟨b, 0, none⟩ ∧ Ents (fun a u => k.holds z a [u]) (fun a u => v.val z a u) xs kvs ∧ A = mapA b kvs
  | .ar T U xs, A => ∃ cs, ArOk z T U xs cs ∧ A = arA z.tb U cs

def FrAt (ρ : Nat → HI) (z : Zn) (n : Nat) (fr : List AV) (l : List Value) : Prop :=
  fr.length = l.length ∧ ∀ (i : Nat) (av : AV) (v : Value), fr[i]? = some av → l[i]? = some v → av.at ρ z n v

def MemAt (ρ : Nat → HI) (z : Zn) (n : Nat) (mem : List Pc) (X : List Atom) : Prop :=
  mem.length = X.length ∧ ∀ (h : Nat) (p : Pc) (A : Atom), mem[h]? = some p → X[h]? = some A → p.is ρ z n h A

/-- The zone: what lies there is z. -/
def zA (Z : Nat → Prop) (z : Zn) : Atom := ⟨Z, fun h => h = z.hp⟩

/-! ### More is known, nothing is lost -/

structure Later (ρ ρ' : Nat → HI) (z z' : Zn) (n n' : Nat) : Prop where
  r : ∀ i, i < n → ρ' i = ρ i
  z : Ext z z'
  n : n ≤ n'

theorem Later.refl (ρ : Nat → HI) (z : Zn) (n : Nat) : Later ρ ρ z z n n := ⟨fun _ _ => rfl, Ext.refl z, Nat.le_refl n⟩
theorem Later.trans {ρ ρ' ρ'' : Nat → HI} {z z' z'' : Zn} {n n' n'' : Nat} (h : Later ρ ρ' z z' n n') (h' : Later ρ' ρ'' z' z'' n' n'') : Later ρ ρ'' z z'' n n'' :=
  ⟨fun i hi => (h'.r i (Nat.lt_of_lt_of_le hi h.n)).trans (h.r i hi), h.z.trans h'.z, Nat.le_trans h.n h'.n⟩

section
variable {ρ ρ' : Nat → HI} {z z' : Zn} {n n' : Nat}

theorem CapsAt.map {m : Nat} {f : Nat → Nat} {ρ ρ' : Nat → HI} (hf : ∀ i, i < n → f i < m ∧ ρ' (f i) = ρ i) : ∀ (cs : List (Nat × Nat)) (vs : List Value), CapsAt ρ n cs vs → CapsAt ρ' m (cs.map fun c => (f c.1, c.2)) vs
  | [], _, h => h
  | c :: cs, vs, ⟨b, us, h1, h2, h3, h4⟩ => ⟨b, us, (hf _ h1).1, by show (ρ' (f c.1)).A = _; rw [(hf _ h1).2]; exact h2, h3, CapsAt.map hf cs us h4⟩
theorem CapsAt.same {m : Nat} {ρ ρ' : Nat → HI} (hm : n ≤ m) (hf : ∀ i, i < n → ρ' i = ρ i) : ∀ (cs : List (Nat × Nat)) (vs : List Value), CapsAt ρ n cs vs → CapsAt ρ' m cs vs
  | [], _, h => h
  | c :: cs, vs, ⟨b, us, h1, h2, h3, h4⟩ => ⟨b, us, Nat.lt_of_lt_of_le h1 hm, by rw [hf _ h1]; exact h2, h3, CapsAt.same hm hf cs us h4⟩

theorem Leaf.later (L : Later ρ ρ' z z' n n') : ∀ (l : Leaf) (cs : List Value), l.at ρ z n cs → l.at ρ' z' n' cs
  | .top, _, h => h
  | .dat t _, _, h => t.holds_ext L.z _ _ h
  | .row h, _, ⟨hn, e⟩ => ⟨Nat.lt_of_lt_of_le hn L.n, by rw [L.r h hn]; exact e⟩
  | .part h a b, _, ⟨hn, e⟩ => ⟨Nat.lt_of_lt_of_le hn L.n, by rw [L.r h hn]; exact e⟩
  | .nils, _, h => h
  | .nilp, _, h => h
  | .ptr h off, _, ⟨hn, e⟩ => ⟨Nat.lt_of_lt_of_le hn L.n, by rw [L.r h hn]; exact e⟩
  | .pta h off t m i, _, ⟨hn, e⟩ => ⟨Nat.lt_of_lt_of_le hn L.n, by rw [L.r h hn]; exact e⟩
  | .elr h i off, _, ⟨hn, e⟩ => ⟨Nat.lt_of_lt_of_le hn L.n, by rw [L.r h hn]; exact e⟩
  | .eld t _ _, _, ⟨p, c, h1, h2, h3⟩ => ⟨p, c, t.holds_ext L.z _ _ h1, h2.ext L.z, h3⟩
  | .bpart h off t m a b, _, ⟨hn, e⟩ => ⟨Nat.lt_of_lt_of_le hn L.n, by rw [L.r h hn]; exact e⟩
  | .rwa h m, _, ⟨hn, e⟩ => ⟨Nat.lt_of_lt_of_le hn L.n, by rw [L.r h hn]; exact e⟩
  | .bsl h m, _, ⟨hn, e⟩ => ⟨Nat.lt_of_lt_of_le hn L.n, by rw [L.r h hn]; exact e⟩
  | .nilf, _, h => h
  | .clo f caps, _, ⟨vs, h, e⟩ => ⟨vs, CapsAt.same L.n L.r caps vs h, e⟩
  | .fn f, _, h => h
  | .mpl h, _, ⟨hn, e⟩ => ⟨Nat.lt_of_lt_of_le hn L.n, by rw [L.r h hn]; exact e⟩
  | .nilm, _, h => h
  | .npt i off, _, ⟨hi, e⟩ => ⟨Nat.lt_of_lt_of_le hi L.z.nn, by rw [L.z.tb i hi]; exact e⟩
  | .nrw i, _, ⟨hi, e⟩ => ⟨Nat.lt_of_lt_of_le hi L.z.nn, by rw [L.z.tb i hi]; exact e⟩
  | .nel s i j off, _, ⟨hi, e⟩ => ⟨Nat.lt_of_lt_of_le hi L.z.nn, by rw [L.z.tb i hi]; exact e⟩

theorem Lvs.later (L : Later ρ ρ' z z' n n') : ∀ (ls : List Leaf) (cs : List Value), Lvs ρ z n ls cs → Lvs ρ' z' n' ls cs
  | [], _, h => h
  | l :: ls, _, ⟨c, d, e, h1, h2⟩ => ⟨c, d, e, l.later L _ h1, Lvs.later L ls _ h2⟩
theorem Cmp.later (L : Later ρ ρ' z z' n n') {a : Bool} {ls : List Leaf} {v : Value} (h : Cmp ρ z n a ls v) : Cmp ρ' z' n' a ls v :=
  let ⟨cs, h1, h2⟩ := h; ⟨cs, Lvs.later L _ _ h1, h2⟩
theorem Cmps.later (L : Later ρ ρ' z z' n n') : ∀ (cs : List (Bool × List Leaf)) (vs : List Value), Cmps ρ z n cs vs → Cmps ρ' z' n' cs vs
  | [], _, h => h
  | c :: cs, _, ⟨v, w, e, h1, h2⟩ => ⟨v, w, e, h1.later L, Cmps.later L cs _ h2⟩
theorem AV.later (L : Later ρ ρ' z z' n n') : ∀ (av : AV) (v : Value), av.at ρ z n v → av.at ρ' z' n' v
  | .top, _, h => h
  | .und, _, h => h
  | .vl _ _, _, h => Cmp.later L h
  | .tup cs, _, ⟨vs, h1, h2⟩ => ⟨vs, Cmps.later L _ _ h1, h2⟩
theorem FrAt.later (L : Later ρ ρ' z z' n n') {fr : List AV} {l : List Value} (h : FrAt ρ z n fr l) : FrAt ρ' z' n' fr l := ⟨h.1, fun i av v h1 h2 => av.later L _ (h.2 i av v h1 h2)⟩
theorem Pc.later (L : Later ρ ρ' z z' n n') {h : Nat} (hn : h < n) : ∀ (p : Pc) (A : Atom), (z'.nn = z.nn ∨ p.isAr = false) → p.is ρ z n h A → p.is ρ' z' n' h A
  | .dead, _, _, e => e
  | .box ls, _, _, ⟨b, cs, e1, e2, e3⟩ => ⟨b, cs, by rw [L.r h hn]; exact e1, Lvs.later L _ _ e2, e3⟩
  | .row t xs, _, _, ⟨e1, ch, e2, e3⟩ => ⟨by rw [L.r h hn]; exact e1, ch, e2.mono fun _ _ => t.holds_ext L.z _ _, by rw [L.r h hn]; exact e3⟩
  | .mp k v xs, _, _, ⟨b, kvs, e1, e2, e3⟩ => ⟨b, kvs, by rw [L.r h hn]; exact e1, Ents.mono (fun _ _ => k.holds_ext L.z _ _) (fun _ _ => v.val_ext L.z) _ _ e2, e3⟩
  | .ar T U xs, _, ha, ⟨cs, e1, e2⟩ => by
    have hn : z'.nn = z.nn := ha.elim id fun h => by cases h
    refine ⟨cs, e1.ext L.z hn, e2.trans (arA_congr fun i hi => L.z.tb i ?_).symm⟩
    rw [e1.nn, ← e1.len]; exact hi
theorem MemAt.later (L : Later ρ ρ' z z' n n') {mem : List Pc} {X : List Atom} (hl : mem.length ≤ n) (hz : z'.nn = z.nn) (h : MemAt ρ z n mem X) : MemAt ρ' z' n' mem X :=
  ⟨h.1, fun i p A h1 h2 => p.later L (Nat.lt_of_lt_of_le (List.getElem?_eq_some_iff.1 h1).1 hl) _ (.inl hz) (h.2 i p A h1 h2)⟩
end

section
variable {ρ : Nat → HI} {z : Zn} {n : Nat}

theorem Leaf.len : ∀ (l : Leaf) (cs : List Value), l.at ρ z n cs → cs.length = l.sz
  | .top, _, ⟨_, e, _⟩ => by rw [e]; rfl
  | .dat t _, _, h => t.holds_len _ _ h
  | .row _, _, ⟨_, e⟩ => by rw [e]; rfl
  | .part .., _, ⟨_, _, _, _, _, e⟩ => by rw [e]; rfl
  | .nils, _, h => by rw [show _ = _ from h]; rfl
  | .nilp, _, h => by rw [show _ = _ from h]; rfl
  | .ptr .., _, ⟨_, _, _, e⟩ => by rw [e]; rfl
  | .pta .., _, ⟨_, _, _, _, e⟩ => by rw [e]; rfl
  | .elr .., _, ⟨_, _, _, _, e⟩ => by rw [e]; rfl
  | .eld .., _, ⟨_, _, _, _, e⟩ => by rw [e]; rfl
  | .bpart .., _, ⟨_, _, _, _, _, e⟩ => by rw [e]; rfl
  | .rwa .., _, ⟨_, _, _, _, e⟩ => by rw [e]; rfl
  | .bsl .., _, ⟨_, _, _, e⟩ => by rw [e]; rfl
  | .nilf, _, h => by rw [show _ = _ from h]; rfl
  | .clo .., _, ⟨_, _, e⟩ => by rw [e]; rfl
  | .fn _, _, h => by rw [show _ = _ from h]; rfl
  | .mpl _, _, ⟨_, _, _, e⟩ => by rw [e]; rfl
  | .nilm, _, h => by rw [show _ = _ from h]; rfl
  | .npt .., _, ⟨_, e⟩ => by rw [e]; rfl
  | .nrw _, _, ⟨_, e⟩ => by rw [e]; rfl
  | .nel .., _, ⟨_, _, _, _, e⟩ => by rw [e]; rfl

theorem leaf_one {v : Value} {cs : List Value} (e : cs = [v]) (h : v.oneCell' = true) : ∀ u ∈ cs, u.oneCell' = true := by
  rw [e]; intro u hu; rw [List.mem_singleton] at hu; subst hu; exact h

theorem Leaf.leaf : ∀ (l : Leaf) (cs : List Value), l.at ρ z n cs → ∀ u ∈ cs, u.oneCell' = true
  | .top, _, ⟨_, e, h⟩ => leaf_one e h
  | .dat t _, _, h => t.holds_leaf _ _ h
  | .row _, _, ⟨_, e⟩ => leaf_one e rfl
  | .part .., _, ⟨_, _, _, _, _, e⟩ => leaf_one e rfl
  | .nils, _, h => leaf_one h rfl
  | .nilp, _, h => leaf_one h rfl
  | .ptr .., _, ⟨_, _, _, e⟩ => leaf_one e rfl
  | .pta .., _, ⟨_, _, _, _, e⟩ => leaf_one e rfl
  | .elr .., _, ⟨_, _, _, _, e⟩ => leaf_one e rfl
  | .eld .., _, ⟨_, _, _, _, e⟩ => leaf_one e rfl
  | .bpart .., _, ⟨_, _, _, _, _, e⟩ => leaf_one e rfl
  | .rwa .., _, ⟨_, _, _, _, e⟩ => leaf_one e rfl
  | .bsl .., _, ⟨_, _, _, e⟩ => leaf_one e rfl
  | .nilf, _, h => leaf_one h rfl
  | .clo .., _, ⟨_, _, e⟩ => leaf_one e rfl
  | .fn _, _, h => leaf_one h rfl
  | .mpl _, _, ⟨_, _, _, e⟩ => leaf_one e rfl
  | .nilm, _, h => leaf_one h rfl
  | .npt .., _, ⟨_, e⟩ => leaf_one e rfl
  | .nrw _, _, ⟨_, e⟩ => leaf_one e rfl
  | .nel .., _, ⟨_, _, _, _, e⟩ => leaf_one e rfl

theorem Lvs.leaf : ∀ (ls : List Leaf) (cs : List Value), Lvs ρ z n ls cs → ∀ u ∈ cs, u.oneCell' = true
  | [], _, h, u, hu => by rw [show _ = _ from h] at hu; cases hu
  | l :: ls, _, ⟨c, d, e, h1, h2⟩, u, hu => by
    rw [e] at hu
    rcases List.mem_append.1 hu with hu | hu
    · exact l.leaf _ h1 u hu
    · exact Lvs.leaf ls _ h2 u hu

def szs (ls : List Leaf) : Nat := match ls with | [] => 0 | l :: ls => l.sz + szs ls
theorem Lvs.len : ∀ (ls : List Leaf) (cs : List Value), Lvs ρ z n ls cs → cs.length = szs ls
  | [], _, h => by rw [show _ = _ from h]; rfl
  | l :: ls, _, ⟨c, d, e, h1, h2⟩ => by rw [e, List.length_append, l.len _ h1, Lvs.len ls _ h2]; rfl

theorem Lvs.append : ∀ {as bs : List Leaf} {c d : List Value}, Lvs ρ z n as c → Lvs ρ z n bs d → Lvs ρ z n (as ++ bs) (c ++ d)
  | [], bs, c, d, h, h' => by rw [show c = [] from h]; exact h'
  | a :: as, bs, c, d, ⟨c1, c2, e, h1, h2⟩, h' => ⟨c1, c2 ++ d, by rw [e, List.append_assoc], h1, Lvs.append h2 h'⟩

theorem Lvs.split : ∀ {as bs : List Leaf} {cs : List Value}, Lvs ρ z n (as ++ bs) cs → ∃ c d, cs = c ++ d ∧ Lvs ρ z n as c ∧ Lvs ρ z n bs d
  | [], bs, cs, h => ⟨[], cs, rfl, rfl, h⟩
  | a :: as, bs, cs, ⟨c1, c2, e, h1, h2⟩ => by
    obtain ⟨c, d, e', h3, h4⟩ := Lvs.split (as := as) h2
    exact ⟨c1 ++ c, d, by rw [e, e', List.append_assoc], ⟨c1, c, rfl, h1, h3⟩, h4⟩

theorem Lvs.one {l : Leaf} {cs : List Value} (h : l.at ρ z n cs) : Lvs ρ z n [l] cs := ⟨cs, [], by simp, h, rfl⟩
theorem Lvs.of_one {l : Leaf} {cs : List Value} (h : Lvs ρ z n [l] cs) : l.at ρ z n cs := by
  obtain ⟨c, d, e, h1, h2⟩ := h
  rw [show d = [] from h2, List.append_nil] at e
  exact e ▸ h1

theorem Cmp.one {l : Leaf} {v : Value} (h : l.at ρ z n [v]) : Cmp ρ z n false [l] v := ⟨[v], Lvs.one h, rfl⟩
theorem Cmp.of_one {l : Leaf} {v : Value} (h : Cmp ρ z n false [l] v) : l.at ρ z n [v] := by
  obtain ⟨cs, h1, h2⟩ := h
  have := Lvs.of_one h1
  rw [show cs = [v] from h2] at this
  exact this

theorem cells_of_leaf {v : Value} (h : v.oneCell' = true) : v.cells = #[v] := by
  cases v <;> first | rfl | simp [Value.oneCell'] at h

theorem Cmp.cells {a : Bool} {ls : List Leaf} {v : Value} (h : Cmp ρ z n a ls v) : ∃ cs, Lvs ρ z n ls cs ∧ v.cells = cs.toArray := by
  obtain ⟨cs, h1, h2⟩ := h
  refine ⟨cs, h1, ?_⟩
  cases a with
  | true => rw [show v = _ from h2]; rfl
  | false =>
    rw [show cs = [v] from h2] at h1 ⊢
    exact cells_of_leaf (Lvs.leaf _ _ h1 v (by simp))

/-- Leaves off cells on: those that take the next n cells. -/
def cutL : List Leaf → Nat → Nat → Option (List Leaf)
  | ls, 0, m => takeL ls m
  | [], _ + 1, _ => none
  | l :: ls, off + 1, m => if l.sz ≤ off + 1 then cutL ls (off + 1 - l.sz) m else none
where takeL : List Leaf → Nat → Option (List Leaf)
  | _, 0 => some []
  | [], _ + 1 => none
  | l :: ls, m + 1 => if l.sz ≤ m + 1 then (takeL ls (m + 1 - l.sz)).map (l :: ·) else none

theorem takeL_at : ∀ (ls : List Leaf) (m : Nat) (out : List Leaf) (cs : List Value), cutL.takeL ls m = some out → Lvs ρ z n ls cs → Lvs ρ z n out (cs.take m) ∧ m ≤ cs.length
  | [], 0, out, cs, h, hl => by simp only [cutL.takeL, Option.some.injEq] at h; subst h; exact ⟨by simp [Lvs], Nat.zero_le _⟩
  | l :: ls, 0, out, cs, h, hl => by simp only [cutL.takeL, Option.some.injEq] at h; subst h; exact ⟨by simp [Lvs], Nat.zero_le _⟩
  | [], m + 1, out, cs, h, hl => by simp [cutL.takeL] at h
  | l :: ls, m + 1, out, cs, h, hl => by
    unfold cutL.takeL at h
    split at h
    · rename_i hm
      obtain ⟨out', ho, rfl⟩ := Option.map_eq_some_iff.1 h
      obtain ⟨c, d, rfl, h1, h2⟩ := hl
      obtain ⟨ih1, ih2⟩ := takeL_at ls _ out' d ho h2
      have hc := l.len _ h1
      refine ⟨⟨c, d.take (m + 1 - l.sz), ?_, h1, ih1⟩, by rw [List.length_append]; omega⟩
      rw [List.take_append, hc, List.take_of_length_le (by omega)]
    · cases h

theorem cutL_at : ∀ (ls : List Leaf) (off m : Nat) (out : List Leaf) (cs : List Value), cutL ls off m = some out → Lvs ρ z n ls cs → Lvs ρ z n out ((cs.drop off).take m) ∧ off + m ≤ cs.length
  | [], 0, m, out, cs, h, hl => by
    unfold cutL at h
    have := takeL_at _ _ _ _ h hl
    simpa using this
  | l :: ls, 0, m, out, cs, h, hl => by
    unfold cutL at h
    have := takeL_at _ _ _ _ h hl
    simpa using this
  | [], off + 1, m, out, cs, h, hl => by simp [cutL] at h
  | l :: ls, off + 1, m, out, cs, h, hl => by
    unfold cutL at h
    split at h
    · rename_i hm
      obtain ⟨c, d, rfl, h1, h2⟩ := hl
      have hc := l.len _ h1
      obtain ⟨ih1, ih2⟩ := cutL_at ls _ m out d h h2
      refine ⟨?_, by rw [List.length_append]; omega⟩
      rw [List.drop_append, hc, List.drop_of_length_le (by omega), List.nil_append]
      exact ih1
    · cases h

/-- Leaves off cells on are turned into others that take as many cells. -/
def putL : List Leaf → Nat → Nat → List Leaf → Option (List Leaf)
  | ls, 0, m, new => (dropL ls m).map (new ++ ·)
  | [], _ + 1, _, _ => none
  | l :: ls, off + 1, m, new => if l.sz ≤ off + 1 then (putL ls (off + 1 - l.sz) m new).map (l :: ·) else none
where dropL : List Leaf → Nat → Option (List Leaf)
  | ls, 0 => some ls
  | [], _ + 1 => none
  | l :: ls, m + 1 => if l.sz ≤ m + 1 then dropL ls (m + 1 - l.sz) else none

theorem dropL_at : ∀ (ls : List Leaf) (m : Nat) (out : List Leaf) (cs : List Value), putL.dropL ls m = some out → Lvs ρ z n ls cs → Lvs ρ z n out (cs.drop m) ∧ m ≤ cs.length
  | [], 0, out, cs, h, hl => by simp only [putL.dropL, Option.some.injEq] at h; subst h; exact ⟨by simpa using hl, Nat.zero_le _⟩
  | l :: ls, 0, out, cs, h, hl => by simp only [putL.dropL, Option.some.injEq] at h; subst h; exact ⟨by simpa using hl, Nat.zero_le _⟩
  | [], m + 1, out, cs, h, hl => by simp [putL.dropL] at h
  | l :: ls, m + 1, out, cs, h, hl => by
    unfold putL.dropL at h
    split at h
    · rename_i hm
      obtain ⟨c, d, rfl, h1, h2⟩ := hl
      have hc := l.len _ h1
      obtain ⟨ih1, ih2⟩ := dropL_at ls _ out d h h2
      refine ⟨?_, by rw [List.length_append]; omega⟩
      rw [List.drop_append, hc, List.drop_of_length_le (by omega), List.nil_append]
      exact ih1
    · cases h

theorem putL_at : ∀ (ls : List Leaf) (off m : Nat) (new out : List Leaf) (cs ns : List Value), putL ls off m new = some out → Lvs ρ z n ls cs → Lvs ρ z n new ns →
    Lvs ρ z n out (cs.take off ++ (ns ++ cs.drop (off + m))) ∧ off + m ≤ cs.length
  | [], 0, m, new, out, cs, ns, h, hl, hn => by
    unfold putL at h
    obtain ⟨o, ho, rfl⟩ := Option.map_eq_some_iff.1 h
    obtain ⟨h1, h2⟩ := dropL_at _ _ _ _ ho hl
    refine ⟨?_, by omega⟩
    simpa using hn.append h1
  | l :: ls, 0, m, new, out, cs, ns, h, hl, hn => by
    unfold putL at h
    obtain ⟨o, ho, rfl⟩ := Option.map_eq_some_iff.1 h
    obtain ⟨h1, h2⟩ := dropL_at _ _ _ _ ho hl
    refine ⟨?_, by omega⟩
    simpa using hn.append h1
  | [], off + 1, m, new, out, cs, ns, h, hl, hn => by simp [putL] at h
  | l :: ls, off + 1, m, new, out, cs, ns, h, hl, hn => by
    unfold putL at h
    split at h
    · rename_i hm
      obtain ⟨o, ho, rfl⟩ := Option.map_eq_some_iff.1 h
      obtain ⟨c, d, rfl, h1, h2⟩ := hl
      have hc := l.len _ h1
      obtain ⟨ih1, ih2⟩ := putL_at ls _ m new o d ns ho h2 hn
      refine ⟨⟨c, _, ?_, h1, ih1⟩, by rw [List.length_append]; omega⟩
      rw [List.take_append, hc, List.take_of_length_le (by omega), List.drop_append, hc, List.drop_of_length_le (l := c) (by omega), List.nil_append, List.append_assoc]
      congr 5
      omega
    · cases h

/-! ### Leaves and data -/

/-- The leaves of plain data. -/
def unL : (t : Ty) → t.den → List Leaf
  | .unit, _ => []
  | .pair a b, x => unL a x.1 ++ unL b x.2
  | .rep, x => [.dat (.int .i64) (Rep.k x), .dat .str (Rep.t x), .dat (.int .i64) (Rep.n x), .dat (.slc .rep) (Rep.l x)]
  | t, x => [.dat t x]

theorem unL_at : ∀ (t : Ty) (x : t.den) (cs : List Value), t.holds z x cs → Lvs ρ z n (unL t x) cs
  | .unit, _, _, h => h
  | .pair a b, x, _, ⟨c, d, e, h1, h2⟩ => by rw [e]; exact (unL_at a _ _ h1).append (unL_at b _ _ h2)
  | .int _, _, _, h => Lvs.one h
  | .bool, _, _, h => Lvs.one h
  | .str, _, _, h => Lvs.one h
  | .err, _, _, h => Lvs.one h
  | .nd, _, _, h => Lvs.one h
  | .any, _, _, h => Lvs.one h
  | .pt _, _, _, h => Lvs.one h
  | .rep, x, cs, h => by
    obtain ⟨c1, d1, e1, h1, c2, d2, e2, h2, c3, d3, e3, h3, c4, d4, e4, h4, h5⟩ := (Rep.as_struct x cs).1 h
    have h5 : d4 = [] := h5
    refine ⟨c1, d1, e1, h1, c2, d2, e2, h2, c3, d3, e3, h3, c4, d4, e4, h4, h5⟩
  | .arr _ _, _, _, h => Lvs.one h
  | .slc _, _, _, h => Lvs.one h

/-- Plain data as a value. -/
def AV.of (t : Ty) (x : t.den) : AV := .vl t.agg (unL t x)
theorem AV.of_at {t : Ty} {x : t.den} {cs : List Value} {v : Value} (h : t.holds z x cs) (hv : match t.agg with | true => v = .agg cs.toArray | false => cs = [v]) : (AV.of t x).at ρ z n v :=
  ⟨cs, unL_at t x cs h, hv⟩

def mkN {R α : Type} (f : List Leaf → (α → List Leaf → Option R) → Option R) : Nat → List Leaf → (List α → List Leaf → Option R) → Option R
  | 0, ls, K => K [] ls
  | m + 1, ls, K => f ls fun x ls => mkN f m ls fun xs ls => K (x :: xs) ls

/-- Leaves as plain data of a kind; what is left of them. -/
def mkL {R : Type} : (t : Ty) → List Leaf → (t.den → List Leaf → Option R) → Option R
  | .unit, ls, K => K () ls
  | .pair a b, ls, K => mkL a ls fun x ls => mkL b ls fun y ls => K (x, y) ls
  | .arr m t, ls, K => match ls with
    | .dat (.arr m' u) x :: ls' => Ty.as Ty.den (.arr m' u) (.arr m t) x fun y => K y ls'
    | ls => mkN (mkL t) m ls fun l ls => if h : Nat.beq l.length m = true then K ⟨l, Nat.eq_of_beq_eq_true h⟩ ls else none
  | .slc t, ls, K => match ls with
    | .dat t' x :: ls => Ty.as Ty.den t' (.slc t) x fun y => K y ls
    | .nils :: ls => K ([] : List t.den) ls
    | _ => none
  | .int k, ls, K => match ls with
    | .dat t' x :: ls => Ty.as Ty.den t' (.int k) x fun y => K y ls
    | _ => none
  | .bool, ls, K => match ls with
    | .dat t' x :: ls => Ty.as Ty.den t' .bool x fun y => K y ls
    | _ => none
  | .str, ls, K => match ls with
    | .dat t' x :: ls => Ty.as Ty.den t' .str x fun y => K y ls
    | _ => none
  | .err, ls, K => match ls with
    | .dat t' x :: ls => Ty.as Ty.den t' .err x fun y => K y ls
    | _ => none
  | .nd, ls, K => match ls with
    | .dat t' x :: ls => Ty.as Ty.den t' .nd x fun y => K y ls
    | .nilp :: ls => K (none : Option Nat) ls
    | .npt i off :: ls => match Nat.beq off 0 with
      | true => K (some i : Option Nat) ls
      | false => none
    | _ => none
  | .any, ls, K => match ls with
    | .mpl _ :: ls => K () ls
    | .nilm :: ls => K () ls
    | .nilp :: ls => K () ls
    | .nils :: ls => K () ls
    | .dat .any _ :: ls => K () ls
    | _ => none
  | .rep, ls, K => match ls with
    | .dat a x :: .dat b y :: .dat c w :: .dat d v :: ls => Ty.as Ty.den a (.int .i64) x fun k => Ty.as Ty.den b .str y fun t => Ty.as Ty.den c (.int .i64) w fun n => Ty.as Ty.den d (.slc .rep) v fun l => K (Rep.mk k t n l) ls
    | .dat a x :: .dat b y :: .dat c w :: .nils :: ls => Ty.as Ty.den a (.int .i64) x fun k => Ty.as Ty.den b .str y fun t => Ty.as Ty.den c (.int .i64) w fun n => K (Rep.mk k t n []) ls
    | _ => none
  | .pt t, ls, K => match ls with
    | .dat t' x :: ls => Ty.as Ty.den t' (.pt t) x fun y => K y ls
    | .nilp :: ls => K (none : Option t.den) ls
    | _ => none

theorem mkN_at {R : Type} {t : Ty} {f : List Leaf → (t.den → List Leaf → Option R) → Option R}
    (hf : ∀ {ls : List Leaf} {K : t.den → List Leaf → Option R} {r : R} {cs : List Value}, f ls K = some r → Lvs ρ z n ls cs → ∃ x ls' c d, K x ls' = some r ∧ cs = c ++ d ∧ t.holds z x c ∧ Lvs ρ z n ls' d) :
    ∀ (m : Nat) {ls : List Leaf} {K : List t.den → List Leaf → Option R} {r : R} {cs : List Value}, mkN f m ls K = some r → Lvs ρ z n ls cs →
      ∃ xs ls' ch d, K xs ls' = some r ∧ cs = _root_.Go.Lift.flat t.enc ch ++ d ∧ Els (t.holds z) xs ch ∧ Lvs ρ z n ls' d
  | 0, ls, K, r, cs, h, hl => ⟨[], ls, [], cs, h, rfl, Els.nil, hl⟩
  | m + 1, ls, K, r, cs, h, hl => by
    obtain ⟨x, ls1, c, d, h1, rfl, h2, h3⟩ := hf h hl
    obtain ⟨xs, ls2, ch, d2, h4, rfl, h5, h6⟩ := mkN_at hf m h1 h3
    obtain ⟨c', rfl⟩ := Ty.holds_chunk h2
    refine ⟨x :: xs, ls2, c' :: ch, d2, h4, ?_, ?_, h6⟩
    · rw [flat_cons, List.append_assoc]; rfl
    · have := (Els.one (p := t.holds z) h2).append h5
      simpa using this

theorem Lvs.of_cons {l : Leaf} {ls : List Leaf} {cs : List Value} (h : Lvs ρ z n (l :: ls) cs) : ∃ c d, cs = c ++ d ∧ l.at ρ z n c ∧ Lvs ρ z n ls d := h

theorem mkL_as {R : Type} {t t' : Ty} {x : t'.den} {ls : List Leaf} {K : t.den → List Leaf → Option R} {r : R} {cs : List Value}
    (h : (Ty.as Ty.den t' t x fun y => K y ls) = some r) (hl : Lvs ρ z n (.dat t' x :: ls) cs) : ∃ x ls' c d, K x ls' = some r ∧ cs = c ++ d ∧ t.holds z x c ∧ Lvs ρ z n ls' d := by
  obtain ⟨e, h⟩ := Ty.as_some h
  subst e
  obtain ⟨c, d, e, h1, h2⟩ := hl
  exact ⟨x, ls, c, d, h, e, h1, h2⟩

theorem mkL_at {R : Type} : ∀ (t : Ty) {ls : List Leaf} {K : t.den → List Leaf → Option R} {r : R} {cs : List Value}, mkL t ls K = some r → Lvs ρ z n ls cs →
    ∃ x ls' c d, K x ls' = some r ∧ cs = c ++ d ∧ t.holds z x c ∧ Lvs ρ z n ls' d
  | .unit, ls, K, r, cs, h, hl => ⟨(), ls, [], cs, h, rfl, rfl, hl⟩
  | .pair a b, ls, K, r, cs, h, hl => by
    obtain ⟨x, ls1, c, d, h1, rfl, h2, h3⟩ := mkL_at a h hl
    obtain ⟨y, ls2, c2, d2, h4, rfl, h5, h6⟩ := mkL_at b h1 h3
    exact ⟨(x, y), ls2, c ++ c2, d2, h4, by rw [List.append_assoc], ⟨c, c2, rfl, h2, h5⟩, h6⟩
  | .arr m t, ls, K, r, cs, h, hl => by
    unfold mkL at h
    split at h
    · exact mkL_as h hl
    · obtain ⟨xs, ls', ch, d, h1, rfl, h2, h3⟩ := mkN_at (mkL_at t) m h hl
      split at h1
      · rename_i hm
        exact ⟨⟨xs, Nat.eq_of_beq_eq_true hm⟩, ls', _, d, h1, rfl, ⟨ch, h2, rfl⟩, h3⟩
      · cases h1
  | .slc t, ls, K, r, cs, h, hl => by
    unfold mkL at h
    split at h
    · exact mkL_as h hl
    · obtain ⟨c, d, e, h1, h2⟩ := hl
      exact ⟨[], _, c, d, h, e, ⟨none, 0, [], h1, Nat.le_refl _, Els.nil, .inl ⟨rfl, rfl⟩⟩, h2⟩
    · cases h
  | .int k, ls, K, r, cs, h, hl => by
    unfold mkL at h
    split at h
    · exact mkL_as h hl
    · cases h
  | .bool, ls, K, r, cs, h, hl => by
    unfold mkL at h
    split at h
    · exact mkL_as h hl
    · cases h
  | .str, ls, K, r, cs, h, hl => by
    unfold mkL at h
    split at h
    · exact mkL_as h hl
    · cases h
  | .err, ls, K, r, cs, h, hl => by
    unfold mkL at h
    split at h
    · exact mkL_as h hl
    · cases h
  | .nd, ls, K, r, cs, h, hl => by
    unfold mkL at h
    split at h
    · exact mkL_as h hl
    · obtain ⟨c, d, e, h1, h2⟩ := hl
      exact ⟨(none : Option Nat), _, c, d, h, e, ⟨none, h1, rfl⟩, h2⟩
    · split at h
      · rename_i ho
        have ho := Nat.eq_of_beq_eq_true ho; subst ho
        obtain ⟨c, d, e, ⟨h1, h1'⟩, h2⟩ := hl
        exact ⟨_, _, c, d, h, e, ⟨_, h1', h1, rfl⟩, h2⟩
      · cases h
    · cases h
  | .any, ls, K, r, cs, h, hl => by
    unfold mkL at h
    split at h
    · obtain ⟨c, d, e, ⟨_, b, _, h1⟩, h2⟩ := hl
      exact ⟨(), _, c, d, h, e, ⟨_, h1, rfl⟩, h2⟩
    · obtain ⟨c, d, e, h1, h2⟩ := hl
      exact ⟨(), _, c, d, h, e, ⟨_, h1, rfl⟩, h2⟩
    · obtain ⟨c, d, e, h1, h2⟩ := hl
      exact ⟨(), _, c, d, h, e, ⟨_, h1, rfl⟩, h2⟩
    · obtain ⟨c, d, e, h1, h2⟩ := hl
      exact ⟨(), _, c, d, h, e, ⟨_, h1, rfl⟩, h2⟩
    · obtain ⟨c, d, e, h1, h2⟩ := hl
      exact ⟨(), _, c, d, h, e, h1, h2⟩
    · cases h
  | .rep, ls, K, r, cs, h, hl => by
    unfold mkL at h
    split at h
    · rename_i a x b y c w d v ls
      obtain ⟨rfl, h⟩ := Ty.as_some h
      obtain ⟨rfl, h⟩ := Ty.as_some h
      obtain ⟨rfl, h⟩ := Ty.as_some h
      obtain ⟨rfl, h⟩ := Ty.as_some h
      obtain ⟨c1, d1, e1, h1, c2, d2, e2, h2, c3, d3, e3, h3, c4, d4, e4, h4, h5⟩ := hl
      refine ⟨Rep.mk x y w v, ls, c1 ++ (c2 ++ (c3 ++ (c4 ++ []))), d4, h, by rw [e1, e2, e3, e4]; simp, ?_, h5⟩
      exact (Rep.as_struct _ _).2 ⟨c1, _, rfl, h1, c2, _, rfl, h2, c3, _, rfl, h3, c4, [], rfl, h4, rfl⟩
    · rename_i a x b y c w ls
      obtain ⟨rfl, h⟩ := Ty.as_some h
      obtain ⟨rfl, h⟩ := Ty.as_some h
      obtain ⟨rfl, h⟩ := Ty.as_some h
      obtain ⟨c1, d1, e1, h1, c2, d2, e2, h2, c3, d3, e3, h3, c4, d4, e4, h4, h5⟩ := hl
      refine ⟨Rep.mk x y w [], ls, c1 ++ (c2 ++ (c3 ++ (c4 ++ []))), d4, h, by rw [e1, e2, e3, e4]; simp, ?_, h5⟩
      exact (Rep.as_struct _ _).2 ⟨c1, _, rfl, h1, c2, _, rfl, h2, c3, _, rfl, h3, c4, [], rfl, ⟨none, 0, [], h4, Nat.le_refl _, Els.nil, .inl ⟨rfl, rfl⟩⟩, rfl⟩
    · cases h
  | .pt t, ls, K, r, cs, h, hl => by
    unfold mkL at h
    split at h
    · exact mkL_as h hl
    · obtain ⟨c, d, e, h1, h2⟩ := hl
      exact ⟨(none : Option t.den), _, c, d, h, e, ⟨none, h1, .inl ⟨rfl, rfl⟩⟩, h2⟩
    · cases h
end
end Go.Lift

/- Operations that only look: what they come to, as a function of what is known. -/
namespace Go.Lift
open Go
set_option linter.unusedVariables false

/-- Memory, as far as it is known. -/
def Fx (X : List Atom) (Z : Nat → Prop) (z : Zn) (w : World) : Prop := (zA Z z).at w ∧ ∀ A ∈ X, A.at w

abbrev Globs := List (Nat × (t : Ty) × t.den)
def GlAt (G : Globs) (z : Zn) : Prop := ∀ e ∈ G, ∃ c, e.2.1.holds z e.2.2 c ∧ InZ z ⟨e.1, 0, none⟩ c ∧ ∃ t m, z.hp e.1 = some (.cells c.toArray t m)

/-! ### Operands -/

def ofV : Value → AV
  | .int k x => .vl false [.dat (.int k) x]
  | .bool b => .vl false [.dat .bool b]
  | .string s => .vl false [.dat .str s.data.toList]
  | .pointer none => .vl false [.nilp]
  | .slice none 0 0 => .vl false [.nils]
  | .nilIface => .vl false [.dat .err false]
  | .map none => .vl false [.nilm]
  | _ => .top

def glob (g : Nat) : Globs → AV
  | [] => .top
  | e :: G => if Nat.beq e.1 g = true then .vl false [.eld e.2.1 e.2.2 0] else glob g G

def opd (G : Globs) (fr : List AV) : Operand → AV
  | .tmp t => fr.getD t .und
  | .const v => ofV v
  | .global g => glob g G
  | .func f => .vl false [.fn f]

section
variable {ρ : Nat → HI} {z : Zn} {n : Nat} {l : List Value} {fr : List AV} {G : Globs}

theorem ofV_at : ∀ v : Value, (ofV v).at ρ z n v
  | .int k x => Cmp.one rfl
  | .bool b => Cmp.one rfl
  | .string ⟨s⟩ => Cmp.one (show _ = _ by simp)
  | .pointer none => Cmp.one rfl
  | .pointer (some _) => trivial
  | .slice none 0 0 => Cmp.one rfl
  | .slice none 0 (_ + 1) => trivial
  | .slice none (_ + 1) _ => trivial
  | .slice (some _) _ _ => trivial
  | .float .. => trivial
  | .complex .. => trivial
  | .map none => Cmp.one rfl
  | .map (some _) => trivial
  | .chan _ => trivial
  | .func .. => trivial
  | .nilFunc => trivial
  | .iface .. => trivial
  | .nilIface => Cmp.one ⟨_, rfl, rfl⟩
  | .agg _ => trivial
  | .tuple _ => trivial

theorem addr_add0 (a : Addr) : a.add 0 = a := by unfold Addr.add; simp

theorem glob_at (g : Nat) : ∀ (G : Globs), GlAt G z → (glob g G).at ρ z n (.pointer (some ⟨g, 0, none⟩))
  | [], _ => trivial
  | e :: G, h => by
    unfold glob
    split
    · rename_i hb
      have hg := Nat.eq_of_beq_eq_true hb
      obtain ⟨c, h1, h2, _⟩ := h e (List.mem_cons_self ..)
      exact Cmp.one ⟨⟨e.1, 0, none⟩, c, h1, h2, by rw [addr_add0, hg]⟩
    · exact glob_at g G fun e he => h e (List.mem_cons_of_mem _ he)

theorem fr_get (h : FrAt ρ z n fr l) (t : Nat) : (fr.getD t .und).at ρ z n (l.getD t undef) := by
  by_cases ht : t < fr.length
  · have ht' : t < l.length := h.1 ▸ ht
    have := h.2 t _ _ (List.getElem?_eq_getElem ht) (List.getElem?_eq_getElem ht')
    simpa [List.getD, List.getElem?_eq_getElem ht, List.getElem?_eq_getElem ht'] using this
  · have ht' : ¬ t < l.length := h.1 ▸ ht
    simp only [List.getD, List.getElem?_eq_none (Nat.le_of_not_lt ht), List.getElem?_eq_none (Nat.le_of_not_lt ht')]
    rfl

theorem opd_at (hf : FrAt ρ z n fr l) (hg : GlAt G z) (x : Operand) : (opd G fr x).at ρ z n ((Fr l).eval x) := by
  cases x with
  | tmp t =>
    have := fr_get hf t
    simpa [opd, Act.eval] using this
  | const v => exact ofV_at v
  | «global» g => exact glob_at g G hg
  | func f => exact Cmp.one rfl
end

/-! ### Views -/

def AV.asLeaf : AV → Option Leaf
  | .vl false [l] => some l
  | _ => none
def AV.asInt : AV → Option (IntKind × Int)
  | .vl false [.dat (.int k) x] => some (k, x)
  | _ => none
def AV.asBool : AV → Option Bool
  | .vl false [.dat .bool x] => some x
  | _ => none
def AV.asStr : AV → Option (List UInt8)
  | .vl false [.dat .str x] => some x
  | _ => none
def AV.asAgg : AV → Option (List Leaf)
  | .vl true ls => some ls
  | _ => none

section
variable {ρ : Nat → HI} {z : Zn} {n : Nat}
theorem asLeaf_at {av : AV} {l : Leaf} {v : Value} (h : av.asLeaf = some l) (ha : av.at ρ z n v) : l.at ρ z n [v] := by
  unfold AV.asLeaf at h
  split at h
  · injection h with h; subst h; exact Cmp.of_one ha
  · cases h
theorem asInt_at {av : AV} {k : IntKind} {x : Int} {v : Value} (h : av.asInt = some (k, x)) (ha : av.at ρ z n v) : v = .int k x := by
  unfold AV.asInt at h
  split at h
  · injection h with h; injection h with h1 h2; subst h1; subst h2
    have := Cmp.of_one ha
    injection (show _ = _ from this)
  · cases h
theorem asBool_at {av : AV} {x : Bool} {v : Value} (h : av.asBool = some x) (ha : av.at ρ z n v) : v = .bool x := by
  unfold AV.asBool at h
  split at h
  · injection h with h; subst h
    have := Cmp.of_one ha
    injection (show _ = _ from this)
  · cases h
theorem asStr_at {av : AV} {x : List UInt8} {v : Value} (h : av.asStr = some x) (ha : av.at ρ z n v) : v = .string ⟨x.toArray⟩ := by
  unfold AV.asStr at h
  split at h
  · injection h with h; subst h
    have := Cmp.of_one ha
    injection (show _ = _ from this)
  · cases h
theorem asAgg_at {av : AV} {ls : List Leaf} {v : Value} (h : av.asAgg = some ls) (ha : av.at ρ z n v) : ∃ cs, Lvs ρ z n ls cs ∧ v = .agg cs.toArray := by
  unfold AV.asAgg at h
  split at h
  · injection h with h; subst h; exact ha
  · cases h
theorem int_at {k : IntKind} {x : Int} : (AV.vl false [.dat (.int k) x]).at ρ z n (.int k x) := Cmp.one rfl
theorem bool_at {x : Bool} : (AV.vl false [.dat .bool x]).at ρ z n (.bool x) := Cmp.one rfl
theorem str_at {x : List UInt8} : (AV.vl false [.dat .str x]).at ρ z n (.string ⟨x.toArray⟩) := Cmp.one rfl
end

/-! ### Numbers -/

section
variable {R : Type}

def avI (k : IntKind) (x : Int) : AV := .vl false [.dat (.int k) x]
def avB (x : Bool) : AV := .vl false [.dat .bool x]
def avS (x : List UInt8) : AV := .vl false [.dat .str x]

def xint (b : BinOp) (k : IntKind) (a : Int) (k' : IntKind) (c : Int) (K : AV → Option R) : Option R :=
  match b with
  | .shl => Option.bind (gshl k a c) fun y => K (avI k y)
  | .shr => Option.bind (gshr k a c) fun y => K (avI k y)
  | b => match kindB k k' with
    | false => none
    | true => match b with
      | .add => K (avI k (k.wrap (a + c)))
      | .sub => K (avI k (k.wrap (a - c)))
      | .mul => K (avI k (k.wrap (a * c)))
      | .quo => Option.bind (gquo k a c) fun y => K (avI k y)
      | .rem => Option.bind (grem k a c) fun y => K (avI k y)
      | .and => K (avI k (band k a c))
      | .or => K (avI k (bor k a c))
      | .xor => K (avI k (bxor k a c))
      | .andNot => K (avI k (bandNot k a c))
      | .eql => K (avB (a == c))
      | .neq => K (avB (a != c))
      | .lss => K (avB (decide (a < c)))
      | .leq => K (avB (decide (a ≤ c)))
      | .gtr => K (avB (decide (a > c)))
      | .geq => K (avB (decide (a ≥ c)))
      | _ => none
end

section
variable {R : Type} {P : Program} {ρ : Nat → HI} {z : Zn} {n : Nat} {X : List Atom} {Z : Nat → Prop}

/-- A computation that only looks comes to what K was handed. -/
def Look (P : Program) (X : List Atom) (Z : Nat → Prop) (ρ : Nat → HI) (z : Zn) (n : Nat) (s : Sem Value) (K : AV → Option R) (r : R) : Prop :=
  ∃ av v, K av = some r ∧ av.at ρ z n v ∧ ∀ w, Fx X Z z w → s.run P w = .ok v w

theorem Look.mk {s : Sem Value} {K : AV → Option R} {r : R} {av : AV} {v : Value} (h : K av = some r) (ha : av.at ρ z n v) (hs : ∀ w, Fx X Z z w → s.run P w = .ok v w) : Look P X Z ρ z n s K r := ⟨av, v, h, ha, hs⟩

theorem bind_ex {α β : Type} {x : Option α} {f : α → Option β} {r : β} (h : Option.bind x f = some r) : ∃ y, x = some y ∧ f y = some r := by
  cases x with
  | none => cases h
  | some y => exact ⟨y, rfl, h⟩

theorem xint_look {b : BinOp} {t : TypeId} {x y : Operand} {k k' : IntKind} {a c : Int} {K : AV → Option R} {r : R} (h : xint b k a k' c K = some r) :
    Look P X Z ρ z n (do eqGuard b t x y (.int k a) (.int k' c); binOp b t (.int k a) (.int k' c)) K r := by
  unfold xint at h
  split at h
  · obtain ⟨v, h1, h2⟩ := bind_ex h
    unfold gshl at h1
    split at h1
    · cases h1
    · rename_i hb; injection h1 with h1; subst h1
      exact .mk h2 int_at fun w _ => by simp [eqGuard_shl, binOp, Op.shift, hb]
  · obtain ⟨v, h1, h2⟩ := bind_ex h
    unfold gshr at h1
    split at h1
    · cases h1
    · rename_i hb; injection h1 with h1; subst h1
      exact .mk h2 int_at fun w _ => by simp [eqGuard_shr, binOp, Op.shift, hb]
  · split at h
    · cases h
    · rename_i hk
      have hk := kind_of_beq hk
      subst hk
      split at h
      · exact .mk h int_at fun w _ => by simp [eqGuard, binOp, Op.intArith]
      · exact .mk h int_at fun w _ => by simp [eqGuard, binOp, Op.intArith]
      · exact .mk h int_at fun w _ => by simp [eqGuard, binOp, Op.intArith]
      · obtain ⟨v, h1, h2⟩ := bind_ex h
        unfold gquo at h1
        split at h1
        · cases h1
        · rename_i hb; injection h1 with h1; subst h1
          exact .mk h2 int_at fun w _ => by simp [eqGuard_quo, binOp, Op.intDiv, hb]
      · obtain ⟨v, h1, h2⟩ := bind_ex h
        unfold grem at h1
        split at h1
        · cases h1
        · rename_i hb; injection h1 with h1; subst h1
          exact .mk h2 int_at fun w _ => by simp [eqGuard_rem, binOp, Op.intDiv, hb]
      · exact .mk h int_at fun w _ => by simp [eqGuard, binOp, Op.intBits, band]
      · exact .mk h int_at fun w _ => by simp [eqGuard, binOp, Op.intBits, bor]
      · exact .mk h int_at fun w _ => by simp [eqGuard, binOp, Op.intBits, bxor]
      · exact .mk h int_at fun w _ => by simp [eqGuard, binOp, Op.intBits, bandNot]
      · exact .mk h bool_at fun w _ => by simp [eqGuard, binOp, Op.intCmp]
      · exact .mk h bool_at fun w _ => by simp [eqGuard, binOp, Op.intCmp]
      · exact .mk h bool_at fun w _ => by simp [eqGuard, binOp, Op.intCmp]
      · exact .mk h bool_at fun w _ => by simp [eqGuard, binOp, Op.intCmp]
      · exact .mk h bool_at fun w _ => by simp [eqGuard, binOp, Op.intCmp]
      · exact .mk h bool_at fun w _ => by simp [eqGuard, binOp, Op.intCmp]
      · cases h

/-! ### Truths, texts, pointers -/

def xbool (P : Program) (b : BinOp) (t : TypeId) (x y : Bool) (K : AV → Option R) : Option R :=
  match P.underlying t with
  | some .bool => match b with
    | .eql => K (avB (x == y))
    | .neq => K (avB (!(x == y)))
    | _ => none
  | _ => none

def xstr (b : BinOp) (x y : List UInt8) (K : AV → Option R) : Option R :=
  match b with
  | .eql => K (avB (x == y))
  | .neq => K (avB (!(x == y)))
  | .lss => K (avB (Op.bytesLess x y))
  | .leq => K (avB (Op.bytesLess x y || x == y))
  | .gtr => K (avB (!(Op.bytesLess x y || x == y)))
  | .geq => K (avB (!(Op.bytesLess x y)))
  | .add => Option.bind (room 1 (x.length + y.length)) fun _ => K (avS (x ++ y))
  | _ => none

/-- Is a pointer nil? none: that is not known. -/
def Leaf.isNil : Leaf → Option Bool
  | .nilp => some true
  | .ptr .. | .pta .. | .elr .. | .eld .. | .npt .. | .nel .. => some false
  | .dat .nd x => some (Option.isNone (α := Nat) x)
  | .dat (.pt t) x => some (Option.isNone (α := t.den) x)
  | _ => none
/-- Are two leaves both nil, where one of them is nil itself? -/
def nilEq : Leaf → Leaf → Bool → Bool → Option Bool
  | .nilp, _, _, c => some c
  | _, .nilp, a, _ => some a
  | _, _, _, _ => none

def xnil (P : Program) (b : BinOp) (t : TypeId) (x y : Leaf) (K : AV → Option R) : Option R :=
  match x.isNil, y.isNil, P.underlying t with
  | some a, some c, some (.pointer _) => match nilEq x y a c with
    | some q => match b with
      | .eql => K (avB q)
      | .neq => K (avB (!q))
      | _ => none
    | none => none
  | _, _, _ => none

theorem xbool_look {b : BinOp} {t : TypeId} {xo yo : Operand} {x y : Bool} {K : AV → Option R} {r : R} (h : xbool P b t x y K = some r) :
    Look P X Z ρ z n (do eqGuard b t xo yo (.bool x) (.bool y); binOp b t (.bool x) (.bool y)) K r := by
  unfold xbool at h
  split at h
  · rename_i ht
    have he : ∀ w, (Op.equal t (.bool x) (.bool y)).run P w = .ok (x == y) w := fun w => by
      unfold Op.equal Op.maxDepth Op.equalIn
      simp [run_underlying ht]
    split at h
    · exact .mk h bool_at fun w _ => by simp [eqGuard, binOp, he]
    · exact .mk h bool_at fun w _ => by simp [eqGuard, binOp, he]
    · cases h
  · cases h

theorem xstr_look {b : BinOp} {t : TypeId} {xo yo : Operand} {x y : List UInt8} {K : AV → Option R} {r : R} (h : xstr b x y K = some r) :
    Look P X Z ρ z n (do eqGuard b t xo yo (.string ⟨x.toArray⟩) (.string ⟨y.toArray⟩); binOp b t (.string ⟨x.toArray⟩) (.string ⟨y.toArray⟩)) K r := by
  unfold xstr at h
  split at h
  · exact .mk h bool_at fun w _ => by simp [eqGuard, binOp, Op.stringOp, ByteArray.toList_mk]
  · exact .mk h bool_at fun w _ => by simp [eqGuard, binOp, Op.stringOp, ByteArray.toList_mk]
  · exact .mk h bool_at fun w _ => by simp [eqGuard, binOp, Op.stringOp, ByteArray.toList_mk]
  · exact .mk h bool_at fun w _ => by simp [eqGuard, binOp, Op.stringOp, ByteArray.toList_mk]
  · exact .mk h bool_at fun w _ => by simp [eqGuard, binOp, Op.stringOp, ByteArray.toList_mk]
  · exact .mk h bool_at fun w _ => by simp [eqGuard, binOp, Op.stringOp, ByteArray.toList_mk]
  · obtain ⟨u, h1, h2⟩ := bind_ex h
    have hr := (room_some h1).2
    have hm : (x.length : Int) + (y.length : Int) ≤ 9223372036854775807 := by unfold maxLen at hr; omega
    have ha : (ByteArray.mk x.toArray) ++ (ByteArray.mk y.toArray) = ByteArray.mk (x ++ y).toArray := by
      apply ByteArray.ext
      rw [ByteArray.data_append]
      simp
    exact .mk h2 str_at fun w _ => by simp [eqGuard, binOp, Op.stringOp, ByteArray.size, hm, ha]
  · cases h

theorem isNil_at {l : Leaf} {v : Value} {q : Bool} (h : l.isNil = some q) (ha : l.at ρ z n [v]) : ∃ p : Option Addr, v = .pointer p ∧ p.isNone = q := by
  unfold Leaf.isNil at h
  split at h
  · injection h with h; subst h
    injection (show [v] = _ from ha) with e; exact ⟨_, e, rfl⟩
  · injection h with h; subst h
    obtain ⟨_, b, _, e⟩ := ha; injection e with e; exact ⟨_, e, rfl⟩
  · injection h with h; subst h
    obtain ⟨_, _, b, _, e⟩ := ha; injection e with e; exact ⟨_, e, rfl⟩
  · injection h with h; subst h
    obtain ⟨_, _, b, _, e⟩ := ha; injection e with e; exact ⟨_, e, rfl⟩
  · injection h with h; subst h
    obtain ⟨_, _, _, _, e⟩ := ha; injection e with e; exact ⟨_, e, rfl⟩
  · injection h with h; subst h
    obtain ⟨_, e⟩ := ha; injection e with e; exact ⟨_, e, rfl⟩
  · injection h with h; subst h
    obtain ⟨_, _, _, _, e⟩ := ha; injection e with e; exact ⟨_, e, rfl⟩
  · rename_i x
    injection h with h; subst h
    obtain ⟨p, e, hp⟩ := ha
    injection e with e
    refine ⟨p, e, ?_⟩
    cases x with
    | none => rw [show p = none from hp]; rfl
    | some i => obtain ⟨_, rfl⟩ := (show i < z.nn ∧ p = _ from hp); rfl
  · rename_i t x
    injection h with h; subst h
    obtain ⟨p, e, hp⟩ := ha
    injection e with e
    refine ⟨p, e, ?_⟩
    rcases hp with ⟨hx, rfl⟩ | ⟨y, a, c, hx, rfl, _⟩
    · rw [show x = none from hx]; rfl
    · rw [show x = some y from hx]; rfl
  · cases h
theorem nilEq_or {x y : Leaf} {a c q : Bool} (h : nilEq x y a c = some q) (ha : x.isNil = some a) (hc : y.isNil = some c) : (a || c) = true ∧ q = (a && c) := by
  unfold nilEq at h
  split at h
  · injection ha with ha; subst ha; injection h with h; subst h; simp
  · injection hc with hc; subst hc; injection h with h; subst h; simp
  · cases h

theorem run_eq_nil {t E : TypeId} {a c : Option Addr} (ht : P.underlying t = some (.pointer E)) (h : (a.isNone || c.isNone) = true) (w : World) : (Op.equal t (.pointer a) (.pointer c)).run P w = .ok (a.isNone && c.isNone) w := by
  unfold Op.equal Op.maxDepth Op.equalIn
  cases a <;> cases c <;> simp_all [run_underlying ht]

theorem xnil_look {b : BinOp} {t : TypeId} {xo yo : Operand} {x y : Leaf} {vx vy : Value} {K : AV → Option R} {r : R} (h : xnil P b t x y K = some r) (hx : x.at ρ z n [vx]) (hy : y.at ρ z n [vy]) :
    Look P X Z ρ z n (do eqGuard b t xo yo vx vy; binOp b t vx vy) K r := by
  unfold xnil at h
  split at h
  · rename_i a c E ha hc ht
    obtain ⟨pa, rfl, rfl⟩ := isNil_at ha hx
    obtain ⟨pc, rfl, rfl⟩ := isNil_at hc hy
    split at h
    · rename_i q hno
      obtain ⟨hac, rfl⟩ := nilEq_or hno ha hc
      split at h
      · exact .mk h bool_at fun w _ => by simp [eqGuard_at_pointer, binOp, run_eq_nil ht hac]
      · exact .mk h bool_at fun w _ => by simp [eqGuard_at_pointer, binOp, run_eq_nil ht hac]
      · cases h
    · cases h
  · cases h
end
end Go.Lift

/- What stands behind an address; parts of values; kinds of the program's types. -/
namespace Go.Lift
open Go
set_option linter.unusedVariables false

def aggD : TypeDesc → Bool
  | .struct _ | .array _ _ => true
  | _ => false

/-- How many cells a type takes, and whether its values are structs or arrays. -/
def tinfo (P : Program) (t : TypeId) : Option (Nat × Bool) :=
  match P.info? t, P.underlying t with
  | some i, some d => some (i.size, aggD d)
  | _, _ => none

def cellsN (a : Bool) (s : Nat) : Nat := match a with | true => s | false => 1
/-- A value and its cells. -/
def Vof (a : Bool) (cs : List Value) (v : Value) : Prop := match a with | true => v = .agg cs.toArray | false => cs = [v]

theorem Vof.uniq {a : Bool} {cs : List Value} {u v : Value} (h : Vof a cs u) (h' : Vof a cs v) : u = v := by
  cases a with
  | true => exact (show u = _ from h).trans (show v = _ from h').symm
  | false =>
    have h6 : cs = [u] := h
    have h7 : cs = [v] := h'
    rw [h6] at h7; injection h7

section
variable {P : Program} {w : World}
theorem tinfo_spec {t : TypeId} {s : Nat} {a : Bool} (h : tinfo P t = some (s, a)) : (∃ i, P.info? t = some i ∧ i.size = s) ∧ ∀ w, (isAgg t).run P w = .ok a w := by
  unfold tinfo at h
  split at h
  · rename_i i d hi hu; injection h with h; injection h with h1 h2; subst h1; subst h2
    exact ⟨⟨i, hi, rfl⟩, fun w => by cases d <;> simp [isAgg, run_underlying hu, aggD]⟩
  · cases h

theorem run_loadVar_cells {t : TypeId} {s : Nat} {a : Bool} (h : tinfo P t = some (s, a)) (ad : Addr) (cs : List Value) (hl : cs.length = cellsN a s)
    (hc : ∀ j u, cs[j]? = some u → w.cell? (ad.add j) = some u) : ∃ v, (loadVar t ad).run P w = .ok v w ∧ Vof a cs v := by
  obtain ⟨⟨i, hi, hs⟩, ha⟩ := tinfo_spec h
  unfold loadVar
  simp only [Sem.run_bind, ha w, Result.andThen_ok]
  cases a with
  | true =>
    have hr := run_loadCells_list (P := P) (w := w) ad cs hc
    have hl : cs.length = s := hl
    exact ⟨.agg cs.toArray, by simp [sizeOf, typeInfo, hi, hs, ← hl, hr], rfl⟩
  | false =>
    match cs, hl with
    | [u], _ =>
      have := hc 0 u rfl
      rw [addr_add0] at this
      exact ⟨u, by simp [this], rfl⟩
end

/-! ### Behind an address -/

/-- The number of the arena. -/
def arNum : List Pc → Nat
  | [] => 0
  | .ar .. :: _ => 0
  | _ :: ps => arNum ps + 1
/-- The number i of the nodes, and what it has. -/
def ndX {α β : Type} (d : α) (xs : List (α × List β)) (i : Nat) : α := match xs[i]? with
  | some x => x.1
  | none => d
def ndR {α β : Type} (xs : List (α × List β)) (i : Nat) : List β := match xs[i]? with
  | some x => x.2
  | none => []

def behind (mem : List Pc) (m : Nat) : Leaf → Option (List Leaf)
  | .ptr h off => match mem[h]? with
    | some (.box ls) => cutL ls off m
    | _ => none
  | .pta h off te k i => match mem[h]? with
    | some (.box ls) => match cutL ls off (k * te.sz) with
      | some [.dat (.arr k' u) x] => Ty.as Ty.den (.arr k' u) (.arr k te) x fun x => match Nat.beq m te.sz with
        | true => some (unL te (x.1.getD i te.zero))
        | false => none
      | _ => none
    | _ => none
  | .elr h i off => match mem[h]? with
    | some (.row te xs) => cutL (unL te (xs.getD i te.zero)) off m
    | _ => none
  | .eld te x off => cutL (unL te x) off m
  | .rwa h k => match mem[h]? with
    | some (.row te xs) => match Nat.beq m (k * te.sz) with
      | true => some [.dat (.arr k te) (Arr.tk k te.zero xs)]
      | false => none
    | _ => none
  | .npt i off => match mem[arNum mem]? with
    | some (.ar T U xs) => cutL (unL T (ndX T.zero xs i) ++ [.nrw i]) off m
    | _ => none
  | .nel s i j off => match mem[arNum mem]? with
    | some (.ar T U xs) => match Nat.beq s U.sz with
      | true => cutL (unL U ((ndR xs i).getD j U.zero)) off m
      | false => none
    | _ => none
  | _ => none

section
variable {P : Program} {ρ : Nat → HI} {z : Zn} {n : Nat} {X : List Atom} {Z : Nat → Prop} {mem : List Pc}

theorem zone_cell {w : World} (h : (zA Z z).at w) {a : Addr} {u : Value} (hc : cellAt z.hp a = some u) : w.cell? a = some u := by
  have h : cut Z (look w) = z.hp := h
  rw [← h] at hc
  exact (cellAt_cut hc).2
theorem Fx.inZ {w : World} (h : Fx X Z z w) {a : Addr} {cs : List Value} (hc : InZ z a cs) : ∀ j u, cs[j]? = some u → w.cell? (a.add j) = some u := fun j u hj => zone_cell h.1 (hc j u hj)

theorem MemAt.get (hm : MemAt ρ z n mem X) {h : Nat} {p : Pc} (hp : mem[h]? = some p) : ∃ A, X[h]? = some A ∧ p.is ρ z n h A := by
  have hl := (List.getElem?_eq_some_iff.1 hp).1
  have hl' : h < X.length := hm.1 ▸ hl
  exact ⟨X[h], List.getElem?_eq_getElem hl', hm.2 h p _ hp (List.getElem?_eq_getElem hl')⟩

theorem box_cells {w : World} {b : Nat} {cs : List Value} (h : (boxA b cs).at w) : ∀ j u, cs[j]? = some u → w.cell? ⟨b, j, none⟩ = some u := by
  obtain ⟨t, ht⟩ := h
  have := (cut_some ht).2
  intro j u hj
  rw [cell_of_row w b j _ t (0, 0) this]
  simpa using hj

theorem addr_lit (b off j : Nat) : (⟨b, off, none⟩ : Addr).add j = ⟨b, off + j, none⟩ := Addr.add_lit ..

theorem el_cells {t : Ty} {p : t.den → List Value → Prop} {xs : List t.den} {ch : List (Chunk t.sz)} (he : Els p xs ch) {i : Nat} (hi : i < xs.length) :
    ∃ c : Chunk t.sz, p (xs.getD i t.zero) c.1 ∧ ∀ j u, c.1[j]? = some u → (flat t.enc ch)[i * t.sz + j]? = some u := by
  obtain ⟨c, h1, h2⟩ := he.get (List.getElem?_eq_getElem hi)
  refine ⟨c, by simpa [List.getD, List.getElem?_eq_getElem hi] using h2, fun j u hj => ?_⟩
  have hic : i < ch.length := (List.getElem?_eq_some_iff.1 h1).1
  have hj' : j < t.sz := by rw [← c.2.1]; exact (List.getElem?_eq_some_iff.1 hj).1
  have := flat_get (e := t.enc) ch i j hic hj'
  rw [(List.getElem?_eq_some_iff.1 h1).2] at this
  exact this.trans hj

theorem drop_take_get {cs : List Value} {off m j : Nat} {u : Value} (h : ((cs.drop off).take m)[j]? = some u) : cs[off + j]? = some u := by
  rw [List.getElem?_take] at h
  split at h
  · rw [List.getElem?_drop] at h; exact h
  · cases h

/-- A node of the arena, and what is known of it. -/
theorem ar_get {T U : Ty} {xs : List (T.den × List U.den)} {cs : List (List Value × List (Chunk U.sz))} (h : ArOk z T U xs cs) {i : Nat} (hi : i < z.nn) :
    ∃ c, cs[i]? = some c ∧ T.holds z (ndX T.zero xs i) c.1 ∧ Els (t := U) (fun y d => U.holds z y d) (ndR xs i) c.2 ∧ (z.tb i).len = (ndR xs i).length := by
  have hx : i < xs.length := by rw [← h.nn]; exact hi
  have hc : i < cs.length := by rw [h.len]; exact hx
  refine ⟨cs[i], List.getElem?_eq_getElem hc, ?_⟩
  have := h.ok i xs[i] cs[i] (List.getElem?_eq_getElem hx) (List.getElem?_eq_getElem hc)
  unfold ndX ndR
  rw [List.getElem?_eq_getElem hx]
  exact this

theorem behind_at (hm : MemAt ρ z n mem X) {m : Nat} {lf : Leaf} {v : Value} {out : List Leaf} (h : behind mem m lf = some out) (hv : lf.at ρ z n [v]) :
    ∃ a cs, v = .pointer (some a) ∧ Lvs ρ z n out cs ∧ cs.length = m ∧ ∀ w, Fx X Z z w → ∀ j u, cs[j]? = some u → w.cell? (a.add j) = some u := by
  unfold behind at h
  split at h
  · rename_i hh off
    split at h
    · rename_i ls hp
      obtain ⟨A, hA, b, cs, h1, h2, rfl⟩ := hm.get hp
      obtain ⟨_, b', h3, e⟩ := hv
      rw [h1] at h3; injection h3 with h3; injection h3 with h3
      subst h3; injection e with e
      obtain ⟨h4, h5⟩ := cutL_at _ _ _ _ _ h h2
      refine ⟨_, _, e, h4, by simp; omega, fun w hw j u hj => ?_⟩
      rw [addr_lit]
      exact box_cells (hw.2 _ (List.mem_of_getElem? hA)) _ u (drop_take_get hj)
    · cases h
  · rename_i hh off te k i
    split at h
    · rename_i ls hp
      obtain ⟨A, hA, b, cs, h1, h2, rfl⟩ := hm.get hp
      obtain ⟨_, hik, b', h3, e⟩ := hv
      rw [h1] at h3; injection h3 with h3; injection h3 with h3
      subst h3; injection e with e
      split at h
      · rename_i k' u x hc
        obtain ⟨h4, h5⟩ := cutL_at _ _ _ _ _ hc h2
        obtain ⟨eq, h'⟩ := Ty.as_some h
        clear h
        cases eq
        split at h'
        · rename_i hb
          have hb := Nat.eq_of_beq_eq_true hb
          subst hb
          have h : some (unL te (x.1.getD i te.zero)) = some out := h'
          injection h with h; subst h
          obtain ⟨ch, he, hcs⟩ := Lvs.of_one h4
          obtain ⟨c, h6, h7⟩ := el_cells he (i := i) (by rw [x.2]; exact hik)
          refine ⟨_, c.1, e, unL_at _ _ _ h6, c.2.1, fun w hw j u hj => ?_⟩
          rw [addr_lit, Nat.add_assoc]
          refine box_cells (hw.2 _ (List.mem_of_getElem? hA)) _ u (drop_take_get (m := k * te.sz) ?_)
          rw [hcs]
          exact h7 j u hj
        · cases h'
      · cases h
    · cases h
  · rename_i hh i off
    split at h
    · rename_i te xs hp
      obtain ⟨A, hA, hc, ch, he, rfl⟩ := hm.get hp
      obtain ⟨_, hik, a, h3, e⟩ := hv
      injection e with e
      have hik : i < xs.length := by rw [hc.2] at hik; exact hik
      obtain ⟨c, h6, h7⟩ := el_cells he hik
      obtain ⟨h4, h5⟩ := cutL_at _ _ _ _ _ h (unL_at _ _ _ h6)
      refine ⟨_, _, e, h4, by simp; omega, fun w hw j u hj => ?_⟩
      rcases SlR.of_row (hw.2 _ (List.mem_of_getElem? hA)) with ⟨h8, _⟩ | ⟨a', h8, h9⟩
      · rw [h3] at h8; cases h8
      · rw [h3] at h8; injection h8 with h8; subst h8
        rw [add_add, add_add]
        refine h9 _ u ?_
        have := h7 _ u (drop_take_get hj)
        rw [hc.1]
        exact this
    · cases h
  · rename_i te x off
    obtain ⟨p, c, h1, h2, e⟩ := hv
    injection e with e
    obtain ⟨h4, h5⟩ := cutL_at _ _ _ _ _ h (unL_at _ _ _ h1)
    refine ⟨_, _, e, h4, by simp; omega, fun w hw j u hj => ?_⟩
    rw [add_add]
    exact hw.inZ h2 _ u (drop_take_get hj)
  · rename_i hh k
    split at h
    · rename_i te xs hp
      split at h
      · rename_i hb
        have hb := Nat.eq_of_beq_eq_true hb
        subst hb
        injection h with h; subst h
        obtain ⟨A, hA, hc, ch, he, rfl⟩ := hm.get hp
        obtain ⟨_, hkl, a, h3, e⟩ := hv
        injection e with e
        rw [hc.2] at hkl
        have hkc : k ≤ ch.length := by rw [← he.1]; exact hkl
        have hh : (Ty.arr k te).holds z (Arr.tk k te.zero xs) (flat te.enc (ch.take k)) := ⟨ch.take k, by rw [Arr.tk_val _ hkl]; exact he.take k, rfl⟩
        refine ⟨a, flat te.enc (ch.take k), e, ⟨_, [], (List.append_nil _).symm, hh, rfl⟩, by rw [flat_len, List.length_take, Nat.min_eq_left hkc]; rfl, fun w hw j u hj => ?_⟩
        rcases SlR.of_row (hw.2 _ (List.mem_of_getElem? hA)) with ⟨h8, _⟩ | ⟨a', h8, h9⟩
        · rw [h3] at h8; cases h8
        · rw [h3] at h8; injection h8 with h8; subst h8
          refine h9 _ u ?_
          rw [flat_take, List.getElem?_take] at hj
          split at hj
          · exact hj
          · cases hj
      · cases h
    · cases h
  · rename_i i off
    split at h
    · rename_i T U xs hp
      obtain ⟨A, hA, cs, hok, rfl⟩ := hm.get hp
      obtain ⟨hi, e⟩ := hv
      injection e with e
      obtain ⟨c, hc, h1, h2, h3⟩ := ar_get hok hi
      have hl : Lvs ρ z n (unL T (ndX T.zero xs i) ++ [.nrw i]) (c.1 ++ [.slice (z.tb i).A (z.tb i).len (z.tb i).cap]) := (unL_at _ _ _ h1).append (Lvs.one ⟨hi, rfl⟩)
      obtain ⟨h4, h5⟩ := cutL_at _ _ _ _ _ h hl
      refine ⟨_, _, e, h4, by simp only [List.length_take, List.length_drop]; omega, fun w hw j u hj => ?_⟩
      rw [addr_lit]
      exact box_cells (arA_at.1 (hw.2 _ (List.mem_of_getElem? hA)) i c hc).1 _ u (drop_take_get hj)
    · cases h
  · rename_i s i j off
    split at h
    · rename_i T U xs hp
      split at h
      · rename_i hs
        have hs := Nat.eq_of_beq_eq_true hs
        subst hs
        obtain ⟨A, hA, cs, hok, rfl⟩ := hm.get hp
        obtain ⟨hi, hj, a, h3, e⟩ := hv
        injection e with e
        obtain ⟨c, hc, h1, h2, hlen⟩ := ar_get hok hi
        rw [hlen] at hj
        obtain ⟨d, h6, h7⟩ := el_cells h2 hj
        obtain ⟨h4, h5⟩ := cutL_at _ _ _ _ _ h (unL_at _ _ _ h6)
        refine ⟨_, _, e, h4, by simp only [List.length_take, List.length_drop]; omega, fun w hw k u hk => ?_⟩
        rcases SlR.of_row (arA_at.1 (hw.2 _ (List.mem_of_getElem? hA)) i c hc).2 with ⟨h8, _⟩ | ⟨a', h8, h9⟩
        · rw [h3] at h8; cases h8
        · rw [h3] at h8; injection h8 with h8; subst h8
          rw [add_add, add_add]
          exact h9 _ u (h7 _ u (drop_take_get hk))
      · cases h
    · cases h
  · cases h
end

section
variable {R : Type} {P : Program} {ρ : Nat → HI} {z : Zn} {n : Nat} {X : List Atom} {Z : Nat → Prop} {mem : List Pc}

def xload (P : Program) (mem : List Pc) (t : TypeId) (lf : Leaf) (K : AV → Option R) : Option R :=
  match tinfo P t with
  | some (s, a) => match behind mem (cellsN a s) lf with
    | some out => K (.vl a out)
    | none => none
  | none => none

theorem xload_look (hm : MemAt ρ z n mem X) {t : TypeId} {lf : Leaf} {v : Value} {K : AV → Option R} {r : R} (h : xload P mem t lf K = some r) (hv : lf.at ρ z n [v]) :
    ∃ av u, K av = some r ∧ av.at ρ z n u ∧ ∀ w, Fx X Z z w → (Instr.loadAt t v).run P w = .ok u w := by
  unfold xload at h
  split at h
  · rename_i s a ht
    split at h
    · rename_i out hb
      obtain ⟨ad, cs, rfl, h1, h2, h3⟩ := behind_at (Z := Z) hm hb hv
      have hval : ∃ u, Vof a cs u := by
        cases a with
        | true => exact ⟨_, rfl⟩
        | false =>
          match cs, h2 with
          | [u], _ => exact ⟨u, rfl⟩
      obtain ⟨u, hu⟩ := hval
      refine ⟨_, u, h, ⟨cs, h1, hu⟩, fun w hw => ?_⟩
      obtain ⟨u', h4, h5⟩ := run_loadVar_cells (P := P) (w := w) ht ad cs h2 (h3 w hw)
      have := h5.uniq hu
      subst this
      simp [Instr.loadAt, Instr.sureAddr, h4]
    · cases h
  · cases h

/-! ### Addresses of parts -/

def foff (P : Program) (s : TypeId) (f : Nat) : Option Nat :=
  match P.underlying s with
  | some (.struct fields) => match fields[f]? with
    | some fd => match P.info? fd.type with
      | some i => match Nat.beq i.size 0 with
        | false => some fd.offset
        | true => none
      | none => none
    | none => none
  | _ => none

def Leaf.shift (o : Nat) : Leaf → Option Leaf
  | .ptr h off => some (.ptr h (off + o))
  | .elr h i off => some (.elr h i (off + o))
  | .eld t x off => some (.eld t x (off + o))
  | .npt i off => some (.npt i (off + o))
  | .nel s i j off => some (.nel s i j (off + o))
  | _ => none

theorem shift_at {lf l' : Leaf} {o : Nat} {v : Value} (h : lf.shift o = some l') (hv : lf.at ρ z n [v]) : ∃ a, v = .pointer (some a) ∧ l'.at ρ z n [.pointer (some (a.add o))] := by
  unfold Leaf.shift at h
  split at h
  · injection h with h; subst h
    obtain ⟨h1, b, h2, e⟩ := hv; injection e with e
    exact ⟨_, e, h1, b, h2, by rw [addr_lit]⟩
  · injection h with h; subst h
    obtain ⟨h1, h2, a, h3, e⟩ := hv; injection e with e
    exact ⟨_, e, h1, h2, a, h3, by simp only [add_add, Nat.add_assoc]⟩
  · injection h with h; subst h
    obtain ⟨p, c, h1, h2, e⟩ := hv; injection e with e
    exact ⟨_, e, p, c, h1, h2, by rw [add_add]⟩
  · injection h with h; subst h
    obtain ⟨h1, e⟩ := hv; injection e with e
    exact ⟨_, e, h1, by rw [addr_lit]⟩
  · injection h with h; subst h
    obtain ⟨h1, h2, a, h3, e⟩ := hv; injection e with e
    exact ⟨_, e, h1, h2, a, h3, by simp only [add_add, Nat.add_assoc]⟩
  · cases h

def xfa (P : Program) (s : TypeId) (lf : Leaf) (f : Nat) (K : AV → Option R) : Option R :=
  match foff P s f with
  | some o => match lf.shift o with
    | some l' => K (.vl false [l'])
    | none => none
  | none => none

theorem xfa_look {s : TypeId} {lf : Leaf} {f : Nat} {v : Value} {K : AV → Option R} {r : R} (h : xfa P s lf f K = some r) (hv : lf.at ρ z n [v]) :
    Look P X Z ρ z n (Instr.fieldAt s v f) K r := by
  unfold xfa at h
  split at h
  · rename_i o ho
    split at h
    · rename_i l' hl
      obtain ⟨a, rfl, h1⟩ := shift_at hl hv
      refine .mk h (Cmp.one h1) fun w _ => ?_
      unfold foff at ho
      split at ho
      · rename_i fields hu
        split at ho
        · rename_i fd hf
          split at ho
          · rename_i i hi
            split at ho
            · rename_i hb
              injection ho with ho; subst ho
              have hne : i.size ≠ 0 := fun e => by rw [e] at hb; cases hb
              simp [Instr.fieldAt, run_underlying hu, hf, Instr.sureAddr, fieldPlace, sizeOf, typeInfo, hi, hne]
            · cases ho
          · cases ho
        · cases ho
      · cases ho
    · cases h
  · cases h

/-- Are there so many? -/
def lenAt (m n : Nat) : Option Unit := if m ≤ n then some () else none
theorem lenAt_some {m n : Nat} {u : Unit} (h : lenAt m n = some u) : m ≤ n := by
  unfold lenAt at h
  split at h
  · assumption
  · cases h

/-- Is a place inside? -/
def inb (m : Nat) (i : Int) : Option Unit := if 0 ≤ i ∧ i < m then some () else none
theorem inb_some {m : Nat} {i : Int} {u : Unit} (h : inb m i = some u) : 0 ≤ i ∧ i < m := by
  unfold inb at h
  split at h
  · assumption
  · cases h

def szB (P : Program) (E : TypeId) (s : Nat) : Bool := match P.info? E with
  | some i => Nat.beq i.size s
  | none => false
theorem szB_spec {E : TypeId} {s : Nat} (h : szB P E s = true) : ∃ i, P.info? E = some i ∧ i.size = s := by
  unfold szB at h
  split at h
  · exact ⟨_, by assumption, Nat.eq_of_beq_eq_true h⟩
  · cases h

def xia (P : Program) (mem : List Pc) (t : TypeId) (lf : Leaf) (i : Int) (K : AV → Option R) : Option R :=
  match P.underlying t with
  | some (.slice E) => match lf with
    | .dat (.slc te) xs => match szB P E te.sz with
      | true => Option.bind (ix xs i) fun y => K (.vl false [.eld te y 0])
      | false => none
    | .row h => match mem[h]? with
      | some (.row te xs) => match szB P E te.sz with
        | true => Option.bind (inb xs.length i) fun _ => K (.vl false [.elr h i.toNat 0])
        | false => none
      | _ => none
    | .bsl h m => match szB P E 1 with
      | true => Option.bind (inb m i) fun _ => K (.vl false [.ptr h i.toNat])
      | false => none
    | .nrw q => match mem[arNum mem]? with
      | some (.ar T U xs) => match szB P E U.sz with
        | true => Option.bind (inb (List.length (ndR xs q)) i) fun _ => K (.vl false [.nel U.sz q i.toNat 0])
        | false => none
      | _ => none
    | _ => none
  | some (.array m E) => match lf with
    | .ptr h off => match mem[h]? with
      | some (.box ls) => match P.info? E with
        | some inf => match cutL ls off (m * inf.size) with
          | some [.dat (.arr k te) x] => match Nat.beq k m && Nat.beq inf.size te.sz with
            | true => Option.bind (inb m i) fun _ => K (.vl false [.pta h off te m i.toNat])
            | false => none
          | some _ => Option.bind (inb m i) fun _ => K (.vl false [.ptr h (off + i.toNat * inf.size)])
          | none => none
        | none => none
      | _ => none
    | _ => none
  | _ => none

theorem run_indexAt_slice {t E : TypeId} {s : Nat} (hu : P.underlying t = some (.slice E)) (hs : szB P E s = true) (a : Addr) (len cap : Nat) (k : IntKind) (i : Int) (h0 : 0 ≤ i) (h1 : i < len) (w : World) :
    (Instr.indexAt t (.slice (some a) len cap) (.int k i)).run P w = .ok (.pointer (some (a.add (i.toNat * s)))) w := by
  obtain ⟨inf, hi, rfl⟩ := szB_spec hs
  have hin : 0 ≤ i ∧ i < (len : Int) := ⟨h0, h1⟩
  simp [Instr.indexAt, asIntOf, run_underlying hu, hin, sizeOf, typeInfo, hi]

theorem run_indexAt_array {t E : TypeId} {m : Nat} {inf : TypeInfo} (hu : P.underlying t = some (.array m E)) (hi : P.info? E = some inf) (a : Addr) (k : IntKind) (i : Int) (h0 : 0 ≤ i) (h1 : i < m) (w : World) :
    (Instr.indexAt t (.pointer (some a)) (.int k i)).run P w = .ok (.pointer (some (a.add (i.toNat * inf.size)))) w := by
  have hin : 0 ≤ i ∧ i < (m : Int) := ⟨h0, h1⟩
  simp [Instr.indexAt, asIntOf, run_underlying hu, Instr.sureAddr, hin, sizeOf, typeInfo, hi]

theorem xia_look (hm : MemAt ρ z n mem X) (hrow : ∀ (h : Nat) (te : Ty) (xs : List te.den), mem[h]? = some (.row te xs) → 0 < xs.length → (ρ h).A = none → False)
    (har : ∀ (h : Nat) (T U : Ty) (xs : List (T.den × List U.den)), mem[h]? = some (.ar T U xs) → ∀ i, i < z.nn → 0 < (z.tb i).len → (z.tb i).A = none → False) {t : TypeId} {lf : Leaf} {k : IntKind} {i : Int} {v : Value} {K : AV → Option R} {r : R} (h : xia P mem t lf i K = some r) (hv : lf.at ρ z n [v]) :
    Look P X Z ρ z n (Instr.indexAt t v (.int k i)) K r := by
  unfold xia at h
  split at h
  · rename_i E hu
    split at h
    · rename_i te xs
      split at h
      · rename_i hs
        obtain ⟨y, h1, h2⟩ := bind_ex h
        obtain ⟨h3, h4, h5⟩ := ix_some h1
        obtain ⟨A, cap, ch, e, hle, he, ha⟩ := hv
        injection e with e; subst e
        obtain ⟨c, h6, h7⟩ := he.get h5
        rcases ha with ⟨_, rfl⟩ | ⟨a, rfl, hz⟩
        · simp at h6
        · refine .mk h2 (Cmp.one ⟨a.add (i.toNat * te.sz), c.1, h7, ?_, rfl⟩) fun w _ => ?_
          · intro j u hj
            rw [add_add]
            refine hz _ u ?_
            have hic : i.toNat < ch.length := (List.getElem?_eq_some_iff.1 h6).1
            have hj' : j < te.sz := by rw [← c.2.1]; exact (List.getElem?_eq_some_iff.1 hj).1
            have := flat_get (e := te.enc) ch _ j hic hj'
            rw [(List.getElem?_eq_some_iff.1 h6).2] at this
            exact this.trans hj
          · rw [run_indexAt_slice hu hs a _ cap k i h3 (by simpa using h4) w, addr_add0]
      · cases h
    · rename_i hh
      split at h
      · rename_i te xs hp
        split at h
        · rename_i hs
          obtain ⟨y, h1, h2⟩ := bind_ex h
          obtain ⟨h3, h4⟩ := inb_some h1
          obtain ⟨A, hA, hc, ch, he, rfl⟩ := hm.get hp
          obtain ⟨h5, e⟩ := hv
          injection e with e; subst e
          have hlt : i.toNat < (ρ hh).len := by rw [hc.2]; omega
          cases hAA : (ρ hh).A with
          | none => exact (hrow _ _ _ hp (by omega) hAA).elim
          | some a =>
            refine .mk h2 (Cmp.one ⟨h5, hlt, a, hAA, rfl⟩) fun w _ => ?_
            have := run_indexAt_slice hu hs a (ρ hh).len (ρ hh).cap k i h3 (by omega) w
            rw [this, addr_add0, hc.1]
        · cases h
      · cases h
    · rename_i hh m
      split at h
      · rename_i hs
        obtain ⟨y, h1, h2⟩ := bind_ex h
        obtain ⟨h3, h4⟩ := inb_some h1
        obtain ⟨h5, b, h6, e⟩ := hv
        injection e with e; subst e
        refine .mk h2 (Cmp.one ⟨h5, b, h6, rfl⟩) fun w _ => ?_
        rw [run_indexAt_slice hu hs _ m m k i h3 h4 w, addr_lit, Nat.zero_add, Nat.mul_one]
      · cases h
    · rename_i q
      split at h
      · rename_i T U xs hp
        split at h
        · rename_i hs
          obtain ⟨y, h1, h2⟩ := bind_ex h
          obtain ⟨h3, h4⟩ := inb_some h1
          obtain ⟨A, hA, cs, hok, rfl⟩ := hm.get hp
          obtain ⟨hq, e⟩ := hv
          injection e with e; subst e
          obtain ⟨c, hc, _, _, hlen⟩ := ar_get hok hq
          have hlt : i.toNat < (z.tb q).len := by rw [hlen]; omega
          cases hAA : (z.tb q).A with
          | none => exact (har _ _ _ _ hp q hq (by omega) hAA).elim
          | some a =>
            refine .mk h2 (Cmp.one ⟨hq, hlt, a, hAA, rfl⟩) fun w _ => ?_
            have := run_indexAt_slice hu hs a (z.tb q).len (z.tb q).cap k i h3 (by omega) w
            rw [this, addr_add0]
        · cases h
      · cases h
    · cases h
  · rename_i m E hu
    split at h
    · rename_i hh off
      split at h
      · rename_i ls hp
        split at h
        · rename_i inf hi
          split at h
          · rename_i k' te x hc
            split at h
            · rename_i hb
              simp only [Bool.and_eq_true] at hb
              have hb1 := Nat.eq_of_beq_eq_true hb.1
              have hb2 := Nat.eq_of_beq_eq_true hb.2
              obtain ⟨y, h1, h2⟩ := bind_ex h
              obtain ⟨h3, h4⟩ := inb_some h1
              obtain ⟨h5, b, h6, e⟩ := hv
              injection e with e; subst e
              refine .mk h2 (Cmp.one ⟨h5, by omega, b, h6, rfl⟩) fun w _ => ?_
              rw [run_indexAt_array hu hi _ k i h3 h4 w, addr_lit, hb2]
            · cases h
          · obtain ⟨y, h1, h2⟩ := bind_ex h
            obtain ⟨h3, h4⟩ := inb_some h1
            obtain ⟨h5, b, h6, e⟩ := hv
            injection e with e; subst e
            refine .mk h2 (Cmp.one ⟨h5, b, h6, rfl⟩) fun w _ => ?_
            rw [run_indexAt_array hu hi _ k i h3 h4 w, addr_lit]
          · cases h
        · cases h
      · cases h
    · cases h
  · cases h

/-- The first elements of a slice, as an array. -/
def xs2a (P : Program) (mem : List Pc) (arr : TypeId) (lf : Leaf) (K : AV → Option R) : Option R :=
  match P.underlying arr with
  | some (.array m E) => match lf with
    | .dat (.slc te) xs => match szB P E te.sz && Nat.ble 1 m with
      | true => Option.bind (lenAt m (List.length xs)) fun _ => K (.vl false [.eld (.arr m te) (Arr.tk m te.zero xs) 0])
      | false => none
    | .row h => match mem[h]? with
      | some (.row te xs) => match szB P E te.sz && Nat.ble 1 m with
        | true => Option.bind (lenAt m xs.length) fun _ => K (.vl false [.rwa h m])
        | false => none
      | _ => none
    | _ => none
  | _ => none

theorem xs2a_look (hm : MemAt ρ z n mem X) (hrow : ∀ (h : Nat) (te : Ty) (xs : List te.den), mem[h]? = some (.row te xs) → 0 < xs.length → (ρ h).A = none → False) {arr : TypeId} {lf : Leaf} {v : Value} {K : AV → Option R} {r : R} (h : xs2a P mem arr lf K = some r) (hv : lf.at ρ z n [v]) :
    Look P X Z ρ z n (Instr.arrayAt arr v) K r := by
  unfold xs2a at h
  split at h
  · rename_i m E hu
    split at h
    · rename_i te xs
      split at h
      · rename_i hb
        simp only [Bool.and_eq_true] at hb
        have h1m := Nat.le_of_ble_eq_true hb.2
        obtain ⟨y, h1, h2⟩ := bind_ex h
        have hle := lenAt_some h1
        obtain ⟨A, cap, ch, e, hle', he, ha⟩ := hv
        injection e with e; subst e
        rcases ha with ⟨_, rfl⟩ | ⟨a, rfl, hz⟩
        · have := he.1; simp at this; omega
        · have hkc : m ≤ ch.length := by rw [← he.1]; exact hle
          refine .mk h2 (Cmp.one ⟨a, flat te.enc (ch.take m), ⟨ch.take m, by rw [Arr.tk_val _ hle]; exact he.take m, rfl⟩, fun j u hj => ?_, by rw [addr_add0]⟩) fun w _ => ?_
          · refine hz j u ?_
            rw [flat_take, List.getElem?_take] at hj
            split at hj
            · exact hj
            · cases hj
          · have hlt : ¬ List.length xs < m := by omega
            simp [Instr.arrayAt, run_underlying hu, hlt]
      · cases h
    · rename_i hh
      split at h
      · rename_i te xs hp
        split at h
        · rename_i hb
          simp only [Bool.and_eq_true] at hb
          have h1m := Nat.le_of_ble_eq_true hb.2
          obtain ⟨y, h1, h2⟩ := bind_ex h
          have hle := lenAt_some h1
          obtain ⟨A, hA, hc, ch, he, rfl⟩ := hm.get hp
          obtain ⟨h5, e⟩ := hv
          injection e with e; subst e
          cases hAA : (ρ hh).A with
          | none => exact (hrow _ _ _ hp (by omega) hAA).elim
          | some a =>
            refine .mk h2 (Cmp.one ⟨h5, by rw [hc.2]; exact hle, a, hAA, rfl⟩) fun w _ => ?_
            have hlt : ¬ (ρ hh).len < m := by rw [hc.2]; omega
            simp [Instr.arrayAt, run_underlying hu, hlt]
        · cases h
      · cases h
    · cases h
  · cases h
end
end Go.Lift

/- The other operations that only look; all of them under one name. -/
namespace Go.Lift
open Go
set_option linter.unusedVariables false

section
variable {R : Type} {P : Program} {ρ : Nat → HI} {z : Zn} {n : Nat} {X : List Atom} {Z : Nat → Prop} {mem : List Pc}

theorem run_part {w : World} {t : TypeId} {s : Nat} {a : Bool} (ht : tinfo P t = some (s, a)) {cs : List Value} {off : Nat} (hl : off + cellsN a s ≤ cs.length) :
    ∃ v, (part t cs.toArray off).run P w = .ok v w ∧ Vof a ((cs.drop off).take (cellsN a s)) v := by
  obtain ⟨⟨i, hi, hs⟩, ha⟩ := tinfo_spec ht
  unfold part
  simp only [Sem.run_bind, ha w, Result.andThen_ok]
  cases a with
  | true =>
    refine ⟨.agg (cs.toArray.extract off (off + s)), by simp [sizeOf, typeInfo, hi, hs], ?_⟩
    show _ = _
    congr 1
    apply Array.toList_inj.1
    simp [cellsN]
  | false =>
    have hlt : off < cs.length := by simp only [cellsN] at hl; omega
    refine ⟨cs[off], by simp [hlt], ?_⟩
    show List.take 1 (List.drop off cs) = [cs[off]]
    rw [List.drop_eq_getElem_cons hlt]
    rfl

theorem cut_cmp {w : World} {t : TypeId} {s : Nat} {a : Bool} (ht : tinfo P t = some (s, a)) {ls out : List Leaf} {cs : List Value} {off : Nat} (hc : cutL ls off (cellsN a s) = some out) (hl : Lvs ρ z n ls cs) :
    ∃ v, (AV.vl a out).at ρ z n v ∧ ∀ w, (part t cs.toArray off).run P w = .ok v w := by
  obtain ⟨h1, h2⟩ := cutL_at _ _ _ _ _ hc hl
  obtain ⟨v, h3, h4⟩ := run_part (P := P) (w := w) ht h2
  refine ⟨v, ⟨_, h1, h4⟩, fun w' => ?_⟩
  obtain ⟨v', h5, h6⟩ := run_part (P := P) (w := w') ht h2
  rw [h5, h6.uniq h4]

def xfield (P : Program) (s : TypeId) (ls : List Leaf) (f : Nat) (K : AV → Option R) : Option R :=
  match P.underlying s with
  | some (.struct fields) => match fields[f]? with
    | some fd => match tinfo P fd.type with
      | some (m, a) => match cutL ls fd.offset (cellsN a m) with
        | some out => K (.vl a out)
        | none => none
      | none => none
    | none => none
  | _ => none

theorem xfield_look {s : TypeId} {ls : List Leaf} {f : Nat} {cs : List Value} {K : AV → Option R} {r : R} (h : xfield P s ls f K = some r) (hl : Lvs ρ z n ls cs) :
    Look P X Z ρ z n (Instr.field s (.agg cs.toArray) f) K r := by
  unfold xfield at h
  split at h
  · rename_i fields hu
    split at h
    · rename_i fd hf
      split at h
      · rename_i m a ht
        split at h
        · rename_i out hc
          obtain ⟨v, h1, h2⟩ := cut_cmp (w := default) ht hc hl
          exact .mk h h1 fun w _ => by simp [Instr.field, run_underlying hu, hf, asAgg, h2]
        · cases h
      · cases h
    · cases h
  · cases h

def xindex (P : Program) (t : TypeId) (x : AV) (i : Int) (K : AV → Option R) : Option R :=
  match P.underlying t with
  | some (.array m E) => match x.asAgg, tinfo P E with
    | some ls, some (s, a) => match ls with
      | [.dat (.arr k te) xs] => match Nat.beq k m && (Nat.beq s te.sz && (a == te.agg)) with
        | true => Option.bind (inb m i) fun _ => K (AV.of te (xs.1.getD i.toNat te.zero))
        | false => none
      | ls => Option.bind (inb m i) fun _ => match cutL ls (i.toNat * s) (cellsN a s) with
        | some out => K (.vl a out)
        | none => none
    | _, _ => none
  | some .string => match x.asStr with
    | some s => Option.bind (ix s i) fun b => K (avI .u8 b.toNat)
    | none => none
  | _ => none

theorem holds_arr {m : Nat} {t : Ty} {x : (Ty.arr m t).den} {cs : List Value} (h : (Ty.arr m t).holds z x cs) : ∃ ch : List (Chunk t.sz), Els (t.holds z) x.1 ch ∧ cs = flat t.enc ch := h

theorem xindex_look {t : TypeId} {x : AV} {v : Value} {k : IntKind} {i : Int} {K : AV → Option R} {r : R} (h : xindex P t x i K = some r) (hx : x.at ρ z n v) :
    Look P X Z ρ z n (Instr.index t v (.int k i)) K r := by
  unfold xindex at h
  split at h
  · rename_i m E hu
    split at h
    · rename_i ls s a ha ht
      obtain ⟨cs, hl, rfl⟩ := asAgg_at ha hx
      split at h
      · rename_i k' te xs
        split at h
        · rename_i hb
          simp only [Bool.and_eq_true, beq_iff_eq] at hb
          have hb1 := Nat.eq_of_beq_eq_true hb.1
          have hb2 := Nat.eq_of_beq_eq_true hb.2.1
          have hb3 := hb.2.2
          obtain ⟨u, h1, h2⟩ := bind_ex h
          obtain ⟨h3, h4⟩ := inb_some h1
          obtain ⟨ch, he, rfl⟩ := holds_arr (Lvs.of_one hl)
          have hlt : i.toNat < xs.1.length := by rw [xs.2]; omega
          obtain ⟨c, h6, h7⟩ := el_cells he hlt
          have hchl : ch.length = m := by rw [← he.1, xs.2, hb1]
          have hle : i.toNat * te.sz + te.sz ≤ (flat te.enc ch).length := by
            rw [flat_len, ← Nat.succ_mul]; exact Nat.mul_le_mul_right _ (by omega)
          have hcell : ((flat te.enc ch).drop (i.toNat * te.sz)).take te.sz = c.1 := by
            apply List.ext_getElem?
            intro j
            rw [List.getElem?_take]
            by_cases hj : j < te.sz
            · have hjc : j < c.1.length := by rw [c.2.1]; exact hj
              rw [if_pos hj, List.getElem?_drop, h7 j c.1[j] (List.getElem?_eq_getElem hjc)]
              exact (List.getElem?_eq_getElem hjc).symm
            · rw [if_neg hj, List.getElem?_eq_none (by rw [c.2.1]; omega)]
          have hN : cellsN a s = te.sz := by
            rw [hb3]
            cases hag : te.agg with
            | true => exact hb2
            | false => exact (te.one hag).symm
          obtain ⟨v, h8, h9⟩ := run_part (P := P) (w := default) ht (cs := flat te.enc ch) (off := i.toNat * te.sz) (by rw [hN]; exact hle)
          rw [hN, hcell] at h9
          refine .mk h2 (v := v) ⟨c.1, unL_at _ _ _ h6, ?_⟩ fun w _ => ?_
          · rw [← hb3]; exact h9
          · obtain ⟨v', h10, h11⟩ := run_part (P := P) (w := w) ht (cs := flat te.enc ch) (off := i.toNat * te.sz) (by rw [hN]; exact hle)
            rw [hN, hcell] at h11
            have hin : 0 ≤ i ∧ i < (m : Int) := ⟨h3, h4⟩
            obtain ⟨⟨inf, hi, hs⟩, _⟩ := tinfo_spec ht
            simp [Instr.index, asIntOf, run_underlying hu, hin, sizeOf, typeInfo, hi, hs, hb2, h10, h11.uniq h9]
        · cases h
      · obtain ⟨u, h1, h2⟩ := bind_ex h
        obtain ⟨h3, h4⟩ := inb_some h1
        split at h2
        · rename_i out hc
          obtain ⟨v, h5, h6⟩ := cut_cmp (w := default) ht hc hl
          refine .mk h2 h5 fun w _ => ?_
          have hin : 0 ≤ i ∧ i < (m : Int) := ⟨h3, h4⟩
          obtain ⟨⟨inf, hi, hs⟩, _⟩ := tinfo_spec ht
          simp [Instr.index, asIntOf, run_underlying hu, hin, sizeOf, typeInfo, hi, hs, h6]
        · cases h2
    · cases h
  · rename_i hu
    split at h
    · rename_i s hs
      obtain ⟨b, h1, h2⟩ := bind_ex h
      obtain ⟨h3, h4, h5⟩ := ix_some h1
      have := asStr_at hs hx
      subst this
      refine .mk h2 int_at fun w _ => ?_
      have hlt : i.toNat < s.length := (List.getElem?_eq_some_iff.1 h5).1
      have hg : (ByteArray.mk s.toArray)[i.toNat]? = some b := by
        rw [getElem?_pos (ByteArray.mk s.toArray) i.toNat (by simpa [ByteArray.size] using hlt)]
        have := (List.getElem?_eq_some_iff.1 h5).2
        congr 1
      simp [Instr.index, asIntOf, run_underlying hu, h3, hg]
    · cases h
  · cases h

/-! ### Slices -/

def subn (m : Nat) (lo hi : Int) : Option Unit := if 0 ≤ lo ∧ lo ≤ hi ∧ hi ≤ m then some () else none
theorem subn_some {m : Nat} {lo hi : Int} {u : Unit} (h : subn m lo hi = some u) : 0 ≤ lo ∧ lo ≤ hi ∧ hi ≤ m := by
  unfold subn at h
  split at h
  · assumption
  · cases h

/-- A bound that is told, or the one that is meant. -/
def bnd (x : Option AV) (d : Int) : Option Int := match x with
  | none => some d
  | some av => match av.asInt with
    | some (_, i) => some i
    | none => none

def BndAt (ρ : Nat → HI) (z : Zn) (n : Nat) (x : Option AV) (v : Option Value) : Prop := match x, v with
  | none, none => True
  | some av, some u => av.at ρ z n u
  | _, _ => False

theorem bnd_at {x : Option AV} {v : Option Value} {d i : Int} (h : bnd x d = some i) (hv : BndAt ρ z n x v) : (v = none ∧ i = d) ∨ ∃ k, v = some (.int k i) := by
  unfold bnd at h
  split at h
  · injection h with h
    cases v with
    | none => exact .inl ⟨rfl, h.symm⟩
    | some u => exact hv.elim
  · cases v with
    | none => exact hv.elim
    | some u =>
      split at h
      · rename_i k j hj; injection h with h; subst h
        exact .inr ⟨k, by rw [asInt_at hj hv]⟩
      · cases h

theorem run_bounds {lo hi : Option Value} {a b : Int} {m c : Nat} (hlo : (lo = none ∧ a = 0) ∨ ∃ k, lo = some (.int k a)) (hhi : (hi = none ∧ b = m) ∨ ∃ k, hi = some (.int k b)) (h0 : 0 ≤ a) (h1 : a ≤ b) (h2 : b ≤ m) (hc : m ≤ c) (isSlice : Bool) (w : World) :
    (Instr.sliceBounds isSlice m c lo hi none).run P w = .ok (a.toNat, b.toNat, c) w := by
  have bd : ∀ (k : IntKind) (i : Int) (y : Nat) (code : BoundsCode), 0 ≤ i → i ≤ y → (Instr.sliceBound (.int k i) y code).run P w = .ok i.toNat w := fun k i y code h h' => run_sliceBound (P := P) (w := w) k i y code h h'
  have hbc : b ≤ (c : Int) := by omega
  have hab : a ≤ (b.toNat : Int) := by omega
  rcases hlo with ⟨rfl, rfl⟩ | ⟨lk, rfl⟩ <;> rcases hhi with ⟨rfl, rfl⟩ | ⟨hk, rfl⟩
  · simp [Instr.sliceBounds]
  · simp [Instr.sliceBounds, bd _ _ _ _ (show 0 ≤ b by omega) hbc]
  · simp [Instr.sliceBounds, bd _ _ _ _ h0 h1]
  · simp [Instr.sliceBounds, bd _ _ _ _ (show 0 ≤ b by omega) hbc, bd _ _ _ _ h0 hab]

def xslice (P : Program) (mem : List Pc) (t : TypeId) (x : AV) (lo hi : Option AV) (K : AV → Option R) : Option R :=
  match P.underlying t with
  | some (.slice E) => match x.asLeaf with
    | some (.dat (.slc te) xs) => match szB P E te.sz, bnd lo 0, bnd hi (List.length xs : Int) with
      | true, some a, some b => Option.bind (sub xs a b) fun ys => K (.vl false [.dat (.slc te) ys])
      | _, _, _ => none
    | some (.row h) => match mem[h]? with
      | some (.row te xs) => match szB P E te.sz, bnd lo 0, bnd hi (List.length xs : Int) with
        | true, some a, some b => Option.bind (subn xs.length a b) fun _ => K (.vl false [.part h a.toNat b.toNat])
        | _, _, _ => none
      | _ => none
    | some (.part h p q) => match mem[h]? with
      | some (.row te _) => match szB P E te.sz, bnd lo 0, bnd hi ((q - p : Nat) : Int) with
        | true, some a, some b => Option.bind (subn (q - p) a b) fun _ => K (.vl false [.part h (p + a.toNat) (p + b.toNat)])
        | _, _, _ => none
      | _ => none
    | some .nils => match P.info? E, bnd lo 0, bnd hi (0 : Int) with
      | some _, some a, some b => Option.bind (subn 0 a b) fun _ => K (.vl false [.nils])
      | _, _, _ => none
    | _ => none
  | some .string => match x.asStr with
    | some s => match bnd lo 0, bnd hi (s.length : Int) with
      | some a, some b => Option.bind (sub s a b) fun t => K (avS t)
      | _, _ => none
    | none => none
  | some (.array m E) => match x.asLeaf with
    | some (.ptr h off) => match mem[h]? with
      | some (.box ls) => match cutL ls off (m * 1) with
        | some [.dat (.arr k te) _] => match Nat.beq k m && szB P E te.sz && Nat.beq te.sz 1, bnd lo 0, bnd hi (m : Int) with
          | true, some a, some b => Option.bind (subn m a b) fun _ => K (.vl false [.bpart h off te m a.toNat b.toNat])
          | _, _, _ => none
        | _ => none
      | _ => none
    | _ => none
  | _ => none

theorem sub_len {β : Type} (xs : List β) {a b : Int} (h0 : 0 ≤ a) (h1 : a ≤ b) (h2 : b ≤ xs.length) : ((xs.take b.toNat).drop a.toNat).length = b.toNat - a.toNat := by
  rw [List.length_drop, List.length_take]; omega

theorem cut_holds {te : Ty} {xs : List te.den} {v : Value} {a b : Nat} (hab : a ≤ b) (hb : b ≤ xs.length) {A : Option Addr} {cap : Nat} {ch : List (Chunk te.sz)} (hle : xs.length ≤ cap) (he : Els (te.holds z) xs ch)
    (ha : (A = none ∧ ch = []) ∨ ∃ ad, A = some ad ∧ InZ z ad (flat te.enc ch)) : (Ty.slc te).holds z ((xs.take b).drop a) [.slice (cutAddr A cap a te.sz) ((xs.take b).drop a).length (cap - a)] := by
  refine ⟨_, _, (ch.take b).drop a, rfl, by simp; omega, (he.take b).drop a, ?_⟩
  rcases ha with ⟨rfl, rfl⟩ | ⟨ad, rfl, hz⟩
  · exact .inl ⟨by unfold cutAddr; split <;> rfl, by simp⟩
  · by_cases hca : cap = a
    · have : (ch.take b).drop a = [] := List.drop_of_length_le (by simp; rw [← he.1]; omega)
      rw [this]
      refine .inr ⟨ad, by unfold cutAddr; rw [if_pos hca], fun j u hj => ?_⟩
      simp [flat] at hj
    · refine .inr ⟨ad.add (a * te.sz), by unfold cutAddr; rw [if_neg hca]; rfl, fun j u hj => ?_⟩
      rw [add_add]
      exact hz _ u (flat_part (e := te.enc) ch a b j u hj)

theorem cutAt_holds {te : Ty} {xs : List te.den} {a b : Nat} (hab : a ≤ b) (hb : b ≤ xs.length) {A p : Option Addr} {cap : Nat} {ch : List (Chunk te.sz)} (hle : xs.length ≤ cap) (he : Els (te.holds z) xs ch)
    (ha : (A = none ∧ ch = []) ∨ ∃ ad, A = some ad ∧ InZ z ad (flat te.enc ch)) (hp : CutAt A cap a te.sz p) : (Ty.slc te).holds z ((xs.take b).drop a) [.slice p ((xs.take b).drop a).length (cap - a)] := by
  rcases hp with rfl | ⟨rfl, k, hk, rfl⟩
  · exact cut_holds (v := undef) hab hb hle he ha
  · have hx : (xs.take b).drop a = [] := List.drop_of_length_le (by simp; omega)
    rw [hx]
    refine ⟨_, _, [], rfl, Nat.zero_le _, Els.nil, ?_⟩
    rcases ha with ⟨rfl, _⟩ | ⟨ad, rfl, _⟩
    · exact .inl ⟨rfl, rfl⟩
    · exact .inr ⟨_, rfl, fun j u hj => by simp [flat] at hj⟩

theorem run_slice_slice {t E : TypeId} {s : Nat} (hu : P.underlying t = some (.slice E)) (hs : szB P E s = true) {lo hi : Option Value} {a b : Int} {m c : Nat} (A : Option Addr)
    (hlo : (lo = none ∧ a = 0) ∨ ∃ k, lo = some (.int k a)) (hhi : (hi = none ∧ b = m) ∨ ∃ k, hi = some (.int k b)) (h0 : 0 ≤ a) (h1 : a ≤ b) (h2 : b ≤ m) (hc : m ≤ c) (w : World) :
    (Instr.sliceAt t (.slice A m c) lo hi none).run P w = .ok (.slice (cutAddr A c a.toNat s) (b.toNat - a.toNat) (c - a.toNat)) w := by
  obtain ⟨inf, hi', rfl⟩ := szB_spec hs
  have hb := run_bounds (P := P) hlo hhi h0 h1 h2 hc true w
  have hz : (sizeOf E).run P w = .ok inf.size w := by simp [sizeOf, typeInfo, hi']
  unfold Instr.sliceAt
  simp only [Sem.run_bind, run_underlying hu, Result.andThen_ok]
  unfold Instr.slice
  simp only [Sem.run_bind, run_underlying hu, Result.andThen_ok, hb]
  simp only [hz, Sem.run_pure, Result.andThen_ok]
  rfl

theorem xslice_look (hm : MemAt ρ z n mem X) (hcap : ∀ (h : Nat) (te : Ty) (xs : List te.den), mem[h]? = some (.row te xs) → xs.length ≤ (ρ h).cap) {t : TypeId} {x : AV} {v : Value} {lo hi : Option AV} {vlo vhi : Option Value} {K : AV → Option R} {r : R}
    (h : xslice P mem t x lo hi K = some r) (hx : x.at ρ z n v) (hlo : BndAt ρ z n lo vlo) (hhi : BndAt ρ z n hi vhi) : Look P X Z ρ z n (Instr.sliceAt t v vlo vhi none) K r := by
  unfold xslice at h
  split at h
  · rename_i E hu
    split at h
    · rename_i te xs hlf
      split at h
      · rename_i a b hs ha hb
        obtain ⟨ys, h1, h2⟩ := bind_ex h
        obtain ⟨h3, h4, h5, rfl⟩ := sub_some h1
        obtain ⟨A, cap, ch, e, hle, he, hA⟩ := asLeaf_at hlf hx
        injection e with e; subst e
        have hc := cut_holds (v := undef) (a := a.toNat) (b := b.toNat) (by omega) (by omega) hle he hA
        refine .mk h2 (Cmp.one hc) fun w _ => ?_
        exact (run_slice_slice hu hs A (bnd_at ha hlo) (bnd_at hb hhi) h3 h4 h5 hle w).trans (congrArg (fun q => Result.ok (Value.slice _ q _) w) (sub_len (β := te.den) xs h3 h4 h5).symm)
      · cases h
    · rename_i hh hlf
      split at h
      · rename_i te xs hp
        split at h
        · rename_i a b hs ha hb
          obtain ⟨u, h1, h2⟩ := bind_ex h
          obtain ⟨h3, h4, h5⟩ := subn_some h1
          obtain ⟨A, hA, hc, ch, he, rfl⟩ := hm.get hp
          obtain ⟨h6, e⟩ := asLeaf_at hlf hx
          injection e with e; subst e
          have hl : (ρ hh).len = xs.length := hc.2
          refine .mk h2 (Cmp.one ⟨h6, by omega, by omega, _, .inl rfl, rfl⟩) fun w _ => ?_
          rw [run_slice_slice hu hs _ (bnd_at ha hlo) (by rw [hl]; exact bnd_at hb hhi) h3 h4 (by rw [hl]; exact h5) (by rw [hl]; exact hcap _ _ _ hp) w, hc.1]
        · cases h
      · cases h
    · rename_i hh p q hlf
      split at h
      · rename_i te xs hp
        split at h
        · rename_i a b hs ha hb
          obtain ⟨u, h1, h2⟩ := bind_ex h
          obtain ⟨h3, h4, h5⟩ := subn_some h1
          obtain ⟨A, hA, hc, ch, he, rfl⟩ := hm.get hp
          obtain ⟨h6, h7, h8, pp, h9, e⟩ := asLeaf_at hlf hx
          injection e with e; subst e
          have hl : (ρ hh).len = xs.length := hc.2
          have hcp := hcap _ _ _ hp
          rw [hc.1] at h9
          refine .mk h2 (Cmp.one ⟨h6, by omega, by omega, _, by rw [hc.1]; exact h9.cut (d := a.toNat) (by omega) (by omega), rfl⟩) fun w _ => ?_
          rw [run_slice_slice hu hs _ (bnd_at ha hlo) (bnd_at hb hhi) h3 h4 h5 (by omega) w, show p + b.toNat - (p + a.toNat) = b.toNat - a.toNat by omega, show (ρ hh).cap - (p + a.toNat) = (ρ hh).cap - p - a.toNat by omega]
        · cases h
      · cases h
    · rename_i hlf
      split at h
      · rename_i inf a b hi' ha hb
        obtain ⟨u, h1, h2⟩ := bind_ex h
        obtain ⟨h3, h4, h5⟩ := subn_some h1
        have e := asLeaf_at hlf hx
        injection e with e; subst e
        refine .mk h2 (Cmp.one rfl) fun w _ => ?_
        have hs : szB P E inf.size = true := by unfold szB; rw [hi']; simp
        rw [run_slice_slice hu hs none (m := 0) (c := 0) (bnd_at ha hlo) (bnd_at hb hhi) h3 h4 h5 (Nat.le_refl _) w]
        obtain rfl : a = 0 := by omega
        obtain rfl : b = 0 := by omega
        rfl
      · cases h
    · cases h
  · rename_i hu
    split at h
    · rename_i s hs
      split at h
      · rename_i a b ha hb
        obtain ⟨t', h1, h2⟩ := bind_ex h
        obtain ⟨h3, h4, h5, rfl⟩ := sub_some h1
        have := asStr_at hs hx
        subst this
        have hsz : (ByteArray.mk s.toArray).size = s.length := by simp [ByteArray.size]
        refine .mk h2 str_at fun w _ => ?_
        have hbd := run_bounds (P := P) (m := s.length) (c := s.length) (bnd_at ha hlo) (bnd_at hb hhi) h3 h4 h5 (Nat.le_refl _) false w
        unfold Instr.sliceAt
        simp only [Sem.run_bind, run_underlying hu, Result.andThen_ok]
        unfold Instr.slice
        simp only [Sem.run_bind, run_underlying hu, Result.andThen_ok, hsz, hbd, Option.isSome_none, Bool.false_eq_true, if_false, Sem.run_pure]
        congr 2
        apply ByteArray.ext
        simp only [ByteArray.data_extract]
        apply Array.toList_inj.1
        simp [List.extract_eq_take_drop, List.drop_take]
      · cases h
    · cases h
  · rename_i m E hu
    split at h
    · rename_i hh off hlf
      split at h
      · rename_i ls hp
        split at h
        · rename_i k te x' hc
          split at h
          · rename_i a b hbb ha hb
            simp only [Bool.and_eq_true] at hbb
            obtain ⟨u, h1, h2⟩ := bind_ex h
            obtain ⟨h3, h4, h5⟩ := subn_some h1
            obtain ⟨h6, bl, h7, e⟩ := asLeaf_at hlf hx
            injection e with e; subst e
            obtain ⟨inf, hi', hs⟩ := szB_spec hbb.1.2
            refine .mk h2 (Cmp.one ⟨h6, by omega, by omega, bl, h7, rfl⟩) fun w _ => ?_
            have hbd := run_bounds (P := P) (m := m) (c := m) (bnd_at ha hlo) (bnd_at hb hhi) h3 h4 h5 (Nat.le_refl _) false w
            have hz : (sizeOf E).run P w = .ok te.sz w := by simp [sizeOf, typeInfo, hi', hs]
            unfold Instr.sliceAt
            simp only [Sem.run_bind, run_underlying hu, Result.andThen_ok, Instr.sureAddr, hbd, Sem.run_pure, hz, addr_lit]
          · cases h
        · cases h
      · cases h
    · cases h
  · cases h

/-! ### Lengths -/

def xlen (P : Program) (mem : List Pc) (t : TypeId) (x : AV) (K : AV → Option R) : Option R :=
  match P.underlying t with
  | some (.slice _) => match x.asLeaf with
    | some (.dat (.slc _) xs) => K (avI .i64 (List.length xs : Int))
    | some (.row h) => match mem[h]? with
      | some (.row _ xs) => K (avI .i64 (xs.length : Int))
      | _ => none
    | some (.part _ a b) => K (avI .i64 ((b - a : Nat) : Int))
    | some .nils => K (avI .i64 0)
    | some (.bpart _ _ _ _ a b) => K (avI .i64 ((b - a : Nat) : Int))
    | some (.bsl _ m) => K (avI .i64 (m : Int))
    | some (.nrw q) => match mem[arNum mem]? with
      | some (.ar T U xs) => K (avI .i64 (List.length (ndR xs q) : Int))
      | _ => none
    | _ => none
  | some .string => match x.asStr with
    | some s => K (avI .i64 (s.length : Int))
    | none => none
  | some (.array m _) => K (avI .i64 m)
  | some (.map _ _) => match x.asLeaf with
    | some (.mpl h) => match mem[h]? with
      | some (.mp _ _ xs) => K (avI .i64 (xs.length : Int))
      | _ => none
    | some .nilm => K (avI .i64 0)
    | _ => none
  | _ => none

theorem xlen_look (hm : MemAt ρ z n mem X) {t : TypeId} {ts : Array TypeId} {ty : TypeId} {x : AV} {v : Value} {K : AV → Option R} {r : R} (h : xlen P mem t x K = some r) (hx : x.at ρ z n v) :
    Look P X Z ρ z n (Builtin.len_ #[t] ty #[v]) K r := by
  unfold xlen at h
  split at h
  · rename_i E hu
    split at h
    · rename_i te xs hlf
      obtain ⟨A, cap, ch, e, _⟩ := asLeaf_at hlf hx
      injection e with e; subst e
      exact .mk h int_at fun w _ => by simp [Builtin.len_, run_underlying hu, goInt]
    · rename_i hh hlf
      split at h
      · rename_i te xs hp
        obtain ⟨A, hA, hc, _⟩ := hm.get hp
        obtain ⟨_, e⟩ := asLeaf_at hlf hx
        injection e with e; subst e
        refine .mk h int_at fun w _ => ?_
        have hl : (ρ hh).len = xs.length := hc.2
        simp [Builtin.len_, run_underlying hu, goInt, hl]
      · cases h
    · rename_i hh a b hlf
      obtain ⟨_, _, _, _, _, e⟩ := asLeaf_at hlf hx
      injection e with e; subst e
      exact .mk h int_at fun w _ => by simp [Builtin.len_, run_underlying hu, goInt]
    · rename_i hlf
      have e : [v] = _ := asLeaf_at hlf hx
      injection e with e; subst e
      exact .mk h int_at fun w _ => by simp [Builtin.len_, run_underlying hu, goInt]
    · rename_i hlf
      obtain ⟨_, _, _, _, _, e⟩ := asLeaf_at hlf hx
      injection e with e; subst e
      exact .mk h int_at fun w _ => by simp [Builtin.len_, run_underlying hu, goInt]
    · rename_i hlf
      obtain ⟨_, _, _, e⟩ := asLeaf_at hlf hx
      injection e with e; subst e
      exact .mk h int_at fun w _ => by simp [Builtin.len_, run_underlying hu, goInt]
    · rename_i q hlf
      split at h
      · rename_i T U xs hp
        obtain ⟨A, hA, cs, hok, _⟩ := hm.get hp
        obtain ⟨hq, e⟩ := asLeaf_at hlf hx
        injection e with e; subst e
        obtain ⟨c, hc, _, _, hlen⟩ := ar_get hok hq
        refine .mk h int_at fun w _ => ?_
        simp [Builtin.len_, run_underlying hu, goInt, hlen]
      · cases h
    · cases h
  · rename_i hu
    split at h
    · rename_i s hs
      have := asStr_at hs hx
      subst this
      have hsz : (ByteArray.mk s.toArray).size = s.length := by simp [ByteArray.size]
      exact .mk h int_at fun w _ => by simp [Builtin.len_, run_underlying hu, goInt, hsz]
    · cases h
  · rename_i m E hu
    exact .mk h int_at fun w _ => by simp [Builtin.len_, run_underlying hu, goInt]
  · rename_i kT eT hu
    split at h
    · rename_i hh hlf
      split at h
      · rename_i k' v' xs hp
        obtain ⟨A, hA, b, kvs, e1, e2, rfl⟩ := hm.get hp
        obtain ⟨_, b', e3, e⟩ := asLeaf_at hlf hx
        rw [e1] at e3; injection e3 with e3; injection e3 with e3; subst e3
        injection e with e; subst e
        refine .mk h int_at fun w hw => ?_
        obtain ⟨es, clock, h1, h2⟩ := map_heap (hw.2 _ (List.mem_of_getElem? hA))
        have hsz : es.size = xs.length := by
          have := congrArg List.length h2
          rw [e2.len, List.length_map, Array.length_toList] at this
          exact this
        simp [Builtin.len_, run_underlying hu, goInt, getObj, Sem.run, h1, hsz]
      · cases h
    · rename_i hlf
      have e := asLeaf_at hlf hx
      injection e with e; subst e
      exact .mk h int_at fun w _ => by simp [Builtin.len_, run_underlying hu, goInt]
    · cases h
  · cases h
end
end Go.Lift

/- Structs and arrays put together; zero values; equality; and all operations that only look, under one name. -/
namespace Go.Lift
open Go
set_option linter.unusedVariables false

/-! ### Zero values -/

/-- Is a type that of nodes: a struct with a row of structs that point to such nodes? -/
def nodeB (P : Program) (e : TypeId) : Bool := match P.underlying e with
  | some (.struct fs) => fs.toList.any fun f => match P.underlying f.type with
    | some (.slice u) => match P.underlying u with
      | some (.struct gs) => gs.toList.any fun g => match P.underlying g.type with
        | some (.pointer e') => Nat.beq e' e
        | _ => false
      | _ => false
    | _ => false
  | _ => false

/-- The kind of data that a type's values are; none: they are none. -/
def tyOf (P : Program) : Nat → TypeId → Option Ty
  | 0, _ => none
  | d + 1, t => match P.underlying t with
    | some (.int k) => some (.int k)
    | some .bool => some .bool
    | some .string => some .str
    | some (.array n e) => (tyOf P d e).map (.arr n)
    | some (.slice e) => (tyOf P d e).map .slc
    | some (.pointer e) => match nodeB P e with
      | true => some .nd
      | false => none
    | some (.struct fs) => fs.toList.foldr (fun f acc => match tyOf P d f.type, acc with
      | some a, some b => some (.pair a b)
      | _, _ => none) (some .unit)
    | _ => none

def zls (P : Program) : Nat → TypeId → Option (List Leaf)
  | 0, _ => none
  | d + 1, t => match P.underlying t with
    | some (.int k) => some [.dat (.int k) (0 : Int)]
    | some .bool => some [.dat .bool false]
    | some .string => some [.dat .str ([] : List UInt8)]
    | some (.pointer e) => match nodeB P e with
      | true => some [.dat .nd (none : Option Nat)]
      | false => some [.nilp]
    | some (.slice _) => some [.nils]
    | some (.func ..) => some [.nilf]
    | some (.map ..) => some [.nilm]
    | some (.array n e) => match tyOf P d e with
      | some te => some [.dat (.arr n te) (Ty.arr n te).zero]
      | none => match zls P d e with
        | some l => some ((List.replicate n l).flatten)
        | none => none
    | some (.struct fs) => fs.toList.foldr (fun f acc => match zls P d f.type, acc with
      | some a, some b => some (a ++ b)
      | _, _ => none) (some [])
    | _ => none

def encL : (t : Ty) → t.den → Option (List Value)
  | .int k, x => some [.int k x]
  | .bool, x => some [.bool x]
  | .str, x => some [.string ⟨List.toArray x⟩]
  | .err, x => match x with
    | false => some [.nilIface]
    | true => none
  | .nd, x => match x with
    | none => some [.pointer none]
    | some _ => none
  | .any, _ => none
  | .rep, x => match Rep.l x with
    | [] => some [.int .i64 (Rep.k x), .string ⟨List.toArray (Rep.t x)⟩, .int .i64 (Rep.n x), .slice none 0 0]
    | _ => none
  | .pt _, x => match x with
    | none => some [.pointer none]
    | some _ => none
  | .unit, _ => some []
  | .pair a b, x => match encL a x.1, encL b x.2 with
    | some c, some d => some (c ++ d)
    | _, _ => none
  | .arr _ t, x => x.1.foldr (fun y acc => match encL t y, acc with
    | some c, some d => some (c ++ d)
    | _, _ => none) (some [])
  | .slc _, x => match x with
    | [] => some [.slice none 0 0]
    | _ => none

def lsEnc : List Leaf → Option (List Value)
  | [] => some []
  | .dat t x :: ls => match encL t x, lsEnc ls with
    | some c, some d => some (c ++ d)
    | _, _ => none
  | .nilp :: ls => (lsEnc ls).map (Value.pointer none :: ·)
  | .nils :: ls => (lsEnc ls).map (Value.slice none 0 0 :: ·)
  | .nilf :: ls => (lsEnc ls).map (Value.nilFunc :: ·)
  | .nilm :: ls => (lsEnc ls).map (Value.map none :: ·)
  | _ => none

def intB (a b : Int) : Bool := decide (a = b)

def vB : Value → Value → Bool
  | .int k x, .int k' y => kindB k k' && intB x y
  | .bool x, .bool y => match x, y with | true, true => true | false, false => true | _, _ => false
  | .string x, .string y => match x.data.toList, y.data.toList with | [], [] => true | _, _ => false
  | .pointer none, .pointer none => true
  | .slice none 0 0, .slice none 0 0 => true
  | .nilFunc, .nilFunc => true
  | .map none, .map none => true
  | _, _ => false

def vsB : List Value → List Value → Bool
  | [], [] => true
  | a :: as, b :: bs => vB a b && vsB as bs
  | _, _ => false

theorem vB_eq : ∀ {a b : Value}, vB a b = true → a = b := by
  intro a b h
  unfold vB at h
  split at h
  · simp only [Bool.and_eq_true, intB, decide_eq_true_eq] at h
    rw [kind_of_beq h.1, h.2]
  · split at h <;> first | rfl | cases h
  · rename_i x y
    split at h
    · rename_i h1 h2
      obtain ⟨x⟩ := x
      obtain ⟨y⟩ := y
      simp only [Array.toList_eq_nil_iff] at h1 h2
      rw [h1, h2]
    · cases h
  · rfl
  · rfl
  · rfl
  · rfl
  · cases h

theorem vsB_eq : ∀ {as bs : List Value}, vsB as bs = true → as = bs
  | [], [], _ => rfl
  | a :: as, b :: bs, h => by
    simp only [vsB, Bool.and_eq_true] at h
    rw [vB_eq h.1, vsB_eq h.2]
  | [], _ :: _, h => by cases h
  | _ :: _, [], h => by cases h

def zeroL (P : Program) (t : TypeId) : Option (List Leaf) :=
  match zls P 8 t, P.info? t with
  | some ls, some i => match i.zero, lsEnc ls with
    | some v, some cs => match vsB cs v.cells.toList with
      | true => some ls
      | false => none
    | _, _ => none
  | _, _ => none

section
variable {P : Program} {ρ : Nat → HI} {z : Zn} {n : Nat}

theorem encL_at : ∀ (t : Ty) (x : t.den) (cs : List Value), encL t x = some cs → t.holds z x cs
  | .int k, x, cs, h => by injection h with h; exact h.symm
  | .bool, x, cs, h => by injection h with h; exact h.symm
  | .str, x, cs, h => by injection h with h; exact h.symm
  | .err, x, cs, h => by
    cases x with
    | false => injection h with h; exact ⟨_, h.symm, rfl⟩
    | true => cases h
  | .nd, x, cs, h => by
    cases x with
    | none => injection h with h; exact ⟨none, h.symm, rfl⟩
    | some _ => cases h
  | .any, x, cs, h => by cases h
  | .rep, x, cs, h => by
    unfold encL at h
    split at h
    · rename_i hl
      injection h with h
      refine (Rep.as_struct x cs).2 ?_
      rw [hl]
      exact ⟨[.int .i64 (Rep.k x)], _, h.symm, rfl, [.string ⟨List.toArray (Rep.t x)⟩], _, rfl, rfl, [.int .i64 (Rep.n x)], _, rfl, rfl, [.slice none 0 0], [], rfl, ⟨none, 0, [], rfl, Nat.le_refl _, Els.nil, .inl ⟨rfl, rfl⟩⟩, rfl⟩
    · cases h
  | .pt t, x, cs, h => by
    cases x with
    | none => injection h with h; exact ⟨none, h.symm, .inl ⟨rfl, rfl⟩⟩
    | some _ => cases h
  | .unit, x, cs, h => by injection h with h; exact h.symm
  | .pair a b, x, cs, h => by
    unfold encL at h
    split at h
    · rename_i c d hc hd; injection h with h
      exact ⟨c, d, h.symm, encL_at a _ _ hc, encL_at b _ _ hd⟩
    · cases h
  | .arr m t, x, cs, h => by
    unfold encL at h
    have key : ∀ (xs : List t.den) (cs : List Value), xs.foldr (fun y acc => match encL t y, acc with | some c, some d => some (c ++ d) | _, _ => none) (some []) = some cs →
        ∃ ch : List (Chunk t.sz), Els (t.holds z) xs ch ∧ cs = flat t.enc ch := by
      intro xs
      induction xs with
      | nil => intro cs h; injection h with h; exact ⟨[], Els.nil, h.symm⟩
      | cons y ys ih =>
        intro cs h
        simp only [List.foldr_cons] at h
        split at h
        · rename_i c d hc hd
          injection h with h
          obtain ⟨ch, h1, rfl⟩ := ih d hd
          have h2 := encL_at t y c hc
          obtain ⟨c', rfl⟩ := Ty.holds_chunk h2
          refine ⟨c' :: ch, ?_, by rw [flat_cons]; exact h.symm⟩
          simpa using (Els.one (p := t.holds z) h2).append h1
        · cases h
    exact key x.1 cs h
  | .slc t, x, cs, h => by
    unfold encL at h
    split at h
    · injection h with h
      exact ⟨none, 0, [], h.symm, Nat.le_refl _, Els.nil, .inl ⟨rfl, rfl⟩⟩
    · cases h

theorem lsEnc_at : ∀ (ls : List Leaf) (cs : List Value), lsEnc ls = some cs → Lvs ρ z n ls cs
  | [], cs, h => by injection h with h; exact h.symm
  | l :: ls, cs, h => by
    unfold lsEnc at h
    split at h
    · rename_i e; cases e
    · rename_i t x ls' e
      injection e with e1 e2; subst e1; subst e2
      split at h
      · rename_i c d hc hd; injection h with h
        exact ⟨c, d, h.symm, encL_at t x c hc, lsEnc_at _ _ hd⟩
      · cases h
    · rename_i ls' e
      injection e with e1 e2; subst e1; subst e2
      obtain ⟨d, hd, rfl⟩ := Option.map_eq_some_iff.1 h
      exact ⟨[_], d, rfl, rfl, lsEnc_at _ _ hd⟩
    · rename_i ls' e
      injection e with e1 e2; subst e1; subst e2
      obtain ⟨d, hd, rfl⟩ := Option.map_eq_some_iff.1 h
      exact ⟨[_], d, rfl, rfl, lsEnc_at _ _ hd⟩
    · rename_i ls' e
      injection e with e1 e2; subst e1; subst e2
      obtain ⟨d, hd, rfl⟩ := Option.map_eq_some_iff.1 h
      exact ⟨[_], d, rfl, rfl, lsEnc_at _ _ hd⟩
    · rename_i ls' e
      injection e with e1 e2; subst e1; subst e2
      obtain ⟨d, hd, rfl⟩ := Option.map_eq_some_iff.1 h
      exact ⟨[_], d, rfl, rfl, lsEnc_at _ _ hd⟩
    · cases h

theorem zeroL_spec {t : TypeId} {ls : List Leaf} (h : zeroL P t = some ls) : ∃ i v cs, P.info? t = some i ∧ i.zero = some v ∧ v.cells = cs.toArray ∧ ∀ ρ z n, Lvs ρ z n ls cs := by
  unfold zeroL at h
  split at h
  · rename_i ls' i h1 h2
    split at h
    · rename_i v cs h3 h4
      split at h
      · rename_i h5
        injection h with h; subst h
        refine ⟨i, v, cs, h2, h3, ?_, fun ρ z n => lsEnc_at _ _ h4⟩
        rw [vsB_eq h5]
      · cases h
    · cases h
  · cases h
end

/-! ### build -/

theorem foldl_set (off : Nat) : ∀ (vs : List Value) (k : Nat) (cs : List Value), off + k + vs.length ≤ cs.length →
    (vs.zipIdx k).foldl (fun (cs : List Value) (p : Value × Nat) => cs.set (off + p.2) p.1) cs = cs.take (off + k) ++ (vs ++ cs.drop (off + k + vs.length))
  | [], k, cs, h => by simp
  | v :: vs, k, cs, h => by
    rw [List.zipIdx_cons, List.foldl_cons, foldl_set off vs (k + 1) _ (by simp at h ⊢; omega)]
    simp only [List.length_cons] at h ⊢
    have hlt : off + k < cs.length := by omega
    rw [← Nat.add_assoc, List.take_set, List.drop_set_of_lt (by omega)]
    rw [show (cs.take (off + k + 1)).set (off + k) v = cs.take (off + k) ++ [v] from by
      rw [List.take_succ_eq_append_getElem hlt, List.set_append_right _ _ (by simp; omega)]
      simp [Nat.min_eq_left (Nat.le_of_lt hlt)]]
    rw [List.append_assoc, show off + k + 1 + vs.length = off + k + (vs.length + 1) from by omega]
    rfl

theorem fill_one {place : Nat → Option (Nat × Nat)} {cs vs : List Value} {i off size : Nat} {v : Value} {rest : List (Nat × Value)} (hp : place i = some (off, size)) (hv : v.cells = vs.toArray) (hl : vs.length = size) (hb : off + size ≤ cs.length) :
    Instr.fill place cs.toArray ((i, v) :: rest) = Instr.fill place (cs.take off ++ (vs ++ cs.drop (off + size))).toArray rest := by
  subst hl
  have h1 : ¬ (v.cells.size ≠ vs.length || off + v.cells.size > cs.toArray.size) = true := by
    rw [hv]
    simp only [List.size_toArray, ne_eq, not_true_eq_false, decide_false, Bool.false_or, decide_eq_true_eq]
    omega
  rw [Instr.fill, hp]
  simp only
  rw [if_neg h1, hv]
  congr 1
  have key : ∀ (l : List (Value × Nat)) (cs : List Value), l.foldl (fun (a : Array Value) (p : Value × Nat) => a.setIfInBounds (off + p.2) p.1) cs.toArray = (l.foldl (fun (a : List Value) (p : Value × Nat) => a.set (off + p.2) p.1) cs).toArray := by
    intro l
    induction l with
    | nil => intro cs; rfl
    | cons p l ih =>
      intro cs
      rw [List.foldl_cons, List.foldl_cons, ← ih]
      congr 1
      simp
  have := foldl_set off vs 0 cs (by omega)
  rw [show vs.toArray.zipIdx = (vs.zipIdx 0).toArray from by simp]
  rw [List.foldl_toArray', key, this]
  · simp
  · simp

def AV.asLs : AV → Option (List Leaf)
  | .vl _ ls => some ls
  | _ => none

def fillL (place : Nat → Option (Nat × Nat)) : List Leaf → List (Nat × AV) → Option (List Leaf)
  | ls, [] => some ls
  | ls, (i, av) :: rest => match place i, av.asLs with
    | some (off, size), some vs => match Nat.beq (szs vs) size with
      | true => match putL ls off size vs with
        | some ls' => fillL place ls' rest
        | none => none
      | false => none
    | _, _ => none

section
variable {R : Type} {P : Program} {ρ : Nat → HI} {z : Zn} {n : Nat} {X : List Atom} {Z : Nat → Prop} {mem : List Pc}

def PartsAt (ρ : Nat → HI) (z : Zn) (n : Nat) : List (Nat × AV) → List (Nat × Value) → Prop
  | [], vs => vs = []
  | p :: ps, vs => ∃ v rest, vs = (p.1, v) :: rest ∧ p.2.at ρ z n v ∧ PartsAt ρ z n ps rest

theorem fillL_at {place : Nat → Option (Nat × Nat)} : ∀ {ls out : List Leaf} {ps : List (Nat × AV)} {vs : List (Nat × Value)} {cs : List Value}, fillL place ls ps = some out → Lvs ρ z n ls cs → PartsAt ρ z n ps vs →
    ∃ cs', Instr.fill place cs.toArray vs = some cs'.toArray ∧ Lvs ρ z n out cs'
  | ls, out, [], vs, cs, h, hl, hp => by
    injection h with h; subst h
    rw [show vs = [] from hp]
    exact ⟨cs, rfl, hl⟩
  | ls, out, (i, av) :: ps, vs, cs, h, hl, ⟨v, rest, e, h1, h2⟩ => by
    subst e
    unfold fillL at h
    split at h
    · rename_i off size us hpl has
      split at h
      · rename_i hb
        split at h
        · rename_i ls' hput
          have hav : ∃ a, av = .vl a us := by
            unfold AV.asLs at has
            split at has
            · injection has with has; subst has; exact ⟨_, rfl⟩
            · cases has
          obtain ⟨a, rfl⟩ := hav
          obtain ⟨ns, h3, h4⟩ := Cmp.cells h1
          obtain ⟨h5, h6⟩ := putL_at _ _ _ _ _ _ _ hput hl h3
          have hlen : ns.length = size := by rw [Lvs.len _ _ h3]; exact Nat.eq_of_beq_eq_true hb
          obtain ⟨cs', h7, h8⟩ := fillL_at h h5 h2
          exact ⟨cs', by rw [fill_one hpl h4 hlen h6]; exact h7, h8⟩
        · cases h
      · cases h
    · cases h

/-- An array's elements, one by one. -/
def spreadL : List Leaf → List Leaf
  | [.dat (.arr _ t) x] => x.1.flatMap (unL t)
  | ls => ls

theorem spread_els {t : Ty} : ∀ {xs : List t.den} {ch : List (Chunk t.sz)}, Els (t.holds z) xs ch → Lvs ρ z n (xs.flatMap (unL t)) (flat t.enc ch)
  | [], ch, he => by rw [List.eq_nil_of_length_eq_zero (l := ch) he.1.symm]; rfl
  | x :: xs, [], he => by cases he.1
  | x :: xs, c :: ch, he => by
    rw [List.flatMap_cons, flat_cons]
    refine Lvs.append (unL_at t x _ (he.2 0 x c rfl rfl)) (spread_els ⟨Nat.succ.inj he.1, fun i y d hy hd => he.2 (i + 1) y d hy hd⟩)

theorem spreadL_at {ls : List Leaf} {cs : List Value} (h : Lvs ρ z n ls cs) : Lvs ρ z n (spreadL ls) cs := by
  unfold spreadL
  split
  · rename_i m t x
    obtain ⟨ch, he, rfl⟩ := holds_arr (Lvs.of_one h)
    exact spread_els he
  · exact h

def xbuild (P : Program) (t : TypeId) (ps : List (Nat × AV)) (K : AV → Option R) : Option R :=
  match zeroL P t with
  | some ls => match P.underlying t with
    | some (.array _ e) => match P.info? e with
      | some ie => match fillL (fun i => some (i * ie.size, ie.size)) (spreadL ls) ps with
        | some out => match tyOf P 8 t with
          | some ty => mkL ty out fun a rest => match rest with
            | [] => K (.vl true [.dat ty a])
            | _ => none
          | none => K (.vl true out)
        | none => none
      | none => none
    | some (.struct fields) => match fields.toList.mapM (fun f => (P.info? f.type).map fun i => (f.offset, i.size)) with
      | some places => match fillL (places.toArray[·]?) ls ps with
        | some out => K (.vl true out)
        | none => none
      | none => none
    | _ => none
  | none => none

theorem xbuild_look {t : TypeId} {ps : List (Nat × AV)} {vs : Array (Nat × Value)} {K : AV → Option R} {r : R} (h : xbuild P t ps K = some r) (hp : PartsAt ρ z n ps vs.toList) :
    Look P X Z ρ z n (Instr.build t vs) K r := by
  unfold xbuild at h
  split at h
  · rename_i ls hz
    obtain ⟨it, v, cs, h1, h2, h3, h4⟩ := zeroL_spec hz
    split at h
    · rename_i m e hu
      split at h
      · rename_i ie hie
        split at h
        · rename_i out hf
          obtain ⟨cs', h5, h6⟩ := fillL_at hf (spreadL_at (h4 ρ z n)) hp
          have hrun : ∀ w, (Instr.build t vs).run P w = .ok (.agg cs'.toArray) w := fun w => run_build w t vs _ (by
            simp [Program.built, h1, hu, h2, hie, h3, h5])
          split at h
          · rename_i ty hty
            obtain ⟨a, rest, c, d, h7, rfl, h8, h9⟩ := mkL_at ty h h6
            split at h7
            · have : d = [] := h9
              subst this
              rw [List.append_nil] at hrun
              exact .mk h7 (v := .agg c.toArray) ⟨c, Lvs.one h8, rfl⟩ fun w _ => hrun w
            · cases h7
          · exact .mk h (v := .agg cs'.toArray) ⟨cs', h6, rfl⟩ fun w _ => hrun w
        · cases h
      · cases h
    · rename_i fields hu
      split at h
      · rename_i places hpl
        split at h
        · rename_i out hf
          obtain ⟨cs', h5, h6⟩ := fillL_at hf (h4 ρ z n) hp
          refine .mk h (v := .agg cs'.toArray) ⟨cs', h6, rfl⟩ fun w _ => run_build w t vs _ ?_
          simp only [Program.built, h1, hu, h2, hpl, h3]
          exact h5
        · cases h
      · cases h
    · cases h
  · cases h

/-! ### Equality of arrays and structs -/

theorem holds_ints {k : IntKind} {m : Nat} {x : (Ty.arr m (.int k)).den} {cs : List Value} (h : (Ty.arr m (.int k)).holds z x cs) : cs = (show List Int from x.1).map (Value.int k) := by
  obtain ⟨ch, he, rfl⟩ := holds_arr h
  obtain ⟨xs, hx⟩ := x
  have key : ∀ (xs : List Int) (ch : List (Chunk (Ty.int k).sz)), Els (t := .int k) ((Ty.int k).holds z) xs ch → flat (Ty.int k).enc ch = xs.map (Value.int k) := by
    intro xs
    induction xs with
    | nil => intro ch he; rw [List.eq_nil_of_length_eq_zero (l := ch) he.1.symm]; rfl
    | cons y ys ih =>
      intro ch he
      cases ch with
      | nil => exact absurd he.1 (by simp)
      | cons c ch =>
        have h0 : c.1 = [Value.int k y] := he.2 0 y c rfl rfl
        rw [flat_cons, ih ch ⟨Nat.succ.inj he.1, fun i x c hx hc => he.2 (i + 1) x c hx hc⟩]
        show c.1 ++ _ = _
        rw [h0]; rfl
  exact key xs ch he

def eqLs (P : Program) (xs ys : List Leaf) : List Field → Option Bool
  | [] => some true
  | f :: fs => match P.underlying f.type, cutL xs f.offset 1, cutL ys f.offset 1 with
    | some (.int _), some [.dat (.int k) a], some [.dat (.int k') b] => match f.name == "_", kindB k k' with
      | false, true => (eqLs P xs ys fs).map (fun r => (intEq a b) && r)
      | _, _ => none
    | some .bool, some [.dat .bool a], some [.dat .bool b] => match f.name == "_" with
      | false => (eqLs P xs ys fs).map (fun r => (boolEq a b) && r)
      | true => none
    | some .string, some [.dat .str a], some [.dat .str b] => match f.name == "_" with
      | false => (eqLs P xs ys fs).map (fun r => (strEq a b) && r)
      | true => none
    | _, _, _ => none
where
  intEq (a b : Int) : Bool := a == b
  boolEq (a b : Bool) : Bool := a == b
  strEq (a b : List UInt8) : Bool := a == b

theorem cell_of_cut {ls out : List Leaf} {cs : List Value} {off : Nat} {l : Leaf} {v : Value} (hc : cutL ls off 1 = some [l]) (hl : Lvs ρ z n ls cs) (hv : ∀ u, l.at ρ z n [u] → u = v) : cs.toArray[off]? = some v := by
  obtain ⟨h1, h2⟩ := cutL_at _ _ _ _ _ hc hl
  have hlt : off < cs.length := by omega
  rw [List.drop_eq_getElem_cons hlt, show (cs[off] :: cs.drop (off + 1)).take 1 = [cs[off]] from rfl] at h1
  have h3 := hv cs[off] (Lvs.of_one h1)
  simp [hlt, h3]

theorem run_eqStr {t : TypeId} (hu : P.underlying t = some .string) (d : Nat) (a b : List UInt8) (w : World) : (Op.equalIn (d + 1) t (.string ⟨a.toArray⟩) (.string ⟨b.toArray⟩)).run P w = .ok (eqLs.strEq a b) w := by
  rw [run_equalIn_string w d t _ _ hu, ByteArray.toList_mk, ByteArray.toList_mk]
  rfl

theorem eq_step {d : Nat} {f : Field} {fs : List Field} {xs ys : Array Value} {w : World} {vx vy : Value} {q r' : Bool} (hn : f.name ≠ "_") (px : (part f.type xs f.offset).run P w = .ok vx w) (py : (part f.type ys f.offset).run P w = .ok vy w)
    (pe : (Op.equalIn (d + 1) f.type vx vy).run P w = .ok q w) (ih : (Op.eqFields (d + 1) xs ys fs).run P w = .ok r' w) : (Op.eqFields (d + 1) xs ys (f :: fs)).run P w = .ok (q && r') w := by
  simp only [Op.eqFields, if_pos hn, Sem.run_bind, px, py, Result.andThen_ok, pe]
  cases q
  · simp
  · simp only [Bool.not_true, Bool.false_eq_true, if_false, Bool.true_and]
    exact ih

theorem run_eqLs {lx ly : List Leaf} {xs ys : List Value} (hx : Lvs ρ z n lx xs) (hy : Lvs ρ z n ly ys) (d : Nat) (w : World) : ∀ (fs : List Field) (r : Bool), eqLs P lx ly fs = some r → (Op.eqFields (d + 1) xs.toArray ys.toArray fs).run P w = .ok r w
  | [], r, h => by injection h with h; subst h; simp [Op.eqFields]
  | f :: fs, r, h => by
    unfold eqLs at h
    split at h
    · rename_i k0 k a k' b hu h1 h2
      split at h
      · rename_i hn hk
        have hk := kind_of_beq hk
        subst hk
        have hn : f.name ≠ "_" := by simpa using hn
        obtain ⟨r', hr, rfl⟩ := Option.map_eq_some_iff.1 h
        have c1 := cell_of_cut (out := []) (v := .int k a) h1 hx (fun u hu => by injection (show [u] = _ from hu))
        have c2 := cell_of_cut (out := []) (v := .int k b) h2 hy (fun u hu => by injection (show [u] = _ from hu))
        have px : (part f.type xs.toArray f.offset).run P w = .ok (.int k a) w := by simp only [part, isAgg, Sem.run_bind, run_underlying hu, Result.andThen_ok, Sem.run_pure, Bool.false_eq_true, if_false, c1]
        have py : (part f.type ys.toArray f.offset).run P w = .ok (.int k b) w := by simp only [part, isAgg, Sem.run_bind, run_underlying hu, Result.andThen_ok, Sem.run_pure, Bool.false_eq_true, if_false, c2]
        have ih := run_eqLs hx hy d w fs r' hr
        exact eq_step hn px py (run_equalIn_int w d f.type k k0 _ _ hu) ih
      · cases h
    · rename_i a b hu h1 h2
      split at h
      · rename_i hn
        have hn : f.name ≠ "_" := by simpa using hn
        obtain ⟨r', hr, rfl⟩ := Option.map_eq_some_iff.1 h
        have c1 := cell_of_cut (out := []) (v := .bool a) h1 hx (fun u hu => by injection (show [u] = _ from hu))
        have c2 := cell_of_cut (out := []) (v := .bool b) h2 hy (fun u hu => by injection (show [u] = _ from hu))
        have px : (part f.type xs.toArray f.offset).run P w = .ok (.bool a) w := by simp only [part, isAgg, Sem.run_bind, run_underlying hu, Result.andThen_ok, Sem.run_pure, Bool.false_eq_true, if_false, c1]
        have py : (part f.type ys.toArray f.offset).run P w = .ok (.bool b) w := by simp only [part, isAgg, Sem.run_bind, run_underlying hu, Result.andThen_ok, Sem.run_pure, Bool.false_eq_true, if_false, c2]
        have ih := run_eqLs hx hy d w fs r' hr
        exact eq_step hn px py (run_equalIn_bool' w d f.type _ _ hu) ih
      · cases h
    · rename_i a b hu h1 h2
      split at h
      · rename_i hn
        have hn : f.name ≠ "_" := by simpa using hn
        obtain ⟨r', hr, rfl⟩ := Option.map_eq_some_iff.1 h
        have c1 := cell_of_cut (out := []) (v := .string ⟨a.toArray⟩) h1 hx (fun u hu => by injection (show [u] = _ from hu))
        have c2 := cell_of_cut (out := []) (v := .string ⟨b.toArray⟩) h2 hy (fun u hu => by injection (show [u] = _ from hu))
        have px : (part f.type xs.toArray f.offset).run P w = .ok (.string ⟨a.toArray⟩) w := by simp only [part, isAgg, Sem.run_bind, run_underlying hu, Result.andThen_ok, Sem.run_pure, Bool.false_eq_true, if_false, c1]
        have py : (part f.type ys.toArray f.offset).run P w = .ok (.string ⟨b.toArray⟩) w := by simp only [part, isAgg, Sem.run_bind, run_underlying hu, Result.andThen_ok, Sem.run_pure, Bool.false_eq_true, if_false, c2]
        have ih := run_eqLs hx hy d w fs r' hr
        refine eq_step hn px py ?_ ih
        exact run_eqStr hu d a b w
      · cases h
    · cases h

/-- Two aggregates: are they the same? -/
def xeqv (P : Program) (t : TypeId) (lx ly : List Leaf) (K : Bool → Option R) : Option R :=
  match P.underlying t with
  | some (.array m e) => match P.underlying e with
    | some (.int k) => match szB P e 1, Nat.beq (P.cellsOf e) 1 with
      | true, true => mkL (.arr m (.int k)) lx fun x rx => mkL (.arr m (.int k)) ly fun y ry => match rx, ry with
        | [], [] => K (eqI x.1 y.1)
        | _, _ => none
      | _, _ => none
    | _ => none
  | some (.struct _) => match P.stoodInHeld t with
    | false => match eqLs P lx ly (P.fieldsOf t).toList with
      | some r => K r
      | none => none
    | true => none
  | _ => none
where eqI (xs ys : List Int) : Bool := xs == ys

theorem xeqv_look {t : TypeId} {lx ly : List Leaf} {xs ys : List Value} {K : Bool → Option R} {r : R} (h : xeqv P t lx ly K = some r) (hx : Lvs ρ z n lx xs) (hy : Lvs ρ z n ly ys) :
    ∃ b, K b = some r ∧ ∀ w, (Op.equalIn 10000 t (.agg xs.toArray) (.agg ys.toArray)).run P w = .ok b w := by
  unfold xeqv at h
  split at h
  · rename_i m e hu
    split at h
    · rename_i k he
      split at h
      · rename_i hs hc
        obtain ⟨x, rx, c1, d1, h1, rfl, h2, h3⟩ := mkL_at _ h hx
        obtain ⟨y, ry, c2, d2, h4, rfl, h5, h6⟩ := mkL_at _ h1 hy
        split at h4
        · rw [show d1 = [] from h3, show d2 = [] from h6, List.append_nil, List.append_nil, holds_ints h2, holds_ints h5]
          obtain ⟨inf, hi, _⟩ := szB_spec hs
          exact ⟨_, h4, fun w => run_eq_arr hu he hi (Nat.eq_of_beq_eq_true hc) _ _ x.2 y.2⟩
        · cases h4
      · cases h
    · cases h
  · rename_i fs hu
    split at h
    · rename_i hp
      split at h
      · rename_i b hb
        refine ⟨b, h, fun w => ?_⟩
        have hu' : P.underlying t = some (.struct (P.fieldsOf t)) := by simp [Program.fieldsOf, hu]
        rw [run_equalIn_agg w 9999 t _ _ hu' hp]
        exact run_eqLs hx hy 9998 w _ _ hb
      · cases h
    · cases h
  · cases h
end
end Go.Lift

/- Maps: what is found in one. -/
namespace Go.Lift
open Go
set_option linter.unusedVariables false

def mget {α β : Type} [BEq α] : List (α × β) → α → Option β
  | [], _ => none
  | (a, b) :: xs, k => if (k == a) = true then some b else mget xs k
def mput {α β : Type} [BEq α] : List (α × β) → α → β → List (α × β)
  | [], k, v => [(k, v)]
  | (a, b) :: xs, k, v => if (k == a) = true then (k, v) :: xs else (a, b) :: mput xs k v
def mdel {α β : Type} [BEq α] : List (α × β) → α → List (α × β)
  | [], _ => []
  | (a, b) :: xs, k => if (k == a) = true then xs else (a, b) :: mdel xs k

/-- Keys of a kind. -/
structure KeyS {α : Type} [BEq α] (desc : TypeDesc) (K : α → Value → Prop) : Prop where
  same : ∀ a b u v, K a u → K b v → Instr.sameNow desc u v = some (a == b)
  bits : ∀ a b u v, K a u → K b v → (a == b) = true → Instr.sameBits 10000 v u = true

def findP (desc : TypeDesc) (k : Value) : List (Value × Value) → Nat → Option (Option (Nat × Value))
  | [], _ => some none
  | e :: es, i => match Instr.sameNow desc k e.1 with
    | some true => some (some (i, e.2))
    | some false => findP desc k es (i + 1)
    | none => none
theorem findP_now (desc : TypeDesc) (k : Value) : ∀ (es : List MapEntry) (i : Nat), Instr.findNow desc k es i = findP desc k (es.map kv) i
  | [], _ => rfl
  | e :: es, i => by
    show (match Instr.sameNow desc k e.key with | some true => _ | some false => Instr.findNow desc k es (i + 1) | none => _) = _
    rw [findP_now desc k es (i + 1)]
    rfl

theorem findP_get {α β : Type} [BEq α] {desc : TypeDesc} {K : α → Value → Prop} {V : β → Value → Prop} (hs : KeyS desc K) {key : α} {ku : Value} (hk : K key ku) :
    ∀ (xs : List (α × β)) (es : List (Value × Value)) (i : Nat), Ents K V xs es →
      (mget xs key = none ∧ findP desc ku es i = some none ∧ mdel xs key = xs ∧ (∀ nv nu, V nv nu → Ents K V (mput xs key nv) (es ++ [(ku, nu)]))) ∨
      (∃ j b u k0, mget xs key = some b ∧ findP desc ku es i = some (some (i + j, u)) ∧ V b u ∧ es[j]? = some (k0, u) ∧ Instr.sameBits 10000 k0 ku = true ∧
        (∀ nv nu, V nv nu → Ents K V (mput xs key nv) (es.set j (ku, nu))) ∧ Ents K V (mdel xs key) (es.eraseIdx j))
  | [], es, i, h => by
    have h : es = [] := h
    subst h
    exact .inl ⟨rfl, rfl, rfl, fun nv nu hv => ⟨ku, nu, [], rfl, hk, hv, rfl⟩⟩
  | (a, b) :: xs, es, i, ⟨u, v, es', e, h1, h2, h3⟩ => by
    subst e
    have hsame := hs.same key a ku u hk h1
    cases hb : (key == a) with
    | true =>
      rw [hb] at hsame
      refine .inr ⟨0, b, v, u, by simp [mget, hb], by simp [findP, hsame], h2, rfl, hs.bits _ _ _ _ hk h1 hb, fun nv nu hv => ?_, ?_⟩
      · simp only [mput, hb, if_true]
        exact ⟨ku, nu, _, rfl, hk, hv, h3⟩
      · simp only [mdel, hb, if_true]
        exact h3
    | false =>
      rw [hb] at hsame
      rcases findP_get hs hk xs es' (i + 1) h3 with ⟨g1, g2, g3, g4⟩ | ⟨j, b', u', e', g1, g2, g3, g4, g5, g6, g7⟩
      · refine .inl ⟨by simp [mget, hb, g1], by simp [findP, hsame, g2], by simp [mdel, hb, g3], fun nv nu hv => ?_⟩
        simp only [mput, hb]
        exact ⟨u, v, _, rfl, h1, h2, g4 nv nu hv⟩
      · refine .inr ⟨j + 1, b', u', e', by simp [mget, hb, g1], by simp only [findP, hsame, g2]; congr 3; omega, g3, by simpa using g4, g5, fun nv nu hv => ?_, ?_⟩
        · simp only [mput, hb]
          exact ⟨u, v, _, rfl, h1, h2, g6 nv nu hv⟩
        · simp only [mdel, hb]
          exact ⟨u, v, _, rfl, h1, h2, g7⟩

theorem ba_beq (a b : List UInt8) : ((ByteArray.mk (List.toArray a)) == (ByteArray.mk (List.toArray b))) = (a == b) := by
  show ((List.toArray a) == (List.toArray b)) = (a == b)
  apply Bool.eq_iff_iff.2
  simp
theorem keyS_str {z : Zn} : KeyS (α := List UInt8) .string fun a u => Ty.holds z .str a [u] where
  same a b u v h1 h2 := by
    have h1 : [u] = [Value.string ⟨List.toArray a⟩] := h1
    have h2 : [v] = [Value.string ⟨List.toArray b⟩] := h2
    injection h1 with h1; injection h2 with h2; subst h1; subst h2
    show some ((ByteArray.mk (List.toArray a)) == (ByteArray.mk (List.toArray b))) = some (a == b)
    rw [ba_beq]
  bits a b u v h1 h2 e := by
    have h1 : [u] = [Value.string ⟨List.toArray a⟩] := h1
    have h2 : [v] = [Value.string ⟨List.toArray b⟩] := h2
    injection h1 with h1; injection h2 with h2; subst h1; subst h2
    rw [eq_of_beq e]
    show ((ByteArray.mk (List.toArray b)) == (ByteArray.mk (List.toArray b))) = true
    rw [ba_beq]; simp
theorem keyS_int {z : Zn} {k : IntKind} : KeyS (α := Int) (.int k) fun a u => Ty.holds z (.int k) a [u] where
  same a b u v h1 h2 := by
    have h1 : [u] = [Value.int k a] := h1
    have h2 : [v] = [Value.int k b] := h2
    injection h1 with h1; injection h2 with h2; subst h1; subst h2
    show (if k = k then some (a == b) else none) = _
    rw [if_pos rfl]
  bits a b u v h1 h2 e := by
    have h1 : [u] = [Value.int k a] := h1
    have h2 : [v] = [Value.int k b] := h2
    injection h1 with h1; injection h2 with h2; subst h1; subst h2
    rw [eq_of_beq e]
    show (_ && _) = true
    simp

/-- The zero value of a plain kind. -/
def zero1 (P : Program) (E : TypeId) : (t : Ty) → Option t.den
  | .int q => match (P.info? E).bind (·.zero) with
    | some (.int q' n) => match kindB q q' && intB n 0 with
      | true => some (0 : Int)
      | false => none
    | _ => none
  | .bool => match (P.info? E).bind (·.zero) with
    | some (.bool false) => some false
    | _ => none
  | .str => match (P.info? E).bind (·.zero) with
    | some (.string s) => match s.data.toList with
      | [] => some ([] : List UInt8)
      | _ => none
    | _ => none
  | _ => none

theorem zero1_spec {P : Program} {E : TypeId} : ∀ {t : Ty} {x : t.den}, zero1 P E t = some x → ∃ u, (∀ w, (zeroValue E).run P w = .ok u w) ∧ ∀ z, t.holds z x [u] := by
  have run : ∀ {u}, (P.info? E).bind (·.zero) = some u → ∀ w, (zeroValue E).run P w = .ok u w := by
    intro u h w
    obtain ⟨i, h1, h2⟩ := Option.bind_eq_some_iff.1 h
    simp [zeroValue, typeInfo, h1, h2]
  intro t x h
  cases t with
  | int q =>
    simp only [zero1] at h
    split at h
    · rename_i q' n hz
      split at h
      · rename_i hb
        injection h with h; subst h
        simp only [Bool.and_eq_true] at hb
        have hk := kind_of_beq hb.1
        have hn : n = 0 := of_decide_eq_true hb.2
        subst hk; subst hn
        exact ⟨_, run hz, fun z => rfl⟩
      · cases h
    · cases h
  | bool =>
    simp only [zero1] at h
    split at h
    · rename_i hz
      injection h with h; subst h
      exact ⟨_, run hz, fun z => rfl⟩
    · cases h
  | str =>
    simp only [zero1] at h
    split at h
    · rename_i s hz
      split at h
      · rename_i hs
        injection h with h; subst h
        refine ⟨_, run hz, fun z => ?_⟩
        show [Value.string s] = [Value.string ⟨List.toArray []⟩]
        have : s = ⟨#[]⟩ := by
          cases s with
          | mk d => congr 1; exact Array.toList_inj.1 hs
        rw [this]
      · cases h
    · cases h
  | _ => cases h

/-- The zero value of a struct. -/
def zeroS (P : Program) (E : TypeId) (v : Ty) : Option v.den :=
  match v.agg, zeroL P E, (P.info? E).bind (·.zero) with
  | true, some ls, some (.agg _) => mkL v ls fun x rest => match rest with
    | [] => some x
    | _ => none
  | _, _, _ => none
def zeroA (P : Program) (E : TypeId) (v : Ty) : Option v.den := match zero1 P E v with
  | some x => some x
  | none => zeroS P E v
theorem zeroA_spec {P : Program} {E : TypeId} {t : Ty} {x : t.den} (h : zeroA P E t = some x) : ∃ u, (∀ w, (zeroValue E).run P w = .ok u w) ∧ ∀ z, t.val z x u := by
  unfold zeroA at h
  split at h
  · rename_i y h1
    injection h with h; subst h
    obtain ⟨u, h2, h3⟩ := zero1_spec h1
    refine ⟨u, h2, fun z => ⟨[u], h3 z, ?_⟩⟩
    have : t.agg = false := by cases t <;> first | rfl | (simp [zero1] at h1)
    rw [this]
  · unfold zeroS at h
    split at h
    · rename_i ls q hag hz hq
      obtain ⟨i, v, cs, h2, h3, h4, h5⟩ := zeroL_spec hz
      have hv : v = .agg q := by
        rw [h2] at hq
        have hq : i.zero = some (.agg q) := hq
        rw [h3] at hq; injection hq
      subst hv
      have h4 : q = cs.toArray := h4
      refine ⟨.agg q, fun w => by simp [zeroValue, typeInfo, h2, h3], fun z => ?_⟩
      obtain ⟨x', rest, c, d, h6, e, h7, h8⟩ := mkL_at t h (h5 (fun _ => ⟨none, 0, .unit, 0⟩) z 0)
      split at h6
      · injection h6 with h6; subst h6
        have h8 : d = [] := h8
        subst h8
        rw [List.append_nil] at e; subst e
        refine ⟨cs, h7, ?_⟩
        rw [hag, h4]
      · cases h6
    · cases h

/-- Data as a value. -/
def avC (v : Ty) (x : v.den) : Bool × List Leaf := match v.agg with
  | false => (false, [.dat v x])
  | true => (true, unL v x)
theorem avC_at {ρ : Nat → HI} {z : Zn} {n : Nat} {v : Ty} {x : v.den} {u : Value} (h : v.val z x u) : Cmp ρ z n (avC v x).1 (avC v x).2 u := by
  obtain ⟨cs, h1, h2⟩ := h
  unfold avC
  cases hb : v.agg with
  | false => rw [hb] at h2; exact ⟨cs, by subst h2; exact Lvs.one h1, h2⟩
  | true => rw [hb] at h2; exact ⟨cs, unL_at v x cs h1, h2⟩

/-- What stands by a key. -/
def xlookup {R : Type} (P : Program) (mem : List Pc) (T : TypeId) (x i : AV) (ok : Bool) (K : AV → Option R) : Option R :=
  match P.underlying T, x.asLeaf with
  | some (.map kT eT), some (.mpl h) => match mem[h]? with
    | some (.mp k v xs) => match zeroA P eT v with
      | some z0 => match k, xs with
        | .str, xs => match P.underlying kT, i.asStr with
          | some .string, some a => match ok with
            | false => K (.vl (avC v ((mget (α := List UInt8) xs a).getD z0)).1 (avC v ((mget (α := List UInt8) xs a).getD z0)).2)
            | true => K (.tup [avC v ((mget (α := List UInt8) xs a).getD z0), (false, [.dat .bool (mget (α := List UInt8) xs a).isSome])])
          | _, _ => none
        | .int q, xs => match P.underlying kT, i.asInt with
          | some (.int q1), some (q2, a) => match kindB q q1 && kindB q q2, ok with
            | true, false => K (.vl (avC v ((mget (α := Int) xs a).getD z0)).1 (avC v ((mget (α := Int) xs a).getD z0)).2)
            | true, true => K (.tup [avC v ((mget (α := Int) xs a).getD z0), (false, [.dat .bool (mget (α := Int) xs a).isSome])])
            | _, _ => none
          | _, _ => none
        | _, _ => none
      | none => none
    | _ => none
  | _, _ => none

section
variable {R : Type} {P : Program} {ρ : Nat → HI} {z : Zn} {n : Nat} {X : List Atom} {Z : Nat → Prop} {mem : List Pc}

theorem checkKey_str {w : World} {kT : TypeId} {e : Bool} {a : ByteArray} (h : P.underlying kT = some .string) : (Instr.checkKey e 10000 kT (.string a)).run P w = .ok () w := by
  unfold Instr.checkKey
  rw [Sem.run_bind, run_underlying h]
  rfl
theorem checkKey_int {w : World} {kT : TypeId} {e : Bool} {q q' : IntKind} {a : Int} (h : P.underlying kT = some (.int q)) : (Instr.checkKey e 10000 kT (.int q' a)).run P w = .ok () w := by
  unfold Instr.checkKey
  rw [Sem.run_bind, run_underlying h]
  rfl

theorem lookup_run {α β : Type} [BEq α] {kT eT T : TypeId} {desc : TypeDesc} {K : α → Value → Prop} {V : β → Value → Prop} (hs : KeyS desc K) {key : α} {ku : Value} (hk : K key ku)
    (hT : P.underlying T = some (.map kT eT)) (hd : P.underlying kT = some desc) (hc : ∀ e w, (Instr.checkKey e 10000 kT ku).run P w = .ok () w) {u0 : Value} (hz : ∀ w, (zeroValue eT).run P w = .ok u0 w) {z0 : β} (hv : V z0 u0)
    {xs : List (α × β)} {b : Nat} {kvs : List (Value × Value)} (he : Ents K V xs kvs) (ok : Bool) :
    ∃ u, V ((mget xs key).getD z0) u ∧ ∀ w, (mapA b kvs).at w → (Instr.lookup T (.map (some b)) ku ok).run P w = .ok (if ok then .tuple #[u, .bool (mget xs key).isSome] else u) w := by
  have go : ∀ r, findP desc ku kvs 0 = some r → ∀ w, (mapA b kvs).at w → (Instr.lookup T (.map (some b)) ku ok).run P w = .ok (match r with | some (_, u) => if ok then .tuple #[u, .bool true] else u | none => if ok then .tuple #[u0, .bool false] else u0) w := by
    intro r hr w hw
    obtain ⟨es, clock, h1, h2⟩ := map_heap hw
    have hf : Instr.findNow desc ku es.toList 0 = some r := by rw [findP_now, h2, hr]
    have hg := run_getObj_map (P := P) w b es clock h1
    unfold Instr.lookup
    cases r with
    | none => cases ok <;> simp [run_underlying (h := hT), hg, hc, Instr.findKey, run_underlying (h := hd), hf, hz]
    | some p =>
      obtain ⟨j, u⟩ := p
      cases ok <;> simp [run_underlying (h := hT), hg, hc, Instr.findKey, run_underlying (h := hd), hf]
  rcases findP_get hs hk xs kvs 0 he with ⟨g1, g2, _⟩ | ⟨j, y, u, k0, g1, g2, g3, _⟩
  · exact ⟨u0, by rw [g1]; exact hv, fun w hw => by rw [go _ g2 w hw, g1]; rfl⟩
  · exact ⟨u, by rw [g1]; exact g3, fun w hw => by rw [go _ g2 w hw, g1]; rfl⟩

theorem xlookup_look {R : Type} {mem : List Pc} (hm : MemAt ρ z n mem X) {T : TypeId} {x i : AV} {ok : Bool} {vx vi : Value} {K : AV → Option R} {r : R} (h : xlookup P mem T x i ok K = some r) (hx : x.at ρ z n vx) (hi : i.at ρ z n vi) :
    Look P X Z ρ z n (Instr.lookup T vx vi ok) K r := by
  unfold xlookup at h
  split at h
  · rename_i kT eT hh hT hlf
    obtain ⟨_, b', e3, e⟩ := asLeaf_at hlf hx
    injection e with e; subst e
    split at h
    · rename_i k v xs hp
      obtain ⟨A, hA, b, kvs, e1, e2, rfl⟩ := hm.get hp
      rw [e1] at e3; injection e3 with e3; injection e3 with e3; subst e3
      split at h
      · rename_i z0 hz0
        obtain ⟨u0, hu0, hv0⟩ := zeroA_spec hz0
        split at h
        · rename_i xs
          split at h
          · rename_i a hkT ha
            have hka := asStr_at ha hi
            subst hka
            obtain ⟨u, g1, g2⟩ := lookup_run (P := P) (b := b) (keyS_str (z := z)) (key := a) (ku := .string ⟨List.toArray a⟩) rfl hT hkT (fun e w => checkKey_str hkT) hu0 (V := fun y q => v.val z y q) (hv0 z) e2 ok
            split at h
            · exact .mk h (avC_at g1) fun w hw => g2 w (hw.2 _ (List.mem_of_getElem? hA))
            · exact .mk h ⟨[u, .bool _], ⟨u, _, rfl, avC_at g1, .bool _, [], rfl, Cmp.one rfl, rfl⟩, rfl⟩ fun w hw => g2 w (hw.2 _ (List.mem_of_getElem? hA))
          · cases h
        · rename_i q xs
          split at h
          · rename_i q1 q2 a hkT ha
            have hka := asInt_at ha hi
            subst hka
            split at h
            · rename_i hb
              simp only [Bool.and_eq_true] at hb
              have h1 := kind_of_beq hb.1; have h2 := kind_of_beq hb.2
              subst h1; subst h2
              obtain ⟨u, g1, g2⟩ := lookup_run (P := P) (b := b) (keyS_int (z := z) (k := q)) (key := a) (ku := .int q a) rfl hT hkT (fun e w => checkKey_int hkT) hu0 (V := fun y q => v.val z y q) (hv0 z) e2 false
              exact .mk h (avC_at g1) fun w hw => g2 w (hw.2 _ (List.mem_of_getElem? hA))
            · rename_i hb
              simp only [Bool.and_eq_true] at hb
              have h1 := kind_of_beq hb.1; have h2 := kind_of_beq hb.2
              subst h1; subst h2
              obtain ⟨u, g1, g2⟩ := lookup_run (P := P) (b := b) (keyS_int (z := z) (k := q)) (key := a) (ku := .int q a) rfl hT hkT (fun e w => checkKey_int hkT) hu0 (V := fun y q => v.val z y q) (hv0 z) e2 true
              exact .mk h ⟨[u, .bool _], ⟨u, _, rfl, avC_at g1, .bool _, [], rfl, Cmp.one rfl, rfl⟩, rfl⟩ fun w hw => g2 w (hw.2 _ (List.mem_of_getElem? hA))
            · cases h
          · cases h
        · cases h
      · cases h
    · cases h
  · cases h
end
end Go.Lift

/- All operations that only look, under one name. -/
namespace Go.Lift
open Go
set_option linter.unusedVariables false

section
variable {R : Type}

/-- Both, and they agree. -/
noncomputable def agree (a b : Option R) : Option R := open Classical in if a = b then a else none
theorem agree_some {a b : Option R} {r : R} (h : agree a b = some r) : a = some r ∧ b = some r := by
  unfold agree at h
  split at h
  · rename_i e; subst e; exact ⟨h, h⟩
  · cases h
theorem agree_self (a : Option R) : agree a a = a := by unfold agree; simp

/-- A slice against nil. -/
noncomputable def xsnil (mem : List Pc) (K' : Bool → Option R) (a : Leaf) : Option R :=
  match a with
  | .nils => K' true
  | .dat (.slc _) xs => if List.isEmpty xs = true then agree (K' true) (K' false) else K' false
  | .row h => match mem[h]? with
    | some (.row _ xs) => if List.isEmpty xs = true then agree (K' true) (K' false) else K' false
    | _ => none
  | _ => none

def eqK (b : BinOp) (K : AV → Option R) (q : Bool) : Option R := match b with
  | .eql => K (avB q)
  | .neq => K (avB (!q))
  | _ => none

/-- The constant nil of an interface type. -/
def nilC : Operand → Bool
  | .const .nilIface => true
  | _ => false
theorem nilC_spec {x : Operand} (h : nilC x = true) : x = .const .nilIface := by
  unfold nilC at h
  split at h
  · rfl
  · cases h

/-- Is a map nil? -/
def xmnil {R : Type} (K : Bool → Option R) : Leaf → Option R
  | .nilm => K true
  | .mpl _ => K false
  | _ => none
noncomputable def xbin (P : Program) (mem : List Pc) (b : BinOp) (t : TypeId) (x y : AV) (K : AV → Option R) : Option R :=
  match x.asInt, y.asInt with
  | some a, some c => xint b a.1 a.2 c.1 c.2 K
  | _, _ => match x.asBool, y.asBool with
    | some a, some c => xbool P b t a c K
    | _, _ => match x.asStr, y.asStr with
      | some a, some c => xstr b a c K
      | _, _ => match x.asLeaf, y.asLeaf with
        | some a, some c => match P.underlying t, c with
          | some (.slice _), .nils => xsnil mem (eqK b K) a
          | some (.map ..), .nilm => xmnil (eqK b K) a
          | _, _ => xnil P b t a c K
        | _, _ => match x.asAgg, y.asAgg with
          | some a, some c => match P.eqGuardType P.depth t with
            | false => match b with
              | .eql => xeqv P t a c fun q => K (avB q)
              | .neq => xeqv P t a c fun q => K (avB (!q))
              | _ => none
            | true => none
          | _, _ => none

def xun (u : UnOp) (x : AV) (K : AV → Option R) : Option R :=
  match u with
  | .not => match x.asBool with
    | some b => K (avB (!b))
    | none => none
  | .neg => match x.asInt with
    | some (k, a) => K (avI k (k.wrap (0 - a)))
    | none => none
  | .xor => match x.asInt with
    | some (k, a) => K (avI k (bxor k (if k.signed then -1 else k.max) a))
    | none => none
  | _ => none

def xconv (P : Program) (s d : TypeId) (x : AV) (K : AV → Option R) : Option R :=
  match P.underlying s, P.underlying d with
  | some _, some (.int k) => match x.asInt with
    | some (_, a) => K (avI k (k.wrap a))
    | none => none
  | some .string, some .string => match x.asStr with
    | some s => K (avS s)
    | none => none
  | _, _ => none

/-- Bytes as a string. -/
def xbstr (P : Program) (mem : List Pc) (e : TypeId) (x : AV) (K : AV → Option R) : Option R :=
  match P.underlying e, x.asLeaf with
  | some (.int .u8), some .nils => K (avS [])
  | some (.int .u8), some (.dat (.slc (.int .u8)) xs) => K (avS (b8 xs))
  | some (.int .u8), some (.row h) => match mem[h]? with
    | some (.row (.int .u8) xs) => K (avS (b8 xs))
    | _ => none
  | some (.int .u8), some (.part h a b) => match mem[h]? with
    | some (.row (.int .u8) xs) => K (avS (b8 ((List.take b xs).drop a)))
    | _ => none
  | _, _ => none

def xblt (P : Program) (mem : List Pc) (b : Builtin) (ts : List TypeId) (xs : List AV) (K : AV → Option R) : Option R :=
  match b, ts, xs with
  | .len, [t], [x] => xlen P mem t x K
  | .max, _, [x, y] => match x.asInt, y.asInt with
    | some (k, a), some (_, c) => K (avI k (if c > a then c else a))
    | _, _ => none
  | .min, _, [x, y] => match x.asInt, y.asInt with
    | some (k, a), some (_, c) => K (avI k (if c < a then c else a))
    | _, _ => none
  | _, _, _ => none

/-- Pointers that are captured. -/
def capsOf : List AV → Option (List (Nat × Nat))
  | [] => some []
  | .vl false [.ptr h off] :: r => match capsOf r with
    | some cs => some ((h, off) :: cs)
    | none => none
  | _ => none

theorem capsOf_at {ρ : Nat → HI} {z : Zn} {n : Nat} : ∀ {avs : List AV} {cs : List (Nat × Nat)} {vs : List Value}, capsOf avs = some cs → avs.length = vs.length → (∀ (i : Nat) (av : AV) (v : Value), avs[i]? = some av → vs[i]? = some v → av.at ρ z n v) → CapsAt ρ n cs vs
  | [], cs, vs, h, hl, _ => by
    injection h with h; subst h
    exact List.eq_nil_of_length_eq_zero hl.symm
  | .vl false [.ptr hh off] :: r, cs, vs, h, hl, ha => by
    unfold capsOf at h
    split at h
    · rename_i cs' hc
      injection h with h; subst h
      match vs, hl with
      | v :: vs, hl =>
        obtain ⟨h1, b, h2, e⟩ := Cmp.of_one (ha 0 _ v rfl rfl)
        injection e with e; subst e
        exact ⟨b, vs, h1, h2, rfl, capsOf_at hc (Nat.succ.inj hl) fun i av v hi hv => ha (i + 1) av v hi hv⟩
    · cases h
  | .top :: _, _, _, h, _, _ => by cases h
  | .und :: _, _, _, h, _, _ => by cases h
  | .tup _ :: _, _, _, h, _, _ => by cases h
  | .vl true _ :: _, _, _, h, _, _ => by simp [capsOf] at h
  | .vl false [] :: _, _, _, h, _, _ => by simp [capsOf] at h
  | .vl false (_ :: _ :: _) :: _, _, _, h, _, _ => by simp [capsOf] at h
  | .vl false [.top] :: _, _, _, h, _, _ => by simp [capsOf] at h
  | .vl false [.dat ..] :: _, _, _, h, _, _ => by simp [capsOf] at h
  | .vl false [.row _] :: _, _, _, h, _, _ => by simp [capsOf] at h
  | .vl false [.part ..] :: _, _, _, h, _, _ => by simp [capsOf] at h
  | .vl false [.nils] :: _, _, _, h, _, _ => by simp [capsOf] at h
  | .vl false [.nilp] :: _, _, _, h, _, _ => by simp [capsOf] at h
  | .vl false [.pta ..] :: _, _, _, h, _, _ => by simp [capsOf] at h
  | .vl false [.elr ..] :: _, _, _, h, _, _ => by simp [capsOf] at h
  | .vl false [.eld ..] :: _, _, _, h, _, _ => by simp [capsOf] at h
  | .vl false [.bpart ..] :: _, _, _, h, _, _ => by simp [capsOf] at h
  | .vl false [.rwa ..] :: _, _, _, h, _, _ => by simp [capsOf] at h
  | .vl false [.bsl ..] :: _, _, _, h, _, _ => by simp [capsOf] at h
  | .vl false [.clo ..] :: _, _, _, h, _, _ => by simp [capsOf] at h
  | .vl false [.nilf] :: _, _, _, h, _, _ => by simp [capsOf] at h
  | .vl false [.fn _] :: _, _, _, h, _, _ => by simp [capsOf] at h

/-- A pointer that is not nil. -/
def xnc {R : Type} (l : Leaf) (K : AV → Option R) : Option R :=
  match l with
  | .dat .nd x => @Option.bind Nat R x fun i => K (.vl false [.npt i 0])
  | .dat (.pt t) x => @Option.bind t.den R x fun y => K (.vl false [.eld t y 0])
  | l => match l.isNil with
    | some false => K (.vl false [l])
    | _ => none

noncomputable def xlook (P : Program) (G : Globs) (o : Oper) (st : St) (K : AV → Option R) : Option R :=
  match o.op with
  | .move x => K (opd G st.fr x)
  | .assign x => K (opd G st.fr x)
  | .pick c a b => match (opd G st.fr c).asBool with
    | some t => if t = true then K (opd G st.fr a) else K (opd G st.fr b)
    | none => none
  | .unOp u _ x => xun u (opd G st.fr x) K
  | .binOp b t x y _ => match nilC y, (opd G st.fr x).asLeaf, P.underlying t with
    | true, some (.dat .err a), some (.interface _) => eqK b K (!a)
    | _, _, _ => xbin P st.mem b t (opd G st.fr x) (opd G st.fr y) K
  | .convert s d x => match P.underlying s, P.underlying d with
    | some (.slice e), some .string => xbstr P st.mem e (opd G st.fr x) K
    | _, _ => xconv P s d (opd G st.fr x) K
  | .extract t i => match opd G st.fr t with
    | .tup cs => match cs[i]? with
      | some c => K (.vl c.1 c.2)
      | none => none
    | _ => none
  | .nilCheck x => match (opd G st.fr x).asLeaf with
    | some l => xnc l K
    | none => none
  | .fieldAddr s x f => match (opd G st.fr x).asLeaf with
    | some l => xfa P s l f K
    | none => none
  | .field s x f => match (opd G st.fr x).asAgg with
    | some ls => xfield P s ls f K
    | none => none
  | .indexAddr t x i => match (opd G st.fr x).asLeaf, (opd G st.fr i).asInt with
    | some l, some j => xia P st.mem t l j.2 K
    | _, _ => none
  | .index t x i => match (opd G st.fr i).asInt with
    | some j => xindex P t (opd G st.fr x) j.2 K
    | none => none
  | .load t a => match (opd G st.fr a).asLeaf with
    | some l => xload P st.mem t l K
    | none => none
  | .slice t x lo hi none => xslice P st.mem t (opd G st.fr x) (lo.map (opd G st.fr)) (hi.map (opd G st.fr)) K
  | .sliceToArrayPointer arr x => match (opd G st.fr x).asLeaf with
    | some l => xs2a P st.mem arr l K
    | none => none
  | .makeFunc (.func f) fs caps => match fs.toList, capsOf (caps.toList.map (opd G st.fr)) with
    | [], some cs => K (.vl false [.clo f cs])
    | _, _ => none
  | .lookup t x i ok => xlookup P st.mem t (opd G st.fr x) (opd G st.fr i) ok K
  | .build t ps => xbuild P t (ps.toList.map fun p => (p.1, opd G st.fr p.2)) K
  | .call c => match c.callee with
    | .builtin b => xblt P st.mem b c.argTypes.toList (c.args.toList.map (opd G st.fr)) K
    | _ => none
  | _ => none
end

section
variable {R : Type} {P : Program} {ρ : Nat → HI} {z : Zn} {n : Nat} {X : List Atom} {Z : Nat → Prop} {mem : List Pc} {G : Globs} {l : List Value} {fr : List AV} {st : St}

theorem row_nonnil (hm : MemAt ρ z n mem X) {w : World} (hw : Fx X Z z w) {h : Nat} {te : Ty} {xs : List te.den} (hp : mem[h]? = some (.row te xs)) : xs.length ≤ (ρ h).cap ∧ (0 < xs.length → (ρ h).A = none → False) := by
  obtain ⟨A, hA, hc, ch, he, rfl⟩ := hm.get hp
  have hr := hw.2 _ (List.mem_of_getElem? hA)
  refine ⟨by rw [he.1]; exact (row_facts hr).1, fun hpos hn => ?_⟩
  rw [hn] at hr
  have := (row_none hr).1
  rw [he.1, this] at hpos
  exact absurd hpos (by simp)

theorem ar_nonnil (hm : MemAt ρ z n mem X) {w : World} (hw : Fx X Z z w) {h : Nat} {T U : Ty} {xs : List (T.den × List U.den)} (hp : mem[h]? = some (.ar T U xs)) {i : Nat} (hi : i < z.nn) (hl : 0 < (z.tb i).len) (hn : (z.tb i).A = none) : False := by
  obtain ⟨A, hA, cs, hok, rfl⟩ := hm.get hp
  obtain ⟨c, hc, _, he, hlen⟩ := ar_get hok hi
  have hr := (arA_at.1 (hw.2 _ (List.mem_of_getElem? hA)) i c hc).2
  rw [hn] at hr
  have := (row_none hr).1
  have h1 := he.1
  rw [hlen, h1, this] at hl
  exact absurd hl (by simp)

theorem eqK_look {b : BinOp} {t E : TypeId} (ht : P.underlying t = some (.slice E)) {xo yo : Operand} {A : Option Addr} {m cap : Nat} {q : Bool} {K : AV → Option R} {r : R} (h : eqK b K q = some r) (hq : ∀ w, Fx X Z z w → A.isNone = q) :
    Look P X Z ρ z n (do eqGuard b t xo yo (.slice A m cap) (.slice none 0 0); binOp b t (.slice A m cap) (.slice none 0 0)) K r := by
  unfold eqK at h
  split at h
  · exact .mk h bool_at fun w hw => by simp [eqGuard_at_slice, binOp, run_equal_slice_nil w t E A m cap ht, hq w hw]
  · exact .mk h bool_at fun w hw => by simp [eqGuard_at_slice, binOp, run_equal_slice_nil w t E A m cap ht, hq w hw]
  · cases h

theorem xsnil_look (hm : MemAt ρ z n mem X) {b : BinOp} {t E : TypeId} (ht : P.underlying t = some (.slice E)) {xo yo : Operand} {a : Leaf} {vx : Value} {K : AV → Option R} {r : R} (h : xsnil mem (eqK b K) a = some r) (hx : a.at ρ z n [vx]) :
    Look P X Z ρ z n (do eqGuard b t xo yo vx (.slice none 0 0); binOp b t vx (.slice none 0 0)) K r := by
  have key : ∀ {A : Option Addr} {m cap : Nat}, eqK b K true = some r → eqK b K false = some r → Look P X Z ρ z n (do eqGuard b t xo yo (.slice A m cap) (.slice none 0 0); binOp b t (.slice A m cap) (.slice none 0 0)) K r := by
    intro A m cap h1 h2
    cases A with
    | none => exact eqK_look ht h1 fun _ _ => rfl
    | some a => exact eqK_look ht h2 fun _ _ => rfl
  unfold xsnil at h
  split at h
  · have e : [vx] = _ := hx
    injection e with e; subst e
    exact eqK_look ht h fun _ _ => rfl
  · rename_i u xs
    obtain ⟨A, cap, ch, e, hle, he, hA⟩ := hx
    injection e with e; subst e
    split at h
    · obtain ⟨h1, h2⟩ := agree_some h
      exact key h1 h2
    · rename_i hne
      refine eqK_look ht h fun _ _ => ?_
      rcases hA with ⟨rfl, rfl⟩ | ⟨a, rfl, _⟩
      · have := he.eq_nil
        rw [this] at hne
        exact absurd rfl hne
      · rfl
  · rename_i hh
    split at h
    · rename_i u xs hp
      obtain ⟨_, e⟩ := hx
      injection e with e; subst e
      split at h
      · obtain ⟨h1, h2⟩ := agree_some h
        exact key h1 h2
      · rename_i hne
        refine eqK_look ht h fun w hw => ?_
        have hpos : 0 < xs.length := by
          cases xs with
          | nil => exact absurd rfl hne
          | cons => simp
        cases hA : (ρ hh).A with
        | none => exact ((row_nonnil hm hw hp).2 hpos hA).elim
        | some a => rfl
    · cases h
  · cases h

theorem els_ints {k : IntKind} : ∀ {xs : List Int} {ch : List (Chunk (Ty.int k).sz)}, Els (t := .int k) ((Ty.int k).holds z) xs ch → flat (Ty.int k).enc ch = flat (Enc.int k) xs
  | [], ch, he => by rw [List.eq_nil_of_length_eq_zero (l := ch) he.1.symm]; rfl
  | x :: xs, [], he => by cases he.1
  | x :: xs, c :: ch, he => by
    rw [flat_cons, flat_cons, els_ints (xs := xs) (ch := ch) ⟨Nat.succ.inj he.1, fun i y d hy hd => he.2 (i + 1) y d hy hd⟩]
    have : c.1 = [.int k x] := he.2 0 x c rfl rfl
    show c.1 ++ _ = _
    rw [this]; rfl

theorem xbstr_look (hm : MemAt ρ z n mem X) {s d e : TypeId} (hs : P.underlying s = some (.slice e)) (hd : P.underlying d = some .string) {x : AV} {v : Value} {K : AV → Option R} {r : R} (h : xbstr P mem e x K = some r) (hx : x.at ρ z n v) : Look P X Z ρ z n (convert s d v) K r := by
  have slr : ∀ {A : Option Addr} {xs : List Int} {ch : List (Chunk (Ty.int .u8).sz)} {w : World}, Els (t := .int .u8) ((Ty.int .u8).holds z) xs ch → SlR w (Ty.int .u8).enc A ch → SlR w (Enc.int .u8) A xs := by
    intro A xs ch w he hr
    rcases hr with ⟨h1, h2⟩ | ⟨a, h1, h2⟩
    · subst h2; exact .inl ⟨h1, he.eq_nil⟩
    · exact .inr ⟨a, h1, fun j u hj => h2 j u (by rw [els_ints he]; exact hj)⟩
  unfold xbstr at h
  split at h
  · rename_i he hl
    have e : [v] = _ := asLeaf_at hl hx
    injection e with e; subst e
    exact .mk h str_at fun w hw => by
      have := run_bytes_str (w := w) hs he hd (A := none) (n := 0) (cap := 0) (xs := []) rfl (.inl ⟨rfl, rfl⟩)
      exact this
  · rename_i xs he hl
    obtain ⟨A, cap, ch, e, hle, hels, hA⟩ := asLeaf_at hl hx
    injection e with e; subst e
    refine .mk h str_at fun w hw => run_bytes_str hs he hd rfl (slr hels ?_)
    rcases hA with ⟨rfl, rfl⟩ | ⟨a, rfl, hz⟩
    · exact .inl ⟨rfl, rfl⟩
    · exact .inr ⟨a, rfl, hw.inZ hz⟩
  · rename_i hh he hl
    split at h
    · rename_i xs hp
      obtain ⟨A, hA, hc, ch, hels, rfl⟩ := hm.get hp
      obtain ⟨_, e⟩ := asLeaf_at hl hx
      injection e with e; subst e
      exact .mk h str_at fun w hw => run_bytes_str hs he hd hc.2 (slr hels (SlR.of_row (hw.2 _ (List.mem_of_getElem? hA))))
    · cases h
  · rename_i hh a b he hl
    split at h
    · rename_i xs hp
      obtain ⟨A, hA, hc, ch, hels, rfl⟩ := hm.get hp
      obtain ⟨_, hab, hbl, pp, hpp, e⟩ := asLeaf_at hl hx
      injection e with e; subst e
      have hbl' : b ≤ ch.length := by rw [← hels.1, ← hc.2]; exact hbl
      refine .mk h str_at fun w hw => run_bytes_str hs he hd ?_ (slr ((hels.take b).drop a) ?_)
      · have key : ∀ {β : Type} (xs : List β), b ≤ xs.length → b - a = ((xs.take b).drop a).length := fun xs hb => by rw [List.length_drop, List.length_take]; omega
        exact key (β := (Ty.int .u8).den) xs (by rw [← hc.2]; exact hbl)
      · exact SlR.of_row (row_cut (e := (Ty.int .u8).enc) hab hbl' (hw.2 _ (List.mem_of_getElem? hA)) (by rw [← hc.1]; exact hpp))
    · cases h
  · cases h

theorem xbin_look (hm : MemAt ρ z n mem X) {b : BinOp} {t : TypeId} {xo yo : Operand} {x y : AV} {vx vy : Value} {K : AV → Option R} {r : R} (h : xbin P mem b t x y K = some r) (hx : x.at ρ z n vx) (hy : y.at ρ z n vy) :
    Look P X Z ρ z n (do eqGuard b t xo yo vx vy; binOp b t vx vy) K r := by
  unfold xbin at h
  split at h
  · rename_i a c ha hc
    obtain ⟨k, a⟩ := a
    obtain ⟨k', c⟩ := c
    rw [asInt_at ha hx, asInt_at hc hy]
    exact xint_look h
  · split at h
    · rename_i a c ha hc
      rw [asBool_at ha hx, asBool_at hc hy]
      exact xbool_look h
    · split at h
      · rename_i a c ha hc
        rw [asStr_at ha hx, asStr_at hc hy]
        exact xstr_look h
      · split at h
        · rename_i a c ha hc
          split at h
          · rename_i E ht
            have e : [vy] = _ := asLeaf_at hc hy
            injection e with e; subst e
            exact xsnil_look hm ht h (asLeaf_at ha hx)
          · rename_i kT eT ht
            have e : [vy] = _ := asLeaf_at hc hy
            injection e with e; subst e
            have hx' := asLeaf_at ha hx
            have eq : ∀ (m : Option Nat) w, (Op.equal t (.map m) (.map none)).run P w = .ok m.isNone w := fun m w => by
              unfold Op.equal Op.maxDepth Op.equalIn
              cases m <;> simp [run_underlying ht]
            have fin : ∀ (m : Option Nat), vx = .map m → eqK b K m.isNone = some r → Look P X Z ρ z n (do eqGuard b t xo yo vx (.map none); binOp b t vx (.map none)) K r := by
              intro m hm h
              subst hm
              unfold eqK at h
              split at h
              · exact .mk h bool_at fun w hw => by simp [eqGuard_at_map, binOp, eq]
              · exact .mk h bool_at fun w hw => by simp [eqGuard_at_map, binOp, eq]
              · cases h
            unfold xmnil at h
            split at h
            · have e : [vx] = _ := hx'
              injection e with e
              exact fin none e h
            · obtain ⟨_, b', _, e⟩ := hx'
              injection e with e
              exact fin (some b') e h
            · cases h
          · exact xnil_look h (asLeaf_at ha hx) (asLeaf_at hc hy)
        · split at h
          · rename_i a c ha hc
            obtain ⟨xs, h1, rfl⟩ := asAgg_at ha hx
            obtain ⟨ys, h2, rfl⟩ := asAgg_at hc hy
            split at h
            · rename_i hg
              split at h
              · obtain ⟨q, h3, h4⟩ := xeqv_look h h1 h2
                exact .mk h3 bool_at fun w _ => by simp [run_eqGuard_agg, hg, run_eql_struct, h4]
              · obtain ⟨q, h3, h4⟩ := xeqv_look h h1 h2
                refine .mk h3 bool_at fun w _ => ?_
                have h5 : (Op.equal t (.agg xs.toArray) (.agg ys.toArray)).run P w = .ok q w := h4 w
                simp [run_eqGuard_agg, hg, binOp, h5]
              · cases h
            · cases h
          · cases h

theorem xun_look {u : UnOp} {x : AV} {v : Value} {K : AV → Option R} {r : R} (h : xun u x K = some r) (hx : x.at ρ z n v) : Look P X Z ρ z n (Op.unary u v) K r := by
  unfold xun at h
  split at h
  · split at h
    · rename_i b hb
      rw [asBool_at hb hx]
      exact .mk h bool_at fun w _ => by simp [Op.unary]
    · cases h
  · split at h
    · rename_i k a hb
      rw [asInt_at hb hx]
      exact .mk h int_at fun w _ => by simp [Op.unary, Op.intArith]
    · cases h
  · split at h
    · rename_i k a hb
      rw [asInt_at hb hx]
      exact .mk h int_at fun w _ => by simp [Op.unary, Op.intBits, bxor]
    · cases h
  · cases h

theorem xconv_look {s d : TypeId} {x : AV} {v : Value} {K : AV → Option R} {r : R} (h : xconv P s d x K = some r) (hx : x.at ρ z n v) : Look P X Z ρ z n (convert s d v) K r := by
  unfold xconv at h
  split at h
  · rename_i ds k hs hd
    split at h
    · rename_i k0 a ha
      rw [asInt_at ha hx]
      exact .mk h int_at fun w _ => by simp [convert, run_underlying hs, run_underlying hd, Conv.intToInt]
    · cases h
  · rename_i hs hd
    split at h
    · rename_i a ha
      rw [asStr_at ha hx]
      exact .mk h str_at fun w _ => by simp [convert, run_underlying hs, run_underlying hd]
    · cases h
  · cases h

theorem Cmps.get : ∀ {cs : List (Bool × List Leaf)} {vs : List Value} {i : Nat} {c : Bool × List Leaf}, Cmps ρ z n cs vs → cs[i]? = some c → ∃ v, vs[i]? = some v ∧ Cmp ρ z n c.1 c.2 v
  | [], _, i, c, _, h => by simp at h
  | d :: cs, _, 0, c, ⟨v, w, e, h1, h2⟩, h => by
    simp at h; subst h; exact ⟨v, by simp [e], h1⟩
  | d :: cs, _, i + 1, c, ⟨v, w, e, h1, h2⟩, h => by
    obtain ⟨u, h3, h4⟩ := Cmps.get h2 (by simpa using h)
    exact ⟨u, by simpa [e] using h3, h4⟩

theorem bnds_at (hf : FrAt ρ z n fr l) (hg : GlAt G z) (x : Option Operand) : BndAt ρ z n (x.map (opd G fr)) (x.map (Fr l).eval) := by
  cases x with
  | none => trivial
  | some x => exact opd_at hf hg x

theorem parts_at (hf : FrAt ρ z n fr l) (hg : GlAt G z) : ∀ (ps : List (Nat × Operand)), PartsAt ρ z n (ps.map fun p => (p.1, opd G fr p.2)) (ps.map fun p => (p.1, (Fr l).eval p.2))
  | [] => rfl
  | p :: ps => ⟨_, _, rfl, opd_at hf hg p.2, parts_at hf hg ps⟩

/-- What a look gives: whatever the world, as long as what is known stands. -/
def Looks (P : Program) (X : List Atom) (Z : Nat → Prop) (ρ : Nat → HI) (z : Zn) (n : Nat) (s : Sem Next) (K : AV → Option R) (r : R) : Prop :=
  ∃ av v, K av = some r ∧ av.at ρ z n v ∧ ∀ w, Fx X Z z w → s.run P w = .ok (.value v) w

theorem Look.up {s : Sem Value} {s' : Sem Next} {K : AV → Option R} {r : R} (h : Look P X Z ρ z n s K r) (hs : ∀ w v, s.run P w = .ok v w → s'.run P w = .ok (.value v) w) : Looks P X Z ρ z n s' K r :=
  let ⟨av, v, h1, h2, h3⟩ := h; ⟨av, v, h1, h2, fun w hw => hs w v (h3 w hw)⟩

theorem xblt_look (hm : MemAt ρ z n mem X) {b : Builtin} {ts : Array TypeId} {ty : TypeId} {cs : Array Bool} {xs : List AV} {vs : Array Value} {K : AV → Option R} {r : R} (h : xblt P mem b ts.toList xs K = some r)
    (hlen : xs.length = vs.size) (hx : ∀ (i : Nat) (x : AV) (v : Value), xs[i]? = some x → vs[i]? = some v → x.at ρ z n v) : Looks P X Z ρ z n (builtin b ts ty cs vs) K r := by
  unfold xblt at h
  split at h
  · rename_i t x hts
    obtain ⟨ts⟩ := ts
    obtain ⟨vs⟩ := vs
    simp only at hts
    subst hts
    match vs, hlen with
    | [v], _ =>
      have := xlen_look (X := X) (Z := Z) (ts := #[]) (ty := ty) hm h (hx 0 x v rfl rfl)
      exact this.up fun w v hv => by simp [builtin, hv]
  · rename_i x y
    split at h
    · rename_i k a k' c ha hc
      obtain ⟨vs⟩ := vs
      match vs, hlen with
      | [v, u], _ =>
        have e1 := asInt_at ha (hx 0 _ v rfl rfl)
        have e2 := asInt_at hc (hx 1 _ u rfl rfl)
        subst e1; subst e2
        exact ⟨_, _, h, int_at, fun w _ => by simp [builtin, Builtin.max_, Builtin.max2]⟩
    · cases h
  · rename_i x y
    split at h
    · rename_i k a k' c ha hc
      obtain ⟨vs⟩ := vs
      match vs, hlen with
      | [v, u], _ =>
        have e1 := asInt_at ha (hx 0 _ v rfl rfl)
        have e2 := asInt_at hc (hx 1 _ u rfl rfl)
        subst e1; subst e2
        exact ⟨_, _, h, int_at, fun w _ => by simp [builtin, Builtin.min_, Builtin.min2]⟩
    · cases h
  · cases h

theorem xlook_sound {o : Oper} {K : AV → Option R} {r : R} (h : xlook P G o st K = some r) (hf : FrAt ρ z n st.fr l) (hm : MemAt ρ z n st.mem X) (hg : GlAt G z) {w0 : World} (hw0 : Fx X Z z w0) :
    Looks P X Z ρ z n (execOp (Fr l).eval o) K r := by
  have E := fun x => opd_at hf hg x
  unfold xlook at h
  split at h
  · rename_i x ho
    exact ⟨_, _, h, E x, fun w _ => by simp [execOp, ho]⟩
  · rename_i x ho
    exact ⟨_, _, h, E x, fun w _ => by simp [execOp, ho]⟩
  · rename_i c a b ho
    split at h
    · rename_i t ht
      have hc := asBool_at ht (E c)
      split at h
      · rename_i htt
        exact ⟨_, _, h, E a, fun w _ => by simp [execOp, ho, hc, asBool, htt]⟩
      · rename_i htt
        exact ⟨_, _, h, E b, fun w _ => by simp [execOp, ho, hc, asBool, htt]⟩
    · cases h
  · rename_i u t x ho
    exact (xun_look h (E x)).up fun w v hv => by simp [execOp, ho, hv]
  · rename_i b t x y t' ho
    split at h
    · rename_i a ms hn hlf ht
      obtain rfl := nilC_spec hn
      obtain ⟨v0, e0, hv0⟩ : ∃ v, [(Fr l).eval x] = [v] ∧ IfcIs a v := asLeaf_at hlf (E x)
      injection e0 with e0
      have key : ∀ w, (do eqGuard b t x (.const .nilIface) ((Fr l).eval x) .nilIface; binOp b t ((Fr l).eval x) .nilIface : Sem Value).run P w = (binOp b t ((Fr l).eval x) .nilIface).run P w := fun w => by
        rw [e0]
        cases a with
        | false => rw [show v0 = .nilIface from hv0]; cases b <;> simp [eqGuard]
        | true => obtain ⟨tt, pp, e⟩ := hv0; rw [e]; cases b <;> simp [eqGuard]
      have heq : ∀ w, (Op.equal t ((Fr l).eval x) .nilIface).run P w = .ok (!a) w := fun w => by
        rw [e0]
        unfold Op.equal Op.maxDepth Op.equalIn
        cases a with
        | false => rw [show v0 = .nilIface from hv0]; simp [run_underlying ht]
        | true => obtain ⟨tt, pp, e⟩ := hv0; rw [e]; simp [run_underlying ht]
      unfold eqK at h
      split at h
      · refine ⟨_, _, h, bool_at, fun w _ => ?_⟩
        have := key w
        unfold execOp
        simp only [ho, Sem.run_bind] at this ⊢
        rw [show (Fr l).eval (.const .nilIface) = .nilIface from rfl, this]
        simp [binOp, heq]
      · refine ⟨_, _, h, bool_at, fun w _ => ?_⟩
        have := key w
        unfold execOp
        simp only [ho, Sem.run_bind] at this ⊢
        rw [show (Fr l).eval (.const .nilIface) = .nilIface from rfl, this]
        simp [binOp, heq]
      · cases h
    · exact (xbin_look hm (xo := x) (yo := y) h (E x) (E y)).up fun w v hv => by
        unfold execOp
        simp only [ho, Sem.run_bind] at hv ⊢
        rw [hv]; simp
  · rename_i s d x ho
    split at h
    · rename_i e hs hd
      exact (xbstr_look hm hs hd h (E x)).up fun w v hv => by simp [execOp, ho, hv]
    · exact (xconv_look h (E x)).up fun w v hv => by simp [execOp, ho, hv]
  · rename_i t i ho
    split at h
    · rename_i cs hcs
      split at h
      · rename_i c hc
        have ht := E t
        rw [hcs] at ht
        obtain ⟨vs, h1, h2⟩ := ht
        obtain ⟨v, h3, h4⟩ := h1.get hc
        exact ⟨_, v, h, h4, fun w _ => by simp [execOp, ho, h2, Instr.extract, h3]⟩
      · cases h
    · cases h
  · rename_i x ho
    split at h
    · rename_i lf hlf
      unfold xnc at h
      split at h
      · rename_i y
        obtain ⟨i, hy, h⟩ := bind_ex h
        have hy : y = some i := hy
        subst hy
        obtain ⟨p, e, hi, rfl⟩ := (asLeaf_at hlf (E x) : ∃ p, _ = [Value.pointer p] ∧ (i < z.nn ∧ p = some ⟨(z.tb i).blk, 0, none⟩))
        injection e with e
        exact ⟨_, _, h, Cmp.one ⟨hi, rfl⟩, fun w _ => by simp [execOp, ho, e]⟩
      · rename_i t y
        obtain ⟨i, hy, h⟩ := bind_ex h
        have hy : y = some i := hy
        subst hy
        obtain ⟨p, e, hp⟩ := (asLeaf_at hlf (E x) : ∃ p, _ = [Value.pointer p] ∧ _)
        injection e with e
        rcases hp with ⟨hx, _⟩ | ⟨i', a, c, hx, rfl, h1, h2⟩
        · cases hx
        · injection hx with hx; subst hx
          exact ⟨_, _, h, Cmp.one ⟨a, c, h1, h2, by rw [Addr.add_zero']⟩, fun w _ => by simp [execOp, ho, e]⟩
      · split at h
        · rename_i hn
          have h1 := asLeaf_at hlf (E x)
          obtain ⟨p, h2, h3⟩ := isNil_at hn h1
          cases p with
          | none => cases h3
          | some a => exact ⟨_, _, h, Cmp.one h1, fun w _ => by simp [execOp, ho, h2]⟩
        · cases h
    · cases h
  · rename_i s x f ho
    split at h
    · rename_i lf hlf
      exact (xfa_look h (asLeaf_at hlf (E x))).up fun w v hv => by simp [execOp, ho, hv]
    · cases h
  · rename_i s x f ho
    split at h
    · rename_i ls hls
      obtain ⟨cs, h1, h2⟩ := asAgg_at hls (E x)
      exact (xfield_look h h1).up fun w v hv => by simp [execOp, ho, h2, hv]
    · cases h
  · rename_i t x i ho
    split at h
    · rename_i lf j hlf hj
      obtain ⟨k, j⟩ := j
      have hi := asInt_at hj (E i)
      exact (xia_look hm (fun _ _ _ hp hpos => (row_nonnil hm hw0 hp).2 hpos) (fun _ _ _ _ hp i hi hl hn => ar_nonnil hm hw0 hp hi hl hn) (k := k) h (asLeaf_at hlf (E x))).up fun w v hv => by simp [execOp, ho, hi, hv]
    · cases h
  · rename_i t x i ho
    split at h
    · rename_i j hj
      obtain ⟨k, j⟩ := j
      have hi := asInt_at hj (E i)
      exact (xindex_look (k := k) h (E x)).up fun w v hv => by simp [execOp, ho, hi, hv]
    · cases h
  · rename_i t a ho
    split at h
    · rename_i lf hlf
      obtain ⟨av, u, h1, h2, h3⟩ := xload_look (Z := Z) hm h (asLeaf_at hlf (E a))
      exact ⟨av, u, h1, h2, fun w hw => by simp [execOp, ho, h3 w hw]⟩
    · cases h
  · rename_i t x lo hi ho
    exact (xslice_look hm (fun _ _ _ hp => (row_nonnil hm hw0 hp).1) h (E x) (bnds_at hf hg lo) (bnds_at hf hg hi)).up fun w v hv => by
      unfold execOp
      simp only [ho, Sem.run_bind, Option.map_none]
      rw [hv]; simp
  · rename_i arr x ho
    split at h
    · rename_i lf hlf
      exact (xs2a_look hm (fun _ _ _ hp hpos => (row_nonnil hm hw0 hp).2 hpos) h (asLeaf_at hlf (E x))).up fun w v hv => by simp [execOp, ho, hv]
    · cases h
  · rename_i f fs caps ho
    split at h
    · rename_i cs hfs hcs
      have hc : CapsAt ρ n cs (caps.toList.map (Fr l).eval) := capsOf_at (z := z) hcs (by simp) fun i av v hi hv => by
        rw [List.getElem?_map] at hi hv
        obtain ⟨x, h1, rfl⟩ := Option.map_eq_some_iff.1 hi
        obtain ⟨y, h2, rfl⟩ := Option.map_eq_some_iff.1 hv
        rw [h1] at h2; injection h2 with h2; subst h2
        exact E x
      refine ⟨_, .func (.func f) #[] (caps.map (Fr l).eval), h, Cmp.one ⟨_, hc, by rw [show caps.map (Fr l).eval = (caps.toList.map (Fr l).eval).toArray from Array.toList_inj.1 (by simp)]⟩, fun w _ => ?_⟩
      have hf0 : fs = #[] := Array.toList_inj.1 hfs
      subst hf0
      simp [execOp, ho, Instr.makeFunc]
    · cases h
  · rename_i t x i ok ho
    exact (xlookup_look hm h (E x) (E i)).up fun w v hv => by simp [execOp, ho, hv]
  · rename_i t ps ho
    have := xbuild_look (X := X) (Z := Z) (vs := ps.map fun (i, x) => (i, (Fr l).eval x)) h (by
      have := parts_at hf hg ps.toList
      simpa using this)
    exact this.up fun w v hv => by
      unfold execOp
      simp only [ho, Sem.run_bind]
      rw [hv]; simp
  · rename_i c ho
    split at h
    · rename_i b hb
      have := xblt_look (Z := Z) (ts := c.argTypes) (ty := o.type) (cs := c.args.map fun | .const _ => true | _ => false) (vs := c.args.map (Fr l).eval) hm h (by simp) (fun i x v hx hv => by
        simp only [List.getElem?_map, Option.map_eq_some_iff, Array.getElem?_map, Array.getElem?_toList] at hx hv
        obtain ⟨a, h1, rfl⟩ := hx
        obtain ⟨b, h2, rfl⟩ := hv
        rw [h1] at h2; injection h2 with h2; subst h2
        exact E a)
      obtain ⟨av, v, h1, h2, h3⟩ := this
      refine ⟨av, v, h1, h2, fun w hw => ?_⟩
      have := h3 w hw
      unfold execOp
      simp only [ho, resolve, hb, Sem.run_bind, Sem.run_pure, Result.andThen_ok, invoke]
      exact this
    · cases h
  · cases h
end
end Go.Lift
