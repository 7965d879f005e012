/- A skip list with its map: putting in, taking out, scores and ranks. -/
import Derived.Test.YtfhngejmfnahhaaZsE
namespace Go.Proofs.Ytfhngejmfnahhaa
open Go Go.Lift Go.Lib
set_option maxRecDepth 100000
set_option maxHeartbeats 4000000
set_option linter.unusedVariables false

/-! ### Maps as lists -/
abbrev Mp := List (List UInt8 × Int)
theorem mget_cons (k : List UInt8) (v : Int) (d : Mp) (m : List UInt8) : mget ((k, v) :: d) m = if (m == k) = true then some v else mget d m := rfl
theorem mput_cons (k : List UInt8) (v : Int) (d : Mp) (m : List UInt8) (s : Int) : mput ((k, v) :: d) m s = if (m == k) = true then (m, s) :: d else (k, v) :: mput d m s := rfl
theorem mdel_cons (k : List UInt8) (v : Int) (d : Mp) (m : List UInt8) : mdel ((k, v) :: d) m = if (m == k) = true then d else (k, v) :: mdel d m := rfl
theorem mget_iff {m : List UInt8} {s : Int} : ∀ {d : Mp}, (d.map Prod.fst).Nodup → (mget d m = some s ↔ (m, s) ∈ d)
  | [], _ => by simp [mget]
  | (k, v) :: d, h => by
    rw [List.map_cons] at h
    obtain ⟨h1, h2⟩ := List.nodup_cons.1 h
    rw [mget_cons]
    by_cases e : m = k
    · subst e
      rw [if_pos (by simp)]
      constructor
      · intro h; injection h with h; subst h; simp
      · intro h
        rcases List.mem_cons.1 h with h | h
        · injection h with _ h; rw [h]
        · exact absurd (List.mem_map.2 ⟨_, h, rfl⟩) h1
    · rw [if_neg (by simpa using e), mget_iff h2]
      constructor
      · intro h; exact List.mem_cons_of_mem _ h
      · intro h
        rcases List.mem_cons.1 h with h | h
        · injection h with h; exact absurd h e
        · exact h
theorem mput_spec {m : List UInt8} {s : Int} : ∀ {d : Mp}, (d.map Prod.fst).Nodup → ((mput d m s).map Prod.fst).Nodup ∧ (∀ m' s', (m', s') ∈ mput d m s ↔ (m' = m ∧ s' = s) ∨ (m' ≠ m ∧ (m', s') ∈ d)) ∧ (mput d m s).length = if (mget d m).isSome = true then d.length else d.length + 1
  | [], _ => by
    refine ⟨by simp [mput], fun m' s' => ?_, rfl⟩
    simp [mput]
  | (k, v) :: d, h => by
    rw [List.map_cons] at h
    obtain ⟨h1, h2⟩ := List.nodup_cons.1 h
    rw [mput_cons, mget_cons]
    by_cases e : m = k
    · subst e
      have hc : (m == m) = true := by simp
      rw [if_pos hc, if_pos hc]
      refine ⟨by rw [List.map_cons]; exact List.nodup_cons.2 ⟨h1, h2⟩, fun m' s' => ?_, by simp⟩
      constructor
      · intro h
        rcases List.mem_cons.1 h with h | h
        · injection h with h3 h4; exact .inl ⟨h3, h4⟩
        · exact .inr ⟨fun e => h1 (e ▸ List.mem_map.2 ⟨_, h, rfl⟩), List.mem_cons_of_mem _ h⟩
      · rintro (⟨rfl, rfl⟩ | ⟨h3, h⟩)
        · simp
        · rcases List.mem_cons.1 h with h | h
          · injection h with h; exact absurd h h3
          · exact List.mem_cons_of_mem _ h
    · have hc : ¬ (m == k) = true := by simpa using e
      rw [if_neg hc, if_neg hc]
      obtain ⟨i1, i2, i3⟩ := mput_spec (m := m) (s := s) h2
      refine ⟨?_, fun m' s' => ?_, ?_⟩
      · rw [List.map_cons]
        refine List.nodup_cons.2 ⟨fun hk => ?_, i1⟩
        obtain ⟨⟨k', v'⟩, h3, h4⟩ := List.mem_map.1 hk
        rcases (i2 k' v').1 h3 with ⟨h5, _⟩ | ⟨_, h5⟩
        · exact e (h5.symm.trans h4)
        · exact h1 (List.mem_map.2 ⟨_, h5, h4⟩)
      · rw [List.mem_cons, i2, List.mem_cons]
        constructor
        · rintro (h | h | h)
          · injection h with h3 h4; subst h3; exact .inr ⟨Ne.symm e, .inl (by rw [h4])⟩
          · exact .inl h
          · exact .inr ⟨h.1, .inr h.2⟩
        · rintro (h | ⟨h, h3 | h3⟩)
          · exact .inr (.inl h)
          · exact .inl h3
          · exact .inr (.inr ⟨h, h3⟩)
      · rw [List.length_cons, i3, List.length_cons]
        by_cases hc : (mget d m).isSome = true
        · rw [if_pos hc, if_pos hc]
        · rw [if_neg hc, if_neg hc]
theorem mdel_spec {m : List UInt8} : ∀ {d : Mp}, (d.map Prod.fst).Nodup → ((mdel d m).map Prod.fst).Nodup ∧ (∀ m' s', (m', s') ∈ mdel d m ↔ (m' ≠ m ∧ (m', s') ∈ d)) ∧ ((mget d m).isSome = true → (mdel d m).length + 1 = d.length)
  | [], _ => by
    refine ⟨by simp [mdel], fun m' s' => ?_, fun h => by cases h⟩
    simp [mdel]
  | (k, v) :: d, h => by
    rw [List.map_cons] at h
    obtain ⟨h1, h2⟩ := List.nodup_cons.1 h
    rw [mdel_cons, mget_cons]
    by_cases e : m = k
    · subst e
      have hc : (m == m) = true := by simp
      rw [if_pos hc, if_pos hc]
      refine ⟨h2, fun m' s' => ?_, fun _ => by simp⟩
      constructor
      · intro h9; exact ⟨fun e => h1 (e ▸ List.mem_map.2 ⟨_, h9, rfl⟩), List.mem_cons_of_mem _ h9⟩
      · rintro ⟨h3, h⟩
        rcases List.mem_cons.1 h with h | h
        · injection h with h; exact absurd h h3
        · exact h
    · have hc : ¬ (m == k) = true := by simpa using e
      rw [if_neg hc, if_neg hc]
      obtain ⟨i1, i2, i3⟩ := mdel_spec (m := m) h2
      refine ⟨?_, fun m' s' => ?_, fun h => ?_⟩
      · rw [List.map_cons]
        refine List.nodup_cons.2 ⟨fun hk => ?_, i1⟩
        obtain ⟨⟨k', v'⟩, h3, h4⟩ := List.mem_map.1 hk
        exact h1 (List.mem_map.2 ⟨_, ((i2 k' v').1 h3).2, h4⟩)
      · rw [List.mem_cons, i2, List.mem_cons]
        constructor
        · rintro (h | h)
          · injection h with h3 h4; subst h3; exact ⟨Ne.symm e, .inl (by rw [h4])⟩
          · exact ⟨h.1, .inr h.2⟩
        · rintro ⟨h, h3 | h3⟩
          · exact .inl h3
          · exact .inr ⟨h, h3⟩
      · rw [List.length_cons, i3 h]; rfl

theorem filter_one {p : Sc → Bool} {x : Sc} : ∀ {L : List Sc}, L.Nodup → x ∈ L → (∀ y ∈ L, p y = false ↔ y = x) → (L.filter p).length + 1 = L.length
  | [], _, h, _ => by cases h
  | z :: L, hn, h, hp => by
    obtain ⟨h1, h2⟩ := List.nodup_cons.1 hn
    rw [List.filter_cons]
    by_cases e : z = x
    · subst e
      rw [if_neg (by rw [(hp z (by simp)).2 rfl]; decide), List.filter_eq_self.2 fun y hy => ?_, List.length_cons]
      cases hy' : p y with
      | true => rfl
      | false => rw [(hp y (by simp [hy])).1 hy'] at hy; exact absurd hy h1
    · have hz : p z = true := by
        cases hz : p z with
        | true => rfl
        | false => exact absurd ((hp z (by simp)).1 hz) e
      rw [if_pos hz, List.length_cons, filter_one h2 ((List.mem_cons.1 h).resolve_left fun h0 => e h0.symm) fun y hy => hp y (by simp [hy]), List.length_cons]
/-- The map says what the list says. -/
structure DOk (d : Mp) (L : List Sc) : Prop where
  nd : (d.map Prod.fst).Nodup
  len : d.length = L.length
  mem : ∀ m s, (m, s) ∈ d ↔ (m, s, ()) ∈ L
theorem DOk.uniq {d : Mp} {L : List Sc} (D : DOk d L) {x y : Sc} (hx : x ∈ L) (hy : y ∈ L) (e : x.1 = y.1) : x = y := by
  obtain ⟨m, s, ⟨⟩⟩ := x
  obtain ⟨m', s', ⟨⟩⟩ := y
  have e : m = m' := e
  subst e
  have h1 := (mget_iff D.nd).2 ((D.mem m s).2 hx)
  have h2 := (mget_iff D.nd).2 ((D.mem m s').2 hy)
  rw [h1] at h2
  injection h2 with h2
  rw [h2]
def has14 (L : List Sc) (m : List UInt8) : Bool := L.any fun x => x.1 == m
theorem DOk.has {d : Mp} {L : List Sc} (D : DOk d L) (m : List UInt8) : (mget d m).isSome = has14 L m := by
  unfold has14
  cases h : mget d m with
  | some s =>
    have := (D.mem m s).1 ((mget_iff D.nd).1 h)
    symm; show _ = true
    exact List.any_eq_true.2 ⟨_, this, by simp⟩
  | none =>
    symm; show _ = false
    rw [List.any_eq_false]
    rintro ⟨m', s, ⟨⟩⟩ hx e
    have e : m' = m := by simpa using e
    subst e
    rw [(mget_iff D.nd).2 ((D.mem m' s).2 hx)] at h; cases h
def sc14 (L : List Sc) (m : List UInt8) : Option Int := (L.find? fun x => x.1 == m).map fun x => x.2.1
theorem DOk.get {d : Mp} {L : List Sc} (D : DOk d L) (m : List UInt8) : mget d m = sc14 L m := by
  unfold sc14
  cases h : L.find? (fun x => x.1 == m) with
  | some x =>
    obtain ⟨m', s, ⟨⟩⟩ := x
    have h1 := List.find?_some h
    have h2 := List.mem_of_find?_eq_some h
    have e : m' = m := by simpa using h1
    subst e
    exact (mget_iff D.nd).2 ((D.mem m' s).2 h2)
  | none =>
    have := D.has m
    have h0 : has14 L m = false := by
      unfold has14
      rw [List.any_eq_false]
      exact fun x hx => by simpa using List.find?_eq_none.1 h x hx
    rw [h0] at this
    cases h2 : mget d m with
    | none => rfl
    | some s => rw [h2] at this; cases this

def drop14 (L : List Sc) (m : List UInt8) : List Sc := L.filter fun x => x.1 != m
def ins14 (L : List Sc) (x : Sc) : List Sc := L.filter (fun y => less14 y x) ++ x :: L.filter fun y => !less14 y x
def put14 (L : List Sc) (m : List UInt8) (s : Int) : List Sc := ins14 (drop14 L m) (m, s, ())

theorem DOk.put {d : Mp} {L : List Sc} (D : DOk d L) (hs : L.Nodup) (m : List UInt8) (s : Int) : DOk (mput d m s) (put14 L m s) := by
  obtain ⟨h1, h2, h3⟩ := mput_spec (m := m) (s := s) D.nd
  refine ⟨h1, ?_, fun m' s' => ?_⟩
  · rw [h3, D.has]
    have hl : (put14 L m s).length = (drop14 L m).length + 1 := by
      unfold put14 ins14
      rw [List.length_append, List.length_cons]
      have := List.length_eq_countP_add_countP (p := fun y => less14 y (m, s, ())) (l := drop14 L m)
      rw [List.countP_eq_length_filter, List.countP_eq_length_filter] at this
      have e : (fun a => decide ¬(less14 a (m, s, ())) = true) = fun y => !less14 y (m, s, ()) := by
        funext y; cases less14 y (m, s, ()) <;> rfl
      rw [e] at this
      omega
    rw [hl]
    cases hh : has14 L m with
    | false =>
      rw [if_neg (by decide), D.len]
      congr 1
      unfold drop14
      rw [List.filter_eq_self.2]
      intro x hx
      unfold has14 at hh
      have := List.any_eq_false.1 hh x hx
      simpa using this
    | true =>
      rw [if_pos rfl]
      unfold has14 at hh
      obtain ⟨x, hx, hxm⟩ := List.any_eq_true.1 hh
      have hxm : x.1 = m := by simpa using hxm
      have : (drop14 L m).length + 1 = L.length := filter_one hs hx fun y hy => by
        constructor
        · intro h
          exact D.uniq hy hx ((by simpa using h : y.1 = m).trans hxm.symm)
        · rintro rfl; simpa using hxm
      rw [D.len, ← this]
  · rw [h2]
    have hmem : (m', s', ()) ∈ put14 L m s ↔ (m' = m ∧ s' = s) ∨ (m' ≠ m ∧ (m', s', ()) ∈ L) := by
      unfold put14 ins14 drop14
      simp only [List.mem_append, List.mem_cons, List.mem_filter, bne_iff_ne, ne_eq, Prod.mk.injEq, and_true]
      constructor
      · rintro (⟨⟨h, h4⟩, _⟩ | h | ⟨⟨h, h4⟩, _⟩)
        · exact .inr ⟨h4, h⟩
        · exact .inl h
        · exact .inr ⟨h4, h⟩
      · rintro (h | ⟨h, h4⟩)
        · exact .inr (.inl h)
        · cases hl : less14 (m', s', ()) (m, s, ()) with
          | true => exact .inl ⟨⟨h4, h⟩, rfl⟩
          | false => exact .inr (.inr ⟨⟨h4, h⟩, rfl⟩)
    rw [hmem, D.mem]
theorem DOk.del {d : Mp} {L : List Sc} (D : DOk d L) (hs : L.Nodup) {m : List UInt8} (h : has14 L m = true) : DOk (mdel d m) (drop14 L m) := by
  obtain ⟨h1, h2, h3⟩ := mdel_spec (m := m) D.nd
  refine ⟨h1, ?_, fun m' s' => ?_⟩
  · have h4 := h3 (by rw [D.has]; exact h)
    unfold has14 at h
    obtain ⟨x, hx, hxm⟩ := List.any_eq_true.1 h
    have hxm : x.1 = m := by simpa using hxm
    have : (drop14 L m).length + 1 = L.length := filter_one hs hx fun y hy => by
      constructor
      · intro h
        exact D.uniq hy hx ((by simpa using h : y.1 = m).trans hxm.symm)
      · rintro rfl; simpa using hxm
    have := D.len
    omega
  · rw [h2, D.mem]
    unfold drop14
    simp only [List.mem_filter, bne_iff_ne, ne_eq]
    exact ⟨fun h => ⟨h.2, h.1⟩, fun h => ⟨h.2, h.1⟩⟩

/-! ### A node in, a node out -/
def Same14 (a b : AR) (p : Nat) : Prop := key b p = key a p ∧ ht b p = ht a p ∧ ∀ k, lnk b p k = lnk a p k
theorem Same14.refl (a : AR) (p : Nat) : Same14 a a p := ⟨rfl, rfl, fun _ => rfl⟩
theorem Same14.trans {a b c : AR} {p : Nat} (h : Same14 a b p) (h' : Same14 b c p) : Same14 a c p := ⟨h'.1.trans h.1, h'.2.1.trans h.2.1, fun k => (h'.2.2 k).trans (h.2.2 k)⟩
theorem Set14.same {a b : AR} {h : Nat} {ns : List Nat} (S : Set14 a h ns) (hs : ∀ p ∈ h :: ns, Same14 a b p) : Set14 b h ns ∧ ns.map (key b) = ns.map (key a) := by
  have hk : ns.map (key b) = ns.map (key a) := List.map_congr_left fun p hp => (hs p (List.mem_cons_of_mem _ hp)).1
  refine ⟨⟨S.ok.congr (fun p hp => (hs p hp).2.1) fun p hp k _ => (hs p hp).2.2 k, by rw [(hs h (by simp)).2.1]; exact S.hh, fun p hp => by rw [(hs p (List.mem_cons_of_mem _ hp)).2.1]; exact S.hs p hp, S.nd, ?_⟩, hk⟩
  exact S.srt.imp_of_mem fun {p q} hp hq h => by rw [(hs p (List.mem_cons_of_mem _ hp)).1, (hs q (List.mem_cons_of_mem _ hq)).1]; exact h
theorem Set14.srt' {a : AR} {h : Nat} {ns : List Nat} (S : Set14 a h ns) : (ns.map (key a)).Pairwise fun x y => less14 x y = true := by rw [List.pairwise_map]; exact S.srt
theorem srt_nodup {L : List Sc} (h : L.Pairwise fun x y => less14 x y = true) : L.Nodup := h.imp fun {x y} h e => by subst e; rw [less_irr] at h; cases h
theorem part_filter {a : AR} {s : Sc} {A B : List Nat} (hA : ∀ p ∈ A, less14 (key a p) s = true) (hB : ∀ p ∈ B, less14 (key a p) s = false) :
    ((A ++ B).map (key a)).filter (fun y => less14 y s) = A.map (key a) ∧ ((A ++ B).map (key a)).filter (fun y => !less14 y s) = B.map (key a) := by
  have a1 : (A.map (key a)).filter (fun y => less14 y s) = A.map (key a) := List.filter_eq_self.2 fun y hy => by
    obtain ⟨p, hp, rfl⟩ := List.mem_map.1 hy; exact hA p hp
  have b1 : (B.map (key a)).filter (fun y => less14 y s) = [] := List.filter_eq_nil_iff.2 fun y hy => by
    obtain ⟨p, hp, rfl⟩ := List.mem_map.1 hy; rw [hB p hp]; decide
  have a2 : (A.map (key a)).filter (fun y => !less14 y s) = [] := List.filter_eq_nil_iff.2 fun y hy => by
    obtain ⟨p, hp, rfl⟩ := List.mem_map.1 hy; rw [hA p hp]; decide
  have b2 : (B.map (key a)).filter (fun y => !less14 y s) = B.map (key a) := List.filter_eq_self.2 fun y hy => by
    obtain ⟨p, hp, rfl⟩ := List.mem_map.1 hy; rw [hB p hp]; rfl
  rw [List.map_append, List.filter_append, List.filter_append, a1, b1, a2, b2]
  simp

theorem insert_set {a : AR} {h : Nat} {ns : List Nat} {m : List UInt8} {s : Int} (S : Set14 a h ns) (hlen : ns.length ≤ 80000) (hm : m.length ≤ 140737488355328) (hne : ∀ p ∈ ns, (key a p).1 ≠ m) (d : Mp) :
    ∃ b ns', zset_Set_insert_M m s (some h) d a = some (some h, d, b) ∧ Set14 b h ns' ∧ ns'.map (key b) = ins14 (ns.map (key a)) (m, s, ()) ∧ a.length ≤ b.length ∧ (∀ p ∈ ns', p ∈ ns ∨ a.length ≤ p) ∧ ∀ p, p < a.length → p ∉ h :: ns → Same14 a b p := by
  obtain ⟨A, B, rfl, hA, hB⟩ := part14 (a := a) (m, s, ()) S.srt
  have hl : A.length + B.length ≤ 80000 := by simpa using hlen
  have hlt := S.lt
  obtain ⟨b, n, e, n1, n12, b1, b2, b3, b4, b5, b6⟩ := insert_is (m := m) (s := s) (by simpa using S.ok) S.hh (by simpa using hlt) (by simpa using S.nd) hA hB (by omega) hm (by simpa using S.hs) d
  have old : ∀ p ∈ h :: (A ++ B), key b p = key a p ∧ ht b p = ht a p := fun p hp => b5 p (hlt p hp)
  refine ⟨b, A ++ a.length :: B, e, ⟨by simpa using b2, by rw [(old h (by simp)).2]; exact S.hh, ?_, ?_, ?_⟩, ?_, by omega, ?_, fun p hp hn => ⟨(b5 p hp).1, (b5 p hp).2, b6 p hp fun h0 => hn (by
    rcases List.mem_cons.1 h0 with rfl | h0
    · simp
    · simp [h0])⟩⟩
  · intro p hp
    rcases List.mem_append.1 hp with hp | hp
    · rw [(old p (by simp [hp])).2]; exact S.hs p (by simp [hp])
    · rcases List.mem_cons.1 hp with rfl | hp
      · rw [b4]; exact ⟨n1, n12⟩
      · rw [(old p (by simp [hp])).2]; exact S.hs p (by simp [hp])
  · have hnd := S.nd
    have : (a.length :: (h :: (A ++ B))).Nodup := List.nodup_cons.2 ⟨fun h0 => by have := hlt _ h0; omega, hnd⟩
    have hp : List.Perm (h :: (A ++ a.length :: B)) (a.length :: (h :: (A ++ B))) := by
      refine (List.Perm.cons h List.perm_middle).trans (List.Perm.swap _ _ _)
    exact hp.nodup_iff.2 this
  · have h1 := List.pairwise_append.1 S.srt
    have kA : ∀ p ∈ A, key b p = key a p := fun p hp => (old p (by simp [hp])).1
    have kB : ∀ p ∈ B, key b p = key a p := fun p hp => (old p (by simp [hp])).1
    refine List.pairwise_append.2 ⟨h1.1.imp_of_mem fun {p q} hp hq h => by rw [kA p hp, kA q hq]; exact h, List.pairwise_cons.2 ⟨fun q hq => ?_, h1.2.1.imp_of_mem fun {p q} hp hq h => by rw [kB p hp, kB q hq]; exact h⟩, fun p hp q hq => ?_⟩
    · rw [b3, kB q hq]
      rcases less_total (m, s, ()) (key a q) with h2 | h2 | h2
      · exact h2
      · exact absurd (congrArg Prod.fst h2).symm (hne q (by simp [hq]))
      · rw [hB q hq] at h2; cases h2
    · rcases List.mem_cons.1 hq with rfl | hq
      · rw [b3, kA p hp]; exact hA p hp
      · rw [kA p hp, kB q hq]; exact h1.2.2 p hp q hq
  · unfold ins14
    rw [(part_filter hA hB).1, (part_filter hA hB).2, List.map_append, List.map_cons, b3]
    rw [List.map_congr_left fun p hp => (old p (by simp [hp])).1, List.map_congr_left (l := B) fun p hp => (old p (by simp [hp])).1]
  · intro p hp
    rcases List.mem_append.1 hp with hp | hp
    · exact .inl (by simp [hp])
    · rcases List.mem_cons.1 hp with rfl | hp
      · exact .inr (Nat.le_refl _)
      · exact .inl (by simp [hp])

theorem remove_set {a : AR} {h : Nat} {ns : List Nat} {m : List UInt8} {s : Int} (S : Set14 a h ns) (hlen : ns.length ≤ 80000) {d0 : Mp} (D : DOk d0 (ns.map (key a))) (hin : (m, s, ()) ∈ ns.map (key a)) (d : Mp) :
    ∃ b ns', zset_Set_remove_M m s (some h) d a = some (some h, d, b) ∧ Set14 b h ns' ∧ ns'.map (key b) = drop14 (ns.map (key a)) m ∧ b.length = a.length ∧ (∀ p ∈ ns', p ∈ ns) ∧ ∀ p, p ∉ h :: ns → Same14 a b p := by
  obtain ⟨A, B, rfl, hA, hB⟩ := part14 (a := a) (m, s, ()) S.srt
  have hl : A.length + B.length ≤ 80000 := by simpa using hlen
  obtain ⟨y, hy, hky⟩ := List.mem_map.1 hin
  have hyB : y ∈ B := by
    rcases List.mem_append.1 hy with h1 | h1
    · have := hA y h1; rw [hky, less_irr] at this; cases this
    · exact h1
  cases B with
  | nil => cases hyB
  | cons z B =>
    have hz : z = y := by
      rcases List.mem_cons.1 hyB with h1 | h1
      · exact h1.symm
      · have h2 := (List.pairwise_cons.1 (List.pairwise_append.1 S.srt).2.1).1 y h1
        rw [hky, hB z (by simp)] at h2; cases h2
    subst hz
    obtain ⟨b, e, b1, b2, b3, b4⟩ := remove_is (y := z) (m := m) (s := s) (by simpa using S.ok) S.hh (by simpa using S.nd) hA hB (by simp at hl; omega) (by simpa using S.hs) d
    refine ⟨b, A ++ B, e, ⟨by simpa using b2, by rw [(b3 h).2]; exact S.hh, ?_, ?_, ?_⟩, ?_, b1, ?_, fun p hn => ⟨(b3 p).1, (b3 p).2, b4 p fun h0 => hn (by
      rcases List.mem_cons.1 h0 with rfl | h0
      · simp
      · simp [h0])⟩⟩
    · intro p hp
      rw [(b3 p).2]
      exact S.hs p (by rcases List.mem_append.1 hp with hp | hp <;> simp [hp])
    · refine S.nd.sublist ?_
      exact List.Sublist.cons_cons _ (List.Sublist.append_left (List.sublist_cons_self _ _) _)
    · have := S.srt.sublist (List.Sublist.append_left (List.sublist_cons_self z B) A)
      exact this.imp fun {p q} h => by rw [(b3 p).1, (b3 q).1]; exact h
    · have hf : ∀ p ∈ A ++ B, (key a p).1 ≠ m := by
        intro p hp e0
        have hp2 : p ∈ A ++ z :: B := by rcases List.mem_append.1 hp with hp | hp <;> simp [hp]
        have h1 := D.uniq (List.mem_map.2 ⟨p, hp2, rfl⟩) hin e0
        have h2 : p = z := by
          rcases List.mem_append.1 hp with h3 | h3
          · have := hA p h3; rw [h1, less_irr] at this; cases this
          · have := (List.pairwise_cons.1 (List.pairwise_append.1 S.srt).2.1).1 p h3
            rw [hky, h1, less_irr] at this; cases this
        subst h2
        have hnd := (List.nodup_cons.1 S.nd).2
        rcases List.mem_append.1 hp with h3 | h3
        · exact (List.nodup_append.1 hnd).2.2 p h3 p (by simp) rfl
        · exact (List.nodup_cons.1 (List.nodup_append.1 hnd).2.1).1 h3
      have hk : (A ++ B).map (key b) = (A ++ B).map (key a) := List.map_congr_left fun p _ => (b3 p).1
      rw [hk]
      unfold drop14
      rw [List.map_append, List.map_append, List.map_cons, List.filter_append, List.filter_cons, hky, if_neg (by simp)]
      rw [List.filter_eq_self.2, List.filter_eq_self.2]
      · intro y hy
        obtain ⟨p, hp, rfl⟩ := List.mem_map.1 hy
        simpa using hf p (by simp [hp])
      · intro y hy
        obtain ⟨p, hp, rfl⟩ := List.mem_map.1 hy
        simpa using hf p (by simp [hp])
    · intro p hp
      rcases List.mem_append.1 hp with hp | hp <;> simp [hp]

/-! ### The calls -/
/-- A set, with its map, and what it holds. -/
structure Full14 (a : AR) (h : Nat) (ns : List Nat) (d : Mp) (L : List Sc) : Prop where
  set : Set14 a h ns
  map : ns.map (key a) = L
  dk : DOk d L
theorem Full14.len {a : AR} {h : Nat} {ns : List Nat} {d : Mp} {L : List Sc} (F : Full14 a h ns d L) : d.length = ns.length := by rw [F.dk.len, ← F.map, List.length_map]
theorem Full14.lenL {a : AR} {h : Nat} {ns : List Nat} {d : Mp} {L : List Sc} (F : Full14 a h ns d L) : ns.length = L.length := by rw [← F.map, List.length_map]
theorem Full14.srt {a : AR} {h : Nat} {ns : List Nat} {d : Mp} {L : List Sc} (F : Full14 a h ns d L) : L.Pairwise fun x y => less14 x y = true := by rw [← F.map]; exact F.set.srt'

theorem New_is (a : AR) : ∃ b h, zset_New_M a = some (b, some h, []) ∧ h = a.length ∧ b.length = a.length + 1 ∧ Full14 b h [] [] [] ∧ ∀ p, p < a.length → Same14 a b p := by
  refine ⟨a ++ [(X0, List.replicate 12 Z0)], a.length, ?_, rfl, by simp, ⟨⟨?_, ?_, by simp, by simp, List.Pairwise.nil⟩, rfl, ⟨by simp, rfl, by simp⟩⟩, fun p hp => ⟨mk14_key hp, ?_, fun k => ?_⟩⟩
  · unfold zset_New_M
    rw [show mk2 16 (12 : Int) (12 : Int) = some 12 from rfl, Option.bind_some]; rfl
  · refine ⟨fun j hj => ?_, trivial⟩
    unfold lnk
    rw [show ndR (a ++ [(X0, List.replicate 12 Z0)]) a.length = List.replicate 12 Z0 from mk14_row' a _]
    show (List.replicate 12 Z0).getD j Z0 = Z0
    rw [List.getD_eq_getElem?_getD, List.getElem?_replicate]; split <;> rfl
  · unfold ht
    rw [show ndR (a ++ [(X0, List.replicate 12 Z0)]) a.length = List.replicate 12 Z0 from mk14_row' a _]; rfl
  · unfold ht; rw [show ndR (a ++ [(X0, List.replicate 12 Z0)]) p = ndR a p from mk14_row hp]
  · unfold lnk; rw [show ndR (a ++ [(X0, List.replicate 12 Z0)]) p = ndR a p from mk14_row hp]

theorem Put_is {a : AR} {h : Nat} {ns : List Nat} {d : Mp} {L : List Sc} (F : Full14 a h ns d L) (hlen : L.length ≤ 70000) {m : List UInt8} (hm : m.length ≤ 140737488355328) (s : Int) :
    ∃ b ns' d', zset_Set_Put_M m s (some h) d a = some (!has14 L m, some h, d', b) ∧ Full14 b h ns' d' (put14 L m s) ∧ a.length ≤ b.length ∧ (∀ p ∈ ns', p ∈ ns ∨ a.length ≤ p) ∧ ∀ p, p < a.length → p ∉ h :: ns → Same14 a b p := by
  unfold zset_Set_Put_M
  rw [show zset_Set_made_P (some h, d, a) = some (true, some h, d, a) from rfl, Option.bind_some]
  simp only
  rw [if_neg (by decide), F.dk.has]
  have hnsl := F.lenL
  have hD := F.dk.put (srt_nodup F.srt) m s
  cases hh : has14 L m with
  | true =>
    rw [if_pos rfl]
    have hg : ∃ was, mget d m = some was := by
      have := F.dk.has m; rw [hh] at this
      exact Option.isSome_iff_exists.1 this
    obtain ⟨was, hg⟩ := hg
    have hin : (m, was, ()) ∈ ns.map (key a) := by rw [F.map]; exact (F.dk.mem m was).1 ((mget_iff F.dk.nd).1 hg)
    obtain ⟨b, ns1, e1, S1, k1, l1, sub1, fr1⟩ := remove_set F.set (by omega) (by rw [F.map]; exact F.dk) hin d
    rw [hg]
    show ∃ b ns' d', Option.bind (zset_Set_remove_M m was (some h) d a) _ = _ ∧ _
    rw [e1, Option.bind_some]
    rw [F.map] at k1
    have hn1 : ns1.length ≤ 80000 := by
      have h1 : ns1.length = (drop14 L m).length := by rw [← k1, List.length_map]
      have h2 : (drop14 L m).length ≤ L.length := List.length_filter_le _ _
      omega
    obtain ⟨c, ns2, e2, S2, k2, l2, sub2, fr2⟩ := insert_set (m := m) (s := s) S1 hn1 hm (fun p hp e0 => by
      have : key b p ∈ drop14 L m := by rw [← k1]; exact List.mem_map.2 ⟨p, hp, rfl⟩
      unfold drop14 at this
      have := (List.mem_filter.1 this).2
      rw [e0] at this; simp at this) (mput d m s)
    show ∃ b' ns' d', Option.bind (zset_Set_insert_M m s (some h) (mput d m s) b) _ = _ ∧ _
    rw [e2, Option.bind_some]
    rw [k1] at k2
    refine ⟨c, ns2, mput d m s, rfl, ⟨S2, k2, hD⟩, by omega, fun p hp => ?_, fun p hp hn => ?_⟩
    · rcases sub2 p hp with h1 | h1
      · exact .inl (sub1 p h1)
      · exact .inr (by omega)
    · exact (fr1 p hn).trans (fr2 p (by omega) fun h0 => hn (by
        rcases List.mem_cons.1 h0 with rfl | h0
        · simp
        · simp [sub1 p h0]))
  | false =>
    rw [if_neg (by decide)]
    have hdrop : drop14 L m = L := by
      unfold drop14
      refine List.filter_eq_self.2 fun x hx => ?_
      unfold has14 at hh
      simpa using List.any_eq_false.1 hh x hx
    obtain ⟨c, ns2, e2, S2, k2, l2, sub2, fr2⟩ := insert_set (m := m) (s := s) F.set (by omega) hm (fun p hp e0 => by
      have : key a p ∈ L := by rw [← F.map]; exact List.mem_map.2 ⟨p, hp, rfl⟩
      unfold has14 at hh
      have := List.any_eq_false.1 hh _ this
      rw [e0] at this; simp at this) (mput d m s)
    show ∃ b' ns' d', Option.bind (zset_Set_insert_M m s (some h) (mput d m s) a) _ = _ ∧ _
    rw [e2, Option.bind_some]
    refine ⟨c, ns2, mput d m s, rfl, ⟨S2, by rw [k2, F.map]; unfold put14; rw [hdrop], hD⟩, l2, sub2, fr2⟩

theorem Score_is {a : AR} {h : Nat} {ns : List Nat} {d : Mp} {L : List Sc} (F : Full14 a h ns d L) (m : List UInt8) : zset_Set_Score_M m (some h) d a = some ((sc14 L m).getD 0, has14 L m, some h, d, a) := by
  unfold zset_Set_Score_M
  rw [show zset_Set_made_P (some h, d, a) = some (true, some h, d, a) from rfl, Option.bind_some]
  simp only
  rw [if_neg (by decide), F.dk.has, F.dk.get]

theorem Drop_is {a : AR} {h : Nat} {ns : List Nat} {d : Mp} {L : List Sc} (F : Full14 a h ns d L) (hlen : L.length ≤ 70000) (m : List UInt8) :
    ∃ b ns' d', zset_Set_Drop_M m (some h) d a = some (has14 L m, some h, d', b) ∧ Full14 b h ns' d' (drop14 L m) ∧ a.length ≤ b.length ∧ (∀ p ∈ ns', p ∈ ns ∨ a.length ≤ p) ∧ ∀ p, p < a.length → p ∉ h :: ns → Same14 a b p := by
  unfold zset_Set_Drop_M
  have hnsl := F.lenL
  rw [show zset_Set_Score_P (m, some h, d, a) = zset_Set_Score_M m (some h) d a from rfl, Score_is F, Option.bind_some]
  simp only
  cases hh : has14 L m with
  | true =>
    rw [if_pos rfl]
    have hg : ∃ was, mget d m = some was := by
      have := F.dk.has m; rw [hh] at this
      exact Option.isSome_iff_exists.1 this
    obtain ⟨was, hg⟩ := hg
    have hin : (m, was, ()) ∈ ns.map (key a) := by rw [F.map]; exact (F.dk.mem m was).1 ((mget_iff F.dk.nd).1 hg)
    obtain ⟨b, ns1, e1, S1, k1, l1, sub1, fr1⟩ := remove_set F.set (by omega) (by rw [F.map]; exact F.dk) hin d
    rw [← F.dk.get, hg]
    show ∃ b ns' d', Option.bind (zset_Set_remove_M m was (some h) d a) _ = _ ∧ _
    rw [e1, Option.bind_some]
    rw [F.map] at k1
    exact ⟨b, ns1, mdel d m, rfl, ⟨S1, k1, F.dk.del (srt_nodup F.srt) hh⟩, by omega, fun p hp => .inl (sub1 p hp), fun p _ hn => fr1 p hn⟩
  | false =>
    rw [if_neg (by decide)]
    have hdrop : drop14 L m = L := by
      unfold drop14
      refine List.filter_eq_self.2 fun x hx => ?_
      unfold has14 at hh
      simpa using List.any_eq_false.1 hh x hx
    exact ⟨a, ns, d, rfl, by rw [hdrop]; exact F, Nat.le_refl _, fun p hp => .inl hp, fun p _ _ => Same14.refl a p⟩

/-- A member's place. -/
def pos14 (L : List Sc) (m : List UInt8) : Nat := L.findIdx fun x => x.1 == m
theorem Rank_is {a : AR} {h : Nat} {ns : List Nat} {d : Mp} {L : List Sc} (F : Full14 a h ns d L) (hlen : L.length ≤ 70000) (m : List UInt8) :
    zset_Set_Rank_M m (some h) d a = some (if has14 L m = true then ((pos14 L m : Nat) : Int) else 0, has14 L m, some h, d, a) := by
  unfold zset_Set_Rank_M
  have hnsl := F.lenL
  rw [show zset_Set_Score_P (m, some h, d, a) = zset_Set_Score_M m (some h) d a from rfl, Score_is F, Option.bind_some]
  simp only
  cases hh : has14 L m with
  | false => rfl
  | true =>
    rw [if_neg (by decide), if_pos rfl]
    have hg : ∃ was, mget d m = some was := by
      have := F.dk.has m; rw [hh] at this
      exact Option.isSome_iff_exists.1 this
    obtain ⟨was, hg⟩ := hg
    have hin : (m, was, ()) ∈ ns.map (key a) := by rw [F.map]; exact (F.dk.mem m was).1 ((mget_iff F.dk.nd).1 hg)
    rw [← F.dk.get, hg]
    obtain ⟨A, B, rfl, hA, hB⟩ := part14 (a := a) (m, was, ()) F.set.srt
    have hl : A.length + B.length ≤ 80000 := by have := hnsl; simp at this; omega
    obtain ⟨w, r, hah, hway⟩ := ahead_is (m := m) (s := was) (by simpa using F.set.ok) F.set.hh hA hB (by omega) d
    show Option.bind (zset_Set_ahead_M m was (some h) d a) _ = _
    rw [hah, Option.bind_some, inb_ok' (by omega) (by omega), Option.bind_some]
    obtain ⟨P1, x, A2, hl2, h2, h3⟩ := hway 0 (by omega)
    have : A2 = [] := by
      cases A2 with
      | nil => rfl
      | cons y A2 =>
        have h7 := hl2.2.2 y (by simp)
        have h8 := (F.set.hs y (List.mem_append_left _ (tail_mem hl2.1 (by simp)))).1
        omega
    subst this
    have hP := tail_len hl2.1
    simp at hP
    simp only
    rw [show List.getD r.1 0 0 = (P1.length : Int) from h3, hP]
    have hpos : pos14 L m = A.length := by
      unfold pos14
      rw [← F.map, List.map_append]
      obtain ⟨y, hy, hky⟩ := List.mem_map.1 hin
      have hAm : ∀ x ∈ A.map (key a), ¬ ((x.1 == m) = true) := by
        intro x hx e0
        obtain ⟨p, hp, rfl⟩ := List.mem_map.1 hx
        have h1 := F.dk.uniq (x := key a p) (y := (m, was, ())) (by rw [← F.map]; exact List.mem_map.2 ⟨p, by simp [hp], rfl⟩) (by rw [← F.map]; exact hin) (by simpa using e0)
        have := hA p hp; rw [h1, less_irr] at this; cases this
      have hyB : y ∈ B := by
        rcases List.mem_append.1 hy with h1 | h1
        · have := hA y h1; rw [hky, less_irr] at this; cases this
        · exact h1
      cases B with
      | nil => cases hyB
      | cons z B =>
        have hz : z = y := by
          rcases List.mem_cons.1 hyB with h1 | h1
          · exact h1.symm
          · have h2 := (List.pairwise_cons.1 (List.pairwise_append.1 F.set.srt).2.1).1 y h1
            rw [hky, hB z (by simp)] at h2; cases h2
        subst hz
        rw [List.findIdx_append, List.map_cons, hky]
        have h5 : (A.map (key a)).findIdx (fun x => x.1 == m) = (A.map (key a)).length := List.findIdx_eq_length.2 fun x hx => by simpa using hAm x hx
        rw [h5, if_neg (Nat.lt_irrefl _), List.findIdx_cons]
        simp
    rw [hpos]
end Go.Proofs.Ytfhngejmfnahhaa
