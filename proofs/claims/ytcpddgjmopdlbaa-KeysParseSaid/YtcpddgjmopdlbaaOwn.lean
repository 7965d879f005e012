/- Who owns what: memory as a list of pieces that lie apart (X: the call's own; S: read by many, written by nobody), and what a step does to it. -/
import Derived.Test.YtcpddgjmopdlbaaBase
namespace Go.Lift
open Go

abbrev Hp := Nat → Option Obj
def look (w : World) : Hp := fun b => w.heap[b]?

open Classical in
/-- A memory cut down to some blocks. -/
noncomputable def cut (D : Nat → Prop) (h : Hp) : Hp := fun b => if D b then h b else none

theorem cut_some {D : Nat → Prop} {h : Hp} {b : Nat} {o : Obj} (e : cut D h b = some o) : D b ∧ h b = some o := by
  unfold cut at e
  split at e
  · exact ⟨by assumption, e⟩
  · cases e

theorem cut_pos {D : Nat → Prop} {h : Hp} {b : Nat} (hd : D b) : cut D h b = h b := by
  unfold cut; rw [if_pos hd]

theorem cut_congr {D : Nat → Prop} {h h' : Hp} (e : ∀ b, D b → h b = h' b) : cut D h = cut D h' := by
  funext b
  unfold cut
  split
  · exact e b (by assumption)
  · rfl

/-- A piece of memory: its blocks, and what is known of them. -/
structure Atom where
  dom : Nat → Prop
  ok : Hp → Prop

def Atom.at (A : Atom) (w : World) : Prop := A.ok (cut A.dom (look w))

def doms (L : List Atom) (b : Nat) : Prop := ∃ A ∈ L, A.dom b

theorem doms_nil (b : Nat) : ¬ doms [] b := by rintro ⟨A, h, _⟩; cases h
theorem doms_append {L M : List Atom} {b : Nat} : doms (L ++ M) b ↔ doms L b ∨ doms M b := by
  constructor
  · rintro ⟨A, h, d⟩
    rcases List.mem_append.1 h with h | h
    · exact .inl ⟨A, h, d⟩
    · exact .inr ⟨A, h, d⟩
  · rintro (⟨A, h, d⟩ | ⟨A, h, d⟩)
    · exact ⟨A, List.mem_append.2 (.inl h), d⟩
    · exact ⟨A, List.mem_append.2 (.inr h), d⟩
theorem doms_one {A : Atom} {b : Nat} : doms [A] b ↔ A.dom b :=
  ⟨fun ⟨B, h, d⟩ => by rw [List.mem_singleton] at h; exact h ▸ d, fun d => ⟨A, List.mem_singleton.2 rfl, d⟩⟩

/-- But for the blocks M, what was there is as it was. -/
structure Keeps (M : Nat → Prop) (w w' : World) : Prop where
  os : w'.os = w.os
  tape : w'.tape = w.tape
  output : w'.output = w.output
  size : w.heap.size ≤ w'.heap.size
  block : ∀ b, b < w.heap.size → ¬ M b → w'.heap[b]? = w.heap[b]?

theorem Keeps.refl (M : Nat → Prop) (w : World) : Keeps M w w := ⟨rfl, rfl, rfl, Nat.le_refl _, fun _ _ _ => rfl⟩

structure Own (w0 : World) (D R : Nat → Prop) (w : World) (X S : List Atom) : Prop where
  keep : Keeps D w0 w
  xok : ∀ A ∈ X, A.at w
  sok : ∀ A ∈ S, A.at w
  xdom : ∀ A ∈ X, ∀ b, A.dom b → (D b ∨ w0.heap.size ≤ b) ∧ b < w.heap.size
  sdom : ∀ A ∈ S, ∀ b, A.dom b → (R b ∨ w0.heap.size ≤ b) ∧ b < w.heap.size
  xx : X.Pairwise fun A B => ∀ b, A.dom b → ¬ B.dom b
  xs : ∀ A ∈ X, ∀ B ∈ S, ∀ b, A.dom b → ¬ B.dom b

theorem at_keep {A : Atom} {w w' : World} (h : A.at w) (hd : ∀ b, A.dom b → w'.heap[b]? = w.heap[b]?) : A.at w' := by
  unfold Atom.at at *
  have e : cut A.dom (look w') = cut A.dom (look w) := cut_congr fun b hb => hd b hb
  rw [e]
  exact h

section
variable {w0 w w' : World} {D R : Nat → Prop} {X Xi Xo S Si So : List Atom}

theorem Own.perm (hS : Own w0 D R w X S) {Y : List Atom} (h : X.Perm Y) : Own w0 D R w Y S where
  keep := hS.keep
  xok A hA := hS.xok A (h.mem_iff.2 hA)
  sok := hS.sok
  xdom A hA := hS.xdom A (h.mem_iff.2 hA)
  sdom := hS.sdom
  xx := h.pairwise hS.xx (fun {_ _} h b hb ha => h b ha hb)
  xs A hA := hS.xs A (h.mem_iff.2 hA)

theorem perm_pick : ∀ (X : List Atom) (i : Nat) (A : Atom), X[i]? = some A → X.Perm (A :: X.eraseIdx i)
  | [], _, _, h => by simp at h
  | B :: X, 0, A, h => by simp at h; subst h; exact List.Perm.refl _
  | B :: X, i + 1, A, h => by
    have := perm_pick X i A (by simpa using h)
    exact (this.cons B).trans (List.Perm.swap A B _)

/-- The piece number i comes to the front. -/
theorem Own.pick (hS : Own w0 D R w X S) (i : Nat) {A : Atom} (hi : X[i]? = some A) : Own w0 D R w (A :: X.eraseIdx i) S := hS.perm (perm_pick X i A hi)

/-- Pieces are let go. -/
theorem Own.drop (hS : Own w0 D R w X S) {Y : List Atom} (h : Y.Sublist X) : Own w0 D R w Y S where
  keep := hS.keep
  xok A hA := hS.xok A (h.subset hA)
  sok := hS.sok
  xdom A hA := hS.xdom A (h.subset hA)
  sdom := hS.sdom
  xx := hS.xx.sublist h
  xs A hA := hS.xs A (h.subset hA)

theorem Own.takeX (hS : Own w0 D R w X S) (n : Nat) : Own w0 D R w (X.take n) S := hS.drop (List.take_sublist n X)

theorem Own.dropS (hS : Own w0 D R w X S) {T : List Atom} (h : ∀ A ∈ T, A ∈ S) : Own w0 D R w X T where
  keep := hS.keep
  xok := hS.xok
  sok A hA := hS.sok A (h A hA)
  xdom := hS.xdom
  sdom A hA := hS.sdom A (h A hA)
  xx := hS.xx
  xs A hA B hB := hS.xs A hA B (h B hB)

theorem Own.x0 {A : Atom} (hS : Own w0 D R w (A :: X) S) : A.at w := hS.xok A (List.mem_cons_self ..)
theorem Own.xi {A : Atom} (hS : Own w0 D R w X S) (i : Nat) (h : X[i]? = some A) : A.at w := hS.xok A (List.mem_of_getElem? h)
theorem Own.si {A : Atom} (hS : Own w0 D R w X S) (i : Nat) (h : S[i]? = some A) : A.at w := hS.sok A (List.mem_of_getElem? h)

/-- One more that is read: it lies in blocks of those that are. -/
theorem Own.addS {B : Atom} (hS : Own w0 D R w X S) (hB : B.at w) (hd : ∀ b, B.dom b → doms S b) : Own w0 D R w X (B :: S) where
  keep := hS.keep
  xok := hS.xok
  sok A hA := by
    rcases List.mem_cons.1 hA with rfl | hA
    · exact hB
    · exact hS.sok A hA
  xdom := hS.xdom
  sdom A hA b hb := by
    rcases List.mem_cons.1 hA with rfl | hA
    · obtain ⟨C, hC, hCb⟩ := hd b hb
      exact hS.sdom C hC b hCb
    · exact hS.sdom A hA b hb
  xx := hS.xx
  xs A hA C hC b hb hc := by
    rcases List.mem_cons.1 hC with rfl | hC
    · obtain ⟨E, hE, hEb⟩ := hd b hc
      exact hS.xs A hA E hE b hb hEb
    · exact hS.xs A hA C hC b hb hc

/-- What was the call's own is from now on read alone. -/
theorem Own.freeze {A B : Atom} (hS : Own w0 D R w (A :: X) S) (hR : ∀ b, A.dom b → ¬ D b) (hB : B.at w) (hd : ∀ b, B.dom b → A.dom b) : Own w0 D R w X (B :: S) where
  keep := hS.keep
  xok C hC := hS.xok C (List.mem_cons_of_mem _ hC)
  sok C hC := by
    rcases List.mem_cons.1 hC with rfl | hC
    · exact hB
    · exact hS.sok C hC
  xdom C hC := hS.xdom C (List.mem_cons_of_mem _ hC)
  sdom C hC b hb := by
    rcases List.mem_cons.1 hC with rfl | hC
    · have h := hS.xdom A (List.mem_cons_self ..) b (hd b hb)
      exact ⟨.inr (h.1.resolve_left (hR b (hd b hb))), h.2⟩
    · exact hS.sdom C hC b hb
  xx := (List.pairwise_cons.1 hS.xx).2
  xs C hC E hE b hb he := by
    rcases List.mem_cons.1 hE with rfl | hE
    · exact (List.pairwise_cons.1 hS.xx).1 C hC b (hd b he) hb
    · exact hS.xs C (List.mem_cons_of_mem _ hC) E hE b hb he

/-- What a callee is handed. -/
theorem Own.pre (hS : Own w0 D R w (Xi ++ X) S) (hs : ∀ B ∈ Si, B.at w) (hd : ∀ B ∈ Si, ∀ b, B.dom b → doms S b ∨ doms X b) :
    Own w (doms Xi) (doms Si) w Xi Si where
  keep := Keeps.refl _ _
  xok A hA := hS.xok A (List.mem_append.2 (.inl hA))
  sok := hs
  xdom A hA b hb := ⟨.inl ⟨A, hA, hb⟩, (hS.xdom A (List.mem_append.2 (.inl hA)) b hb).2⟩
  sdom A hA b hb := ⟨.inl ⟨A, hA, hb⟩, by
    rcases hd A hA b hb with ⟨B, hB, h⟩ | ⟨B, hB, h⟩
    · exact (hS.sdom B hB b h).2
    · exact (hS.xdom B (List.mem_append.2 (.inr hB)) b h).2⟩
  xx := (List.pairwise_append.1 hS.xx).1
  xs A hA B hB b ha hb := by
    rcases hd B hB b hb with ⟨C, hC, h⟩ | ⟨C, hC, h⟩
    · exact hS.xs A (List.mem_append.2 (.inl hA)) C hC b ha h
    · exact (List.pairwise_append.1 hS.xx).2.2 A hA C hC b ha h

/-- What is there behind a callee. -/
theorem Own.post (hS : Own w0 D R w (Xi ++ X) S) (h : Own w (doms Xi) (doms Si) w' Xo So) (hd : So = [] ∨ ∀ b, doms Si b → doms S b) :
    Own w0 D R w' (Xo ++ X) (So ++ S) := by
  have hXi : ∀ b, doms Xi b → (D b ∨ w0.heap.size ≤ b) ∧ b < w.heap.size := fun b ⟨A, hA, hb⟩ => hS.xdom A (List.mem_append.2 (.inl hA)) b hb
  have hX : ∀ A ∈ X, ∀ b, A.dom b → ¬ doms Xi b := fun A hA b hb ⟨B, hB, hB'⟩ => (List.pairwise_append.1 hS.xx).2.2 B hB A hA b hB' hb
  have hSi : ∀ A ∈ S, ∀ b, A.dom b → ¬ doms Xi b := fun A hA b hb ⟨B, hB, hB'⟩ => hS.xs B (List.mem_append.2 (.inl hB)) A hA b hB' hb
  have sX : ∀ A ∈ X, ∀ b, A.dom b → b < w.heap.size := fun A hA b hb => (hS.xdom A (List.mem_append.2 (.inr hA)) b hb).2
  have sS : ∀ A ∈ S, ∀ b, A.dom b → b < w.heap.size := fun A hA b hb => (hS.sdom A hA b hb).2
  have hSo : ∀ A ∈ So, ∀ b, A.dom b → doms S b ∨ w.heap.size ≤ b := fun A hA b hb => by
    rcases hd with rfl | hd
    · cases hA
    · exact (h.sdom A hA b hb).1.imp (hd b) id
  constructor
  · exact ⟨h.keep.os.trans hS.keep.os, h.keep.tape.trans hS.keep.tape, h.keep.output.trans hS.keep.output, Nat.le_trans hS.keep.size h.keep.size, fun b hb hn => by
      rw [h.keep.block b (Nat.lt_of_lt_of_le hb hS.keep.size) (fun hi => by rcases (hXi b hi).1 with h | h; exact hn h; omega)]
      exact hS.keep.block b hb hn⟩
  · intro A hA
    rcases List.mem_append.1 hA with hA | hA
    · exact h.xok A hA
    · exact at_keep (hS.xok A (List.mem_append.2 (.inr hA))) fun b hb => h.keep.block b (sX A hA b hb) (hX A hA b hb)
  · intro A hA
    rcases List.mem_append.1 hA with hA | hA
    · exact h.sok A hA
    · exact at_keep (hS.sok A hA) fun b hb => h.keep.block b (sS A hA b hb) (hSi A hA b hb)
  · intro A hA b hb
    rcases List.mem_append.1 hA with hA | hA
    · obtain ⟨h1, h2⟩ := h.xdom A hA b hb
      exact ⟨h1.elim (fun h => (hXi b h).1) (fun h => .inr (Nat.le_trans hS.keep.size h)), h2⟩
    · exact ⟨(hS.xdom A (List.mem_append.2 (.inr hA)) b hb).1, Nat.lt_of_lt_of_le (sX A hA b hb) h.keep.size⟩
  · intro A hA b hb
    rcases List.mem_append.1 hA with hA | hA
    · refine ⟨?_, (h.sdom A hA b hb).2⟩
      rcases hSo A hA b hb with ⟨B, hB, hB'⟩ | h
      · exact (hS.sdom B hB b hB').1
      · exact .inr (Nat.le_trans hS.keep.size h)
    · exact ⟨(hS.sdom A hA b hb).1, Nat.lt_of_lt_of_le (sS A hA b hb) h.keep.size⟩
  · refine List.pairwise_append.2 ⟨h.xx, (List.pairwise_append.1 hS.xx).2.1, fun A hA B hB b ha hb => ?_⟩
    rcases (h.xdom A hA b ha).1 with h | h
    · exact hX B hB b hb h
    · have := sX B hB b hb; omega
  · intro A hA B hB b ha hb
    rcases List.mem_append.1 hA with hA | hA
    · rcases List.mem_append.1 hB with hB | hB
      · exact h.xs A hA B hB b ha hb
      · rcases (h.xdom A hA b ha).1 with h | h
        · exact hSi B hB b hb h
        · have := sS B hB b hb; omega
    · rcases List.mem_append.1 hB with hB | hB
      · rcases hSo B hB b hb with ⟨C, hC, hC'⟩ | h
        · exact hS.xs A (List.mem_append.2 (.inr hA)) C hC b ha hC'
        · have := sX A hA b ha; omega
      · exact hS.xs A (List.mem_append.2 (.inr hA)) B hB b ha hb

/-- One piece is turned, or laid anew (Xi empty): the world's step, and the piece that stands in its place. -/
theorem Own.turn (hS : Own w0 D R w (Xi ++ X) S) {B : Atom} (hk : Keeps (doms Xi) w w') (hB : B.at w') (hd : ∀ b, B.dom b → (doms Xi b ∨ w.heap.size ≤ b) ∧ b < w'.heap.size) :
    Own w0 D R w' (B :: X) S := by
  have h : Own w (doms Xi) (doms ([] : List Atom)) w' [B] [] :=
    ⟨hk, fun A hA => by rw [List.mem_singleton.1 hA]; exact hB, (by intro A hA; cases hA), fun A hA => by rw [List.mem_singleton.1 hA]; exact hd, (by intro A hA; cases hA),
     List.pairwise_singleton .., (by intro A _ B hB; cases hB)⟩
  simpa using hS.post h (.inl rfl)

theorem Own.new (hS : Own w0 D R w X S) {B : Atom} (hk : Keeps (fun _ => False) w w') (hB : B.at w') (hd : ∀ b, B.dom b → w.heap.size ≤ b ∧ b < w'.heap.size) :
    Own w0 D R w' (B :: X) S :=
  Own.turn (Xi := []) (X := X) hS ⟨hk.os, hk.tape, hk.output, hk.size, fun b hb _ => hk.block b hb id⟩ hB fun b hb => ⟨.inr (hd b hb).1, (hd b hb).2⟩

theorem Own.turn1 {A B : Atom} (hS : Own w0 D R w (A :: X) S) (hk : Keeps A.dom w w') (hB : B.at w') (hd : ∀ b, B.dom b → (A.dom b ∨ w.heap.size ≤ b) ∧ b < w'.heap.size) :
    Own w0 D R w' (B :: X) S :=
  Own.turn (Xi := [A]) (X := X) hS ⟨hk.os, hk.tape, hk.output, hk.size, fun b hb hn => hk.block b hb fun h => hn (doms_one.2 h)⟩ hB fun b hb => ⟨(hd b hb).1.imp doms_one.2 id, (hd b hb).2⟩

/-- A draw. -/
theorem Own.drew (hS : Own w0 D R w X S) : Own w0 D R w.drew X S := ⟨⟨hS.keep.os, hS.keep.tape, hS.keep.output, hS.keep.size, hS.keep.block⟩, hS.xok, hS.sok, hS.xdom, hS.sdom, hS.xx, hS.xs⟩
end

end Go.Lift
