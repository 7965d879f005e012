/- What is reckoned from boxes that are there: the loads are answered in turn. -/
import Derived.Test.YtcpddgjmopdlbaaArr
namespace Go.Lift
open Go

/-- The loads of a computation, answered by these cells in turn; the addresses that it asked for. -/
def bev (P : Program) {α : Type} : Sem α → List (Nat × List Value × Nat) → Option (α × List Addr)
  | .pure a, hs => match hs with
    | [] => some (a, [])
    | _ :: _ => none
  | .program k, hs => bev P (k P) hs
  | .mark _ k, hs => bev P k hs
  | .load _ a k, hs => match hs with
    | [] => none
    | h :: hs => match h.2.1[h.2.2]? with
      | none => none
      | some v => match bev P (k v) hs with
        | none => none
        | some r => some (r.1, a :: r.2)
  | _, _ => none

def hints (hs : List (Nat × List Value × Nat)) : List Addr := hs.map fun h => ⟨h.1, h.2.2, none⟩

theorem box_cell {w : World} {b : Nat} {cs : List Value} {off : Nat} {v : Value} (h : (boxA b cs).at w) (hv : cs[off]? = some v) : w.cell? ⟨b, off, none⟩ = some v := by
  obtain ⟨t, hb⟩ := box_heap h
  rw [cell_of_row w b off _ t (0, 0) hb, List.getElem?_toArray]
  exact hv

theorem bev_run {P : Program} {w : World} {α : Type} : ∀ (s : Sem α) (hs : List (Nat × List Value × Nat)) (r : α), bev P s hs = some (r, hints hs) → (∀ h ∈ hs, (boxA h.1 h.2.1).at w) → s.run P w = .ok r w
  | .pure a, hs, r, h, _ => by
    unfold bev at h
    cases hs with
    | nil => simp only [Option.some.injEq, Prod.mk.injEq] at h; rw [h.1]; rfl
    | cons x xs => cases h
  | .program k, hs, r, h, hat => by simp only [bev] at h; exact bev_run (k P) hs r h hat
  | .mark _ k, hs, r, h, hat => by simp only [bev] at h; exact bev_run k hs r h hat
  | .load m a k, hs, r, h, hat => by
    unfold bev at h
    cases hs with
    | nil => cases h
    | cons x xs =>
      simp only at h
      cases hv : x.2.1[x.2.2]? with
      | none => rw [hv] at h; cases h
      | some v =>
        rw [hv] at h
        simp only at h
        cases hb : bev P (k v) xs with
        | none => rw [hb] at h; cases h
        | some q =>
          rw [hb] at h
          simp only [Option.some.injEq, Prod.mk.injEq, hints, List.map_cons, List.cons.injEq] at h
          obtain ⟨h1, h2, h3⟩ := h
          have hc := box_cell (hat x List.mem_cons_self) hv
          have ih := bev_run (k v) xs r (by rw [hb, ← h1]; exact congrArg some (Prod.ext rfl h3)) fun y hy => hat y (List.mem_cons_of_mem _ hy)
          simp only [Sem.run, h2, hc]
          exact ih
  | .store .., _, _, h, _ => by simp [bev] at h
  | .new .., _, _, h, _ => by simp [bev] at h
  | .shape .., _, _, h, _ => by simp [bev] at h
  | .freeze .., _, _, h, _ => by simp [bev] at h
  | .frozen .., _, _, h, _ => by simp [bev] at h
  | .getObj .., _, _, h, _ => by simp [bev] at h
  | .setObj .., _, _, h, _ => by simp [bev] at h
  | .choose .., _, _, h, _ => by simp [bev] at h
  | .sys .., _, _, h, _ => by simp [bev] at h
  | .halt _, _, _, h, _ => by simp [bev] at h

section
variable {P : Program} {w : World} {l : List Value}
/-- The results are read, some of them from variables. -/
theorem ret_b {fn : Func} {Rr : Ending → World → Prop} (v : Value) (hs : List (Nat × List Value × Nat)) (h : bev P (results fn l.toArray) hs = some (v, hints hs)) (hat : ∀ h ∈ hs, (boxA h.1 h.2.1).at w) (hR : Rr (.returned v) w) :
    bodyPost P fn Rr .ret (Fr l) w := ⟨rfl, v, bev_run _ hs v h hat, hR⟩
theorem end_b {fn : Func} {Rr : Ending → World → Prop} (v : Value) (hs : List (Nat × List Value × Nat)) (h : bev P (results fn l.toArray) hs = some (v, hints hs)) (hat : ∀ h ∈ hs, (boxA h.1 h.2.1).at w) (hR : Rr (.returned v) w) :
    bodyPost P fn Rr .normal (Fr l) w := ⟨rfl, v, bev_run _ hs v h hat, hR⟩
end
end Go.Lift
