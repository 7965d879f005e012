/- Rules for plain models: loops, room, wraps. -/
import Derived.Test.YtcpddgjmopdlbaaClose
import Derived.Laws.BitsAllLaws
namespace Go.Lift
open Go

theorem iter_le {S R : Type} {body : S → Option (S ⊕ R)} {r : R} : ∀ (n m : Nat) (s : S), n ≤ m → iter body n s = some r → iter body m s = some r
  | 0, _, _, _, h => by cases h
  | n + 1, 0, _, hl, _ => by omega
  | n + 1, m + 1, s, hl, h => by
    simp only [iter] at h ⊢
    split at h
    · cases h
    · rename_i s' e
      exact iter_le n m s' (by omega) h
    · rename_i r' e
      exact h

/-- A loop of few rounds. -/
theorem loop_few {S R : Type} {body : S → Option (S ⊕ R)} {r : R} {s : S} (n : Nat) (hn : n ≤ 18446744073709551616) (h : iter body n s = some r) : loop body s = some r :=
  iter_le n _ s hn h

theorem iter_meas {S R : Type} {body : S → Option (S ⊕ R)} (I : S → Prop) (m : S → Nat) (Q : R → Prop)
    (hb : ∀ s, I s → (∃ s', body s = some (.inl s') ∧ I s' ∧ m s' < m s) ∨ (∃ r, body s = some (.inr r) ∧ Q r)) :
    ∀ n s, I s → m s < n → ∃ r, iter body n s = some r ∧ Q r := by
  intro n
  induction n with
  | zero => intro s _ h; omega
  | succ n ih =>
    intro s hI hm
    rcases hb s hI with ⟨s', e, hI', hlt⟩ | ⟨r, e, hQ⟩
    · obtain ⟨r, hr, hQ⟩ := ih s' hI' (by omega)
      exact ⟨r, by simp only [iter, e, hr], hQ⟩
    · exact ⟨r, by simp only [iter, e], hQ⟩

/-- A loop with an invariant and a measure. -/
theorem loop_meas {S R : Type} {body : S → Option (S ⊕ R)} (I : S → Prop) (m : S → Nat) (Q : R → Prop) {s : S} (h0 : I s) (hm : m s < 18446744073709551616)
    (hb : ∀ s, I s → (∃ s', body s = some (.inl s') ∧ I s' ∧ m s' < m s) ∨ (∃ r, body s = some (.inr r) ∧ Q r)) : ∃ r, loop body s = some r ∧ Q r :=
  iter_meas I m Q hb _ s h0 hm

/-- The same, the outcome known. -/
theorem loop_is {S R : Type} {body : S → Option (S ⊕ R)} (I : S → Prop) (m : S → Nat) {r : R} {s : S} (h0 : I s) (hm : m s < 18446744073709551616)
    (hb : ∀ s, I s → (∃ s', body s = some (.inl s') ∧ I s' ∧ m s' < m s) ∨ body s = some (.inr r)) : loop body s = some r := by
  obtain ⟨r', h, e⟩ := loop_meas I m (fun x => x = r) h0 hm (fun s hs => (hb s hs).imp id fun h => ⟨r, h, rfl⟩)
  rw [h, e]

theorem room_ok {b n : Nat} (h : n * b ≤ 140737488355328) (h' : n ≤ maxLen) : room b n = some () := by
  unfold room; rw [if_pos ⟨h, h'⟩]
theorem room_one {n : Nat} (h : n ≤ 1099511627776) : room 1 n = some () := room_ok (by omega) (by unfold maxLen; omega)
theorem mk_ok {b : Nat} {n : Int} (h0 : 0 ≤ n) (h : (b : Int) * n ≤ 140737488355328) (h' : n ≤ 9223372036854775807) : mk b n = some n.toNat := by
  unfold mk; rw [if_pos ⟨h0, h, h'⟩]

theorem ix_ok {β : Type} {xs : List β} {i : Int} (h0 : 0 ≤ i) (h : i.toNat < xs.length) : ix xs i = some xs[i.toNat] := by
  unfold ix; rw [if_pos h0, List.getElem?_eq_getElem h]
theorem ix_nat {β : Type} {xs : List β} {i : Nat} (h : i < xs.length) : ix xs (i : Int) = some xs[i] := by
  rw [ix_ok (by omega) (by simpa using h)]; simp
theorem sub_ok {β : Type} {xs : List β} {lo hi : Int} (h0 : 0 ≤ lo) (h : lo ≤ hi) (h' : hi ≤ xs.length) : sub xs lo hi = some ((xs.take hi.toNat).drop lo.toNat) := by
  unfold sub; rw [if_pos ⟨h0, h, h'⟩]

theorem i64_id {n : Int} (h : -9223372036854775808 ≤ n) (h' : n < 9223372036854775808) : IntKind.i64.wrap n = n := by rw [IntKind.wrap_i64]; omega
theorem u64_id {n : Int} (h : 0 ≤ n) (h' : n < 18446744073709551616) : IntKind.u64.wrap n = n := by
  simp [IntKind.wrap, IntKind.bits, IntKind.signed]; omega
theorem wrap_u64' (n : Int) : IntKind.u64.wrap n = n % 18446744073709551616 := by simp [IntKind.wrap, IntKind.bits, IntKind.signed]
theorem u32_id {n : Int} (h : 0 ≤ n) (h' : n < 4294967296) : IntKind.u32.wrap n = n := by rw [IntKind.wrap_u32]; omega

theorem gshr_ok {k : IntKind} {x y : Int} (h : 0 ≤ y) : gshr k x y = some (x / 2 ^ (min y.toNat k.bits)) := by
  unfold gshr; rw [if_neg (by omega), Int.fdiv_eq_ediv_of_nonneg _ (by exact Int.le_of_lt (Int.pow_pos (by decide)))]
theorem gshl_ok {k : IntKind} {x y : Int} (h : 0 ≤ y) : gshl k x y = some (k.wrap (x * 2 ^ (min y.toNat k.bits))) := by
  unfold gshl; rw [if_neg (by omega)]

end Go.Lift
