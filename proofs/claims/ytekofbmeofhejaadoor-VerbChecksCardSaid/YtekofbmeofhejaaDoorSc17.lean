/- Three functions of the library: what a call of each comes to (the kit's shelf), as a contract asks it: strings.IndexByte, strconv.Itoa, strconv.ParseInt. -/
import Derived.Test.YtekofbmeofhejaaDoorSx17
import Derived.Test.YtekofbmeofhejaaDoorGMAll
namespace Go.Proofs.YtekofbmeofhejaaDoor
open Go Go.Lift Go.RowKit
set_option maxRecDepth 100000
set_option maxHeartbeats 4000000
set_option linter.unusedVariables false

theorem sc_IndexByte {x : List UInt8} {c y : Int} {ρ : Nat → HI} {z : Hp} {w : World} {vs : List Value} (hM : Go.Lib.indexByte x c.toNat.toUInt8 = y) (hfr : FrAt ρ z 0 [.vl false [.dat .str x], .vl false [.dat (.int .u8) c]] vs) :
    Calls Go.Proofs.Tryd.prog 54 vs.toArray w fun e w' => ∃ us, e = .returned (resV us) ∧ FrAt ρ z 0 [.vl false [.dat (.int .i64) y]] us ∧ Below w.heap.size w w' := by
  obtain ⟨v, u, rfl, h1, h2⟩ := frAt_two hfr
  have e1 : [v] = [.string ⟨x.toArray⟩] := dat_at h1
  have e2 : [u] = [.int .u8 c] := dat_at h2
  injection e1 with e1; injection e2 with e2
  subst e1 e2 hM
  refine (show Calls Go.Proofs.Tryd.prog 54 #[.string ⟨x.toArray⟩, .int .u8 c] w _ from Any.strings_IndexByte Tryd.lays137 ⟨x.toArray⟩ c w).mono ?_
  rintro e w' ⟨rfl, rfl⟩
  exact ⟨[_], rfl, frAt_cons (Cmp.one rfl) frAt_nil, Below.refl _ _⟩

theorem chunks_ints {z : Hp} {k : IntKind} {xs : List Int} {ch : List (Chunk (Ty.int k).sz)} (h : Els (t := .int k) (fun y c => (Ty.int k).holds z y c) xs ch) : flat (Ty.int k).enc ch = xs.map (Value.int k) := by
  have e : ch = xs.map (chInt k) := by
    apply List.ext_getElem?
    intro i
    rw [List.getElem?_map]
    cases hx : xs[i]? with
    | none => rw [List.getElem?_eq_none (by rw [← h.1]; exact List.getElem?_eq_none_iff.1 hx)]; rfl
    | some x =>
      have hl : i < ch.length := by rw [← h.1]; exact (List.getElem?_eq_some_iff.1 hx).1
      rw [List.getElem?_eq_getElem hl]
      have := h.2 i x _ hx (List.getElem?_eq_getElem hl)
      exact congrArg some (Subtype.ext this)
  rw [e, chInt_flat, flat_ints]

theorem pow_tab {z : Hp} {w : World} (h : GlW GL z w) : Go.Lib.TabIs Go.Proofs.Tryd.prog w "internal/strconv.uint64pow10" .u64 Go.Lib.pow10Tab := by
  obtain ⟨c, ⟨ch, he, rfl⟩, t, m, hw⟩ := h (5, ⟨.arr 20 (.int .u64), tb_internal_strconv_uint64pow10⟩) (by unfold GL; simp)
  unfold Go.Lib.TabIs World.var?
  rw [show Go.Proofs.Tryd.prog.globalNamed "internal/strconv.uint64pow10" = some 5 by kernel_rfl, Option.bind_some]
  simp only at hw
  rw [hw]
  simp only
  rw [chunks_ints he]
  rfl

theorem sc_Itoa {n : Int} {y : List UInt8} {ρ : Nat → HI} {z : Hp} {w : World} {vs : List Value} (hM : (if -9223372036854775808 ≤ n ∧ n ≤ 9223372036854775807 then some (Go.Lib.itoa n) else none) = some y) (hfr : FrAt ρ z 0 [.vl false [.dat (.int .i64) n]] vs) (hg : GlW GL z w) :
    Calls Go.Proofs.Tryd.prog 32 vs.toArray w fun e w' => ∃ us, e = .returned (resV us) ∧ FrAt ρ z 0 [.vl false [.dat .str y]] us ∧ Below w.heap.size w w' := by
  split at hM
  · rename_i hn
    injection hM with hM
    subst hM
    obtain ⟨v, rfl, h1⟩ := frAt_one hfr
    have e1 : [v] = [.int .i64 n] := dat_at h1
    injection e1 with e1
    subst e1
    refine (show Calls Go.Proofs.Tryd.prog 32 #[.int .i64 n] w _ from Any.strconv_Itoa Tryd.laysM171 n hn.1 hn.2 w (pow_tab hg)).mono ?_
    rintro e w' ⟨rfl, k, os, rfl⟩
    refine ⟨[_], rfl, frAt_cons (Cmp.one rfl) frAt_nil, ?_⟩
    refine ⟨rfl, rfl, rfl, ?_, fun b hb => ?_⟩
    · simp [Go.Sort.grow, World.drewN]
    · simp only [Go.Sort.grow, World.drewN]
      rw [Array.getElem?_append_left hb]
  · cases hM

theorem err_cell {z : Hp} {w : World} (h : GlW GL z w) {g : Nat} (hg : (g, (⟨.err, true⟩ : (t : Ty) × t.den)) ∈ GL) : ∃ t p, w.cell? ⟨g, 0, none⟩ = some (.iface t p) := by
  obtain ⟨c, ⟨v, rfl, hv⟩, t, m, hw⟩ := h _ hg
  obtain ⟨tt, p, rfl⟩ := hv
  refine ⟨tt, p, ?_⟩
  rw [cell_of_row w g 0 _ t m hw]; rfl

theorem below_bytes (w : World) (t : TypeId) (s : ByteArray) : Below w.heap.size w (Go.Lib.bytesWorld w t s) := ⟨rfl, rfl, rfl, by rw [Go.Lib.bytesWorld_size]; omega, fun b hb => Go.Lib.bytesWorld_at_old w t s b hb⟩

theorem sc_ParseInt {s : List UInt8} {b k : Int} {y : Int × Bool} {ρ : Nat → HI} {z : Hp} {w : World} {vs : List Value} (hM : (if b = 10 ∧ k = 64 ∧ s.length ≤ 281474976710656 then some (sc_parse s) else none) = some y)
    (hfr : FrAt ρ z 0 [.vl false [.dat .str s], .vl false [.dat (.int .i64) b], .vl false [.dat (.int .i64) k]] vs) (hg : GlW GL z w) :
    Calls Go.Proofs.Tryd.prog 31 vs.toArray w fun e w' => ∃ us, e = .returned (resV us) ∧ FrAt ρ z 0 [.vl false [.dat (.int .i64) y.1], .vl false [.dat .err y.2]] us ∧ Below w.heap.size w w' := by
  split at hM
  · rename_i hn
    obtain ⟨rfl, rfl, hl⟩ := hn
    injection hM with hM
    subst hM
    obtain ⟨v, u, x, rfl, h1, h2, h3⟩ := frAt_three hfr
    have e1 : [v] = [.string ⟨s.toArray⟩] := dat_at h1
    have e2 : [u] = [.int .i64 10] := dat_at h2
    have e3 : [x] = [.int .i64 64] := dat_at h3
    injection e1 with e1; injection e2 with e2; injection e3 with e3
    subst e1 e2 e3
    obtain ⟨t1, p1, c1⟩ := err_cell hg (g := 3) (by unfold GL; simp)
    obtain ⟨t2, p2, c2⟩ := err_cell hg (g := 4) (by unfold GL; simp)
    have hsz : (⟨s.toArray⟩ : ByteArray).size = s.length := by simp [ByteArray.size]
    have key : ∀ {n : Int} {tt : TypeId} {pp : Value} {w' : World}, Below w.heap.size w w' → ∃ us, Ending.returned (.tuple #[.int .i64 n, .iface tt pp]) = .returned (resV us) ∧ FrAt ρ z 0 [.vl false [.dat (.int .i64) n], .vl false [.dat .err true]] us ∧ Below w.heap.size w w' :=
      fun hb => ⟨[_, _], rfl, frAt_cons (Cmp.one rfl) (frAt_cons (Cmp.one ⟨_, rfl, _, _, rfl⟩) frAt_nil), hb⟩
    unfold sc_parse
    cases hp : Go.Lib.parseIntB 64 s with
    | ok n =>
      refine (show Calls Go.Proofs.Tryd.prog 31 #[.string ⟨s.toArray⟩, .int .i64 10, .int .i64 64] w _ from Any.strconv_ParseInt_10_at64_ok Tryd.laysC174 ⟨s.toArray⟩ (by rw [hsz]; omega) n hp w).mono ?_
      rintro e w' ⟨rfl, hw⟩
      refine ⟨[_, _], rfl, frAt_cons (Cmp.one rfl) (frAt_cons (Cmp.one ⟨_, rfl, rfl⟩) frAt_nil), ?_⟩
      rcases hw with rfl | ⟨t, rfl⟩
      · exact Below.refl _ _
      · exact below_bytes ..
    | range =>
      refine (show Calls Go.Proofs.Tryd.prog 31 #[.string ⟨s.toArray⟩, .int .i64 10, .int .i64 64] w _ from Any.strconv_ParseInt_10_at64_range Tryd.laysC174 ⟨s.toArray⟩ (by rw [hsz]; exact hl) hp _ w c2 (.inr ⟨_, _, rfl⟩)).mono ?_
      rintro e w' ⟨N, rfl, _, _, hb⟩
      exact key hb
    | _ =>
      refine (show Calls Go.Proofs.Tryd.prog 31 #[.string ⟨s.toArray⟩, .int .i64 10, .int .i64 64] w _ from Any.strconv_ParseInt_10_at64_syntax Tryd.laysC174 ⟨s.toArray⟩ (by rw [hsz]; exact hl) hp _ w c1 (.inr ⟨_, _, rfl⟩)).mono ?_
      rintro e w' ⟨N, rfl, _, _, hb⟩
      exact key hb
  · cases hM
end Go.Proofs.YtekofbmeofhejaaDoor
