/- Three functions of the library: what a call of each comes to (the kit's shelf), as a contract asks it: bytes.IndexByte, strconv.Itoa, strconv.ParseInt. -/
import Derived.Test.YtlkcgjablhpfcaaDoorSx19
import Derived.WalkKit
import Derived.Lib.BytesEntry
import Derived.Test.YtlkcgjablhpfcaaDoorGMAll
namespace Go.Proofs.YtlkcgjablhpfcaaDoor
open Go Go.Lift Go.RowKit
set_option maxRecDepth 100000
set_option maxHeartbeats 4000000
set_option linter.unusedVariables false

theorem chunks_ints {z : Zn} {k : IntKind} {xs : List Int} {ch : List (Chunk (Ty.int k).sz)} (h : Els (t := .int k) (fun y c => (Ty.int k).holds z y c) xs ch) : flat (Ty.int k).enc ch = xs.map (Value.int k) := by
  have e : ch = xs.map (chInt k) := by
    apply List.ext_getElem?
    intro i
    rw [List.getElem?_map]
    cases hx : xs[i]? with
    | none => rw [List.getElem?_eq_none (by rw [← h.1]; exact List.getElem?_eq_none_iff.1 hx)]; rfl
    | some x =>
      have hl : i < ch.length := by rw [← h.1]; exact (List.getElem?_eq_some_iff.1 hx).1
      rw [List.getElem?_eq_getElem hl]
      have := h.2 i x _ hx (List.getElem?_eq_getElem hl)
      exact congrArg some (Subtype.ext this)
  rw [e, chInt_flat, flat_ints]

/-- What a call that makes nothing but new blocks comes to, where what it looks at is read alone. -/
theorem fn_pureZ {P : Program} {G : Globs} {f : FuncId} {T To : Tm} {Ts Us : List Ty} {M : HL Ts → Option (SumL [Us])} {A : HL Ts → List AV} {B : HL Us → List AV}
    (hT : ∀ x, T.fill (encHL Ts x) = some ⟨A x, []⟩) (hU : ∀ y, To.fill (encHL Us y) = some ⟨B y, []⟩)
    (H : ∀ (x : HL Ts) (y : HL Us) ρ z w vs, M x = some y → FrAt ρ z 0 (A x) vs → GlW G z w → (∀ a u, cellAt z.hp a = some u → w.cell? a = some u) → Calls P f vs.toArray w fun e w' => ∃ us, e = .returned (resV us) ∧ FrAt ρ z 0 (B y) us ∧ Below w.heap.size w w') :
    FnOk P G f ⟨0, T, [(.ret, To)], stdCn Ts [Us] M, []⟩ := by
  intro w ρ Z z X R vs d st i o hfill h hev
  obtain ⟨x, y, rfl, h1, h2⟩ := std_ev hev
  have hfill : T.fill (encHL Ts x) = some st := hfill
  rw [hT] at hfill
  injection hfill with hfill
  subst hfill
  injection (show (0, encHL Us y) = (i, o) from h2) with e1 e2
  subst e1 e2
  have hX : X = [] := List.eq_nil_of_length_eq_zero h.mem.1.symm
  subst hX
  refine (H x y ρ z w vs h1 h.fr (gl_world h.gz h.fx.1) (fun a u => zone_cell h.fx.1)).mono ?_
  rintro e w' ⟨us, rfl, h3, h4⟩
  have hk : Keeps (fun _ => False) w w' := ⟨h4.os, h4.tape, h4.output, h4.size, fun b hb _ => h4.block b hb⟩
  have hown := (h.own.new (B := deadA) hk (deadA_at w') (fun b hb => hb.elim)).drop (List.sublist_cons_self _ _)
  exact ⟨.ret, To, ⟨B y, []⟩, ρ, Z, z, [], us, rfl, rfl, hU y, ⟨h3, ⟨rfl, fun h p A hp => by simp at hp⟩, hown, h.ext, h.gl, h.dr⟩, Later.refl .., fun _ _ _ => rfl⟩

section
open Go.Shelf
/-- Of a nil slice. -/
theorem sc_IndexByte_nil {P : Program} {ρ : Go.Shelf.Ren} (L : Lays.n187 P ρ) (cap : Nat) (cv : Int) (w : World) :
    Calls P (ρ.f 187) #[.slice none 0 cap, .int .u8 cv] w fun e w' => e = .returned (.int .i64 (-1)) ∧ w' = w := by
  have t3 := L.t3; have t5 := L.t5; have t37 := L.t37
  have a3 := L.a3; have a5 := L.a5; have a37 := L.a37
  have mixed := L.mixed; have z3 := L.z3; have v3 := L.v3; have z5 := L.z5; have v5 := L.v5; have z37 := L.z37; have v37 := L.v37
  go_enter L.f187, Body.n187_ntmps ρ
  go_wp2
  rw [run_callFunc_extern L.f255 (by kernel_rfl) (by kernel_rfl) (by kernel_rfl) (e := Extern.BytealgIndexByte.indexByte) (by kernel_rfl), Lib.run_indexByteNil (w := w) 0 cap cv]
  simp only [Result.andThen]
  rw [Oper.upon_value]
  go_wp2
  go_ret
  exact ⟨rfl, rfl⟩
end

theorem sc_IndexByte {x : List Int} {c y : Int} {ρ : Nat → HI} {z : Zn} {w : World} {vs : List Value} (hM : Go.Lib.indexByte (b8 x) c.toNat.toUInt8 = y) (hfr : FrAt ρ z 0 [.vl false [.dat (.slc (.int .u8)) x], .vl false [.dat (.int .u8) c]] vs)
    (hz : ∀ a u, cellAt z.hp a = some u → w.cell? a = some u) :
    Calls Go.Proofs.Tryd.prog 50 vs.toArray w fun e w' => ∃ us, e = .returned (resV us) ∧ FrAt ρ z 0 [.vl false [.dat (.int .i64) y]] us ∧ Below w.heap.size w w' := by
  obtain ⟨v, u, rfl, h1, h2⟩ := frAt_two hfr
  have e1 : (Ty.slc (.int .u8)).holds z x [v] := dat_at h1
  have e2 : [u] = [.int .u8 c] := dat_at h2
  injection e2 with e2
  subst e2 hM
  obtain ⟨A, cap, ch, e, hle, hch, hA⟩ := e1
  injection e with e
  subst e
  have hb : Go.Lib.bytesOf x = b8 x := rfl
  rcases hA with ⟨rfl, rfl⟩ | ⟨a, rfl, hin⟩
  · obtain rfl : x = [] := List.eq_nil_of_length_eq_zero hch.1
    refine (show Calls Go.Proofs.Tryd.prog 50 #[.slice none 0 cap, .int .u8 c] w _ from sc_IndexByte_nil Tryd.lays187 cap c w).mono ?_
    rintro e w' ⟨rfl, rfl⟩
    exact ⟨[_], rfl, frAt_cons (Cmp.one rfl) frAt_nil, Below.refl _ _⟩
  · refine (show Calls Go.Proofs.Tryd.prog 50 #[.slice (some a) (List.length (α := Int) x) cap, .int .u8 c] w _ from Any.bytes_IndexByte_at Tryd.lays187 a _ cap x c w rfl ?_).mono ?_
    · intro i hi
      refine hz _ _ (hin i _ ?_)
      rw [show flat (Ty.int .u8).enc ch = x.map (Value.int .u8) from chunks_ints hch, List.getElem?_map, List.getElem?_eq_getElem hi, Option.map_some, List.getD_eq_getElem?_getD, List.getElem?_eq_getElem hi, Option.getD_some]
    · rintro e w' ⟨rfl, rfl⟩
      rw [hb]
      exact ⟨[_], rfl, frAt_cons (Cmp.one rfl) frAt_nil, Below.refl _ _⟩

theorem pow_tab {z : Zn} {w : World} (h : GlW GL z w) : Go.Lib.TabIs Go.Proofs.Tryd.prog w "internal/strconv.uint64pow10" .u64 Go.Lib.pow10Tab := by
  obtain ⟨c, ⟨ch, he, rfl⟩, t, m, hw⟩ := h (1, ⟨.arr 20 (.int .u64), tb_internal_strconv_uint64pow10⟩) (by unfold GL; simp)
  unfold Go.Lib.TabIs World.var?
  rw [show Go.Proofs.Tryd.prog.globalNamed "internal/strconv.uint64pow10" = some 1 by kernel_rfl, Option.bind_some]
  simp only at hw
  rw [hw]
  simp only
  rw [chunks_ints he]
  rfl

theorem sc_Itoa {n : Int} {y : List UInt8} {ρ : Nat → HI} {z : Zn} {w : World} {vs : List Value} (hM : (if -9223372036854775808 ≤ n ∧ n ≤ 9223372036854775807 then some (Go.Lib.itoa n) else none) = some y) (hfr : FrAt ρ z 0 [.vl false [.dat (.int .i64) n]] vs) (hg : GlW GL z w) :
    Calls Go.Proofs.Tryd.prog 38 vs.toArray w fun e w' => ∃ us, e = .returned (resV us) ∧ FrAt ρ z 0 [.vl false [.dat .str y]] us ∧ Below w.heap.size w w' := by
  split at hM
  · rename_i hn
    injection hM with hM
    subst hM
    obtain ⟨v, rfl, h1⟩ := frAt_one hfr
    have e1 : [v] = [.int .i64 n] := dat_at h1
    injection e1 with e1
    subst e1
    refine (show Calls Go.Proofs.Tryd.prog 38 #[.int .i64 n] w _ from Any.strconv_Itoa Tryd.laysM171 n hn.1 hn.2 w (pow_tab hg)).mono ?_
    rintro e w' ⟨rfl, k, os, rfl⟩
    refine ⟨[_], rfl, frAt_cons (Cmp.one rfl) frAt_nil, ?_⟩
    refine ⟨rfl, rfl, rfl, ?_, fun b hb => ?_⟩
    · simp [Go.Sort.grow, World.drewN]
    · simp only [Go.Sort.grow, World.drewN]
      rw [Array.getElem?_append_left hb]
  · cases hM

theorem err_cell {z : Zn} {w : World} (h : GlW GL z w) {g : Nat} (hg : (g, (⟨.err, true⟩ : (t : Ty) × t.den)) ∈ GL) : ∃ t p, w.cell? ⟨g, 0, none⟩ = some (.iface t p) := by
  obtain ⟨c, ⟨v, rfl, hv⟩, t, m, hw⟩ := h _ hg
  obtain ⟨tt, p, rfl⟩ := hv
  refine ⟨tt, p, ?_⟩
  rw [cell_of_row w g 0 _ t m hw]; rfl

theorem below_bytes (w : World) (t : TypeId) (s : ByteArray) : Below w.heap.size w (Go.Lib.bytesWorld w t s) := ⟨rfl, rfl, rfl, by rw [Go.Lib.bytesWorld_size]; omega, fun b hb => Go.Lib.bytesWorld_at_old w t s b hb⟩

theorem sc_ParseInt {s : List UInt8} {b k : Int} {y : Int × Bool} {ρ : Nat → HI} {z : Zn} {w : World} {vs : List Value} (hM : (if b = 10 ∧ k = 64 ∧ s.length ≤ 281474976710656 then some (sc_parse s) else none) = some y)
    (hfr : FrAt ρ z 0 [.vl false [.dat .str s], .vl false [.dat (.int .i64) b], .vl false [.dat (.int .i64) k]] vs) (hg : GlW GL z w) :
    Calls Go.Proofs.Tryd.prog 55 vs.toArray w fun e w' => ∃ us, e = .returned (resV us) ∧ FrAt ρ z 0 [.vl false [.dat (.int .i64) y.1], .vl false [.dat .err y.2]] us ∧ Below w.heap.size w w' := by
  split at hM
  · rename_i hn
    obtain ⟨rfl, rfl, hl⟩ := hn
    injection hM with hM
    subst hM
    obtain ⟨v, u, x, rfl, h1, h2, h3⟩ := frAt_three hfr
    have e1 : [v] = [.string ⟨s.toArray⟩] := dat_at h1
    have e2 : [u] = [.int .i64 10] := dat_at h2
    have e3 : [x] = [.int .i64 64] := dat_at h3
    injection e1 with e1; injection e2 with e2; injection e3 with e3
    subst e1 e2 e3
    obtain ⟨t1, p1, c1⟩ := err_cell hg (g := 2) (by unfold GL; simp)
    obtain ⟨t2, p2, c2⟩ := err_cell hg (g := 3) (by unfold GL; simp)
    have hsz : (⟨s.toArray⟩ : ByteArray).size = s.length := by simp [ByteArray.size]
    have key : ∀ {n : Int} {tt : TypeId} {pp : Value} {w' : World}, Below w.heap.size w w' → ∃ us, Ending.returned (.tuple #[.int .i64 n, .iface tt pp]) = .returned (resV us) ∧ FrAt ρ z 0 [.vl false [.dat (.int .i64) n], .vl false [.dat .err true]] us ∧ Below w.heap.size w w' :=
      fun hb => ⟨[_, _], rfl, frAt_cons (Cmp.one rfl) (frAt_cons (Cmp.one ⟨_, rfl, _, _, rfl⟩) frAt_nil), hb⟩
    unfold sc_parse
    cases hp : Go.Lib.parseIntB 64 s with
    | ok n =>
      refine (show Calls Go.Proofs.Tryd.prog 55 #[.string ⟨s.toArray⟩, .int .i64 10, .int .i64 64] w _ from Any.strconv_ParseInt_10_at64_ok Tryd.laysC174 ⟨s.toArray⟩ (by rw [hsz]; omega) n hp w).mono ?_
      rintro e w' ⟨rfl, hw⟩
      refine ⟨[_, _], rfl, frAt_cons (Cmp.one rfl) (frAt_cons (Cmp.one ⟨_, rfl, rfl⟩) frAt_nil), ?_⟩
      rcases hw with rfl | ⟨t, rfl⟩
      · exact Below.refl _ _
      · exact below_bytes ..
    | range =>
      refine (show Calls Go.Proofs.Tryd.prog 55 #[.string ⟨s.toArray⟩, .int .i64 10, .int .i64 64] w _ from Any.strconv_ParseInt_10_at64_range Tryd.laysC174 ⟨s.toArray⟩ (by rw [hsz]; exact hl) hp _ w c2 (.inr ⟨_, _, rfl⟩)).mono ?_
      rintro e w' ⟨N, rfl, _, _, hb⟩
      exact key hb
    | _ =>
      refine (show Calls Go.Proofs.Tryd.prog 55 #[.string ⟨s.toArray⟩, .int .i64 10, .int .i64 64] w _ from Any.strconv_ParseInt_10_at64_syntax Tryd.laysC174 ⟨s.toArray⟩ (by rw [hsz]; exact hl) hp _ w c1 (.inr ⟨_, _, rfl⟩)).mono ?_
      rintro e w' ⟨N, rfl, _, _, hb⟩
      exact key hb
  · cases hM
end Go.Proofs.YtlkcgjablhpfcaaDoor
