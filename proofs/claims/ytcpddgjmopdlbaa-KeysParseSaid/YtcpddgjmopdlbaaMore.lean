/- More operations: bytes as strings, slices of slices, a literal that is converted. -/
import Derived.Test.YtcpddgjmopdlbaaSteps
import Derived.Laws.BytesArg
import Derived.Laws.Strings
namespace Go.Lift
open Go
set_option linter.unusedVariables false

/-- Bytes as a string's letters. -/
def b8 (xs : List Int) : List UInt8 := xs.map fun n => UInt8.ofNat n.toNat

section
variable {P : Program} {ops : Array Oper} {Q : Exit → Act → World → Prop} {w : World} {o : Oper} {os : List Oper} {l : List Value}
variable {α : Type} {e : Enc α} {A : Option Addr} {cap : Nat} {xs ys : List α} {w0 : World} {D R : Nat → Prop} {X S : List Atom}

theorem run_bytes_str {src dst E : TypeId} (hs : P.underlying src = some (.slice E)) (he : P.underlying E = some (.int .u8)) (hd : P.underlying dst = some .string) {A : Option Addr} {n cap : Nat} {xs : List Int}
    (hn : n = xs.length) (h : SlR w (Enc.int .u8) A xs) : (convert src dst (.slice A n cap)).run P w = .ok (.string ⟨(b8 xs).toArray⟩) w := by
  subst hn
  rcases h with ⟨rfl, rfl⟩ | ⟨a, rfl, hc⟩
  · exact run_convert_bytes_nil (P := P) (w := w) src E hs he _ _ dst hd
  · have hl : (loadCells a xs.length).run P w = .ok (xs.map (Value.int .u8)).toArray w := by
      have hfl : flat (Enc.int .u8) xs = xs.map (Value.int .u8) := by
        unfold flat; rw [List.map_eq_flatMap]; rfl
      have := run_loadCells_list (P := P) (w := w) a (flat (Enc.int .u8) xs) hc
      rw [flat_len, hfl] at this
      simpa [Enc.int] using this
    rw [run_convert_bytes_string w src dst E _ xs.length cap hs he hd, run_bytesToString w _ xs.length cap xs hl, foldl_push_bytes]
    simp [b8, ByteArray.empty, ByteArray.emptyWithCapacity]
    rfl

theorem s_str (x : Operand) (src dst E : TypeId) (xs : List Int) (A : Option Addr) (n cap : Nat) (ho : o.op = .convert src dst x) (hs : P.underlying src = some (.slice E)) (he : P.underlying E = some (.int .u8)) (hd : P.underlying dst = some .string)
    (hx : (Fr l).eval x = .slice A n cap) (hn : n = xs.length) (hw : Region.wanted o (yielded ops l.toArray) = true) (h : SlR w (Enc.int .u8) A xs)
    (K : WL P ops Q os (Fr (dstSet o.dst l (.string ⟨(b8 xs).toArray⟩))) w) : WL P ops Q (o :: os) (Fr l) w := by
  refine step_val hw ?_ K
  unfold execOp
  simp only [ho, hx, Sem.run_bind, run_bytes_str hs he hd hn h, Result.andThen_ok, Sem.run_pure]

theorem s_streq (x y : Operand) (t t' : TypeId) (a b : List UInt8) (ho : o.op = .binOp .eql t x y t') (hx : (Fr l).eval x = .string ⟨a.toArray⟩) (hy : (Fr l).eval y = .string ⟨b.toArray⟩)
    (hw : Region.wanted o (yielded ops l.toArray) = true) (K : WL P ops Q os (Fr (dstSet o.dst l (.bool (a == b)))) w) : WL P ops Q (o :: os) (Fr l) w := by
  refine step_val hw ?_ K
  unfold execOp
  simp [ho, hx, hy, eqGuard_at_string, binOp, Op.stringOp, ByteArray.toList_mk]
theorem s_strneq (x y : Operand) (t t' : TypeId) (a b : List UInt8) (ho : o.op = .binOp .neq t x y t') (hx : (Fr l).eval x = .string ⟨a.toArray⟩) (hy : (Fr l).eval y = .string ⟨b.toArray⟩)
    (hw : Region.wanted o (yielded ops l.toArray) = true) (K : WL P ops Q os (Fr (dstSet o.dst l (.bool (!(a == b))))) w) : WL P ops Q (o :: os) (Fr l) w := by
  refine step_val hw ?_ K
  unfold execOp
  simp [ho, hx, hy, eqGuard_at_string, binOp, Op.stringOp, ByteArray.toList_mk]
theorem s_strlss (x y : Operand) (t t' : TypeId) (a b : List UInt8) (ho : o.op = .binOp .lss t x y t') (hx : (Fr l).eval x = .string ⟨a.toArray⟩) (hy : (Fr l).eval y = .string ⟨b.toArray⟩)
    (hw : Region.wanted o (yielded ops l.toArray) = true) (K : WL P ops Q os (Fr (dstSet o.dst l (.bool (Op.bytesLess a b)))) w) : WL P ops Q (o :: os) (Fr l) w := by
  refine step_val hw ?_ K
  unfold execOp
  simp [ho, hx, hy, eqGuard_at_string, binOp, Op.stringOp, ByteArray.toList_mk]

/-- The letters of a string as bytes. -/
def bnums (s : List UInt8) : List Int := s.map fun b => (b.toNat : Int)

theorem src_str {T : TypeId} (hT : P.underlying T = some .string) (s : List UInt8) : Src P w T (.string ⟨s.toArray⟩) (Enc.int .u8) (bnums s) where
  ty := .inr hT
  lenOf := by simp [Builtin.lenOf, bnums, ByteArray.size]
  cells w' _ := by
    have hfl : flat (Enc.int .u8) (bnums s) = s.map fun b => .int .u8 (b.toNat : Int) := by
      unfold flat bnums
      induction s with
      | nil => rfl
      | cons b s ih => simp [Enc.int, List.flatMap_cons] at ih ⊢; exact ih
    rw [hfl]
    simp only [Builtin.firstCells, Sem.run_pure, bnums, List.length_map]
    congr 1
    apply Array.toList_inj.1
    simp [ByteArray.data_extract]

/-! ### What is written out and converted to its own kind is marked, and from then on read alone -/

theorem cellAt_freeze (a : Addr) (n : Nat) (p : Addr) : (w.freeze a n).cell? p = w.cell? p := by
  unfold World.freeze
  split
  · rfl
  · unfold World.cell?
    simp only [Array.getElem?_modify]
    by_cases h : a.block = p.block
    · rw [if_pos h]
      cases w.heap[p.block]? with
      | none => rfl
      | some ob => cases ob <;> rfl
    · rw [if_neg h]

theorem s_conv (x : Operand) (T E : TypeId) (n : Nat) (ho : o.op = .convert T T x) (hT : P.underlying T = some (.slice E)) (hE : P.underlying E = some (.int .u8))
    (hx : (Fr l).eval x = .slice A n cap) (hA : A ≠ none) (hw : Region.wanted o (yielded ops l.toArray) = true)
    (hS : Own w0 D R w (rowA e A cap xs :: X) S) (hD : ∀ b, ¬ D b)
    (K : ∀ w', Own w0 D R w' X (slA (blkOf A) e A cap xs :: S) → WL P ops Q os (Fr (dstSet o.dst l (.slice A n cap))) w') : WL P ops Q (o :: os) (Fr l) w := by
  obtain ⟨hl, h'⟩ := row_facts hS.x0
  rcases h' with ⟨h1, _⟩ | ⟨b, o', t, pre, sp, post, rfl, h2, h3, h4⟩
  · exact absurd h1 hA
  have hsh : w.shape? b = some (t, (pre ++ (flat e xs ++ (sp ++ post))).toArray.size) := by
    unfold World.shape?; rw [h4]
  refine step_val hw ?_ (K (w.freeze ⟨b, (pre ++ (flat e xs ++ (sp ++ post))).toArray.size, none⟩ 1) ?_)
  · unfold execOp
    simp only [ho, hx]
    unfold convert
    simp only [Sem.run_bind, run_underlying hT, run_underlying hE, Result.andThen_ok, beq_self_eq_true, markStringish, run_shape, hsh, run_freeze, Sem.run_pure]
  · have hk : Keeps (rowA e (some ⟨b, o', none⟩) cap xs).dom w (w.freeze ⟨b, (pre ++ (flat e xs ++ (sp ++ post))).toArray.size, none⟩ 1) := by
      refine ⟨rfl, rfl, rfl, by simp [World.freeze], fun k _ hk => ?_⟩
      simp only [World.freeze]
      rw [if_neg (by decide)]
      simp only [Array.getElem?_modify]
      rw [if_neg (fun h => hk ⟨_, rfl, h⟩)]
    have hat : (slA (blkOf (some ⟨b, o', none⟩)) e (some ⟨b, o', none⟩) cap xs).at (w.freeze ⟨b, (pre ++ (flat e xs ++ (sp ++ post))).toArray.size, none⟩ 1) := by
      have h0 := sl_of_row hS.x0
      refine ⟨h0.1, h0.2.imp id ?_⟩
      rintro ⟨a, ha, hc⟩
      refine ⟨a, ha, fun j u hj => ?_⟩
      have h5 := cellAt_cut (hc j u hj)
      have h6 : blkOf (some ⟨b, o', none⟩) (a.add j).block := h5.1
      unfold cellAt
      rw [show (slA (blkOf (some ⟨b, o', none⟩)) e (some ⟨b, o', none⟩) cap xs).dom = blkOf (some ⟨b, o', none⟩) from rfl, cut_pos h6]
      show (w.freeze _ 1).cell? (a.add j) = some u
      rw [cellAt_freeze]
      exact h5.2
    have hsz : (w.freeze ⟨b, (pre ++ (flat e xs ++ (sp ++ post))).toArray.size, none⟩ 1).heap.size = w.heap.size := by simp [World.freeze]
    have hbl : ∀ c, blkOf (some ⟨b, o', none⟩) c → (blkOf (some ⟨b, o', none⟩) c ∨ w.heap.size ≤ c) ∧ c < (w.freeze ⟨b, (pre ++ (flat e xs ++ (sp ++ post))).toArray.size, none⟩ 1).heap.size := fun c hc => by
      refine ⟨.inl hc, ?_⟩
      rw [hsz]
      exact (hS.xdom _ (List.mem_cons_self ..) c hc).2
    have h7 := hS.turn1 (B := slA (blkOf (some ⟨b, o', none⟩)) e (some ⟨b, o', none⟩) cap xs) hk hat hbl
    exact h7.freeze (fun c _ => hD c) h7.x0 fun _ h => h

/-! ### Slices of slices, read alone -/

def SlsOk (e : Enc α) (A : Option Addr) (cap : Nat) (xss : List (List α)) (h : Hp) : Prop :=
  xss.length ≤ cap ∧ ((A = none ∧ xss = []) ∨ ∃ a, A = some a ∧ ∀ (j : Nat) (xs : List α), xss[j]? = some xs → ∃ B c, cellAt h (a.add j) = some (.slice B xs.length c) ∧ SlOk e B c xs h)

def slsA (Rd : Nat → Prop) (e : Enc α) (A : Option Addr) (cap : Nat) (xss : List (List α)) : Atom := ⟨Rd, SlsOk e A cap xss⟩

theorem Own.sls_mem {Rd : Nat → Prop} {xss : List (List α)} (hS : Own w0 D R w X S) (h : slsA Rd e A cap xss ∈ S) : (slsA Rd e A cap xss).at w := hS.sok _ h

theorem s_index_sls {Rd : Nat → Prop} {xss : List (List α)} (x iop : Operand) (T E : TypeId) (k : IntKind) (i : Int) (ho : o.op = .indexAddr T x iop) (hT : P.underlying T = some (.slice E)) (hsz : pev P (sizeOf E) = some 1)
    (hx : (Fr l).eval x = .slice A xss.length cap) (hi : (Fr l).eval iop = .int k i)
    (hw : Region.wanted o (yielded ops l.toArray) = true) (hr : (slsA Rd e A cap xss).at w) (h0 : 0 ≤ i) (h1 : i < xss.length)
    (K : ∀ p, ElP A 1 i.toNat p → WL P ops Q os (Fr (dstSet o.dst l (.pointer (some p)))) w) :
    WL P ops Q (o :: os) (Fr l) w := by
  rcases hr.2 with ⟨_, rfl⟩ | ⟨a, rfl, hc⟩
  · simp at h1; omega
  refine step_val hw ?_ (K (a.add (i.toNat * 1)) ⟨a, rfl, rfl⟩)
  unfold execOp
  have hin : 0 ≤ i ∧ i < (xss.length : Int) := ⟨h0, h1⟩
  simp [ho, hx, hi, Instr.indexAt, asIntOf, run_underlying hT, hin, pev_run _ _ hsz w]

theorem s_load_sls {Rd : Nat → Prop} {xss : List (List α)} {ys : List α} (x : Operand) (E : TypeId) (p : Addr) (k : Nat) (ho : o.op = .load E x) (hagg : pev P (isAgg E) = some false) (hx : (Fr l).eval x = .pointer (some p))
    (hw : Region.wanted o (yielded ops l.toArray) = true) (hp : ElP A 1 k p) (hr : (slsA Rd e A cap xss).at w) (hy : xss[k]? = some ys)
    (K : ∀ B c, (slA Rd e B c ys).at w → WL P ops Q os (Fr (dstSet o.dst l (.slice B ys.length c))) w) : WL P ops Q (o :: os) (Fr l) w := by
  obtain ⟨a, rfl, rfl⟩ := hp
  rcases hr.2 with ⟨h, _⟩ | ⟨a', ha, hc⟩
  · cases h
  injection ha with ha
  subst ha
  obtain ⟨B, c, h1, h2⟩ := hc k ys hy
  refine step_val hw ?_ (K B c h2)
  unfold execOp
  have hcell : w.cell? (a.add k) = some (.slice B ys.length c) := (cellAt_cut h1).2
  rw [Nat.mul_one] at hx
  simp [ho, hx, Instr.loadAt, Instr.sureAddr, loadVar, pev_run _ _ hagg w, hcell]

theorem Own.addEl {Rd : Nat → Prop} {xss : List (List α)} {B : Option Addr} {c : Nat} {ys : List α} (hS : Own w0 D R w X S) (h : slsA Rd e A cap xss ∈ S) (hy : (slA Rd e B c ys).at w) : Own w0 D R w X (slA Rd e B c ys :: S) :=
  hS.addS hy fun _ hb => ⟨_, h, hb⟩

theorem SlR.nil_of (h : SlR w e A xs) (hA : A.isNone = true) : [] = xs := by
  rcases h with ⟨_, h⟩ | ⟨a, rfl, _⟩
  · exact h.symm
  · cases hA
theorem row_ne (h : (rowA e A cap xs).at w) (hp : 0 < xs.length) : A ≠ none := by
  rintro rfl
  have := (row_none h).1
  subst this
  simp at hp

/-! ### A slice of slices written out -/

def SlsIn (S : List Atom) (e : Enc α) : List Value → List (List α) → Prop
  | [], [] => True
  | v :: vs, xs :: xss => (∃ B c Rd, v = .slice B xs.length c ∧ slA Rd e B c xs ∈ S) ∧ SlsIn S e vs xss
  | _, _ => False

theorem SlsIn.get {S : List Atom} : ∀ {vs : List Value} {xss : List (List α)}, SlsIn S e vs xss → ∀ (j : Nat) (xs : List α), xss[j]? = some xs → ∃ B c Rd, vs[j]? = some (.slice B xs.length c) ∧ slA Rd e B c xs ∈ S
  | [], [], _, j, xs, h => by simp at h
  | v :: vs, ys :: xss, h, 0, xs, hj => by
    simp at hj
    subst hj
    obtain ⟨B, c, Rd, h1, h2⟩ := h.1
    exact ⟨B, c, Rd, by simp [h1], h2⟩
  | v :: vs, ys :: xss, h, j + 1, xs, hj => by
    obtain ⟨B, c, Rd, h1, h2⟩ := SlsIn.get h.2 j xs (by simpa using hj)
    exact ⟨B, c, Rd, by simpa using h1, h2⟩
  | [], _ :: _, h, _, _, _ => h.elim
  | _ :: _, [], h, _, _, _ => h.elim
theorem SlsIn.len {S : List Atom} : ∀ {vs : List Value} {xss : List (List α)}, SlsIn S e vs xss → vs.length = xss.length
  | [], [], _ => rfl
  | _ :: _, _ :: _, h => by simp [SlsIn.len h.2]
  | [], _ :: _, h => h.elim
  | _ :: _, [], h => h.elim
theorem SlsIn.leaf {S : List Atom} : ∀ {vs : List Value} {xss : List (List α)}, SlsIn S e vs xss → ∀ u ∈ vs, u.oneCell' = true
  | [], [], _, u, hu => by cases hu
  | v :: vs, _ :: _, h, u, hu => by
    rcases List.mem_cons.1 hu with rfl | hu
    · obtain ⟨B, c, Rd, h1, _⟩ := h.1; rw [h1]; rfl
    · exact SlsIn.leaf h.2 u hu
  | [], _ :: _, h, _, _ => h.elim
  | _ :: _, [], h, _, _ => h.elim

theorem s_lit_sls (T E : TypeId) (bytes n : Nat) (ps : Array (Nat × Operand)) (vs : List Value) (xss : List (List α)) (ho : o.op = .buildSlice T n ps) (hT : P.underlying T = some (.slice E))
    (hinfo : (P.info? E).map (fun i => (i.zero, i.size, i.bytes)) = some (some (.slice none 0 0), 1, bytes))
    (hn : n ≤ 16777216) (hxs : xss.length = n)
    (hw : Region.wanted o (yielded ops l.toArray) = true)
    (hf : Instr.fill (fun j => some (j * 1, 1)) ((Array.range (n * 1)).map ((if n * 1 = 0 then #[] else (Value.slice none 0 0).cells)[· % (if n * 1 = 0 then #[] else (Value.slice none 0 0).cells).size]!)) (ps.map fun (i, x) => (i, (Fr l).eval x)).toList = some vs.toArray)
    (hS : Own w0 D R w X S) (hin : SlsIn S e vs xss)
    (K : ∀ A' cap' w' Rd', Own w0 D R w' X (slsA Rd' e A' cap' xss :: S) → WL P ops Q os (Fr (dstSet o.dst l (.slice A' xss.length cap'))) w') :
    WL P ops Q (o :: os) (Fr l) w := by
  obtain ⟨i, hi, hz, hsz, hby⟩ := info_parts hinfo
  have hr := run_buildSlice (P := P) (w := w) (T := T) (E := E) (n := n) (bytes := bytes) (parts := ps.map fun (i, x) => (i, (Fr l).eval x)) (cs := vs.toArray) hT hi hz (by rw [hsz]; omega) (by rw [hsz]; exact hf)
  subst hxs
  refine step_val hw ?_ (K (some ⟨w.heap.size, 0, none⟩) xss.length (w.alloc (.cells vs.toArray E)) (fun b => b = w.heap.size ∨ doms S b) ?_)
  · unfold execOp
    simp only [ho, Sem.run_bind, Sem.run_pure, Result.andThen_ok, hr]
  · have hk := keeps_alloc' w (.cells vs.toArray E) (fun _ => False)
    have hsS : ∀ A ∈ S, ∀ b, A.dom b → b < w.heap.size := fun A hA b hb => (hS.sdom A hA b hb).2
    have hxX : ∀ A ∈ X, ∀ b, A.dom b → b < w.heap.size := fun A hA b hb => (hS.xdom A hA b hb).2
    have hcell : ∀ a : Addr, a.block < w.heap.size → (w.alloc (.cells vs.toArray E)).heap[a.block]? = w.heap[a.block]? := fun a ha => hk.block _ ha id
    constructor
    · exact ⟨hk.os.trans hS.keep.os, hk.tape.trans hS.keep.tape, hk.output.trans hS.keep.output, Nat.le_trans hS.keep.size hk.size, fun b hb hn => by
        rw [hk.block b (Nat.lt_of_lt_of_le hb hS.keep.size) id]; exact hS.keep.block b hb hn⟩
    · exact fun A hA => at_keep (hS.xok A hA) fun b hb => hk.block b (hxX A hA b hb) id
    · refine forall2 ?_ fun A hA => at_keep (hS.sok A hA) fun b hb => hk.block b (hsS A hA b hb) id
      refine ⟨Nat.le_refl _, .inr ⟨_, rfl, fun j xs hj => ?_⟩⟩
      obtain ⟨B, c, Rd, h1, h2⟩ := hin.get j xs hj
      refine ⟨B, c, ?_, ?_⟩
      · have hlt : j < vs.length := (List.getElem?_eq_some_iff.1 h1).1
        rw [Addr.add_lit]
        unfold cellAt
        rw [show (slsA (fun b => b = w.heap.size ∨ doms S b) e (some ⟨w.heap.size, 0, none⟩) xss.length xss).dom = fun b => b = w.heap.size ∨ doms S b from rfl, cut_pos (.inl rfl)]
        show (match (w.alloc (.cells vs.toArray E)).heap[w.heap.size]? with | some (.cells c _ _) => if (none : Option Nat).isSome then none else c[0 + j]? | _ => none) = _
        rw [heap_alloc_new]
        simp only [Option.isSome_none, Bool.false_eq_true, if_false, Nat.zero_add, List.getElem?_toArray]
        exact h1
      · have h3 := hS.sok _ h2
        refine ⟨h3.1, h3.2.imp id ?_⟩
        rintro ⟨a, ha, hc⟩
        refine ⟨a, ha, fun q u hq => ?_⟩
        have h4 := cellAt_cut (hc q u hq)
        have h5 : Rd (a.add q).block := h4.1
        have h6 := hsS _ h2 _ h5
        unfold cellAt
        rw [show (slsA (fun b => b = w.heap.size ∨ doms S b) e (some ⟨w.heap.size, 0, none⟩) xss.length xss).dom = fun b => b = w.heap.size ∨ doms S b from rfl, cut_pos (.inr ⟨_, h2, h5⟩)]
        show (match (w.alloc (.cells vs.toArray E)).heap[(a.add q).block]? with | some (.cells c _ _) => if (a.add q).spot.isSome then none else c[(a.add q).off]? | _ => none) = _
        rw [hcell _ h6]
        exact h4.2
    · exact fun A hA b hb => ⟨(hS.xdom A hA b hb).1, Nat.lt_of_lt_of_le (hxX A hA b hb) hk.size⟩
    · refine forall2 ?_ fun A hA b hb => ⟨(hS.sdom A hA b hb).1, Nat.lt_of_lt_of_le (hsS A hA b hb) hk.size⟩
      rintro b (rfl | ⟨A, hA, hb⟩)
      · exact ⟨.inr hS.keep.size, by simp⟩
      · exact ⟨(hS.sdom A hA b hb).1, Nat.lt_of_lt_of_le (hsS A hA b hb) hk.size⟩
    · exact hS.xx
    · intro A hA
      refine forall2 ?_ (hS.xs A hA)
      rintro b ha (rfl | ⟨B, hB, hb⟩)
      · exact absurd (hxX A hA _ ha) (Nat.lt_irrefl _)
      · exact hS.xs A hA B hB b ha hb

/-! ### make -/
def mk (bytes : Nat) (n : Int) : Option Nat := if 0 ≤ n ∧ (bytes : Int) * n ≤ 140737488355328 ∧ n ≤ 9223372036854775807 then some n.toNat else none

theorem s_make (T E : TypeId) (bytes : Nat) (lo co : Operand) (k k' : IntKind) (n : Int) (m : Nat) (x0 : α) (z : Value) (ho : o.op = .makeSlice T lo co) (hT : P.underlying T = some (.slice E))
    (hinfo : (P.info? E).map (fun i => (i.zero, i.size, i.bytes)) = some (some z, 1, bytes)) (h1 : e.sz = 1) (hz : z.cells = #[z]) (hx : e.cs x0 = [z])
    (hl : (Fr l).eval lo = .int k n) (hc : (Fr l).eval co = .int k' n) (hw : Region.wanted o (yielded ops l.toArray) = true) (hm : mk bytes n = some m) (hS : Own w0 D R w X S)
    (K : ∀ A' cap' w', Own w0 D R w' (rowA e A' cap' (List.replicate m x0) :: X) S → WL P ops Q os (Fr (dstSet o.dst l (.slice A' (List.replicate m x0).length cap'))) w') : WL P ops Q (o :: os) (Fr l) w := by
  obtain ⟨i, hi, hz', hsz, hby⟩ := info_parts hinfo
  unfold mk at hm
  split at hm
  · rename_i hn
    injection hm with hm
    subst hm
    have hr := run_make (P := P) w T E i z hT hi hz' k k' n n hn.1 (Int.le_refl _) (by rw [hby]; omega) hn.2.2
    have hcells : madeCells z.cells (n.toNat * i.size) = (flat e (List.replicate n.toNat x0)).toArray := by
      apply Array.toList_inj.1
      rw [hz, hsz, Nat.mul_one, toList_madeCells_one]
      show _ = flat e (List.replicate n.toNat x0)
      generalize n.toNat = m
      induction m with
      | zero => rfl
      | succ m ih => rw [List.replicate_succ, List.replicate_succ, flat_cons, hx, ← ih]; rfl
    rw [hcells] at hr
    refine step_val hw (v := .slice (some ⟨w.heap.size, 0, none⟩) n.toNat n.toNat) (w' := w.alloc (.cells (flat e (List.replicate n.toNat x0)).toArray E)) ?_ ?_
    · unfold execOp
      simp only [ho, hl, hc, Sem.run_bind, hr, Result.andThen_ok, Sem.run_pure]
    · have := K (some ⟨w.heap.size, 0, none⟩) n.toNat (w.alloc (.cells (flat e (List.replicate n.toNat x0)).toArray E)) (hS.new (keeps_alloc' _ _ _) ?_ ?_)
      · simpa using this
      · exact row_mk (w := w.alloc (.cells (flat e (List.replicate n.toNat x0)).toArray E)) (e := e) (xs := List.replicate n.toNat x0) (cap := n.toNat) (b := w.heap.size) (o := 0) (t := E) (pre := []) (sp := []) (post := []) (by simp) rfl (by rw [flat_len]; simp) (by simpa using heap_alloc_new w _)
      · rintro b ⟨a, ha, rfl⟩
        injection ha with ha
        subst ha
        exact ⟨Nat.le_refl _, by simp⟩
  · cases hm

/-! ### A slice is nil, or it isn't -/
theorem s_sleq_nil (x : Operand) (T E : TypeId) {t' : TypeId} (n : Nat) (ho : o.op = .binOp .eql T x (.const (.slice none 0 0)) t') (hT : P.underlying T = some (.slice E))
    (hx : (Fr l).eval x = .slice A n cap) (hw : Region.wanted o (yielded ops l.toArray) = true)
    (K : WL P ops Q os (Fr (dstSet o.dst l (.bool A.isNone))) w) : WL P ops Q (o :: os) (Fr l) w := by
  refine step_val hw ?_ K
  unfold execOp
  have h : (Op.equal T (.slice A n cap) (.slice none 0 0)).run P w = .ok A.isNone w := by
    unfold Op.equal Op.maxDepth Op.equalIn
    cases A <;> simp [run_underlying hT]
  have hc : (Fr l).eval (.const (.slice none 0 0)) = .slice none 0 0 := rfl
  simp only [ho, hx, hc, eqGuard_at_slice, binOp, Sem.run_bind, Sem.run_pure, Result.andThen_ok, h]
end
end Go.Lift
