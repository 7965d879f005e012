/- A command as bytes: what a call of the package's Command comes to. -/
import Derived.Test.YtlkcgjablhpfcaaDoorSc19
import Derived.Test.YtlkcgjablhpfcaaDoorBd19
import Derived.Lib.ItoaLen
namespace Go.Proofs.YtlkcgjablhpfcaaDoor
open Go Go.Lift Go.RowKit Go.Proofs
set_option maxRecDepth 100000
set_option maxHeartbeats 4000000
set_option linter.unusedVariables false

theorem glw_below {z : Zn} {w w' : World} (h : GlW GL z w) (hb : Below w.heap.size w w') : GlW GL z w' := by
  intro e he
  obtain ⟨c, h1, t, m, h2⟩ := h e he
  refine ⟨c, h1, t, m, ?_⟩
  rw [hb.block e.1 ?_]
  · exact h2
  · rcases Nat.lt_or_ge e.1 w.heap.size with h' | h'
    · exact h'
    · rw [Array.getElem?_eq_none h'] at h2; cases h2

theorem text_calls {n : Int} (h0 : -9223372036854775808 ≤ n) (h1 : n ≤ 9223372036854775807) {z : Zn} {w : World} (hg : GlW GL z w) :
    Calls Tryd.prog 26 #[.int .i64 n] w fun e w' => e = .returned (.string ⟨(Lib.itoa n).toArray⟩) ∧ Below w.heap.size w w' := by
  go_enter Tryd.func26, Tryd.ntmps26
  go_wp2_with (go_at_call 38; refine (Any.strconv_Itoa Tryd.laysM171 n h0 h1 w (pow_tab hg)).mono ?_)
  rintro e w' ⟨rfl, k, os, rfl⟩
  go_wp2
  go_ret
  refine ⟨rfl, rfl, rfl, rfl, ?_, fun b hb => ?_⟩
  · simp [Go.Sort.grow, World.drewN]
  · simp only [Go.Sort.grow, World.drewN]
    rw [Array.getElem?_append_left hb]

theorem bulk_calls {t : List UInt8} (hl : t.length ≤ 2000000) {z : Zn} {w : World} (hg : GlW GL z w) :
    Calls Tryd.prog 27 #[.string ⟨t.toArray⟩] w fun e w' => e = .returned (.string ⟨(sc_bulk t).toArray⟩) ∧ Below w.heap.size w w' := by
  go_enter Tryd.func27, Tryd.ntmps27
  go_wp2_with (go_at_call 26; refine (text_calls (by first | omega | (simp [ByteArray.size]; omega)) (by first | omega | (simp [ByteArray.size]; omega)) hg).mono ?_)
  rintro e w' ⟨rfl, hb⟩
  have hI := Lib.itoa_length_le (t.length : Int) (by omega) (by omega)
  go_wp2
  all_goals first
    | (exfalso; omega)
    | skip
  go_ret
  refine ⟨congrArg (fun x => Ending.returned (Value.string x)) ?_, hb⟩
  apply ByteArray.ext
  simp [ByteArray.data_append, sc_bulk]

theorem hidC {p : Prop} (h : p) : Hid p := h

/-- What the builder holds behind k words. -/
def cmPre (l : List (List UInt8)) (k : Nat) : List UInt8 := 42 :: (Lib.itoa (l.length : Int) ++ (13 :: 10 :: (l.take k).flatMap sc_bulk))
theorem cmPre_all (l : List (List UInt8)) : cmPre l l.length = sc_command l := by unfold cmPre sc_command; rw [List.take_length]
theorem cmPre_succ {l : List (List UInt8)} {k : Nat} (h : k < l.length) : cmPre l (k + 1) = cmPre l k ++ sc_bulk l[k] := by
  unfold cmPre
  rw [List.take_succ_eq_append_getElem h, List.flatMap_append]
  simp
theorem cmPre_le {l : List (List UInt8)} {k : Nat} (h : k ≤ l.length) : (cmPre l k).length ≤ (sc_command l).length := by
  have e : ((l.take k).flatMap sc_bulk).length ≤ (l.flatMap sc_bulk).length := by
    conv => rhs; rw [← List.take_append_drop k l, List.flatMap_append, List.length_append]
    omega
  unfold cmPre sc_command
  simp only [List.length_cons, List.length_append]
  omega

theorem builder_kept {T e B b : Nat} {bs : List Value} {w w' : World} (h : Lib.IsBuilder T e B b bs w) (hb : Below w.heap.size w w') : Lib.IsBuilder T e B b bs w' := by
  have lt : ∀ {k : Nat} {o : Obj}, w.heap[k]? = some o → w'.heap[k]? = some o := by
    intro k o hk
    rw [hb.block k ?_]
    · exact hk
    · rcases Nat.lt_or_ge k w.heap.size with h' | h'
      · exact h'
      · rw [Array.getElem?_eq_none h'] at hk; cases hk
  have key : ∀ {p : Value}, Lib.BuilderAt T e B b p bs w → Lib.BuilderAt T e B b p bs w' := by
    rintro p ⟨hB, v, h1, ⟨h2, h3⟩, h4⟩
    refine ⟨hB, v, lt h1, ⟨h2, ?_⟩, h4⟩
    rcases h3 with h3 | ⟨g, cap, cur, h5, h6, h7, h8⟩
    · exact .inl h3
    · exact .inr ⟨g, cap, cur, h5, h6, lt h7, h8⟩
  exact h.imp key key

theorem command_calls {l : List (List UInt8)} (hn : l.length ≤ 1000) (hl : (sc_command l).length ≤ 2000000) {z : Zn} {w : World} (hg : GlW GL z w) {A : Option Addr} {cap : Nat}
    (hc : ∀ j x, l[j]? = some x → ∃ a, A = some a ∧ a.block < w.heap.size ∧ w.cell? (a.add j) = some (.string ⟨x.toArray⟩)) :
    Calls Tryd.prog 10 #[.slice A l.length cap] w fun e w' => ∃ w3, e = .returned (.slice (some ⟨w3.heap.size, 0, none⟩) (sc_command l).length (grownCap w3 (sc_command l).length 0 5)) ∧ w' = Lib.bytesWorld w3 5 ⟨(sc_command l).toArray⟩ ∧ Below w.heap.size w w3 := by
  have HC := hidC hc
  clear hc
  have hI := Lib.itoa_length_le (l.length : Int) (by omega) (by omega)
  have hB0 : Lib.IsBuilder 64 5 w.heap.size w.heap.size [] (w.alloc (.cells #[.pointer none, .slice none 0 0] 64)) := Lib.fresh_isBuilder 64 5 w
  have hb0 : Below w.heap.size w (w.alloc (.cells #[.pointer none, .slice none 0 0] 64)) := (Below.refl _ w).alloc (Nat.le_refl _) _
  go_enter Tryd.func10, Tryd.ntmps10
  go_wp2_with (go_at_call 26; refine (text_calls (by omega) (by omega) (glw_below hg hb0)).mono ?_)
  rintro e w1 ⟨rfl, hb1⟩
  have hB1 : Lib.IsBuilder 64 5 w.heap.size w.heap.size [] w1 := by
    have hs : (w.alloc (.cells #[.pointer none, .slice none 0 0] 64)).heap.size = w.heap.size + 1 := by simp
    have hb := hb1.block w.heap.size (by omega)
    refine .inl ⟨Nat.le_refl _, .slice none 0 0, ?_, World.ownsRow_nil _ _ _ _, by simp [Value.ownBlock]⟩
    rw [hb]
    exact heap_alloc_new w _
  have hw1 : w.heap.size ≤ w1.heap.size := by have := hb0.size; have := hb1.size; omega
  have hb01 : Below w.heap.size w w1 := hb0.trans ⟨hb1.os, hb1.tape, hb1.output, hb1.size, fun k hk => hb1.block k (by have := hb0.size; omega)⟩
  have HB1 := hidC hB1
  have Hb01 := hidC hb01
  clear hB0 hb0 hb1 hB1 hb01
  go_wp2_with (go_at_call 25; refine (Tryd.bd_write w.heap.size w.heap.size [] _ w1 HB1.out ?_ hw1).mono ?_)
  · simp [ByteArray.size, ByteArray.data_append]; omega
  rintro e w2 ⟨rfl, h2, hb2⟩
  have hB2 : Lib.IsBuilder 64 5 w.heap.size w.heap.size (Lib.byteCells (cmPre l 0)) w2 := by
    refine .inr ?_
    have : ([] ++ Lib.strCells ({ data := #[42] } ++ { data := (Lib.itoa (l.length : Int)).toArray } ++ { data := #[13, 10] } : ByteArray)) = Lib.byteCells (cmPre l 0) := by
      rw [List.nil_append, Lib.strCells_eq]
      unfold cmPre
      simp [ByteArray.data_append]
    rw [← this]; exact h2
  have HB2 := hidC hB2
  have Hb02 := hidC (Hb01.out.trans hb2)
  clear h2 hb2 hB2 HB1 Hb01
  go_wp2
  go_loopw [14] (fun i wr => ∃ k : Nat, k ≤ l.length ∧ i = .int .i64 k ∧ Hid (Lib.IsBuilder 64 5 w.heap.size w.heap.size (Lib.byteCells (cmPre l k)) wr) ∧ Hid (Below w.heap.size w wr)) (fun i _ => l.length - (Lib.intOf i).toNat)
  case atStart => exact ⟨0, Nat.zero_le _, rfl, HB2, Hb02⟩
  case round =>
    obtain ⟨k, hk, rfl, HB, HW⟩ := hrel
    by_cases hlt : k < l.length
    · obtain ⟨a, rfl, ha, hcell⟩ := HC.out k _ (List.getElem?_eq_getElem hlt)
      have hcell' : wr.cell? (a.add k) = some (.string ⟨(l[k]).toArray⟩) := by
        rw [← hcell]
        have hb := HW.out.block (a.add k).block (by unfold Addr.add; split <;> exact ha)
        unfold World.cell?
        rw [hb]
      have hl1 : (cmPre l k).length + (sc_bulk l[k]).length ≤ 2000000 := by
        have := cmPre_le (l := l) (k := k + 1) hlt
        rw [cmPre_succ hlt, List.length_append] at this
        omega
      have hl2 : (l[k]).length ≤ 2000000 := by
        have : (l[k]).length ≤ (sc_bulk l[k]).length := by unfold sc_bulk; simp only [List.length_cons, List.length_append]; omega
        omega
      have hgr := glw_below hg HW.out
      go_wp2_with (go_at_call 27; refine (bulk_calls hl2 hgr).mono ?_)
      rintro e w3 ⟨rfl, hb3⟩
      have hs3 : w.heap.size ≤ w3.heap.size := by have := HW.out.size; have := hb3.size; omega
      have hB3 : Lib.IsBuilder 64 5 w.heap.size w.heap.size (Lib.byteCells (cmPre l k)) w3 := builder_kept HB.out hb3
      have HB3 := hidC hB3
      have Hb3 := hidC (HW.out.trans ⟨hb3.os, hb3.tape, hb3.output, hb3.size, fun q hq => hb3.block q (by have := HW.out.size; omega)⟩)
      clear hB3 hb3
      go_wp2_with (go_at_call 25; refine (Tryd.bd_write w.heap.size w.heap.size _ _ w3 HB3.out ?_ hs3).mono ?_)
      · rw [Lib.byteCells_length]; simp [ByteArray.size]; omega
      rintro e w4 ⟨rfl, h4, hb4⟩
      rw [show Lib.byteCells (cmPre l k) ++ Lib.strCells ⟨(sc_bulk l[k]).toArray⟩ = Lib.byteCells (cmPre l (k + 1)) from by rw [Lib.strCells_eq, cmPre_succ hlt, Lib.byteCells_append]] at h4
      have H4 := hidC (Or.inr h4 : Lib.IsBuilder 64 5 w.heap.size w.heap.size (Lib.byteCells (cmPre l (k + 1))) w4)
      have Hb4 := hidC (Hb3.out.trans hb4)
      clear h4 hb4
      go_wp2
      exact ⟨⟨k + 1, hlt, by go_num, H4, Hb4⟩, by simp [Lib.intOf]; omega⟩
    · obtain rfl : k = l.length := by omega
      rw [cmPre_all] at HB
      go_wp2_with (go_at_call 28; refine (Any.Builder_String Tryd.lays169 Tryd.Builder_Extra_169 w.heap.size w.heap.size _ wr HB.out (by unfold sc_command; simp)).mono ?_)
      rintro e w5 ⟨rfl, hb5⟩
      have Hb5 := hidC (HW.out.trans hb5)
      clear hb5
      go_wp2
      rw [Lib.run_convert_string_bytes w5 9 23 5 ⟨(sc_command l).toArray⟩ Tryd.underlying9 Tryd.underlying23 Tryd.underlying5]
      simp only [Result.andThen]
      rw [Oper.upon_value]
      go_wp2
      go_ret
      exact ⟨w5, by simp, rfl, Hb5.out⟩

def chStr (x : List UInt8) : Chunk Ty.str.sz := ⟨[.string ⟨x.toArray⟩], rfl, by intro u hu; rw [List.mem_singleton] at hu; subst hu; rfl⟩
theorem chunks_strs {z : Zn} {xs : List (List UInt8)} {ch : List (Chunk Ty.str.sz)} (h : Els (t := .str) (fun y c => Ty.str.holds z y c) xs ch) : flat Ty.str.enc ch = xs.map fun x => Value.string ⟨x.toArray⟩ := by
  have e : ch = xs.map chStr := by
    apply List.ext_getElem?
    intro i
    rw [List.getElem?_map]
    cases hx : xs[i]? with
    | none => rw [List.getElem?_eq_none (by rw [← h.1]; exact List.getElem?_eq_none_iff.1 hx)]; rfl
    | some x =>
      have hl : i < ch.length := by rw [← h.1]; exact (List.getElem?_eq_some_iff.1 hx).1
      rw [List.getElem?_eq_getElem hl]
      have := h.2 i x _ hx (List.getElem?_eq_getElem hl)
      exact congrArg some (Subtype.ext this)
  rw [e]
  clear h e
  induction xs with
  | nil => rfl
  | cons x xs ih => rw [List.map_cons, List.map_cons, flat_cons, ih]; rfl

theorem cell_lt {w : World} {a : Addr} {j : Nat} {v : Value} (h : w.cell? (a.add j) = some v) : a.block < w.heap.size := by
  have e : (a.add j).block = a.block := by unfold Addr.add; split <;> rfl
  unfold World.cell? at h
  rw [e] at h
  rcases Nat.lt_or_ge a.block w.heap.size with h' | h'
  · exact h'
  · rw [Array.getElem?_eq_none h'] at h; cases h

theorem bytes_row (w3 : World) (bs : List UInt8) : (rowA (Ty.int .u8).enc (some ⟨w3.heap.size, 0, none⟩) (grownCap w3 bs.length 0 5) (bs.map bch)).at (Lib.bytesWorld w3 5 ⟨bs.toArray⟩) := by
  have hsz : (⟨bs.toArray⟩ : ByteArray).size = bs.length := by simp [ByteArray.size]
  have hcap : bs.length ≤ grownCap w3 bs.length 0 5 := grownCap_ge w3 _ _ _
  have hcells : Lib.bytesCells w3 5 ⟨bs.toArray⟩ = ([] ++ (flat (Ty.int .u8).enc (bs.map bch) ++ (List.replicate (grownCap w3 bs.length 0 5 - bs.length) (Value.int .u8 0) ++ []))).toArray := by
    apply Array.toList_inj.1
    have hfl : flat (Ty.int .u8).enc (bs.map bch) = bs.map fun b : UInt8 => Value.int .u8 b.toNat := by
      clear hsz hcap
      induction bs with
      | nil => rfl
      | cons b bs ih => rw [List.map_cons, flat_cons, ih]; rfl
    rw [hfl]
    unfold Lib.bytesCells
    rw [hsz]
    simp
  have hn := Lib.bytesWorld_at_new w3 5 ⟨bs.toArray⟩
  rw [hcells] at hn
  refine row_mk' (by simpa using hcap) rfl ?_ ?_ hn
  · rw [flat_len, List.length_map, List.length_replicate]
    show bs.length * 1 + (grownCap w3 bs.length 0 5 - bs.length) = grownCap w3 bs.length 0 5 * 1
    rw [Nat.mul_one, Nat.mul_one, Nat.add_sub_of_le hcap]
  · exact .inr ⟨rfl, by simp⟩
theorem bytes_els (z : Zn) (bs : List UInt8) : Els (t := .int .u8) ((Ty.int .u8).holds z) (bnums bs) (bs.map bch) := by
  refine ⟨by show (bnums bs).length = (bs.map bch).length; simp [bnums], fun i y d hy hd => ?_⟩
  cases hb : bs[i]? with
  | none => rw [List.getElem?_map, hb] at hd; cases hd
  | some b =>
    rw [List.getElem?_map, hb] at hd
    injection hd with hd
    subst hd
    have hy' : (bs.map fun b : UInt8 => ((b.toNat : Nat) : Int))[i]? = some ((b.toNat : Nat) : Int) := by rw [List.getElem?_map, hb]; rfl
    have e : (some y : Option Int) = some ((b.toNat : Nat) : Int) := hy.symm.trans hy'
    injection e with e
    show [Value.int .u8 ((b.toNat : Nat) : Int)] = [Value.int .u8 y]
    exact congrArg (fun n : Int => [Value.int .u8 n]) e.symm

theorem command_args {z : Zn} {Z : Nat → Prop} {w : World} (hfx : (zA Z z).at w) {x : List (List UInt8)} {A : Option Addr} {ch : List (Chunk Ty.str.sz)} (hch : Els (t := .str) (fun y c => Ty.str.holds z y c) x ch)
    (hA : (A = none ∧ ch = []) ∨ ∃ a, A = some a ∧ InZ z a (flat Ty.str.enc ch)) (j : Nat) (y : List UInt8) (hy : x[j]? = some y) : ∃ a, A = some a ∧ a.block < w.heap.size ∧ w.cell? (a.add j) = some (.string ⟨y.toArray⟩) := by
  rcases hA with ⟨rfl, rfl⟩ | ⟨a, rfl, hin⟩
  · have : x = [] := List.eq_nil_of_length_eq_zero hch.1
    subst this; simp at hy
  · have hcell := zone_cell hfx (hin j (.string ⟨y.toArray⟩) (by rw [chunks_strs hch, List.getElem?_map, hy]; rfl))
    exact ⟨a, rfl, cell_lt hcell, hcell⟩

theorem sc_Command_ok : FnOk Go.Proofs.Tryd.prog GL 10 resp_Command_C := by
  intro w ρ Z z X R vs d st i o hfill h hev
  obtain ⟨x, y, rfl, h1, h2⟩ := std_ev hev
  have hst : st = ⟨[.vl false [.dat (.slc .str) x]], []⟩ := (Option.some.inj (show some (⟨[.vl false [.dat (.slc .str) x]], []⟩ : St) = some st from hfill)).symm
  subst hst
  injection (show (0, encHL [.slc (.int .u8)] y) = (i, o) from h2) with e1 e2
  subst e1 e2
  have hX : X = [] := List.eq_nil_of_length_eq_zero h.mem.1.symm
  subst hX
  have h1 : (if List.length (α := List UInt8) x ≤ 1000 ∧ (sc_command x).length ≤ 2000000 then some (bnums (sc_command x)) else none) = some y := h1
  split at h1
  · rename_i hn
    injection h1 with h1
    subst h1
    obtain ⟨v, rfl, hv⟩ := frAt_one h.fr
    have e1 : (Ty.slc .str).holds z x [v] := dat_at hv
    obtain ⟨A, cap, ch, e, hle, hch, hA⟩ := e1
    injection e with e
    subst e
    refine (command_calls hn.1 hn.2 (gl_world h.gz h.fx.1) (command_args h.fx.1 hch hA)).mono ?_
    rintro e w' ⟨w3, rfl, rfl, hb⟩
    have hs : (⟨(sc_command x).toArray⟩ : ByteArray).size = (sc_command x).length := by simp [ByteArray.size]
    have L := later1 ρ z 0 ⟨some ⟨w3.heap.size, 0, none⟩, grownCap w3 (sc_command x).length 0 5, .int .u8, (bnums (sc_command x)).length⟩
    have e1 := ext1_eq ρ 0 ⟨some ⟨w3.heap.size, 0, none⟩, grownCap w3 (sc_command x).length 0 5, .int .u8, (bnums (sc_command x)).length⟩
    have hsz := Lib.bytesWorld_size w3 5 ⟨(sc_command x).toArray⟩
    have hk : Keeps (fun _ => False) w (Lib.bytesWorld w3 5 ⟨(sc_command x).toArray⟩) :=
      ⟨hb.os, hb.tape, hb.output, by rw [hsz]; have := hb.size; omega, fun b hl _ => (Lib.bytesWorld_at_old w3 5 _ b (by have := hb.size; omega)).trans (hb.block b hl)⟩
    refine ⟨.ret, _, ⟨[.vl false [.row 0]], [.row (.int .u8) (bnums (sc_command x))]⟩, _, Z, z, [rowA (Ty.int .u8).enc (some ⟨w3.heap.size, 0, none⟩) (grownCap w3 (sc_command x).length 0 5) ((sc_command x).map bch)], [_], rfl, rfl, rfl, ⟨?_, ?_, ?_, h.ext, h.gl, h.dr⟩, L, fun _ _ _ => ?_⟩
    · refine frAt_cons (Cmp.one ⟨Nat.one_pos, ?_⟩) frAt_nil
      rw [e1]
      simp [bnums]
    · exact MemAt.push (mem := []) (X := []) ⟨rfl, fun h p A hp => by simp at hp⟩ rfl L ⟨by show (ext1 ρ 0 _ 0).ty = _ ∧ (ext1 ρ 0 _ 0).len = _; rw [e1]; exact ⟨rfl, rfl⟩, _, bytes_els z _, by show _ = rowA _ (ext1 ρ 0 _ 0).A (ext1 ρ 0 _ 0).cap _; rw [e1]⟩
    · refine h.own.push hk (bytes_row w3 _) ?_
      rintro q ⟨ad, hq, rfl⟩
      injection hq with hq; subst hq
      exact ⟨hb.size, by rw [hsz]; exact Nat.lt_succ_self _⟩
    · rename_i hlt
      exact absurd hlt (Nat.not_lt_zero _)
  · cases h1
end Go.Proofs.YtlkcgjablhpfcaaDoor
