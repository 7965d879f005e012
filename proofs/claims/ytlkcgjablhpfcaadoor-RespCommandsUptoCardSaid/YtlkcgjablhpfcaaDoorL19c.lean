/- The law RespCommands: what its model answers, where what it reads is at most 1048576 long. -/
import Derived.Test.YtlkcgjablhpfcaaDoorL19
import Derived.Test.YtlkcgjablhpfcaaDoorYu
import Derived.Test.YtlkcgjablhpfcaaDoorCm19
namespace Go.Proofs.YtlkcgjablhpfcaaDoor
open Go Go.Lift Go.Lib
set_option maxRecDepth 100000
set_option maxHeartbeats 4000000
set_option linter.unusedVariables false

theorem feed_r_eq (e : Int) (b : Bool) (v r : List Int) : resp_Parser_Feed_r_M e b v r = resp_Parser_Feed_M v e b r := rfl

theorem roomC {n : Nat} (h : n ≤ 3000000) : room 1 n = some () := room_ok (by omega) (by unfold maxLen; omega)
def m6 (w : List UInt8) : Nat := min w.length 6000
def s6 (l : List (List UInt8)) : Nat := (l.map m6).sum
theorem s6_cons (w : List UInt8) (l : List (List UInt8)) : s6 (w :: l) = m6 w + s6 l := by simp [s6]
theorem s6_succ {l : List (List UInt8)} {k : Nat} (h : k < l.length) : s6 (l.take (k + 1)) = s6 (l.take k) + m6 l[k] := by
  unfold s6
  rw [List.take_succ_eq_append_getElem h, List.map_append, List.sum_append]; simp
def tot (l : List (List UInt8)) : Nat := (l.map List.length).sum
theorem tot_cons (w : List UInt8) (l : List (List UInt8)) : tot (w :: l) = w.length + tot l := by simp [tot]
theorem tot_le : ∀ (l : List (List UInt8)), (∀ w ∈ l, w.length ≤ 1048576) → s6 l ≤ 6000 → tot l ≤ 1048576 ∧ (s6 l < 6000 → tot l = s6 l)
  | [], _, _ => ⟨Nat.zero_le _, fun _ => rfl⟩
  | w :: l, hw, h => by
    rw [s6_cons] at h ⊢
    rw [tot_cons]
    have h1 := hw w (by simp)
    obtain ⟨i1, i2⟩ := tot_le l (fun x hx => hw x (by simp [hx])) (by omega)
    have e : m6 w = min w.length 6000 := rfl
    by_cases h6 : s6 l < 6000
    · have := i2 h6; constructor <;> omega
    · constructor <;> omega
theorem bulk_len {w : List UInt8} (hw : w.length ≤ 1048576) : (sc_bulk w).length ≤ w.length + 20 := by
  have := itoa_len (v := (w.length : Int)) (k := 7) (by omega)
  unfold sc_bulk; simp only [List.length_cons, List.length_append, List.length_nil]; omega
theorem bulks_len : ∀ (l : List (List UInt8)), (∀ w ∈ l, w.length ≤ 1048576) → (l.flatMap sc_bulk).length ≤ tot l + 20 * l.length
  | [], _ => by simp
  | w :: l, hw => by
    have h1 := bulk_len (hw w (by simp))
    have h2 := bulks_len l (fun x hx => hw x (by simp [hx]))
    rw [List.flatMap_cons, List.length_append, tot_cons, List.length_cons]; omega
theorem command_len {l : List (List UInt8)} (hn : l.length ≤ 60) (hw : ∀ w ∈ l, w.length ≤ 1048576) (h : s6 l ≤ 6000) : (sc_command l).length ≤ 1060000 := by
  have h1 := bulks_len l hw
  have h2 := (tot_le l hw h).1
  have h3 := itoa_len (v := (l.length : Int)) (k := 2) (by omega)
  unfold sc_command; simp only [List.length_cons, List.length_append]; omega

/-! ### The document's command -/
theorem rbulk_is {w : List UInt8} (hw : w.length ≤ 1048576) : intaglioref19_bulk_M w = some (sc_bulk w) := by
  have := itoa_len (v := (w.length : Int)) (k := 7) (by omega)
  unfold intaglioref19_bulk_M
  rw [show intaglioref17_Text_P ((w.length : Nat) : Int) = intaglioref17_Text_M ((w.length : Nat) : Int) from rfl, rText_is ⟨by omega, by omega⟩, Option.bind_some]
  rw [roomC (by omega), Option.bind_some, roomC (by simp only [List.length_cons, List.length_append, List.length_nil]; omega), Option.bind_some, roomC (by simp only [List.length_cons, List.length_append, List.length_nil]; omega), Option.bind_some, roomC (by simp only [List.length_cons, List.length_append, List.length_nil]; omega), Option.bind_some]
  unfold sc_bulk; simp
theorem rcmd_is {l : List (List UInt8)} (hn : l.length ≤ 60) (hw : ∀ w ∈ l, w.length ≤ 1048576) (h6 : s6 l ≤ 6000) : intaglioref19_Command_M l = some (sc_command l) := by
  have h3 := itoa_len (v := (l.length : Int)) (k := 2) (by omega)
  have hL := command_len hn hw h6
  have e0 : ∀ k, cmPre l k = 42 :: (itoa (l.length : Int) ++ (13 :: 10 :: (l.take k).flatMap sc_bulk)) := fun _ => rfl
  unfold intaglioref19_Command_M
  rw [show intaglioref17_Text_P ((l.length : Nat) : Int) = intaglioref17_Text_M ((l.length : Nat) : Int) from rfl, rText_is ⟨by omega, by omega⟩, Option.bind_some]
  rw [roomC (by omega), Option.bind_some, roomC (by simp only [List.length_cons, List.length_append, List.length_nil]; omega), Option.bind_some]
  rw [loop_is (r := sc_command l) (s := (l, _, 0)) (fun (x : List (List UInt8) × List UInt8 × Int) => ∃ k : Nat, k ≤ l.length ∧ x = (l, cmPre l k, (k : Int))) (fun x => l.length - x.2.2.toNat) ⟨0, Nat.zero_le _, by rw [e0]; simp⟩ (by simp only [Int.toNat_zero]; omega) ?_]
  · rfl
  · rintro x ⟨k, hk, rfl⟩
    simp only [intaglioref19_Command_L1_P, intaglioref19_Command_L1]
    by_cases hlt : k < l.length
    · left
      have hs := cmPre_succ hlt
      have hle : (cmPre l (k + 1)).length ≤ (sc_command l).length := cmPre_le (k := k + 1) hlt
      rw [if_pos (decide_eq_true (by omega)), ix_nat hlt, Option.bind_some, show intaglioref19_bulk_P l[k] = intaglioref19_bulk_M l[k] from rfl, rbulk_is (hw _ (List.getElem_mem hlt)), Option.bind_some]
      rw [← List.length_append, ← hs, roomC (by omega), Option.bind_some]
      refine ⟨_, rfl, ⟨k + 1, hlt, by rw [show IntKind.wrap IntKind.i64 ((k : Int) + 1) = ((k + 1 : Nat) : Int) from i64_succ (by omega)]⟩, ?_⟩
      simp only
      rw [show IntKind.wrap IntKind.i64 ((k : Int) + 1) = ((k + 1 : Nat) : Int) from i64_succ (by omega)]
      simp only [Int.toNat_natCast]; omega
    · right
      have : k = l.length := by omega
      subst this
      rw [if_neg (by simp), e0, List.take_length]
      rfl

/-! ### The law -/
theorem aw : intagliolaw19_awake_P () = some true := awake_is

theorem law_L1 {s : List (List UInt8)} {m : List Int} (hs : s.length ≤ 1048576) (hw : ∀ w ∈ s, w.length ≤ 1048576) :
    ∃ q, loop intagliolaw19_RespCommands_L1_P (s, m, 0, 0) = some q ∧ (q = .inr true ∨ q = .inl (s, m) ∧ (s.length ≤ 60 → s6 s ≤ 6000)) := by
  refine loop_meas (body := intagliolaw19_RespCommands_L1_P) (s := (s, m, 0, 0))
    (fun x => ∃ k : Nat, k ≤ s.length ∧ k ≤ 60 ∧ s6 (s.take k) ≤ 6000 ∧ x = (s, m, (s6 (s.take k) : Int), (k : Int)))
    (fun x => s.length - x.2.2.2.toNat) (fun q => q = .inr true ∨ q = .inl (s, m) ∧ (s.length ≤ 60 → s6 s ≤ 6000))
    ⟨0, Nat.zero_le _, by omega, by simp [s6], by simp [s6]⟩ (by simp only [Int.toNat_zero]; omega) ?_
  rintro x ⟨k, hk, hk6, hsum, rfl⟩
  simp only [intagliolaw19_RespCommands_L1_P, intagliolaw19_RespCommands_L1]
  by_cases hlt : k < s.length
  · rw [if_pos (decide_eq_true (by omega))]
    by_cases h60 : k < 60
    · rw [if_pos (decide_eq_true (by omega)), ix_nat hlt, Option.bind_some]
      have hwk := hw _ (List.getElem_mem hlt)
      have em : (if (6000 : Int) < (((List.length s[k]) : Nat) : Int) then (6000 : Int) else (((List.length s[k]) : Nat) : Int)) = (m6 s[k] : Int) := by
        unfold m6; split <;> omega
      have hm : m6 s[k] ≤ 6000 := Nat.min_le_right _ _
      rw [em, show IntKind.wrap IntKind.i64 ((s6 (s.take k) : Int) + (m6 s[k] : Int)) = ((s6 (s.take (k + 1)) : Nat) : Int) by rw [s6_succ hlt, i64_id (by omega) (by omega)]; omega]
      by_cases hbig : s6 (s.take (k + 1)) > 6000
      · right
        rw [if_pos (decide_eq_true (by omega)), aw, Option.bind_some]
        exact ⟨_, rfl, .inl rfl⟩
      · left
        rw [if_neg (by simp; omega), show IntKind.wrap IntKind.i64 ((k : Int) + 1) = ((k + 1 : Nat) : Int) from i64_succ (by omega)]
        exact ⟨_, rfl, ⟨k + 1, hlt, by omega, by omega, rfl⟩, by simp only [Int.toNat_natCast]; omega⟩
    · right
      rw [if_neg (by simp; omega)]
      exact ⟨_, rfl, .inr ⟨rfl, fun h => by omega⟩⟩
  · right
    have : k = s.length := by omega
    subst this
    rw [if_neg (by simp)]
    rw [List.take_length] at hsum
    exact ⟨_, rfl, .inr ⟨rfl, fun _ => hsum⟩⟩

def all512 (l : List (List UInt8)) : Bool := l.all fun w => decide (w.length ≤ 512)
theorem all512_succ {s : List (List UInt8)} {k : Nat} (h : k < s.length) : all512 (s.take (k + 1)) = (all512 (s.take k) && decide ((((s[k]).length : Nat) : Int) ≤ 512)) := by
  unfold all512
  rw [List.take_succ_eq_append_getElem h, List.all_append, List.all_cons, List.all_nil, Bool.and_true]
  congr 1
  rw [decide_eq_decide]; omega
theorem law_L3 {s : List (List UInt8)} {m r : List Int} (hs : s.length ≤ 60) (b : Bool) :
    loop intagliolaw19_RespCommands_L3_P (s, m, b, 0, r) = some (s, m, (b && all512 s), r) := by
  rw [loop_is (r := (s, m, (b && all512 s), r)) (s := (s, m, b, 0, r)) (fun x => ∃ k : Nat, k ≤ s.length ∧ x = (s, m, (b && all512 (s.take k)), (k : Int), r)) (fun x => s.length - x.2.2.2.1.toNat) ⟨0, Nat.zero_le _, by simp [all512]⟩ (by simp only [Int.toNat_zero]; omega) ?_]
  rintro x ⟨k, hk, rfl⟩
  simp only [intagliolaw19_RespCommands_L3_P, intagliolaw19_RespCommands_L3]
  by_cases hlt : k < s.length
  · left
    rw [if_pos (decide_eq_true (by omega)), show IntKind.wrap IntKind.i64 ((k : Int) + 1) = ((k + 1 : Nat) : Int) from i64_succ (by omega)]
    have hs := all512_succ hlt
    by_cases hb : (b && all512 (s.take k)) = true
    · rw [if_pos hb, ix_nat hlt, Option.bind_some]
      refine ⟨_, rfl, ⟨k + 1, hlt, ?_⟩, by simp only [Int.toNat_natCast]; omega⟩
      rw [hs, ← Bool.and_assoc, hb, Bool.true_and]
    · rw [if_neg hb]
      refine ⟨_, rfl, ⟨k + 1, hlt, ?_⟩, by simp only [Int.toNat_natCast]; omega⟩
      rw [hs, ← Bool.and_assoc, show (b && all512 (s.take k)) = false by simpa using hb, Bool.false_and]
  · right
    have : k = s.length := by omega
    subst this
    rw [if_neg (by simp), List.take_length]

theorem tail_is {s : List (List UInt8)} {m : List Int} {b : Bool} (hn : s.length ≤ 60) (hw : ∀ w ∈ s, w.length ≤ 1048576) (h6 : s6 s ≤ 6000) (hm : m.length ≤ 6000) (hb : b = true → 1 ≤ s.length ∧ s.length ≤ 40 ∧ ∀ w ∈ s, w.length ≤ 512) :
    (Option.bind (resp_Parser_Feed_r_P (0, true, bnums (sc_command s) ++ m, [])) fun (v10 : (Int × (Int × (Bool × ((List (List (List UInt8))) × (List Int)))))) =>
        if (!b) = true then
          Option.bind (intagliolaw19_awake_P ()) fun (v11 : Bool) =>
          some (v11)
        else
        if decide ((((List.length v10.snd.snd.snd.fst) : Nat) : Int) > (0 : Int)) = true then
          Option.bind (inb (List.length v10.snd.snd.snd.fst) (0 : Int)) fun _ =>
          Option.bind (intaglioref17_Same_P (List.getD v10.snd.snd.snd.fst (nat_lit 0) [], s)) fun (v13 : Bool) =>
          if v13 = true then
            Option.bind (intagliolaw19_awake_P ()) fun (v14 : Bool) =>
            some (v14)
          else
          some (false)
        else
        some (false)) = some true := by
  have hL := command_len hn hw h6
  have hbl : (bnums (sc_command s)).length = (sc_command s).length := by simp [bnums]
  obtain ⟨e', l, r', hf, hh, h1, h2⟩ := feed_is (v := bnums (sc_command s) ++ m) holds_nil (by simp; omega)
  rw [show resp_Parser_Feed_r_P (0, true, bnums (sc_command s) ++ m, []) = resp_Parser_Feed_r_M 0 true (bnums (sc_command s) ++ m) [] from rfl, feed_r_eq, hf, Option.bind_some]
  cases b with
  | false => rw [if_pos (by rfl), aw]; rfl
  | true =>
    rw [if_neg (by decide)]
    obtain ⟨b1, b2, b3⟩ := hb rfl
    have h0 : (prsF []).1 = [] := by
      obtain ⟨f1, f2, _⟩ := prsF_facts []
      exact List.eq_nil_of_length_eq_zero (by simp at f2; omega)
    have e8 : b8 (bnums (sc_command s) ++ m) = sc_command s ++ b8 m := by
      rw [show b8 (bnums (sc_command s) ++ m) = b8 (bnums (sc_command s)) ++ b8 m by simp [b8], b8_bnums]
    rw [List.nil_append, h0, List.nil_append, e8, prsF_eq, cmd_command b2 b3] at h1
    simp only at h1
    rw [if_neg (by intro e; rw [e] at b1; simp at b1)] at h1
    subst h1
    simp only
    rw [if_pos (decide_eq_true (by simp only [List.length_cons]; omega)), inb_ok' (by omega) (by simp), Option.bind_some]
    rw [show ∀ x, intaglioref17_Same_P (x, s) = intaglioref17_Same_M x s from fun _ => rfl]
    rw [show List.getD (s :: (prsF (List.drop (sc_command s).length (sc_command s ++ b8 m))).1) 0 [] = s from rfl]
    rw [rSame_self (by omega), Option.bind_some, if_pos rfl, aw]; rfl

theorem intagliolaw19_RespCommands_pure (s : List (List UInt8)) (m : List Int) (hs : Ty.okN 1048576 (.slc .str) s) (hm : Ty.okN 1048576 (.slc (.int .u8)) m) : intagliolaw19_RespCommands_M s m = some true := by
  obtain ⟨hs1, hs2⟩ := hs
  have hw : ∀ w ∈ s, w.length ≤ 1048576 := fun w h => hs2 w h
  unfold intagliolaw19_RespCommands_M
  obtain ⟨q, hq, hQ⟩ := law_L1 (s := s) (m := m) hs1 hw
  rw [hq, Option.bind_some]
  rcases hQ with rfl | ⟨rfl, h6⟩
  · rfl
  rw [Sum.elim_inl]
  simp only
  by_cases h60 : s.length > 60
  · rw [if_pos (decide_eq_true (by omega)), aw]; rfl
  rw [if_neg (by simp; omega)]
  by_cases hmb : m.length > 6000
  · rw [if_pos (decide_eq_true (by omega)), aw]; rfl
  rw [if_neg (by simp; omega)]
  have h6 := h6 (by omega)
  have hL := command_len (by omega) hw h6
  have hbl : (bnums (sc_command s)).length = (sc_command s).length := by simp [bnums]
  have hC : resp_Command_P s = some (bnums (sc_command s)) := by
    show resp_Command_M s = _
    unfold resp_Command_M
    rw [if_pos ⟨by omega, by omega⟩]
  have hR : intagliolaw19_RespCommands_R2_P (s, m, bnums (sc_command s)) = some (s, m, false, bnums (sc_command s)) := by
    show intagliolaw19_RespCommands_R2 s m (bnums (sc_command s)) = _
    unfold intagliolaw19_RespCommands_R2
    rw [show intaglioref19_Command_P s = intaglioref19_Command_M s from rfl, rcmd_is (by omega) hw h6, Option.bind_some, b8_bnums]
    simp
  rw [hC, Option.bind_some, hR, Option.bind_some]
  simp only
  rw [if_neg (by simp)]
  have hN : resp_New_P () = some (0, true, []) := rfl
  by_cases h1 : 1 ≤ s.length
  · rw [if_pos (decide_eq_true (by omega)), law_L3 (by omega), Option.bind_some, hN, Option.bind_some]
    simp only
    rw [roomC (by omega), Option.bind_some]
    refine tail_is (by omega) hw h6 (by omega) fun hb => ?_
    simp only [Bool.and_eq_true, decide_eq_true_eq] at hb
    exact ⟨h1, by omega, fun w hw => by have := List.all_eq_true.1 hb.2 w hw; simpa using this⟩
  · rw [if_neg (by simp; omega), law_L3 (by omega), Option.bind_some, hN, Option.bind_some]
    simp only
    rw [roomC (by omega), Option.bind_some]
    refine tail_is (by omega) hw h6 (by omega) fun hb => ?_
    simp at hb
end Go.Proofs.YtlkcgjablhpfcaaDoor
