/- The law of what is written and read back, in plain words. -/
import Derived.Test.YtknkonhdbmeolaaMPackBack
import Derived.Test.YtknkonhdbmeolaaReads
namespace Go.Proofs.Ytknkonhdbmeolaa
open Go Go.Lift
set_option maxRecDepth 100000
set_option linter.unusedVariables false

theorem take_app {l m : List Int} (n : Nat) (h : l.length = n) : (l ++ m).take n = l := by subst h; simp
theorem drop_app {l m : List Int} (n : Nat) (h : l.length = n) : (l ++ m).drop n = m := by subst h; simp

theorem join_two {p q : List Int} (h : p.length + q.length ≤ 100000000) : pack_Join_M [p, q] = some (p ++ q) := by
  unfold pack_Join_M
  rw [loop_few (r := p ++ q) 3 (by decide) ?_]
  · rfl
  · simp (disch := first | omega | (simp; done)) [iter, pack_Join_L1, ix_ok, room_one, IntKind.wrap_i64]

theorem intagliolaw01_PackBack_pure (p0 : Int) (p1 : List Int) (p2 : Int) (w0 : (Lit.int .i64 p0).wf = true) (w1 : ∀ n ∈ p1, (Lit.int .u8 n).wf = true) (l1 : p1.length ≤ maxLen) (w2 : (Lit.int .u64 p2).wf = true) :
    intagliolaw01_PackBack_M p0 p1 p2 = some true := by
  have h0 := wf_i64 w0
  have h2 := wf_u64 w2
  have hb : By p1 := fun n hn => wf_u8 (w1 n hn)
  unfold intagliolaw01_PackBack_M
  by_cases hl : (p1.length : Int) > 5000
  · rw [if_pos (by simpa using hl), awake_is]; rfl
  rw [if_neg (by simpa using hl)]
  generalize hm : (if 0 > p0 then 0 else p0) = m
  have m0 : 0 ≤ m ∧ m < 9223372036854775808 := by subst hm; split <;> omega
  rw [putNum p0 (by simp) (by omega), hm]
  simp only [Option.bind_some]
  rw [put (by simp [be8]) (by omega)]
  simp only [Option.bind_some]
  rw [put64 _ (by simp [be8, be4]; omega)]
  simp only [Option.bind_some]
  rw [join_two (by simp [be8, be4]; omega)]
  simp only [Option.bind_some]
  unfold pack_Read_M
  rw [room_one (by simp [be8, be4]; omega)]
  simp only [Option.bind_some, List.nil_append, List.append_assoc]
  -- the number
  have b2 : By (be8 p2 ++ p1) := (By.be8 p2).app hb
  have b3 : By (p1 ++ (be8 p2 ++ p1)) := hb.app b2
  have b4 : By (be4 p1.length ++ (p1 ++ (be8 p2 ++ p1))) := (By.be4 _).app b3
  have b5 : By (be8 m ++ (be4 p1.length ++ (p1 ++ (be8 p2 ++ p1)))) := (By.be8 m).app b4
  have e1 : pack_Reader_Num_M (be8 m ++ (be4 p1.length ++ (p1 ++ (be8 p2 ++ p1)))) 0 true m = some (m, be4 p1.length ++ (p1 ++ (be8 p2 ++ p1)), 0, true) := by
    unfold pack_Reader_Num_M
    rw [U64_is b5, uM_ok (by simp [be8]), take_app 8 rfl, drop_app 8 rfl, num_be8 m0.1 (by omega)]
    simp only [Option.bind_some, pack_Reader_ok_M, if_true]
    rw [if_neg (by simp), if_neg, if_neg, i64_id (by omega) (by omega)]
    · rw [i64_id (by omega) (by omega)]; simp
    · rw [Int.fdiv_eq_ediv_of_nonneg _ (by decide)]
      simp only [beq_iff_eq]; omega
  rw [e1]
  simp only [Option.bind_some, beq_self_eq_true, if_true]
  have e2 : pack_Reader_Bytes_M (be4 p1.length ++ (p1 ++ (be8 p2 ++ p1))) 0 true (p1.length : Int) = some (p1, be8 p2 ++ p1, 0, true) := by
    unfold pack_Reader_Bytes_M
    rw [U32_is b4, uM_ok (by simp [be4]), take_app 4 rfl, drop_app 4 rfl, num_be4 (by omega) (by omega)]
    simp only [Option.bind_some, pack_Reader_ok_M, if_true]
    rw [if_neg (by simp), i64_id (by omega) (by omega), if_neg (by simp), next_ok (by omega) (by simp; omega)]
    simp only [Option.bind_some, Int.toNat_natCast, List.take_left, List.drop_left]
    rw [room_one (by simp; omega)]; rfl
  rw [e2]
  simp only [Option.bind_some, equal_self, if_true]
  rw [U64_is b2, uM_ok (by simp [be8]), take_app 8 rfl, drop_app 8 rfl, num_be8 h2.1 (by omega)]
  simp only [Option.bind_some, beq_self_eq_true, if_true]
  have e3 : ∀ l, pack_Reader_Err_M l 0 true = some (0, l, 0, true) := fun l => rfl
  rw [e3]
  simp only [Option.bind_some, beq_self_eq_true, if_true]
  have e4 : pack_Reader_Rest_M p1 0 true = some (p1, [], 0, true) := by
    unfold pack_Reader_Rest_M pack_Reader_Left_M
    simp only [Option.bind_some]
    rw [next_ok (by omega) (by omega)]
    simp only [Option.bind_some, Int.toNat_natCast, List.take_length, List.drop_length]
    rw [room_one (by simp; omega)]; rfl
  rw [e4]
  simp only [Option.bind_some, equal_self, if_true]
  have e5 : pack_Reader_End_M [] 0 true = some (0, [], 0, true) := rfl
  rw [e5]
  simp only [Option.bind_some, beq_self_eq_true, if_true, awake_is]
  rfl
end Go.Proofs.Ytknkonhdbmeolaa
