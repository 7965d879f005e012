/- The law of unlike ids, in plain words. -/
import Derived.Test.YtcpddgjmopdlbaaMKeysUnlike
import Derived.Test.YtcpddgjmopdlbaaPKeysIds
import Derived.Test.YtcpddgjmopdlbaaReads
namespace Go.Proofs.Ytcpddgjmopdlbaa
open Go Go.Lift
set_option maxRecDepth 100000
set_option maxHeartbeats 4000000
set_option linter.unusedVariables false

theorem num1 {x : Int} {t : List Int} (hx : inR x) (hb : By t) (hl : t.length ≤ 4000) : pack_Reader_Num_M (be8 x ++ t) 0 true 1099511627776 = some (x, t, 0, true) := by
  have h0 := hx.1
  have h1 := hx.2
  have hF : Fine (be8 x ++ t) 0 := ⟨(By.be8 x).app hb, by simp [be8]; omega, fun h => absurd rfl h⟩
  rw [Num_is hF]
  have hu : uM (be8 x ++ t) 0 8 = (x, t, 0) := by
    rw [uM_ok (by simp [be8])]
    have e1 : (be8 x ++ t).take 8 = be8 x := by simp [be8]
    have e2 : (be8 x ++ t).drop 8 = t := by simp [be8]
    rw [e1, e2, num_be8 h0 (by omega)]
  unfold numM
  rw [hu]
  simp only [if_true]
  rw [if_neg (by omega)]

theorem parse_is {a b c d e f : Int} (hg : Good a b c d e f) : keys_Parse_M (idBytes a b c d e f) = some (a, b, c, d, e, f, true) := by
  have hg' := hg
  obtain ⟨h1, h2, h3, h4, h5, h6, h7, h8⟩ := hg
  have ha : inR a := ⟨by omega, by omega⟩
  have he : inR e := ⟨by omega, by omega⟩
  have b6 : By (be8 f) := By.be8 f
  have b5 : By (be8 e ++ be8 f) := (By.be8 e).app b6
  have b4 : By (be8 d ++ (be8 e ++ be8 f)) := (By.be8 d).app b5
  have b3 : By (be8 c ++ (be8 d ++ (be8 e ++ be8 f))) := (By.be8 c).app b4
  have b2 : By (be8 b ++ (be8 c ++ (be8 d ++ (be8 e ++ be8 f)))) := (By.be8 b).app b3
  have n1 := num1 ha b2 (by simp [be8])
  have n2 := num1 h3 b3 (by simp [be8])
  have n3 := num1 h4 b4 (by simp [be8])
  have n4 := num1 h5 b5 (by simp [be8])
  have n5 := num1 he b6 (by simp [be8])
  have n6 := num1 h6 By.nil (by simp)
  rw [List.append_nil] at n6
  unfold keys_Parse_M pack_Read_M
  rw [room_one (by simp [idBytes, be8])]
  simp only [Option.bind_some, List.nil_append]
  have hid : idBytes a b c d e f = be8 a ++ (be8 b ++ (be8 c ++ (be8 d ++ (be8 e ++ be8 f)))) := by unfold idBytes; simp only [List.append_assoc]
  rw [hid, loop_few (r := (([] : List Int), (0 : Int), true, a, b, c, d, e, f)) 7 (by decide) ?_]
  · simp only [Option.bind_some]
    unfold keys_Parse_J1
    have hE : pack_Reader_End_M [] 0 true = some 0 := rfl
    rw [hE]
    simp only [Option.bind_some]
    rw [if_neg (by simp), valid_is]
    simp [hg']
  · simp (disch := first | omega | (simp; done)) [iter, keys_Parse_L1, n1, n2, n3, n4, n5, n6, ix_ok, IntKind.wrap_i64]

theorem b8_inj : ∀ {l m : List Int}, By l → By m → b8 l = b8 m → l = m
  | [], [], _, _, _ => rfl
  | [], y :: m, _, _, h => by simp [b8] at h
  | x :: l, [], _, _, h => by simp [b8] at h
  | x :: l, y :: m, hl, hm, h => by
    simp only [b8, List.map_cons, List.cons.injEq] at h
    have hx := hl x List.mem_cons_self
    have hy := hm y List.mem_cons_self
    have e : x = y := by
      have := congrArg UInt8.toNat h.1
      simp only [UInt8.toNat_ofNat'] at this
      omega
    rw [e, b8_inj (fun n hn => hl n (List.mem_cons_of_mem _ hn)) (fun n hn => hm n (List.mem_cons_of_mem _ hn)) h.2]

theorem By.id (a b c d e f : Int) : By (idBytes a b c d e f) := (((((By.be8 a).app (By.be8 b)).app (By.be8 c)).app (By.be8 d)).app (By.be8 e)).app (By.be8 f)

theorem intagliolaw07_KeysUnlike_pure (a b c d e f a' b' c' d' e' f' : Int) : intagliolaw07_KeysUnlike_M a b c d e f a' b' c' d' e' f' = some true := by
  unfold intagliolaw07_KeysUnlike_M
  rw [valid_is]
  simp only [Option.bind_some]
  by_cases hg : Good a b c d e f
  · rw [if_neg (by simp [hg]), valid_is]
    simp only [Option.bind_some]
    by_cases hg' : Good a' b' c' d' e' f'
    · rw [if_neg (by simp [hg']), bytes_is, if_pos hg]
      simp only [Option.bind_some]
      rw [parse_is hg]
      simp only [Option.bind_some, if_true, beq_self_eq_true, Bool.and_true]
      rw [bytes_is, if_pos hg']
      simp only [Option.bind_some]
      unfold bytes_Equal_M
      simp only [Option.bind_some]
      rw [if_pos, awake_is']
      · rfl
      · rw [beq_iff_eq, Bool.eq_iff_iff]
        simp only [beq_iff_eq, Bool.and_eq_true]
        constructor
        · intro h
          have h1 := b8_inj (By.id _ _ _ _ _ _) (By.id _ _ _ _ _ _) h
          have h2 := parse_is hg
          rw [h1, parse_is hg'] at h2
          simp only [Option.some.injEq, Prod.mk.injEq] at h2
          obtain ⟨q1, q2, q3, q4, q5, q6, _⟩ := h2
          exact ⟨q1.symm, q2.symm, q3.symm, q4.symm, q5.symm, q6.symm⟩
        · rintro ⟨rfl, rfl, rfl, rfl, rfl, rfl⟩; rfl
    · rw [if_pos (by simp [hg']), awake_is']; rfl
  · rw [if_pos (by simp [hg]), awake_is']; rfl
end Go.Proofs.Ytcpddgjmopdlbaa
