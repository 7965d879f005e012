/- The law KeysNonces: what its model answers, whatever comes in. -/
import Derived.Test.YtcpddgjmopdlbaaPk
import Derived.Test.YtcpddgjmopdlbaaEd
import Derived.KernelRfl
namespace Go.Proofs.Ytcpddgjmopdlbaa
open Go Go.Lift
set_option maxRecDepth 100000
set_option maxHeartbeats 4000000
set_option linter.unusedVariables false

theorem awake_is : intagliolaw07_awake_M = some true := by kernel_rfl
def noncF (n : Int) : Arr 12 Int := ⟨[0, 0, 0, 0] ++ be8 n, rfl⟩
def okN (n : Int) : Prop := 0 ≤ n ∧ n ≤ 1099511627776
instance (n : Int) : Decidable (okN n) := by unfold okN; infer_instance
def nonR (n : Int) : Arr 12 Int × Bool := if okN n then (noncF n, true) else (Arr.rep 12 0, false)

theorem nonce_is (n : Int) : keys_Nonce_M n = some (nonR n) := by
  unfold keys_Nonce_M nonR
  by_cases h0 : n < 0
  · rw [if_pos (by simpa using h0), if_neg (by unfold okN; omega)]
  · rw [if_neg (by simpa using h0)]
    by_cases h1 : n > 1099511627776
    · rw [if_pos (by simpa using h1), if_neg (by unfold okN; omega)]
    · rw [if_neg (by simpa using h1), if_pos (by unfold okN; omega), subn_ok (by decide) (by decide) (by decide), Option.bind_some]
      simp only [pack_PutNum_P]
      rw [putNum (by decide) (by omega) (by omega), Option.bind_some]
      refine congrArg (fun x => some (x, true)) (Subtype.ext ?_)
      show cpyL (List.replicate 12 0) 4 12 ([] ++ be8 n) = _
      rw [cpyL_eq (by decide) (by decide)]
      rfl

theorem rin_is (n : Int) : intaglioref07_in_M n = some (decide (okN n)) := by
  unfold intaglioref07_in_M
  by_cases h : 0 ≤ n
  · rw [if_pos (by simpa using h)]; refine congrArg some ?_; rw [decide_eq_decide]; unfold okN; omega
  · rw [if_neg (by simpa using h), decide_eq_false (by unfold okN; omega)]

theorem rnonce_L1 (a b c d e f g h : Int) : loop intaglioref07_Nonce_L1_P ((0 : Int), Arr.rep 12 0, Arr.rep 12 0, [a, b, c, d, e, f, g, h]) = some (Arr.rep 12 0, Arr.of 12 [0, 0, 0, 0, a, b, c, d, e, f, g, h] rfl) := by kernel_rfl

theorem rnonce_is (n : Int) : intaglioref07_Nonce_M n = some (nonR n) := by
  unfold intaglioref07_Nonce_M nonR
  simp only [intaglioref07_in_P, rin_is, Option.bind_some]
  by_cases h : okN n
  · rw [decide_eq_true h, if_neg (by decide), if_pos h]
    unfold okN at h
    simp only [intaglioref01_PutNum_P]
    rw [rputNum (by decide) (by omega) (by omega), Option.bind_some, List.nil_append]
    have := rnonce_L1 (n / 72057594037927936 % 256) (n / 281474976710656 % 256) (n / 1099511627776 % 256) (n / 4294967296 % 256) (n / 16777216 % 256) (n / 65536 % 256) (n / 256 % 256) (n % 256)
    rw [show be8 n = [n / 72057594037927936 % 256, n / 281474976710656 % 256, n / 1099511627776 % 256, n / 4294967296 % 256, n / 16777216 % 256, n / 65536 % 256, n / 256 % 256, n % 256] from rfl, this, Option.bind_some]
    rfl
  · rw [decide_eq_false h, if_pos (by decide), if_neg h]

theorem eqI_self (x : List Int) : xeqv.eqI x x = true := by unfold xeqv.eqI; simp
theorem nonc_inj {n m : Int} (hn : okN n) (hm : okN m) : xeqv.eqI (noncF n).1 (noncF m).1 = (n == m) := by
  unfold xeqv.eqI
  unfold okN at hn hm
  by_cases h : n = m
  · subst h; simp
  · rw [beq_eq_false_iff_ne.2 h]
    refine beq_eq_false_iff_ne.2 fun e => h ?_
    have e : be8 n = be8 m := by
      have := congrArg (List.drop 4) e
      exact this
    have := congrArg num e
    rwa [num_be8 (by omega) (by omega), num_be8 (by omega) (by omega)] at this

theorem intagliolaw07_KeysNonces_pure (n m : Int) (hn : Ty.ok (.int .i64) n) (hm : Ty.ok (.int .i64) m) : intagliolaw07_KeysNonces_M n m = some true := by
  unfold intagliolaw07_KeysNonces_M
  simp only [keys_Nonce_P, intaglioref07_Nonce_P, nonce_is, rnonce_is, intagliolaw07_awake_P, awake_is, Option.bind_some]
  rw [if_pos (eqI_self _), if_pos (by simp)]
  unfold nonR
  by_cases h : okN n
  · rw [if_pos h]
    simp only [Bool.not_true, Bool.false_eq_true, if_false]
    by_cases h' : okN m
    · rw [if_pos h']
      simp only [Bool.not_true, Bool.false_eq_true, if_false]
      rw [nonc_inj h h', if_pos (by simp)]
    · rw [if_neg h']; rfl
  · rw [if_neg h]; rfl
end Go.Proofs.Ytcpddgjmopdlbaa
