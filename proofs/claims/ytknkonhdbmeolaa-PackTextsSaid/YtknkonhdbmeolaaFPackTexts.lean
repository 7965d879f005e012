/- The Go functions come to what their models say (PackTexts). -/
import Derived.Test.YtknkonhdbmeolaaTy
import Derived.Test.YtknkonhdbmeolaaMPackTexts
import Derived.Test.YtknkonhdbmeolaaFAwake
import Derived.Test.YtknkonhdbmeolaaFBytes
import Derived.Test.YtknkonhdbmeolaaFPut
import Derived.Test.YtknkonhdbmeolaaFRef
namespace Go.Proofs.Ytknkonhdbmeolaa
open Go Go.Lift
set_option maxRecDepth 100000
set_option maxHeartbeats 4000000
set_option linter.unusedVariables false

theorem intagliolaw01_PackTexts_W {w0 w : World} {D R : Nat → Prop} {Rp0 : Nat → Prop} {Ap0 : Option Addr} {cp0 : Nat} {Rp1 : Nat → Prop} {Ap1 : Option Addr} {cp1 : Nat} {Rp2 : Nat → Prop} {Ap2 : Option Addr} {cp2 : Nat} {p0 : List Int} {p1 : List Int} {p2 : List (List Int)} {r0 : Bool} (hS : Own w0 D R w [] [slA Rp0 (Enc.int .u8) Ap0 cp0 p0, slA Rp1 (Enc.int .u8) Ap1 cp1 p1, slsA Rp2 (Enc.int .u8) Ap2 cp2 p2]) (hD : ∀ b, ¬ D b) (hM : intagliolaw01_PackTexts_M p0 p1 p2 = some r0) :
    Calls Go.Proofs.Try.prog 3 #[.slice Ap0 p0.length cp0, .slice Ap1 p1.length cp1, .slice Ap2 p2.length cp2] w (fun e w' => e = .returned (.bool r0) ∧ Own w0 D R w' [] []) := by
  refine enter (fn := Go.Proofs.Try.f3) [.slice Ap0 p0.length cp0, .slice Ap1 p1.length cp1, .slice Ap2 p2.length cp2, undef, undef, undef, undef, undef, undef, undef, undef, undef, undef, undef, undef, undef, undef, undef, undef, undef, undef, undef, undef, undef, undef, undef, undef, undef, undef, undef, undef, undef, undef, undef, undef, undef, undef, undef, undef, undef, undef, undef, undef, undef, undef, undef, undef, undef, undef, undef, undef, undef, undef, undef, undef, undef, undef, undef, undef, undef, undef, undef, undef, undef, undef, undef] (by kernel_rfl) rfl (by kernel_rfl) ?_
  unfold intagliolaw01_PackTexts_M at hM
  refine wp_seq ?_
  refine wp_reg ?_
  refine segEnd [.slice Ap0 p0.length cp0, .slice Ap1 p1.length cp1, .slice Ap2 p2.length cp2, undef, undef, undef, .bool false, undef, undef, undef, undef, undef, undef, undef, undef, undef, undef, undef, undef, undef, undef, undef, undef, undef, undef, undef, undef, undef, undef, undef, undef, undef, undef, undef, undef, undef, undef, undef, undef, undef, undef, undef, undef, undef, undef, undef, undef, undef, undef, undef, undef, undef, undef, undef, undef, undef, undef, undef, undef, undef, undef, undef, undef, undef, undef, undef] (by kernel_rfl) ?_
  refine then_normal ?_
  refine wp_seq ?_
  refine wp_seq ?_
  refine wp_reg ?_
  refine seg 4 [.slice Ap0 p0.length cp0, .slice Ap1 p1.length cp1, .slice Ap2 p2.length cp2, undef, undef, undef, .bool false, undef, undef, undef, .slice Ap0 p0.length cp0, .int .i64 (p0.length : Int), .bool (decide ((p0.length : Int) > 5000)), .bool (decide ((p0.length : Int) > 5000)), undef, undef, undef, undef, undef, undef, undef, undef, undef, undef, undef, undef, undef, undef, undef, undef, undef, undef, undef, undef, undef, undef, undef, undef, undef, undef, undef, undef, undef, undef, undef, undef, undef, undef, undef, undef, undef, undef, undef, undef, undef, undef, undef, undef, undef, undef, undef, undef, undef, undef, undef, undef] (by kernel_rfl) ?_
  rcases Bool.eq_false_or_eq_true (decide ((p0.length : Int) > 5000)) with hc1 | hc1
  · replace hM := (if_pos hc1).symm.trans hM
    rw [hc1]
    refine segEnd [.slice Ap0 p0.length cp0, .slice Ap1 p1.length cp1, .slice Ap2 p2.length cp2, undef, undef, undef, .bool false, undef, undef, undef, .slice Ap0 p0.length cp0, .int .i64 (p0.length : Int), .bool true, .bool true, undef, undef, undef, .bool true, .bool true, undef, undef, undef, .bool true, undef, undef, undef, undef, undef, undef, undef, undef, undef, undef, undef, undef, undef, undef, undef, undef, undef, undef, undef, undef, undef, undef, undef, undef, undef, undef, undef, undef, undef, undef, undef, undef, undef, undef, undef, undef, undef, undef, undef, undef, undef, undef, undef] (by kernel_rfl) ?_
    refine then_normal ?_
    refine wp_cond_true (by kernel_rfl) ?_
    refine wp_seq ?_
    refine wp_reg ?_
    replace hM := bind_some hM
    obtain ⟨v3, h4, hM⟩ := hM
    have hP := Own.pre (Xi := []) (X := []) (Si := []) hS forall0 forall0
    refine s_call 9 #[] (by kernel_rfl) (by kernel_rfl) ((intagliolaw01_awake_W hP doms_nil h4).mono ?_)
    rintro _ _ ⟨rfl, hQ⟩
    replace hS : Own w0 D R _ [] [slA Rp0 (Enc.int .u8) Ap0 cp0 p0, slA Rp1 (Enc.int .u8) Ap1 cp1 p1, slsA Rp2 (Enc.int .u8) Ap2 cp2 p2] := hS.post hQ (.inl rfl)
    clear hP hQ
    refine ⟨_, rfl, ?_⟩
    refine segEnd [.slice Ap0 p0.length cp0, .slice Ap1 p1.length cp1, .slice Ap2 p2.length cp2, undef, undef, undef, .bool v3, undef, undef, undef, .slice Ap0 p0.length cp0, .int .i64 (p0.length : Int), .bool true, .bool true, undef, undef, undef, .bool true, .bool true, undef, undef, undef, .bool true, .bool v3, undef, undef, undef, undef, undef, undef, undef, undef, undef, undef, undef, undef, undef, undef, undef, undef, undef, undef, undef, undef, undef, undef, undef, undef, undef, undef, undef, undef, undef, undef, undef, undef, undef, undef, undef, undef, undef, undef, undef, undef, undef, undef] (by kernel_rfl) ?_
    refine then_normal ?_
    refine wp_ret ?_
    refine then_ret ?_
    replace hS : Own w0 D R _ [] [] := hS.dropS forall0
    obtain rfl := Option.some.inj hM
    refine ret_v (.bool v3) (by kernel_rfl) ⟨rfl, hS⟩
  · replace hM := (if_neg (Bool.eq_false_iff.1 hc1)).symm.trans hM
    rw [hc1]
    refine seg 5 [.slice Ap0 p0.length cp0, .slice Ap1 p1.length cp1, .slice Ap2 p2.length cp2, undef, undef, undef, .bool false, undef, undef, undef, .slice Ap0 p0.length cp0, .int .i64 (p0.length : Int), .bool false, .bool false, .slice Ap1 p1.length cp1, .int .i64 (p1.length : Int), .bool (decide ((p1.length : Int) > 5000)), .bool (decide ((p1.length : Int) > 5000)), .bool (decide ((p1.length : Int) > 5000)), undef, undef, undef, undef, undef, undef, undef, undef, undef, undef, undef, undef, undef, undef, undef, undef, undef, undef, undef, undef, undef, undef, undef, undef, undef, undef, undef, undef, undef, undef, undef, undef, undef, undef, undef, undef, undef, undef, undef, undef, undef, undef, undef, undef, undef, undef, undef] (by kernel_rfl) ?_
    rcases Bool.eq_false_or_eq_true (decide ((p1.length : Int) > 5000)) with hc2 | hc2
    · replace hM := (if_pos hc2).symm.trans hM
      rw [hc2]
      refine segEnd [.slice Ap0 p0.length cp0, .slice Ap1 p1.length cp1, .slice Ap2 p2.length cp2, undef, undef, undef, .bool false, undef, undef, undef, .slice Ap0 p0.length cp0, .int .i64 (p0.length : Int), .bool false, .bool false, .slice Ap1 p1.length cp1, .int .i64 (p1.length : Int), .bool true, .bool true, .bool true, undef, undef, undef, .bool true, undef, undef, undef, undef, undef, undef, undef, undef, undef, undef, undef, undef, undef, undef, undef, undef, undef, undef, undef, undef, undef, undef, undef, undef, undef, undef, undef, undef, undef, undef, undef, undef, undef, undef, undef, undef, undef, undef, undef, undef, undef, undef, undef] (by kernel_rfl) ?_
      refine then_normal ?_
      refine wp_cond_true (by kernel_rfl) ?_
      refine wp_seq ?_
      refine wp_reg ?_
      replace hM := bind_some hM
      obtain ⟨v5, h6, hM⟩ := hM
      have hP := Own.pre (Xi := []) (X := []) (Si := []) hS forall0 forall0
      refine s_call 9 #[] (by kernel_rfl) (by kernel_rfl) ((intagliolaw01_awake_W hP doms_nil h6).mono ?_)
      rintro _ _ ⟨rfl, hQ⟩
      replace hS : Own w0 D R _ [] [slA Rp0 (Enc.int .u8) Ap0 cp0 p0, slA Rp1 (Enc.int .u8) Ap1 cp1 p1, slsA Rp2 (Enc.int .u8) Ap2 cp2 p2] := hS.post hQ (.inl rfl)
      clear hP hQ
      refine ⟨_, rfl, ?_⟩
      refine segEnd [.slice Ap0 p0.length cp0, .slice Ap1 p1.length cp1, .slice Ap2 p2.length cp2, undef, undef, undef, .bool v5, undef, undef, undef, .slice Ap0 p0.length cp0, .int .i64 (p0.length : Int), .bool false, .bool false, .slice Ap1 p1.length cp1, .int .i64 (p1.length : Int), .bool true, .bool true, .bool true, undef, undef, undef, .bool true, .bool v5, undef, undef, undef, undef, undef, undef, undef, undef, undef, undef, undef, undef, undef, undef, undef, undef, undef, undef, undef, undef, undef, undef, undef, undef, undef, undef, undef, undef, undef, undef, undef, undef, undef, undef, undef, undef, undef, undef, undef, undef, undef, undef] (by kernel_rfl) ?_
      refine then_normal ?_
      refine wp_ret ?_
      refine then_ret ?_
      replace hS : Own w0 D R _ [] [] := hS.dropS forall0
      obtain rfl := Option.some.inj hM
      refine ret_v (.bool v5) (by kernel_rfl) ⟨rfl, hS⟩
    · replace hM := (if_neg (Bool.eq_false_iff.1 hc2)).symm.trans hM
      rw [hc2]
      refine segEnd [.slice Ap0 p0.length cp0, .slice Ap1 p1.length cp1, .slice Ap2 p2.length cp2, undef, undef, undef, .bool false, undef, undef, undef, .slice Ap0 p0.length cp0, .int .i64 (p0.length : Int), .bool false, .bool false, .slice Ap1 p1.length cp1, .int .i64 (p1.length : Int), .bool false, .bool false, .bool false, .slice Ap2 p2.length cp2, .int .i64 (p2.length : Int), .bool (decide ((p2.length : Int) > 30)), .bool (decide ((p2.length : Int) > 30)), undef, undef, undef, undef, undef, undef, undef, undef, undef, undef, undef, undef, undef, undef, undef, undef, undef, undef, undef, undef, undef, undef, undef, undef, undef, undef, undef, undef, undef, undef, undef, undef, undef, undef, undef, undef, undef, undef, undef, undef, undef, undef, undef] (by kernel_rfl) ?_
      refine then_normal ?_
      refine wp_cond_split (t := decide ((p2.length : Int) > 30)) (by kernel_rfl) (fun hc7 => ?_) (fun hc7 => ?_)
      · replace hM := (if_pos hc7).symm.trans hM
        refine wp_seq ?_
        refine wp_reg ?_
        replace hM := bind_some hM
        obtain ⟨v8, h9, hM⟩ := hM
        have hP := Own.pre (Xi := []) (X := []) (Si := []) hS forall0 forall0
        refine s_call 9 #[] (by kernel_rfl) (by kernel_rfl) ((intagliolaw01_awake_W hP doms_nil h9).mono ?_)
        rintro _ _ ⟨rfl, hQ⟩
        replace hS : Own w0 D R _ [] [slA Rp0 (Enc.int .u8) Ap0 cp0 p0, slA Rp1 (Enc.int .u8) Ap1 cp1 p1, slsA Rp2 (Enc.int .u8) Ap2 cp2 p2] := hS.post hQ (.inl rfl)
        clear hP hQ
        refine ⟨_, rfl, ?_⟩
        refine segEnd [.slice Ap0 p0.length cp0, .slice Ap1 p1.length cp1, .slice Ap2 p2.length cp2, undef, undef, undef, .bool v8, undef, undef, undef, .slice Ap0 p0.length cp0, .int .i64 (p0.length : Int), .bool false, .bool false, .slice Ap1 p1.length cp1, .int .i64 (p1.length : Int), .bool false, .bool false, .bool false, .slice Ap2 p2.length cp2, .int .i64 (p2.length : Int), .bool (decide ((p2.length : Int) > 30)), .bool (decide ((p2.length : Int) > 30)), .bool v8, undef, undef, undef, undef, undef, undef, undef, undef, undef, undef, undef, undef, undef, undef, undef, undef, undef, undef, undef, undef, undef, undef, undef, undef, undef, undef, undef, undef, undef, undef, undef, undef, undef, undef, undef, undef, undef, undef, undef, undef, undef, undef] (by kernel_rfl) ?_
        refine then_normal ?_
        refine wp_ret ?_
        refine then_ret ?_
        replace hS : Own w0 D R _ [] [] := hS.dropS forall0
        obtain rfl := Option.some.inj hM
        refine ret_v (.bool v8) (by kernel_rfl) ⟨rfl, hS⟩
      · replace hM := (if_neg (Bool.eq_false_iff.1 hc7)).symm.trans hM
        refine wp_skip ?_
        refine then_normal ?_
        refine wp_seq ?_
        refine wp_reg ?_
        refine segEnd [.slice Ap0 p0.length cp0, .slice Ap1 p1.length cp1, .slice Ap2 p2.length cp2, undef, undef, undef, .bool false, .slice none 0 0, undef, undef, .slice Ap0 p0.length cp0, .int .i64 (p0.length : Int), .bool false, .bool false, .slice Ap1 p1.length cp1, .int .i64 (p1.length : Int), .bool false, .bool false, .bool false, .slice Ap2 p2.length cp2, .int .i64 (p2.length : Int), .bool (decide ((p2.length : Int) > 30)), .bool (decide ((p2.length : Int) > 30)), undef, undef, undef, undef, undef, undef, undef, undef, undef, undef, undef, undef, undef, undef, undef, undef, undef, undef, undef, undef, undef, undef, undef, undef, undef, undef, undef, undef, undef, undef, undef, undef, undef, undef, undef, undef, undef, undef, undef, undef, undef, undef, undef] (by kernel_rfl) ?_
        refine then_normal ?_
        refine wp_join (fun a w => ∃ (g191 : Value) (A192 : Option Addr) (c193 : Nat) (g195 : Value) (g196 : Value) (g197 : Value) (g198 : Value) (g199 : Value) (g200 : Value) (g201 : Value) (g202 : Value) (g203 : Value) (g204 : Value) (g205 : Value) (g206 : Value) (g207 : Value) (g208 : Value) (g209 : Value) (g210 : Value) (g211 : Value) (g212 : Value) (g213 : Value) (g214 : Value) (g215 : Value) (g216 : Value) (g217 : Value) (g218 : Value) (g219 : Value) (g220 : Value) (g221 : Value) (g222 : Value) (g223 : Value) (g224 : Value) (g225 : Value) (g226 : Value) (g227 : Value) (l194 : List Int), a = Fr [.slice Ap0 p0.length cp0, .slice Ap1 p1.length cp1, .slice Ap2 p2.length cp2, undef, undef, undef, g191, .slice A192 l194.length c193, g195, undef, g196, g197, g198, g199, g200, g201, g202, g203, g204, g205, g206, g207, g208, undef, g209, g210, g211, g212, g213, g214, g215, g216, g217, g218, g219, g220, g221, g222, g223, g224, g225, g226, g227, undef, undef, undef, undef, undef, undef, undef, undef, undef, undef, undef, undef, undef, undef, undef, undef, undef, undef, undef, undef, undef, undef, undef] ∧ Own w0 D R w [rowA (Enc.int .u8) A192 c193 l194] [slA Rp0 (Enc.int .u8) Ap0 cp0 p0, slA Rp1 (Enc.int .u8) Ap1 cp1 p1, slsA Rp2 (Enc.int .u8) Ap2 cp2 p2] ∧ intagliolaw01_PackTexts_J1 p0 p1 p2 l194 = some r0) ?_ ?_
        ·
          refine wp_seq ?_
          refine wp_reg ?_
          refine segEnd [.slice Ap0 p0.length cp0, .slice Ap1 p1.length cp1, .slice Ap2 p2.length cp2, undef, undef, undef, .bool false, .slice none 0 0, .int .i64 0, undef, .slice Ap0 p0.length cp0, .int .i64 (p0.length : Int), .bool false, .bool false, .slice Ap1 p1.length cp1, .int .i64 (p1.length : Int), .bool false, .bool false, .bool false, .slice Ap2 p2.length cp2, .int .i64 (p2.length : Int), .bool (decide ((p2.length : Int) > 30)), .bool (decide ((p2.length : Int) > 30)), undef, undef, undef, undef, undef, undef, undef, undef, undef, undef, undef, undef, undef, undef, undef, undef, undef, undef, undef, undef, undef, undef, undef, undef, undef, undef, undef, undef, undef, undef, undef, undef, undef, undef, undef, undef, undef, undef, undef, undef, undef, undef, undef] (by kernel_rfl) ?_
          refine then_normal ?_
          refine wp_block ?_
          replace hM := bind_some hM
          obtain ⟨q129, hL130, hM⟩ := hM
          replace hS : Own w0 D R _ [rowA (Enc.int .u8) none 0 []] [slA Rp0 (Enc.int .u8) Ap0 cp0 p0, slA Rp1 (Enc.int .u8) Ap1 cp1 p1, slsA Rp2 (Enc.int .u8) Ap2 cp2 p2] := hS.addNil (Enc.int .u8)
          refine wp_loop_model (fun (s : ((List Int) × Int)) a w => ∃ (g131 : Value) (A132 : Option Addr) (c133 : Nat) (g136 : Value) (g137 : Value) (g138 : Value) (g139 : Value) (g140 : Value) (g141 : Value) (g142 : Value) (g143 : Value) (g144 : Value) (g145 : Value) (g146 : Value) (g147 : Value) (g148 : Value) (g149 : Value) (g150 : Value) (g151 : Value) (g152 : Value) (g153 : Value) (g154 : Value) (g155 : Value) (g156 : Value) (g157 : Value) (g158 : Value) (g159 : Value) (g160 : Value) (g161 : Value) (g162 : Value) (g163 : Value) (g164 : Value) (g165 : Value) (g166 : Value) (g167 : Value) (l134 : List Int) (x135 : Int), s = (l134, x135) ∧ a = Fr [.slice Ap0 p0.length cp0, .slice Ap1 p1.length cp1, .slice Ap2 p2.length cp2, undef, undef, undef, g131, .slice A132 l134.length c133, .int .i64 x135, undef, g136, g137, g138, g139, g140, g141, g142, g143, g144, g145, g146, g147, g148, undef, g149, g150, g151, g152, g153, g154, g155, g156, g157, g158, g159, g160, g161, g162, g163, g164, g165, g166, g167, undef, undef, undef, undef, undef, undef, undef, undef, undef, undef, undef, undef, undef, undef, undef, undef, undef, undef, undef, undef, undef, undef, undef] ∧ Own w0 D R w [rowA (Enc.int .u8) A132 c133 l134] [slA Rp0 (Enc.int .u8) Ap0 cp0 p0, slA Rp1 (Enc.int .u8) Ap1 cp1 p1, slsA Rp2 (Enc.int .u8) Ap2 cp2 p2]) ?_ hL130 ?_
          · rintro _ a w ⟨g131, A132, c133, g136, g137, g138, g139, g140, g141, g142, g143, g144, g145, g146, g147, g148, g149, g150, g151, g152, g153, g154, g155, g156, g157, g158, g159, g160, g161, g162, g163, g164, g165, g166, g167, l134, x135, rfl, rfl, hS⟩ o127 hM1 hout128
            replace hM1 : intagliolaw01_PackTexts_L1 p2 l134 x135 = some o127 := hM1
            unfold intagliolaw01_PackTexts_L1 at hM1
            refine wp_seq ?_
            refine wp_seq ?_
            refine wp_reg ?_
            refine segEnd [.slice Ap0 p0.length cp0, .slice Ap1 p1.length cp1, .slice Ap2 p2.length cp2, undef, undef, undef, g131, .slice A132 l134.length c133, .int .i64 x135, undef, g136, g137, g138, g139, g140, g141, g142, g143, g144, g145, g146, g147, g148, undef, .int .i64 x135, .slice Ap2 p2.length cp2, .int .i64 (p2.length : Int), .bool (decide (x135 < (p2.length : Int))), g153, g154, g155, g156, g157, g158, g159, g160, g161, g162, g163, g164, g165, g166, g167, undef, undef, undef, undef, undef, undef, undef, undef, undef, undef, undef, undef, undef, undef, undef, undef, undef, undef, undef, undef, undef, undef, undef] (by kernel_rfl) ?_
            refine then_normal ?_
            refine wp_cond_split (t := decide (x135 < (p2.length : Int))) (by kernel_rfl) (fun hc168 => ?_) (fun hc168 => ?_)
            · replace hM1 := (if_pos hc168).symm.trans hM1
              refine wp_skip ?_
              refine then_normal ?_
              refine wp_seq ?_
              refine wp_block ?_
              refine wp_seq ?_
              refine wp_seq ?_
              refine wp_reg ?_
              refine seg 2 [.slice Ap0 p0.length cp0, .slice Ap1 p1.length cp1, .slice Ap2 p2.length cp2, undef, undef, undef, g131, .slice A132 l134.length c133, .int .i64 x135, undef, g136, g137, g138, g139, g140, g141, g142, g143, g144, g145, g146, g147, g148, undef, .int .i64 x135, .slice Ap2 p2.length cp2, .int .i64 (p2.length : Int), .bool (decide (x135 < (p2.length : Int))), g153, g154, .slice Ap2 p2.length cp2, .int .i64 x135, g157, g158, g159, g160, g161, g162, g163, g164, g165, g166, g167, undef, undef, undef, undef, undef, undef, undef, undef, undef, undef, undef, undef, undef, undef, undef, undef, undef, undef, undef, undef, undef, undef, undef] (by kernel_rfl) ?_
              replace hM1 := bind_some hM1
              obtain ⟨y169, h170, hM1⟩ := hM1
              have hi173 := ix_some h170
              refine s_index_sls (A := Ap2) (cap := cp2) (.tmp 30) (.tmp 31) 23 22 .i64 x135 rfl u23 (by kernel_rfl) (by kernel_rfl) (by kernel_rfl) (by kernel_rfl) (hS.sls_mem (List.Mem.tail _ (List.Mem.tail _ (List.Mem.head _)))) hi173.1 hi173.2.1 (fun p171 hp172 => ?_)
              refine s_load_sls (.tmp 32) 22 p171 _ rfl (by kernel_rfl) (by kernel_rfl) (by kernel_rfl) hp172 (hS.sls_mem (List.Mem.tail _ (List.Mem.tail _ (List.Mem.head _)))) hi173.2.2 (fun A174 c175 hb176 => ?_)
              replace hS := hS.addEl (List.Mem.tail _ (List.Mem.tail _ (List.Mem.head _))) hb176
              refine segEnd [.slice Ap0 p0.length cp0, .slice Ap1 p1.length cp1, .slice Ap2 p2.length cp2, undef, undef, undef, g131, .slice A132 l134.length c133, .int .i64 x135, undef, g136, g137, g138, g139, g140, g141, g142, g143, g144, g145, g146, g147, g148, undef, .int .i64 x135, .slice Ap2 p2.length cp2, .int .i64 (p2.length : Int), .bool (decide (x135 < (p2.length : Int))), g153, g154, .slice Ap2 p2.length cp2, .int .i64 x135, .pointer (some p171), .slice A174 y169.length c175, .int .i64 (y169.length : Int), .bool (decide ((y169.length : Int) > 200)), g161, g162, g163, g164, g165, g166, g167, undef, undef, undef, undef, undef, undef, undef, undef, undef, undef, undef, undef, undef, undef, undef, undef, undef, undef, undef, undef, undef, undef, undef] (by kernel_rfl) ?_
              refine then_normal ?_
              refine wp_cond_split (t := decide ((y169.length : Int) > 200)) (by kernel_rfl) (fun hc177 => ?_) (fun hc177 => ?_)
              · replace hM1 := (if_pos hc177).symm.trans hM1
                refine wp_seq ?_
                refine wp_reg ?_
                replace hM1 := bind_some hM1
                obtain ⟨v178, h179, hM1⟩ := hM1
                have hP := Own.pre (Xi := []) (X := [rowA (Enc.int .u8) A132 c133 l134]) (Si := []) hS forall0 forall0
                refine s_call 9 #[] (by kernel_rfl) (by kernel_rfl) ((intagliolaw01_awake_W hP doms_nil h179).mono ?_)
                rintro _ _ ⟨rfl, hQ⟩
                replace hS : Own w0 D R _ [rowA (Enc.int .u8) A132 c133 l134] [slA Rp2 (Enc.int .u8) A174 c175 y169, slA Rp0 (Enc.int .u8) Ap0 cp0 p0, slA Rp1 (Enc.int .u8) Ap1 cp1 p1, slsA Rp2 (Enc.int .u8) Ap2 cp2 p2] := hS.post hQ (.inl rfl)
                clear hP hQ
                refine ⟨_, rfl, ?_⟩
                refine segEnd [.slice Ap0 p0.length cp0, .slice Ap1 p1.length cp1, .slice Ap2 p2.length cp2, undef, undef, undef, .bool v178, .slice A132 l134.length c133, .int .i64 x135, undef, g136, g137, g138, g139, g140, g141, g142, g143, g144, g145, g146, g147, g148, undef, .int .i64 x135, .slice Ap2 p2.length cp2, .int .i64 (p2.length : Int), .bool (decide (x135 < (p2.length : Int))), g153, g154, .slice Ap2 p2.length cp2, .int .i64 x135, .pointer (some p171), .slice A174 y169.length c175, .int .i64 (y169.length : Int), .bool (decide ((y169.length : Int) > 200)), .bool v178, g162, g163, g164, g165, g166, g167, undef, undef, undef, undef, undef, undef, undef, undef, undef, undef, undef, undef, undef, undef, undef, undef, undef, undef, undef, undef, undef, undef, undef] (by kernel_rfl) ?_
                refine then_normal ?_
                refine wp_ret ?_
                refine then_ret ?_
                refine in_ret ?_
                refine then_ret ?_
                refine then_ret ?_
                have hr257 := hout128 _ (Option.some.inj hM1).symm
                subst hr257
                refine in_ret ?_
                refine then_ret ?_
                replace hS : Own w0 D R _ [] [slA Rp2 (Enc.int .u8) A174 c175 y169, slA Rp0 (Enc.int .u8) Ap0 cp0 p0, slA Rp1 (Enc.int .u8) Ap1 cp1 p1, slsA Rp2 (Enc.int .u8) Ap2 cp2 p2] := hS.takeX 0
                replace hS : Own w0 D R _ [] [] := hS.dropS forall0
                obtain rfl := Option.some.inj hM
                refine ret_v (.bool v178) (by kernel_rfl) ⟨rfl, hS⟩
              · replace hM1 := (if_neg (Bool.eq_false_iff.1 hc177)).symm.trans hM1
                refine wp_skip ?_
                refine then_normal ?_
                refine wp_reg ?_
                refine seg 3 [.slice Ap0 p0.length cp0, .slice Ap1 p1.length cp1, .slice Ap2 p2.length cp2, undef, undef, undef, g131, .slice A132 l134.length c133, .int .i64 x135, undef, g136, g137, g138, g139, g140, g141, g142, g143, g144, g145, g146, g147, g148, undef, .int .i64 x135, .slice Ap2 p2.length cp2, .int .i64 (p2.length : Int), .bool (decide (x135 < (p2.length : Int))), g153, g154, .slice Ap2 p2.length cp2, .int .i64 x135, .pointer (some p171), .slice A174 y169.length c175, .int .i64 (y169.length : Int), .bool (decide ((y169.length : Int) > 200)), g161, .slice A132 l134.length c133, .slice Ap2 p2.length cp2, .int .i64 x135, g165, g166, g167, undef, undef, undef, undef, undef, undef, undef, undef, undef, undef, undef, undef, undef, undef, undef, undef, undef, undef, undef, undef, undef, undef, undef] (by kernel_rfl) ?_
                replace hM1 := bind_some hM1
                obtain ⟨y180, h181, hM1⟩ := hM1
                have hi184 := ix_some h181
                refine s_index_sls (A := Ap2) (cap := cp2) (.tmp 38) (.tmp 39) 23 22 .i64 x135 rfl u23 (by kernel_rfl) (by kernel_rfl) (by kernel_rfl) (by kernel_rfl) (hS.sls_mem (List.Mem.tail _ (List.Mem.tail _ (List.Mem.tail _ (List.Mem.head _))))) hi184.1 hi184.2.1 (fun p182 hp183 => ?_)
                refine s_load_sls (.tmp 40) 22 p182 _ rfl (by kernel_rfl) (by kernel_rfl) (by kernel_rfl) hp183 (hS.sls_mem (List.Mem.tail _ (List.Mem.tail _ (List.Mem.tail _ (List.Mem.head _))))) hi184.2.2 (fun A185 c186 hb187 => ?_)
                replace hS := hS.addEl (List.Mem.tail _ (List.Mem.tail _ (List.Mem.tail _ (List.Mem.head _)))) hb187
                replace hM1 := bind_some hM1
                obtain ⟨_, h188, hM1⟩ := hM1
                refine s_append (.tmp 37) (.tmp 41) 22 22 5 1 (.slice A185 y180.length c186) (e := (Enc.int .u8)) (xs := l134) (ys := y180) rfl u22 el5 (by kernel_rfl) (by kernel_rfl) (by kernel_rfl) hS ((SlR.of_sl (hS.sl_mem (List.Mem.head _))).src u22) (room_some h188).1 (room_some h188).2 (fun A189 c190 _ hS => ?_)
                refine segEnd [.slice Ap0 p0.length cp0, .slice Ap1 p1.length cp1, .slice Ap2 p2.length cp2, undef, undef, undef, g131, .slice A189 ((l134 ++ y180).length) c190, .int .i64 x135, undef, g136, g137, g138, g139, g140, g141, g142, g143, g144, g145, g146, g147, g148, undef, .int .i64 x135, .slice Ap2 p2.length cp2, .int .i64 (p2.length : Int), .bool (decide (x135 < (p2.length : Int))), g153, g154, .slice Ap2 p2.length cp2, .int .i64 x135, .pointer (some p171), .slice A174 y169.length c175, .int .i64 (y169.length : Int), .bool (decide ((y169.length : Int) > 200)), g161, .slice A132 l134.length c133, .slice Ap2 p2.length cp2, .int .i64 x135, .pointer (some p182), .slice A185 y180.length c186, .slice A189 ((l134 ++ y180).length) c190, undef, undef, undef, undef, undef, undef, undef, undef, undef, undef, undef, undef, undef, undef, undef, undef, undef, undef, undef, undef, undef, undef, undef] (by kernel_rfl) ?_
                refine in_normal ?_
                refine then_normal ?_
                refine wp_reg ?_
                refine segEnd [.slice Ap0 p0.length cp0, .slice Ap1 p1.length cp1, .slice Ap2 p2.length cp2, undef, undef, undef, g131, .slice A189 ((l134 ++ y180).length) c190, .int .i64 (IntKind.i64.wrap (x135 + 1)), undef, g136, g137, g138, g139, g140, g141, g142, g143, g144, g145, g146, g147, g148, undef, .int .i64 x135, .slice Ap2 p2.length cp2, .int .i64 (p2.length : Int), .bool (decide (x135 < (p2.length : Int))), .int .i64 x135, .int .i64 (IntKind.i64.wrap (x135 + 1)), .slice Ap2 p2.length cp2, .int .i64 x135, .pointer (some p171), .slice A174 y169.length c175, .int .i64 (y169.length : Int), .bool (decide ((y169.length : Int) > 200)), g161, .slice A132 l134.length c133, .slice Ap2 p2.length cp2, .int .i64 x135, .pointer (some p182), .slice A185 y180.length c186, .slice A189 ((l134 ++ y180).length) c190, undef, undef, undef, undef, undef, undef, undef, undef, undef, undef, undef, undef, undef, undef, undef, undef, undef, undef, undef, undef, undef, undef, undef] (by kernel_rfl) ?_
                refine then_normal ?_
                replace hS : Own w0 D R _ [rowA (Enc.int .u8) A189 c190 (l134 ++ y180)] [slA Rp0 (Enc.int .u8) Ap0 cp0 p0, slA Rp1 (Enc.int .u8) Ap1 cp1 p1, slsA Rp2 (Enc.int .u8) Ap2 cp2 p2] := hS.dropS (forall2 (List.Mem.tail _ (List.Mem.tail _ (List.Mem.head _))) (forall2 (List.Mem.tail _ (List.Mem.tail _ (List.Mem.tail _ (List.Mem.head _)))) (forall2 (List.Mem.tail _ (List.Mem.tail _ (List.Mem.tail _ (List.Mem.tail _ (List.Mem.head _))))) forall0)))
                exact ⟨((l134 ++ y180), (IntKind.i64.wrap (x135 + 1))), (Option.some.inj hM1).symm, g131, A189, c190, g136, g137, g138, g139, g140, g141, g142, g143, g144, g145, g146, g147, g148, (.int .i64 x135), (.slice Ap2 p2.length cp2), (.int .i64 (p2.length : Int)), (.bool (decide (x135 < (p2.length : Int)))), (.int .i64 x135), (.int .i64 (IntKind.i64.wrap (x135 + 1))), (.slice Ap2 p2.length cp2), (.int .i64 x135), (.pointer (some p171)), (.slice A174 y169.length c175), (.int .i64 (y169.length : Int)), (.bool (decide ((y169.length : Int) > 200))), g161, (.slice A132 l134.length c133), (.slice Ap2 p2.length cp2), (.int .i64 x135), (.pointer (some p182)), (.slice A185 y180.length c186), (.slice A189 ((l134 ++ y180).length) c190), (l134 ++ y180), (IntKind.i64.wrap (x135 + 1)), rfl, (by kernel_rfl), hS⟩
            · replace hM1 := (if_neg (Bool.eq_false_iff.1 hc168)).symm.trans hM1
              refine wp_exit ?_
              refine then_exit ?_
              refine then_exit ?_
              have hr258 := hout128 _ (Option.some.inj hM1).symm
              subst hr258
              refine in_exit_eq ?_
              refine then_normal ?_
              exact ⟨g131, A132, c133, (.int .i64 x135), g136, g137, g138, g139, g140, g141, g142, g143, g144, g145, g146, g147, g148, (.int .i64 x135), (.slice Ap2 p2.length cp2), (.int .i64 (p2.length : Int)), (.bool (decide (x135 < (p2.length : Int)))), g153, g154, g155, g156, g157, g158, g159, g160, g161, g162, g163, g164, g165, g166, g167, l134, (by kernel_rfl), hS, hM⟩
          · exact ⟨(.bool false), none, 0, (.slice Ap0 p0.length cp0), (.int .i64 (p0.length : Int)), (.bool false), (.bool false), (.slice Ap1 p1.length cp1), (.int .i64 (p1.length : Int)), (.bool false), (.bool false), (.bool false), (.slice Ap2 p2.length cp2), (.int .i64 (p2.length : Int)), (.bool (decide ((p2.length : Int) > 30))), (.bool (decide ((p2.length : Int) > 30))), undef, undef, undef, undef, undef, undef, undef, undef, undef, undef, undef, undef, undef, undef, undef, undef, undef, undef, undef, [], 0, rfl, (by kernel_rfl), hS⟩
        · rintro a w ⟨g191, A192, c193, g195, g196, g197, g198, g199, g200, g201, g202, g203, g204, g205, g206, g207, g208, g209, g210, g211, g212, g213, g214, g215, g216, g217, g218, g219, g220, g221, g222, g223, g224, g225, g226, g227, l194, rfl, hS, hM⟩
          unfold intagliolaw01_PackTexts_J1 at hM
          refine wp_seq ?_
          refine wp_reg ?_
          refine seg 1 [.slice Ap0 p0.length cp0, .slice Ap1 p1.length cp1, .slice Ap2 p2.length cp2, undef, undef, undef, g191, .slice A192 l194.length c193, g195, undef, g196, g197, g198, g199, g200, g201, g202, g203, g204, g205, g206, g207, g208, undef, g209, g210, g211, g212, g213, g214, g215, g216, g217, g218, g219, g220, g221, g222, g223, g224, g225, g226, g227, .slice Ap0 p0.length cp0, undef, undef, undef, undef, undef, undef, undef, undef, undef, undef, undef, undef, undef, undef, undef, undef, undef, undef, undef, undef, undef, undef] (by kernel_rfl) ?_
          replace hM := bind_some hM
          obtain ⟨v228, h231, hM⟩ := hM
          have hP := Own.pre (Xi := []) (X := [rowA (Enc.int .u8) A192 c193 l194]) (Si := [slA Rp0 (Enc.int .u8) Ap0 cp0 p0]) hS (forall2 (hS.sl_mem (List.Mem.head _)) forall0) (forall2 (fun _ h => .inl ⟨_, (List.Mem.head _), h⟩) forall0)
          refine s_call 10 #[.slice Ap0 p0.length cp0] (by kernel_rfl) (by kernel_rfl) ((bytes_Clone_W hP doms_nil h231).mono ?_)
          rintro _ _ ⟨A229, c230, rfl, hQ⟩
          replace hS : Own w0 D R _ [rowA (Enc.int .u8) A229 c230 v228, rowA (Enc.int .u8) A192 c193 l194] [slA Rp0 (Enc.int .u8) Ap0 cp0 p0, slA Rp1 (Enc.int .u8) Ap1 cp1 p1, slsA Rp2 (Enc.int .u8) Ap2 cp2 p2] := hS.post hQ (.inl rfl)
          clear hP hQ
          refine ⟨_, rfl, ?_⟩
          refine segEnd [.slice Ap0 p0.length cp0, .slice Ap1 p1.length cp1, .slice Ap2 p2.length cp2, undef, undef, undef, g191, .slice A192 l194.length c193, g195, .slice A229 v228.length c230, g196, g197, g198, g199, g200, g201, g202, g203, g204, g205, g206, g207, g208, undef, g209, g210, g211, g212, g213, g214, g215, g216, g217, g218, g219, g220, g221, g222, g223, g224, g225, g226, g227, .slice Ap0 p0.length cp0, .slice A229 v228.length c230, undef, undef, undef, undef, undef, undef, undef, undef, undef, undef, undef, undef, undef, undef, undef, undef, undef, undef, undef, undef, undef] (by kernel_rfl) ?_
          refine then_normal ?_
          refine wp_seq ?_
          refine wp_reg ?_
          refine seg 2 [.slice Ap0 p0.length cp0, .slice Ap1 p1.length cp1, .slice Ap2 p2.length cp2, undef, undef, undef, g191, .slice A192 l194.length c193, g195, .slice A229 v228.length c230, g196, g197, g198, g199, g200, g201, g202, g203, g204, g205, g206, g207, g208, undef, g209, g210, g211, g212, g213, g214, g215, g216, g217, g218, g219, g220, g221, g222, g223, g224, g225, g226, g227, .slice Ap0 p0.length cp0, .slice A229 v228.length c230, .slice Ap0 p0.length cp0, .slice Ap1 p1.length cp1, undef, undef, undef, undef, undef, undef, undef, undef, undef, undef, undef, undef, undef, undef, undef, undef, undef, undef, undef] (by kernel_rfl) ?_
          replace hM := bind_some hM
          obtain ⟨v232, h235, hM⟩ := hM
          have hP := Own.pre (Xi := []) (X := [rowA (Enc.int .u8) A229 c230 v228, rowA (Enc.int .u8) A192 c193 l194]) (Si := [slA Rp0 (Enc.int .u8) Ap0 cp0 p0, slA Rp1 (Enc.int .u8) Ap1 cp1 p1]) hS (forall2 (hS.sl_mem (List.Mem.head _)) (forall2 (hS.sl_mem (List.Mem.tail _ (List.Mem.head _))) forall0)) (forall2 (fun _ h => .inl ⟨_, (List.Mem.head _), h⟩) (forall2 (fun _ h => .inl ⟨_, (List.Mem.tail _ (List.Mem.head _)), h⟩) forall0))
          refine s_call 12 #[.slice Ap0 p0.length cp0, .slice Ap1 p1.length cp1] (by kernel_rfl) (by kernel_rfl) ((pack_Put_W hP doms_nil h235).mono ?_)
          rintro _ _ ⟨A233, c234, rfl, hQ⟩
          replace hS : Own w0 D R _ [rowA (Enc.int .u8) A233 c234 v232, rowA (Enc.int .u8) A229 c230 v228, rowA (Enc.int .u8) A192 c193 l194] [slA Rp0 (Enc.int .u8) Ap0 cp0 p0, slA Rp1 (Enc.int .u8) Ap1 cp1 p1, slsA Rp2 (Enc.int .u8) Ap2 cp2 p2] := hS.post hQ (.inl rfl)
          clear hP hQ
          refine ⟨_, rfl, ?_⟩
          refine seg 2 [.slice Ap0 p0.length cp0, .slice Ap1 p1.length cp1, .slice Ap2 p2.length cp2, undef, undef, undef, g191, .slice A192 l194.length c193, g195, .slice A229 v228.length c230, g196, g197, g198, g199, g200, g201, g202, g203, g204, g205, g206, g207, g208, undef, g209, g210, g211, g212, g213, g214, g215, g216, g217, g218, g219, g220, g221, g222, g223, g224, g225, g226, g227, .slice Ap0 p0.length cp0, .slice A229 v228.length c230, .slice Ap0 p0.length cp0, .slice Ap1 p1.length cp1, .slice A233 v232.length c234, .slice A229 v228.length c230, .slice Ap1 p1.length cp1, undef, undef, undef, undef, undef, undef, undef, undef, undef, undef, undef, undef, undef, undef, undef, undef] (by kernel_rfl) ?_
          replace hM := bind_some hM
          obtain ⟨v236, h239, hM⟩ := hM
          have hP := Own.pre (Xi := []) (X := [rowA (Enc.int .u8) A233 c234 v232, rowA (Enc.int .u8) A229 c230 v228, rowA (Enc.int .u8) A192 c193 l194]) (Si := [slA (blkOf A229) (Enc.int .u8) A229 c230 v228, slA Rp1 (Enc.int .u8) Ap1 cp1 p1]) hS (forall2 (sl_of_row (hS.row_mem (List.Mem.tail _ (List.Mem.head _)))) (forall2 (hS.sl_mem (List.Mem.tail _ (List.Mem.head _))) forall0)) (forall2 (fun _ h => .inr ⟨_, (List.Mem.tail _ (List.Mem.head _)), h⟩) (forall2 (fun _ h => .inl ⟨_, (List.Mem.tail _ (List.Mem.head _)), h⟩) forall0))
          refine s_call 13 #[.slice A229 v228.length c230, .slice Ap1 p1.length cp1] (by kernel_rfl) (by kernel_rfl) ((intaglioref01_Put_W hP doms_nil h239).mono ?_)
          rintro _ _ ⟨A237, c238, rfl, hQ⟩
          replace hS : Own w0 D R _ [rowA (Enc.int .u8) A237 c238 v236, rowA (Enc.int .u8) A233 c234 v232, rowA (Enc.int .u8) A229 c230 v228, rowA (Enc.int .u8) A192 c193 l194] [slA Rp0 (Enc.int .u8) Ap0 cp0 p0, slA Rp1 (Enc.int .u8) Ap1 cp1 p1, slsA Rp2 (Enc.int .u8) Ap2 cp2 p2] := hS.post hQ (.inl rfl)
          clear hP hQ
          refine ⟨_, rfl, ?_⟩
          replace hM := bind_some hM
          obtain ⟨v240, h241, hM⟩ := hM
          have hP := Own.pre (Xi := []) (X := [rowA (Enc.int .u8) A237 c238 v236, rowA (Enc.int .u8) A233 c234 v232, rowA (Enc.int .u8) A229 c230 v228, rowA (Enc.int .u8) A192 c193 l194]) (Si := [slA (blkOf A233) (Enc.int .u8) A233 c234 v232, slA (blkOf A237) (Enc.int .u8) A237 c238 v236]) hS (forall2 (sl_of_row (hS.row_mem (List.Mem.tail _ (List.Mem.head _)))) (forall2 (sl_of_row (hS.row_mem (List.Mem.head _))) forall0)) (forall2 (fun _ h => .inr ⟨_, (List.Mem.tail _ (List.Mem.head _)), h⟩) (forall2 (fun _ h => .inr ⟨_, (List.Mem.head _), h⟩) forall0))
          refine s_call 11 #[.slice A233 v232.length c234, .slice A237 v236.length c238] (by kernel_rfl) (by kernel_rfl) ((bytes_Equal_W hP doms_nil h241).mono ?_)
          rintro _ _ ⟨rfl, hQ⟩
          replace hS : Own w0 D R _ [rowA (Enc.int .u8) A237 c238 v236, rowA (Enc.int .u8) A233 c234 v232, rowA (Enc.int .u8) A229 c230 v228, rowA (Enc.int .u8) A192 c193 l194] [slA Rp0 (Enc.int .u8) Ap0 cp0 p0, slA Rp1 (Enc.int .u8) Ap1 cp1 p1, slsA Rp2 (Enc.int .u8) Ap2 cp2 p2] := hS.post hQ (.inl rfl)
          clear hP hQ
          refine ⟨_, rfl, ?_⟩
          refine seg 1 [.slice Ap0 p0.length cp0, .slice Ap1 p1.length cp1, .slice Ap2 p2.length cp2, undef, undef, undef, g191, .slice A192 l194.length c193, g195, .slice A229 v228.length c230, g196, g197, g198, g199, g200, g201, g202, g203, g204, g205, g206, g207, g208, undef, g209, g210, g211, g212, g213, g214, g215, g216, g217, g218, g219, g220, g221, g222, g223, g224, g225, g226, g227, .slice Ap0 p0.length cp0, .slice A229 v228.length c230, .slice Ap0 p0.length cp0, .slice Ap1 p1.length cp1, .slice A233 v232.length c234, .slice A229 v228.length c230, .slice Ap1 p1.length cp1, .slice A237 v236.length c238, .bool v240, .bool v240, undef, undef, undef, undef, undef, undef, undef, undef, undef, undef, undef, undef, undef] (by kernel_rfl) ?_
          rcases Bool.eq_false_or_eq_true v240 with hc242 | hc242
          · replace hM := (if_pos hc242).symm.trans hM
            rw [hc242]
            refine seg 1 [.slice Ap0 p0.length cp0, .slice Ap1 p1.length cp1, .slice Ap2 p2.length cp2, undef, undef, undef, g191, .slice A192 l194.length c193, g195, .slice A229 v228.length c230, g196, g197, g198, g199, g200, g201, g202, g203, g204, g205, g206, g207, g208, undef, g209, g210, g211, g212, g213, g214, g215, g216, g217, g218, g219, g220, g221, g222, g223, g224, g225, g226, g227, .slice Ap0 p0.length cp0, .slice A229 v228.length c230, .slice Ap0 p0.length cp0, .slice Ap1 p1.length cp1, .slice A233 v232.length c234, .slice A229 v228.length c230, .slice Ap1 p1.length cp1, .slice A237 v236.length c238, .bool true, .bool true, .slice Ap2 p2.length cp2, undef, undef, undef, undef, undef, undef, undef, undef, undef, undef, undef, undef] (by kernel_rfl) ?_
            replace hM := bind_some hM
            obtain ⟨v243, h246, hM⟩ := hM
            have hP := Own.pre (Xi := []) (X := [rowA (Enc.int .u8) A237 c238 v236, rowA (Enc.int .u8) A233 c234 v232, rowA (Enc.int .u8) A229 c230 v228, rowA (Enc.int .u8) A192 c193 l194]) (Si := [slsA Rp2 (Enc.int .u8) Ap2 cp2 p2]) hS (forall2 (hS.sls_mem (List.Mem.tail _ (List.Mem.tail _ (List.Mem.head _)))) forall0) (forall2 (fun _ h => .inl ⟨_, (List.Mem.tail _ (List.Mem.tail _ (List.Mem.head _))), h⟩) forall0)
            refine s_call 14 #[.slice Ap2 p2.length cp2] (by kernel_rfl) (by kernel_rfl) ((pack_Join_W hP doms_nil h246).mono ?_)
            rintro _ _ ⟨A244, c245, rfl, hQ⟩
            replace hS : Own w0 D R _ [rowA (Enc.int .u8) A244 c245 v243, rowA (Enc.int .u8) A237 c238 v236, rowA (Enc.int .u8) A233 c234 v232, rowA (Enc.int .u8) A229 c230 v228, rowA (Enc.int .u8) A192 c193 l194] [slA Rp0 (Enc.int .u8) Ap0 cp0 p0, slA Rp1 (Enc.int .u8) Ap1 cp1 p1, slsA Rp2 (Enc.int .u8) Ap2 cp2 p2] := hS.post hQ (.inl rfl)
            clear hP hQ
            refine ⟨_, rfl, ?_⟩
            refine seg 1 [.slice Ap0 p0.length cp0, .slice Ap1 p1.length cp1, .slice Ap2 p2.length cp2, undef, undef, undef, g191, .slice A192 l194.length c193, g195, .slice A229 v228.length c230, g196, g197, g198, g199, g200, g201, g202, g203, g204, g205, g206, g207, g208, undef, g209, g210, g211, g212, g213, g214, g215, g216, g217, g218, g219, g220, g221, g222, g223, g224, g225, g226, g227, .slice Ap0 p0.length cp0, .slice A229 v228.length c230, .slice Ap0 p0.length cp0, .slice Ap1 p1.length cp1, .slice A233 v232.length c234, .slice A229 v228.length c230, .slice Ap1 p1.length cp1, .slice A237 v236.length c238, .bool true, .bool true, .slice Ap2 p2.length cp2, .slice A244 v243.length c245, .slice A192 l194.length c193, undef, undef, undef, undef, undef, undef, undef, undef, undef, undef] (by kernel_rfl) ?_
            replace hM := bind_some hM
            obtain ⟨v247, h248, hM⟩ := hM
            have hP := Own.pre (Xi := []) (X := [rowA (Enc.int .u8) A244 c245 v243, rowA (Enc.int .u8) A237 c238 v236, rowA (Enc.int .u8) A233 c234 v232, rowA (Enc.int .u8) A229 c230 v228, rowA (Enc.int .u8) A192 c193 l194]) (Si := [slA (blkOf A244) (Enc.int .u8) A244 c245 v243, slA (blkOf A192) (Enc.int .u8) A192 c193 l194]) hS (forall2 (sl_of_row (hS.row_mem (List.Mem.head _))) (forall2 (sl_of_row (hS.row_mem (List.Mem.tail _ (List.Mem.tail _ (List.Mem.tail _ (List.Mem.tail _ (List.Mem.head _))))))) forall0)) (forall2 (fun _ h => .inr ⟨_, (List.Mem.head _), h⟩) (forall2 (fun _ h => .inr ⟨_, (List.Mem.tail _ (List.Mem.tail _ (List.Mem.tail _ (List.Mem.tail _ (List.Mem.head _))))), h⟩) forall0))
            refine s_call 11 #[.slice A244 v243.length c245, .slice A192 l194.length c193] (by kernel_rfl) (by kernel_rfl) ((bytes_Equal_W hP doms_nil h248).mono ?_)
            rintro _ _ ⟨rfl, hQ⟩
            replace hS : Own w0 D R _ [rowA (Enc.int .u8) A244 c245 v243, rowA (Enc.int .u8) A237 c238 v236, rowA (Enc.int .u8) A233 c234 v232, rowA (Enc.int .u8) A229 c230 v228, rowA (Enc.int .u8) A192 c193 l194] [slA Rp0 (Enc.int .u8) Ap0 cp0 p0, slA Rp1 (Enc.int .u8) Ap1 cp1 p1, slsA Rp2 (Enc.int .u8) Ap2 cp2 p2] := hS.post hQ (.inl rfl)
            clear hP hQ
            refine ⟨_, rfl, ?_⟩
            refine seg 2 [.slice Ap0 p0.length cp0, .slice Ap1 p1.length cp1, .slice Ap2 p2.length cp2, undef, undef, undef, g191, .slice A192 l194.length c193, g195, .slice A229 v228.length c230, g196, g197, g198, g199, g200, g201, g202, g203, g204, g205, g206, g207, g208, undef, g209, g210, g211, g212, g213, g214, g215, g216, g217, g218, g219, g220, g221, g222, g223, g224, g225, g226, g227, .slice Ap0 p0.length cp0, .slice A229 v228.length c230, .slice Ap0 p0.length cp0, .slice Ap1 p1.length cp1, .slice A233 v232.length c234, .slice A229 v228.length c230, .slice Ap1 p1.length cp1, .slice A237 v236.length c238, .bool true, .bool true, .slice Ap2 p2.length cp2, .slice A244 v243.length c245, .slice A192 l194.length c193, .bool v247, .bool v247, .bool v247, undef, undef, undef, undef, undef, undef, undef] (by kernel_rfl) ?_
            rcases Bool.eq_false_or_eq_true v247 with hc249 | hc249
            · replace hM := (if_pos hc249).symm.trans hM
              rw [hc249]
              refine seg 2 [.slice Ap0 p0.length cp0, .slice Ap1 p1.length cp1, .slice Ap2 p2.length cp2, undef, undef, undef, g191, .slice A192 l194.length c193, g195, .slice A229 v228.length c230, g196, g197, g198, g199, g200, g201, g202, g203, g204, g205, g206, g207, g208, undef, g209, g210, g211, g212, g213, g214, g215, g216, g217, g218, g219, g220, g221, g222, g223, g224, g225, g226, g227, .slice Ap0 p0.length cp0, .slice A229 v228.length c230, .slice Ap0 p0.length cp0, .slice Ap1 p1.length cp1, .slice A233 v232.length c234, .slice A229 v228.length c230, .slice Ap1 p1.length cp1, .slice A237 v236.length c238, .bool true, .bool true, .slice Ap2 p2.length cp2, .slice A244 v243.length c245, .slice A192 l194.length c193, .bool true, .bool true, .bool true, .slice Ap0 p0.length cp0, .slice A229 v228.length c230, undef, undef, undef, undef, undef] (by kernel_rfl) ?_
              replace hM := bind_some hM
              obtain ⟨v250, h251, hM⟩ := hM
              have hP := Own.pre (Xi := []) (X := [rowA (Enc.int .u8) A244 c245 v243, rowA (Enc.int .u8) A237 c238 v236, rowA (Enc.int .u8) A233 c234 v232, rowA (Enc.int .u8) A229 c230 v228, rowA (Enc.int .u8) A192 c193 l194]) (Si := [slA Rp0 (Enc.int .u8) Ap0 cp0 p0, slA (blkOf A229) (Enc.int .u8) A229 c230 v228]) hS (forall2 (hS.sl_mem (List.Mem.head _)) (forall2 (sl_of_row (hS.row_mem (List.Mem.tail _ (List.Mem.tail _ (List.Mem.tail _ (List.Mem.head _)))))) forall0)) (forall2 (fun _ h => .inl ⟨_, (List.Mem.head _), h⟩) (forall2 (fun _ h => .inr ⟨_, (List.Mem.tail _ (List.Mem.tail _ (List.Mem.tail _ (List.Mem.head _)))), h⟩) forall0))
              refine s_call 11 #[.slice Ap0 p0.length cp0, .slice A229 v228.length c230] (by kernel_rfl) (by kernel_rfl) ((bytes_Equal_W hP doms_nil h251).mono ?_)
              rintro _ _ ⟨rfl, hQ⟩
              replace hS : Own w0 D R _ [rowA (Enc.int .u8) A244 c245 v243, rowA (Enc.int .u8) A237 c238 v236, rowA (Enc.int .u8) A233 c234 v232, rowA (Enc.int .u8) A229 c230 v228, rowA (Enc.int .u8) A192 c193 l194] [slA Rp0 (Enc.int .u8) Ap0 cp0 p0, slA Rp1 (Enc.int .u8) Ap1 cp1 p1, slsA Rp2 (Enc.int .u8) Ap2 cp2 p2] := hS.post hQ (.inl rfl)
              clear hP hQ
              refine ⟨_, rfl, ?_⟩
              refine seg 2 [.slice Ap0 p0.length cp0, .slice Ap1 p1.length cp1, .slice Ap2 p2.length cp2, undef, undef, undef, g191, .slice A192 l194.length c193, g195, .slice A229 v228.length c230, g196, g197, g198, g199, g200, g201, g202, g203, g204, g205, g206, g207, g208, undef, g209, g210, g211, g212, g213, g214, g215, g216, g217, g218, g219, g220, g221, g222, g223, g224, g225, g226, g227, .slice Ap0 p0.length cp0, .slice A229 v228.length c230, .slice Ap0 p0.length cp0, .slice Ap1 p1.length cp1, .slice A233 v232.length c234, .slice A229 v228.length c230, .slice Ap1 p1.length cp1, .slice A237 v236.length c238, .bool true, .bool true, .slice Ap2 p2.length cp2, .slice A244 v243.length c245, .slice A192 l194.length c193, .bool true, .bool true, .bool true, .slice Ap0 p0.length cp0, .slice A229 v228.length c230, .bool v250, .bool v250, .bool v250, undef, undef] (by kernel_rfl) ?_
              rcases Bool.eq_false_or_eq_true v250 with hc252 | hc252
              · replace hM := (if_pos hc252).symm.trans hM
                rw [hc252]
                replace hM := bind_some hM
                obtain ⟨v253, h254, hM⟩ := hM
                have hP := Own.pre (Xi := []) (X := [rowA (Enc.int .u8) A244 c245 v243, rowA (Enc.int .u8) A237 c238 v236, rowA (Enc.int .u8) A233 c234 v232, rowA (Enc.int .u8) A229 c230 v228, rowA (Enc.int .u8) A192 c193 l194]) (Si := []) hS forall0 forall0
                refine s_call 9 #[] (by kernel_rfl) (by kernel_rfl) ((intagliolaw01_awake_W hP doms_nil h254).mono ?_)
                rintro _ _ ⟨rfl, hQ⟩
                replace hS : Own w0 D R _ [rowA (Enc.int .u8) A244 c245 v243, rowA (Enc.int .u8) A237 c238 v236, rowA (Enc.int .u8) A233 c234 v232, rowA (Enc.int .u8) A229 c230 v228, rowA (Enc.int .u8) A192 c193 l194] [slA Rp0 (Enc.int .u8) Ap0 cp0 p0, slA Rp1 (Enc.int .u8) Ap1 cp1 p1, slsA Rp2 (Enc.int .u8) Ap2 cp2 p2] := hS.post hQ (.inl rfl)
                clear hP hQ
                refine ⟨_, rfl, ?_⟩
                refine segEnd [.slice Ap0 p0.length cp0, .slice Ap1 p1.length cp1, .slice Ap2 p2.length cp2, undef, undef, undef, .bool v253, .slice A192 l194.length c193, g195, .slice A229 v228.length c230, g196, g197, g198, g199, g200, g201, g202, g203, g204, g205, g206, g207, g208, undef, g209, g210, g211, g212, g213, g214, g215, g216, g217, g218, g219, g220, g221, g222, g223, g224, g225, g226, g227, .slice Ap0 p0.length cp0, .slice A229 v228.length c230, .slice Ap0 p0.length cp0, .slice Ap1 p1.length cp1, .slice A233 v232.length c234, .slice A229 v228.length c230, .slice Ap1 p1.length cp1, .slice A237 v236.length c238, .bool true, .bool true, .slice Ap2 p2.length cp2, .slice A244 v243.length c245, .slice A192 l194.length c193, .bool true, .bool true, .bool true, .slice Ap0 p0.length cp0, .slice A229 v228.length c230, .bool true, .bool true, .bool true, .bool v253, .bool v253] (by kernel_rfl) ?_
                refine then_normal ?_
                refine wp_ret ?_
                replace hS : Own w0 D R _ [] [slA Rp0 (Enc.int .u8) Ap0 cp0 p0, slA Rp1 (Enc.int .u8) Ap1 cp1 p1, slsA Rp2 (Enc.int .u8) Ap2 cp2 p2] := hS.takeX 0
                replace hS : Own w0 D R _ [] [] := hS.dropS forall0
                obtain rfl := Option.some.inj hM
                refine ret_v (.bool v253) (by kernel_rfl) ⟨rfl, hS⟩
              · replace hM := (if_neg (Bool.eq_false_iff.1 hc252)).symm.trans hM
                rw [hc252]
                refine segEnd [.slice Ap0 p0.length cp0, .slice Ap1 p1.length cp1, .slice Ap2 p2.length cp2, undef, undef, undef, .bool false, .slice A192 l194.length c193, g195, .slice A229 v228.length c230, g196, g197, g198, g199, g200, g201, g202, g203, g204, g205, g206, g207, g208, undef, g209, g210, g211, g212, g213, g214, g215, g216, g217, g218, g219, g220, g221, g222, g223, g224, g225, g226, g227, .slice Ap0 p0.length cp0, .slice A229 v228.length c230, .slice Ap0 p0.length cp0, .slice Ap1 p1.length cp1, .slice A233 v232.length c234, .slice A229 v228.length c230, .slice Ap1 p1.length cp1, .slice A237 v236.length c238, .bool true, .bool true, .slice Ap2 p2.length cp2, .slice A244 v243.length c245, .slice A192 l194.length c193, .bool true, .bool true, .bool true, .slice Ap0 p0.length cp0, .slice A229 v228.length c230, .bool false, .bool false, .bool false, undef, .bool false] (by kernel_rfl) ?_
                refine then_normal ?_
                refine wp_ret ?_
                replace hS : Own w0 D R _ [] [slA Rp0 (Enc.int .u8) Ap0 cp0 p0, slA Rp1 (Enc.int .u8) Ap1 cp1 p1, slsA Rp2 (Enc.int .u8) Ap2 cp2 p2] := hS.takeX 0
                replace hS : Own w0 D R _ [] [] := hS.dropS forall0
                obtain rfl := Option.some.inj hM
                refine ret_v (.bool false) (by kernel_rfl) ⟨rfl, hS⟩
            · replace hM := (if_neg (Bool.eq_false_iff.1 hc249)).symm.trans hM
              rw [hc249]
              refine segEnd [.slice Ap0 p0.length cp0, .slice Ap1 p1.length cp1, .slice Ap2 p2.length cp2, undef, undef, undef, .bool false, .slice A192 l194.length c193, g195, .slice A229 v228.length c230, g196, g197, g198, g199, g200, g201, g202, g203, g204, g205, g206, g207, g208, undef, g209, g210, g211, g212, g213, g214, g215, g216, g217, g218, g219, g220, g221, g222, g223, g224, g225, g226, g227, .slice Ap0 p0.length cp0, .slice A229 v228.length c230, .slice Ap0 p0.length cp0, .slice Ap1 p1.length cp1, .slice A233 v232.length c234, .slice A229 v228.length c230, .slice Ap1 p1.length cp1, .slice A237 v236.length c238, .bool true, .bool true, .slice Ap2 p2.length cp2, .slice A244 v243.length c245, .slice A192 l194.length c193, .bool false, .bool false, .bool false, undef, undef, undef, .bool false, .bool false, undef, .bool false] (by kernel_rfl) ?_
              refine then_normal ?_
              refine wp_ret ?_
              replace hS : Own w0 D R _ [] [slA Rp0 (Enc.int .u8) Ap0 cp0 p0, slA Rp1 (Enc.int .u8) Ap1 cp1 p1, slsA Rp2 (Enc.int .u8) Ap2 cp2 p2] := hS.takeX 0
              replace hS : Own w0 D R _ [] [] := hS.dropS forall0
              obtain rfl := Option.some.inj hM
              refine ret_v (.bool false) (by kernel_rfl) ⟨rfl, hS⟩
          · replace hM := (if_neg (Bool.eq_false_iff.1 hc242)).symm.trans hM
            rw [hc242]
            refine segEnd [.slice Ap0 p0.length cp0, .slice Ap1 p1.length cp1, .slice Ap2 p2.length cp2, undef, undef, undef, .bool false, .slice A192 l194.length c193, g195, .slice A229 v228.length c230, g196, g197, g198, g199, g200, g201, g202, g203, g204, g205, g206, g207, g208, undef, g209, g210, g211, g212, g213, g214, g215, g216, g217, g218, g219, g220, g221, g222, g223, g224, g225, g226, g227, .slice Ap0 p0.length cp0, .slice A229 v228.length c230, .slice Ap0 p0.length cp0, .slice Ap1 p1.length cp1, .slice A233 v232.length c234, .slice A229 v228.length c230, .slice Ap1 p1.length cp1, .slice A237 v236.length c238, .bool false, .bool false, undef, undef, undef, undef, .bool false, .bool false, undef, undef, undef, .bool false, .bool false, undef, .bool false] (by kernel_rfl) ?_
            refine then_normal ?_
            refine wp_ret ?_
            replace hS : Own w0 D R _ [] [slA Rp0 (Enc.int .u8) Ap0 cp0 p0, slA Rp1 (Enc.int .u8) Ap1 cp1 p1, slsA Rp2 (Enc.int .u8) Ap2 cp2 p2] := hS.takeX 0
            replace hS : Own w0 D R _ [] [] := hS.dropS forall0
            obtain rfl := Option.some.inj hM
            refine ret_v (.bool false) (by kernel_rfl) ⟨rfl, hS⟩

end Go.Proofs.Ytknkonhdbmeolaa
