/- The law VerbPlain of chapter 17: what its model answers, whatever comes in. -/
import Derived.Test.YtekofbmeofhejaaDoorL17
import Derived.Test.YtekofbmeofhejaaDoorMt
namespace Go.Proofs.YtekofbmeofhejaaDoor
open Go Go.Lift Go.Lib
set_option maxRecDepth 100000
set_option maxHeartbeats 4000000
set_option linter.unusedVariables false

theorem intagliolaw17_VerbPlain_pure (s t : List UInt8) (hs : Ty.ok .str s) (ht : Ty.ok .str t) : intagliolaw17_VerbPlain_M s t = some true := by
  unfold intagliolaw17_VerbPlain_M
  simp only [intagliolaw17_awake_P, awake_is, Option.bind_some, verb_Match_P]
  split
  · rfl
  · split
    · rfl
    · rename_i h1 h2
      simp at h1 h2
      have he : (esc s).length ≤ 160 := by have := encT_len (s.map some); unfold esc; rw [List.length_map] at this; omega
      rw [plain_loop (by omega), Option.bind_some]
      simp only
      rw [match_plain (by omega) (by omega), Option.bind_some, if_pos (by simp), match_plain (by omega) (by omega), Option.bind_some, if_pos (by simp), room_one (by omega), Option.bind_some, room_one (by omega), Option.bind_some,
        match_ahead (by omega) (by omega), Option.bind_some, if_pos rfl, room_one (by omega), Option.bind_some, room_one (by omega), Option.bind_some, match_behind (by omega) (by omega), Option.bind_some, if_pos rfl]
end Go.Proofs.YtekofbmeofhejaaDoor
