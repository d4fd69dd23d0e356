/- A part of the proof that the last text ends: what functions of the program do, told by plain data. -/
import Derived.Test.YtofbbkacihnjdaaIHG
set_option linter.unusedVariables false
set_option linter.unusedSimpArgs false
namespace Go.Proofs.Ytofbbkacihnjdaa
open Go Go.E Go.Maps
set_option maxRecDepth 100000
set_option maxHeartbeats 16000000
abbrev bc (b : Int) : List D := [.v (.int .u8 b)]
theorem bcs_inj {a b : List Int} : (a.map bc = b.map bc) = (a = b) := inj_map fun _ _ h => by simpa using h
end Go.Proofs.Ytofbbkacihnjdaa
