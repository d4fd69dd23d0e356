/- A part of the proof that the last text ends: what functions of the program do, told by plain data. -/
import Derived.Test.YtofbbkacihnjdaaDoorHU
set_option linter.unusedVariables false
set_option linter.unusedSimpArgs false
namespace Go.Proofs.YtofbbkacihnjdaaDoor
open Go Go.E Go.Maps
set_option maxRecDepth 100000
set_option maxHeartbeats 1000000
def lx : List Int → List Int → Prop
  | a :: p, b :: q => if a = b then lx p q else (b < 0 ∨ (0 ≤ a ∧ a < b))
  | _, _ => True
end Go.Proofs.YtofbbkacihnjdaaDoor
