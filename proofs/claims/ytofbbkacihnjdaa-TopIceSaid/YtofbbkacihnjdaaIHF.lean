/- A part of the proof that the last text ends: what functions of the program do, told by plain data. -/
import Derived.Test.YtofbbkacihnjdaaIHE
set_option linter.unusedVariables false
set_option linter.unusedSimpArgs false
namespace Go.Proofs.Ytofbbkacihnjdaa
open Go Go.E Go.Maps
set_option maxRecDepth 100000
set_option maxHeartbeats 16000000
def fairI (t : Tt) (a b : List Int) : Int := cmpL (isort (hasL t a)) (isort (hasL t b))
def goP (t : Tt) (p : List Int) : Prop := plOk t p = true ∧ ∀ j, j < p.length → erR t p j = 0
end Go.Proofs.Ytofbbkacihnjdaa
