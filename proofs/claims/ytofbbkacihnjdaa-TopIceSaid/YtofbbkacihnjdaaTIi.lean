/- A part of the proof that the last text ends: what functions of the program do, told by plain data. -/
import Derived.Test.YtofbbkacihnjdaaTIg
import Derived.Test.YtofbbkacihnjdaaIHPa
set_option linter.unusedVariables false
set_option linter.unusedSimpArgs false
namespace Go.Proofs.Ytofbbkacihnjdaa
open Go Go.E Go.Maps
set_option maxRecDepth 100000
set_option maxHeartbeats 4000000
def r06 : List Zo := [⟨⟨3000, 3200⟩, ⟨1000, 1100⟩⟩, ⟨⟨2800, 2900⟩, ⟨1000, 1000⟩⟩]
def t06 : Tt := ⟨[⟨2, 600, 660⟩], [⟨127, 0, 1440, 1, 0⟩], 0⟩
theorem wa06 : waR r06 ⟨20, 50⟩ ⟨100, 150⟩ 3 2700 3350 = (⟨167, 170⟩, 0) := by decide +kernel
theorem fr06 : frR t06 = ([0], 0) := by decide +kernel
end Go.Proofs.Ytofbbkacihnjdaa
