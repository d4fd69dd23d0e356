/- A part of the proof that the last text ends: what functions of the program do, told by plain data. -/
import Derived.Test.YtapglfcaghlpfaaVD
set_option linter.unusedVariables false
set_option linter.unusedSimpArgs false
namespace Go.Proofs.Ytapglfcaghlpfaa
open Go Go.E Go.Maps
set_option maxRecDepth 100000
/-! ### What makes a contest of one skating -/
/-! ### Later, with one more fall, with a higher mark -/
def callS (s : Ska) (k : Nat) (c : Cal) : Ska := { s with calls := s.calls.set k c }
end Go.Proofs.Ytapglfcaghlpfaa
