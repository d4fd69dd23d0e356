/- A part of the proof that the last text ends: what functions of the program do, told by plain data. -/
import Derived.Test.YtapglfcaghlpfaaGreatZVD
set_option linter.unusedVariables false
set_option linter.unusedSimpArgs false
namespace Go.Proofs.YtapglfcaghlpfaaGreat
open Go Go.E Go.Maps
set_option maxRecDepth 100000
def callS (s : Ska) (k : Nat) (c : Cal) : Ska := { s with calls := s.calls.set k c }
end Go.Proofs.YtapglfcaghlpfaaGreat
