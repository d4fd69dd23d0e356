/- A part of the proof that the last text ends: what functions of the program do, told by plain data. -/
import Derived.Test.YtohkngiflfkjjaaQB
import Derived.Test.YtohkngiflfkjjaaRW
set_option linter.unusedVariables false
set_option linter.unusedSimpArgs false
namespace Go.Proofs.Ytohkngiflfkjjaa
open Go Go.E Go.Maps
set_option maxRecDepth 100000
set_option maxHeartbeats 16000000
/-! ### RosterServed -/
theorem c7 : callable Try.prog 7 = true := by kernel_rfl
end Go.Proofs.Ytohkngiflfkjjaa
