/- A part of the proof that the last text ends: what functions of the program do, told by plain data. -/
import Derived.Test.YtohkngiflfkjjaaQB
import Derived.Test.YtohkngiflfkjjaaRW
set_option linter.unusedVariables false
set_option linter.unusedSimpArgs false
namespace Go.Proofs.Ytohkngiflfkjjaa
open Go Go.E Go.Maps
set_option maxRecDepth 100000
set_option maxHeartbeats 16000000
/-! ### RosterServed -/
theorem play_err {l : List Ev} (h : (runR l).2.2 ≠ 0) : playR l = ([], ((runR l).2.1 : Int), (runR l).2.2) := by unfold playR; rw [if_neg h]
theorem play_ok {l : List Ev} (h : (runR l).2.2 = 0) : playR l = ((runR l).1.mem, ((runR l).2.1 : Int), 0) := by unfold playR; rw [if_pos h]
end Go.Proofs.Ytohkngiflfkjjaa
