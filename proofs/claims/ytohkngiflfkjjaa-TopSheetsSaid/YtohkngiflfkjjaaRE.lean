/- A part of the proof that the last text ends: what functions of the program do, told by plain data. -/
import Derived.Test.YtohkngiflfkjjaaRD
set_option linter.unusedVariables false
set_option linter.unusedSimpArgs false
namespace Go.Proofs.Ytohkngiflfkjjaa
open Go Go.E
set_option maxRecDepth 100000
set_option maxHeartbeats 16000000
/-! ### The document: one member more, a match -/
theorem take_succ {α : Type} [Inhabited α] {l : List α} {k : Nat} (h : k < l.length) : l.take (k + 1) = l.take k ++ [l.getD k default] := by
  rw [List.take_succ_eq_append_getElem h, at_lt h]
def insM (l : List Mem) (m : Mem) : List Mem := l.takeWhile (fun y => decide (y.person < m.person)) ++ m :: l.dropWhile (fun y => decide (y.person < m.person))
end Go.Proofs.Ytohkngiflfkjjaa
