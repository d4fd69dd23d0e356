/- A part of the proof that the last text ends: what functions of the program do, told by plain data. -/
import Derived.Test.YtmajlffglplcnaaDoorMJ
import Derived.Test.YtmajlffglplcnaaDoorEc
set_option linter.unusedVariables false
set_option linter.unusedSimpArgs false
namespace Go.Proofs.YtmajlffglplcnaaDoor
open Go Go.E
set_option maxRecDepth 100000
set_option maxHeartbeats 16000000
def outsL : Nat → List Int → List (List Int)
  | 0, b => [b]
  | k + 1, b => (List.range 4).flatMap fun (i : Nat) => outsL k (b ++ [(i : Int)])
end Go.Proofs.YtmajlffglplcnaaDoor
