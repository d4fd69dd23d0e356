/- A part of the proof that the last text ends: what functions of the program do, told by plain data. -/
import Derived.Test.YtohkngiflfkjjaaQC
set_option linter.unusedVariables false
set_option linter.unusedSimpArgs false
namespace Go.Proofs.Ytohkngiflfkjjaa
open Go Go.E Go.Maps
set_option maxRecDepth 100000
set_option maxHeartbeats 16000000
theorem NilRs.app : ∀ {a a' b b' : List (List D)}, NilRs a a' → NilRs b b' → NilRs (a ++ b) (a' ++ b')
  | [], _, _, _, .refl _, k => k
  | x :: a, _, _, _, .refl _, k => .cons (.refl x) (NilRs.app (.refl a) k)
  | _, _, _, _, .cons h h', k => .cons h (NilRs.app h' k)
end Go.Proofs.Ytohkngiflfkjjaa
