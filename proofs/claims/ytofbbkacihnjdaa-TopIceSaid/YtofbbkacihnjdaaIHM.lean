/- A part of the proof that the last text ends: what functions of the program do, told by plain data. -/
import Derived.Test.YtofbbkacihnjdaaIHL
set_option linter.unusedVariables false
set_option linter.unusedSimpArgs false
namespace Go.Proofs.Ytofbbkacihnjdaa
open Go Go.E Go.Maps
set_option maxRecDepth 100000
set_option maxHeartbeats 16000000
def hqN (t : Tt) (p : List Int) (k : Nat) : List Int := (List.range k).map fun g : Nat => (cnG p p.length (g : Int) : Int) + (t.groups.getD g default).cred
theorem hqN_all {t : Tt} {p : List Int} : hqN t p t.groups.length = hasL t p := by
  unfold hqN hasL hasN
  apply List.map_congr_left
  intro g hg
  rw [if_pos (List.mem_range.1 hg)]
end Go.Proofs.Ytofbbkacihnjdaa
