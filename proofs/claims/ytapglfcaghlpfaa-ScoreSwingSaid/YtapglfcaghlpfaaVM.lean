/- A part of the proof that the last text ends: what functions of the program do, told by plain data. -/
import Derived.Test.YtapglfcaghlpfaaVJ
import Derived.Test.YtapglfcaghlpfaaVL
set_option linter.unusedVariables false
set_option linter.unusedSimpArgs false
namespace Go.Proofs.Ytapglfcaghlpfaa
open Go Go.E Go.Maps
set_option maxRecDepth 100000
set_option maxHeartbeats 16000000
theorem map_at {r : Rul} {l : List Ska} {f : Ska → Sco} {k : Nat} (h : k < l.length) : (l.map f).getD k default = f (l.getD k default) := by
  rw [at_lt (by rw [List.length_map]; exact h), List.getElem_map, at_lt h]
theorem swR_at {r : Rul} {l : List Ska} {j w : Nat} (hw : w < l.length) : (swR r l j).getD w default = spn (l.map (endS r j (-5) 0)) (l.map (endS r j 5 40)) w l.length := by
  unfold swR
  rw [at_lt (by rw [List.length_map, List.length_range]; exact hw), List.getElem_map, List.getElem_range]
end Go.Proofs.Ytapglfcaghlpfaa
