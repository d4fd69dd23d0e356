/- A part of the proof that the last text ends: what functions of the program do, told by plain data. -/
import Derived.Test.YtapglfcaghlpfaaVU
set_option linter.unusedVariables false
set_option linter.unusedSimpArgs false
namespace Go.Proofs.Ytapglfcaghlpfaa
open Go Go.E Go.Maps
set_option maxRecDepth 100000
theorem getD_map' {α β : Type} [Inhabited α] [Inhabited β] {f : α → β} {l : List α} {i : Nat} (h : i < l.length) : (l.map f).getD i default = f (l.getD i default) := by
  rw [at_lt (by rw [List.length_map]; exact h), List.getElem_map, at_lt h]
theorem getD_rng {β : Type} [Inhabited β] {f : Nat → β} {n i : Nat} (h : i < n) : ((List.range n).map f).getD i default = f i := by
  rw [at_lt (by rw [List.length_map, List.length_range]; exact h), List.getElem_map, List.getElem_range]
section
variable {r : Rul} {s : Ska} {j : Nat} {bs : List Int} {z : Nat} {most : Bool}
end
end Go.Proofs.Ytapglfcaghlpfaa
