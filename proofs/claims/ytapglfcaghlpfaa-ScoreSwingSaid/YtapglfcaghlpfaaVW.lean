/- A part of the proof that the last text ends: what functions of the program do, told by plain data. -/
import Derived.Test.YtapglfcaghlpfaaVU
set_option linter.unusedVariables false
set_option linter.unusedSimpArgs false
namespace Go.Proofs.Ytapglfcaghlpfaa
open Go Go.E Go.Maps
set_option maxRecDepth 100000
theorem getD_map' {α β : Type} [Inhabited α] [Inhabited β] {f : α → β} {l : List α} {i : Nat} (h : i < l.length) : (l.map f).getD i default = f (l.getD i default) := by
  rw [at_lt (by rw [List.length_map]; exact h), List.getElem_map, at_lt h]
theorem getD_rng {β : Type} [Inhabited β] {f : Nat → β} {n i : Nat} (h : i < n) : ((List.range n).map f).getD i default = f i := by
  rw [at_lt (by rw [List.length_map, List.length_range]; exact h), List.getElem_map, List.getElem_range]
theorem getD_out {α : Type} [Inhabited α] {l : List α} {i : Nat} (h : l.length ≤ i) : l.getD i default = default := by
  rw [List.getD_eq_getElem?_getD, List.getElem?_eq_none h]; rfl
section
variable {r : Rul} {s : Ska} {j : Nat} {bs : List Int} {z : Nat} {most : Bool}
theorem ch_at {i : Nat} (h : i < s.calls.length) : (chS s j bs z).calls.getD i default = chC bs j (z + i) (s.calls.getD i default) := getD_rng h
theorem chP_at {i : Nat} (h : i < s.parts.length) : (chS s j bs z).parts.getD i default = chP bs j (z + i + 1) (s.parts.getD i default) := getD_rng h
theorem ch_len : (chS s j bs z).calls.length = s.calls.length := chcN_len
theorem chP_len : (chS s j bs z).parts.length = s.parts.length := chpN_len
end
end Go.Proofs.Ytapglfcaghlpfaa
