/- A part of the proof that the last text ends: what functions of the program do, told by plain data. -/
import Derived.Test.YtofbbkacihnjdaaIHN
set_option linter.unusedVariables false
set_option linter.unusedSimpArgs false
namespace Go.Proofs.Ytofbbkacihnjdaa
open Go Go.E Go.Maps
set_option maxRecDepth 100000
set_option maxHeartbeats 16000000
theorem wk_self : ∀ c : List AV, wk c c
  | [] => trivial
  | _ :: c => ⟨.inr (.inl rfl), wk_self c⟩
theorem hcL_has {t : Tt} {p : List Int} (h5 : t.groups.length ≤ 5) : hcL t (cnP p p.length) = hasL t p := by
  rw [← hqN_all]
  unfold hcL hcN hqN
  apply List.map_congr_left
  intro g hg
  rw [cnP_at (by have := List.mem_range.1 hg; omega)]
end Go.Proofs.Ytofbbkacihnjdaa
