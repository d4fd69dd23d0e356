/- A part of the proof that the last text ends: what functions of the program do, told by plain data. -/
import Derived.Test.YtofbbkacihnjdaaDoorHPa
set_option linter.unusedVariables false
set_option linter.unusedSimpArgs false
namespace Go.Proofs.YtofbbkacihnjdaaDoor
open Go Go.E Go.Maps
set_option maxRecDepth 100000
set_option maxHeartbeats 1000000
theorem pl_of {t : Tt} {p : List Int} (h : foP t p) (hl : p.length = t.hours.length) : plOk t p = true := by
  unfold plOk
  rw [Bool.and_eq_true, decide_eq_true_eq]
  refine ⟨all_get.2 fun j hj => ?_, by omega⟩
  rw [inB_iff]
  have := h j hj
  omega
end Go.Proofs.YtofbbkacihnjdaaDoor
