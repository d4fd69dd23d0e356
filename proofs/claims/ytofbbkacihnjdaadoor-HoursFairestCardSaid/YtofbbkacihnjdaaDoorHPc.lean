/- A part of the proof that the last text ends: what functions of the program do, told by plain data. -/
import Derived.Test.YtofbbkacihnjdaaDoorHPb
set_option linter.unusedVariables false
set_option linter.unusedSimpArgs false
namespace Go.Proofs.YtofbbkacihnjdaaDoor
open Go Go.E Go.Maps
set_option maxRecDepth 100000
set_option maxHeartbeats 1000000
theorem get_take {p : List Int} {n j : Nat} (h : j < n) : (p.take n).getD j default = p.getD j default := by
  simp [List.getD, List.getElem?_take, h]
theorem er_pre {t : Tt} {p q : List Int} {i : Nat} (h : p.take (i + 1) = q.take (i + 1)) : erR t p i = erR t q i := by
  have e : ∀ j, j < i + 1 → p.getD j default = q.getD j default := fun j hj => by rw [← get_take hj, h, get_take hj]
  unfold erR cnG
  rw [h, e i (by omega), e (i - 1) (by omega)]
end Go.Proofs.YtofbbkacihnjdaaDoor
