/- A part of the proof that the last text ends: what functions of the program do, told by plain data. -/
import Derived.Test.YtohkngiflfkjjaaQA
set_option linter.unusedVariables false
set_option linter.unusedSimpArgs false
namespace Go.Proofs.Ytohkngiflfkjjaa
open Go Go.E
set_option maxRecDepth 100000
/-! ### Served: a member's numbers, event by event -/
theorem stJ_inv {l : List Ev} (hl : ∀ x ∈ l, x.sheet.length ≤ 100000) : ∀ {j : Nat}, j ≤ l.length → (∀ i, i < j → Acc l i) → InvR j (stJ l j)
  | 0, _, _ => InvR.zero
  | j + 1, hj, h => doR_inv (stJ_inv hl (by omega) fun i hi => h i (by omega)) (h j (by omega)).1 (hl _ (by rw [at_lt (by omega)]; exact List.getElem_mem _)) (h j (by omega)).2.2
end Go.Proofs.Ytohkngiflfkjjaa
