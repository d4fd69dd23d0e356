/- A part of the proof that the last text ends: what functions of the program do, told by plain data. -/
import Derived.Test.YtohkngiflfkjjaaQG
set_option linter.unusedVariables false
set_option linter.unusedSimpArgs false
namespace Go.Proofs.Ytohkngiflfkjjaa
open Go Go.E
set_option maxRecDepth 100000
/-! ### Back: passes day by day, and matches day by day -/
def lastD (l : List Ev) : Int := if 0 < l.length then (l.getD (l.length - 1) default).day else 0
theorem Good.days {l : List Ev} (h : Good l) : ∀ j, j < l.length → (l.getD j default).day ≤ lastD l := fun j hj => by
  unfold lastD
  rw [if_pos (by omega)]
  have key : ∀ n, j + n < l.length → (l.getD j default).day ≤ (l.getD (j + n) default).day := fun n => by
    induction n with
    | zero => intro _; exact Int.le_refl _
    | succ n ih =>
      intro hn
      have h1 := ih (by omega)
      have h2 := (h.acc (j + n + 1) (by omega)).2.1 (by omega)
      rw [Nat.add_sub_cancel] at h2
      exact Int.le_trans h1 h2
  have := key (l.length - 1 - j) (by omega)
  rwa [show j + (l.length - 1 - j) = l.length - 1 by omega] at this
end Go.Proofs.Ytohkngiflfkjjaa
