/- A part of the proof that the last text ends: what functions of the program do, told by plain data. -/
import Derived.Test.YtofbbkacihnjdaaIHS
set_option linter.unusedVariables false
set_option linter.unusedSimpArgs false
namespace Go.Proofs.Ytofbbkacihnjdaa
open Go Go.E Go.Maps
set_option maxRecDepth 100000
set_option maxHeartbeats 16000000
def hasN (t : Tt) (p : List Int) (k : Nat) : List Int := (List.range t.groups.length).map fun g : Nat => (cnG p p.length (g : Int) : Int) + (if g < k then (t.groups.getD g default).cred else 0)
def hasL (t : Tt) (p : List Int) : List Int := hasN t p t.groups.length
theorem pl_fo {t : Tt} {p : List Int} (h : plOk t p = true) : foP t p ∧ p.length = t.hours.length := by
  unfold plOk at h
  simp only [Bool.and_eq_true, decide_eq_true_eq] at h
  refine ⟨fun j hj => ?_, by omega⟩
  have := all_get.1 h.1 j hj
  rw [inB_iff] at this
  omega
end Go.Proofs.Ytofbbkacihnjdaa
